/- The law on texts, walked. -/
import Derived.Test.YtpkgppfcnddgaabDoorDraw3
import Derived.Test.YtpkgppfcnddgaabDoorWB
import Derived.Test.YtpkgppfcnddgaabDoorWE
import Derived.Test.YtpkgppfcnddgaabDoorPT
namespace Go.Proofs.YtpkgppfcnddgaabDoor
open Go.ChangeShapes Go.WideShapes Go.ChangeAt Go.RowKit

theorem back_id (s : ByteArray) : (⟨s.data.toList.toArray⟩ : ByteArray) = s := by cases s; simp
theorem encS_size (s : ByteArray) (h : s.size ≤ 8) : (⟨(encS s.data.toList).toArray⟩ : ByteArray).size ≤ 16 := by
  show (encS s.data.toList).toArray.size ≤ 16
  rw [List.size_toArray, encS]
  split
  · simp
  · rw [Lib.Hx.encode_length]; simp; omega
theorem decR_size (s : ByteArray) : (⟨(decR s.data.toList).1.toArray⟩ : ByteArray).size ≤ s.size := by
  show (decR s.data.toList).1.toArray.size ≤ s.size
  rw [List.size_toArray, decR]
  split
  · rw [pairs_length]; simp; omega
  · simp
theorem implDec_back (s : ByteArray) (w : World) (u : TypeId) (x : Value) (hE : w.cell? ⟨0, 0, none⟩ = some (.iface u x)) (hs : s.size ≤ 8) :
    Calls Tryd.prog 6 #[.string ⟨(encS s.data.toList).toArray⟩] w fun e w' => e = .returned (.tuple #[.string s, .bool true]) ∧ Below w.heap.size w w' := by
  refine (implDec _ w u x hE (by have := encS_size s hs; omega)).mono fun e w' h => ⟨?_, h.2⟩
  rw [h.1]
  show Ending.returned (.tuple #[.string ⟨(decR (encS s.data.toList)).1.toArray⟩, .bool (decR (encS s.data.toList)).2]) = _
  rw [decR_encS]

theorem bytesW_free (w : World) (e : TypeId) (s : ByteArray) (q : Nat) (hq : q < s.size) : (Lib.bytesWorld w e s).frozen? ⟨w.heap.size, q, none⟩ = false := by
  have h : s.size ≤ (Lib.bytesCells w e s).size := by simp [Lib.bytesCells]
  simp [World.frozen?, Lib.bytesWorld_at_new]
  omega
/-- What the rest of the law is told of the new row of bytes. -/
structure RowOf (w W : World) (r : ByteArray) : Prop where
  below : Below w.heap.size w W
  lt : w.heap.size < W.heap.size
  cell : ∀ j (h : j < r.size), W.cell? ⟨w.heap.size, j, none⟩ = some (.int .u8 (r[j].toNat : Int))
  free : ∀ j, j < r.size → W.frozen? ⟨w.heap.size, j, none⟩ = false
theorem rowOf (w : World) (e : TypeId) (s : ByteArray) : RowOf w (Lib.bytesWorld w e s) s :=
  ⟨bytesW_below w e s, by rw [Lib.bytesWorld_size]; omega, fun j h => by
    rw [Lib.bytesWorld_cell w e s j h]
    have : s.data.toList.getD j 0 = s[j] := by simp [List.getD, h]; rfl
    rw [this], fun j h => bytesW_free w e s j h⟩
theorem RowOf.back {w W : World} {r : ByteArray} (h : RowOf w W r) (c : Nat) (W' : World) (hb : Below W.heap.size W W') :
    (convert 25 9 (.slice (some ⟨w.heap.size, 0, none⟩) r.size c)).run Tryd.prog W' = .ok (.string r) W' := by
  have := run_convert_bytes_back (P := Tryd.prog) W' 25 9 5 ⟨w.heap.size, 0, none⟩ c r.data.toList Tryd.underlying25 Tryd.underlying5 Tryd.underlying9 (fun j hj => by
    have hj' : j < r.size := by simpa using hj
    rw [addr_add, Nat.zero_add, hb.cell (p := ⟨w.heap.size, j, none⟩) h.lt, h.cell j hj']
    rfl)
  rw [show r.data.toList.length = r.size from by simp] at this
  exact this
theorem at0_int (i : Int) (A : Option Addr) (n c B : Nat) (l : List UInt8) (w : World) (h0 : 0 ≤ i) (hi : i ≤ 10) (hn : n ≤ 1048576) (hb : IsBytes w B A n l) :
    Calls Tryd.prog 15 #[.slice A n c, .int .i64 i] w fun e w' => e = .returned (.int .i64 (at0v l i.toNat)) ∧ w = w' := by
  obtain ⟨k, rfl⟩ := Int.eq_ofNat_of_zero_le h0
  exact at0_any k A n c B l w (by omega) hn hb
theorem turn_byte (v d : Nat) (hv : v < 256) (hd : d < 255) : ∃ b : UInt8, bits .xor .u8 (v : Int) (1 + (d : Int)) = (b.toNat : Int) ∧ b.toNat ≠ v := by
  have hx : v ^^^ (1 + d) < 256 := Nat.xor_lt_two_pow (n := 8) hv (by omega)
  have e := u8_xor_nat v (1 + d) hv (by omega)
  refine ⟨UInt8.ofNat (v ^^^ (1 + d)), ?_, ?_⟩
  · rw [UInt8.toNat_ofNat', Nat.mod_eq_of_lt hx, ← e]
    congr 1
  · rw [UInt8.toNat_ofNat', Nat.mod_eq_of_lt hx]
    intro h
    have h0 : (1 + d) ^^^ v = 0 ^^^ v := by rw [Nat.xor_comm, h, Nat.zero_xor]
    have := xor_right h0
    omega
theorem idx_of (x : Int) (n : Nat) (h0 : 0 ≤ x) (hn : 0 < n) : ∃ q : Nat, q < n ∧ x.tmod (n : Int) = (q : Int) := by
  obtain ⟨k, rfl⟩ := Int.eq_ofNat_of_zero_le h0
  refine ⟨k % n, Nat.mod_lt _ hn, ?_⟩
  rw [Int.tmod_eq_emod_of_nonneg (by omega)]
  rfl
def nextByte (r : ByteArray) (q : Nat) (b : UInt8) : ByteArray := ⟨(r.data.toList.set q b).toArray⟩
theorem RowOf.back_set {w W : World} {r : ByteArray} (h : RowOf w W r) (c q : Nat) (b : UInt8) (hq : q < r.size) (W' : World) (hb : W'.heap = (W.setCell ⟨w.heap.size, q, none⟩ (.int .u8 (b.toNat : Int))).heap) :
    (convert 25 9 (.slice (some ⟨w.heap.size, 0, none⟩) r.size c)).run Tryd.prog W' = .ok (.string (nextByte r q b)) W' := by
  have := run_convert_bytes_back (P := Tryd.prog) W' 25 9 5 ⟨w.heap.size, 0, none⟩ c (r.data.toList.set q b) Tryd.underlying25 Tryd.underlying5 Tryd.underlying9 (fun j hj => by
    have hj' : j < r.size := by simpa using hj
    have hcell : W'.cell? ⟨w.heap.size, j, none⟩ = (W.setCell ⟨w.heap.size, q, none⟩ (.int .u8 (b.toNat : Int))).cell? ⟨w.heap.size, j, none⟩ := by unfold World.cell?; rw [hb]
    rw [addr_add, Nat.zero_add, hcell]
    by_cases e : q = j
    · subst e
      rw [World.cell?_setCell_same W _ _ (h.cell q hq)]
      try simp
    · rw [World.cell?_setCell_other W _ _ _ (by intro e'; injection e' with _ e' _; exact e e'), h.cell j hj', List.getElem_set_ne e]
      try rfl)
  rw [show (r.data.toList.set q b).length = r.size from by simp] at this
  exact this

set_option maxHeartbeats 2000000 in
set_option maxRecDepth 100000 in
theorem textsLaw (A : Option Addr) (n c : Nat) (l : List UInt8) (w : World) (u : TypeId) (x : Value) (hE : w.cell? ⟨0, 0, none⟩ = some (.iface u x)) (hn : n ≤ 1048576) (hb : IsBytes w w.heap.size A n l) :
    Calls Tryd.prog 4 #[.slice A n c] w fun e w' => e = .returned (.bool true) ∧ Below w.heap.size w w' := by
  have hlt : 0 < w.heap.size := World.block_lt_of_cell? w _ hE
  have HBB := Lib.hid hb
  have HE := Lib.hid (fun w' (hb : Below w.heap.size w w') => (hb.cell (p := ⟨0, 0, none⟩) hlt).trans hE)
  have hd : decide ((1048576 : Int) < n) = false := by simp; omega
  clear hb hE
  go_enter Tryd.func4, Tryd.ntmps4
  go_wp2_with fail
  refine (big_any A n c _).mono ?_; rintro e w' ⟨rfl, rfl⟩
  go_wp2_with fail
  refine (drawEnc_any A n c l _ hn HBB.out).mono ?_; rintro e w1 ⟨s, rfl, hs, hb1⟩
  have HB1 := Lib.hid hb1
  clear hb1
  go_wp2_with fail
  refine (implEnc s _ (by omega)).mono ?_; rintro e w2 ⟨rfl, hb2⟩
  have HB2 := Lib.hid (stepB HB1.out hb2)
  clear hb2
  go_wp2_with fail
  refine (implDec_back s _ u x (HE.out _ HB2.out) hs).mono ?_; rintro e w3 ⟨rfl, hb3⟩
  have HB3 := Lib.hid (stepB HB2.out hb3)
  clear hb3
  go_wp2_with fail
  refine (specEnc s _ (by omega)).mono ?_; rintro e w4 ⟨rfl, hb4⟩
  have HB4 := Lib.hid (stepB HB3.out hb4)
  clear hb4
  go_wp2_with fail
  refine (drawDec_any A n c l _ hn ((HBB.out.below HB4.out).more HB4.out.size)).mono ?_; rintro e w5 ⟨t, rfl, ht, hb5⟩
  have HB5 := Lib.hid (stepB HB4.out hb5)
  clear hb5
  go_wp2_with fail
  refine (implDec t _ u x (HE.out _ HB5.out) (by omega)).mono ?_; rintro e w6 ⟨rfl, hb6⟩
  have HB6 := Lib.hid (stepB HB5.out hb6)
  clear hb6
  go_wp2_with fail
  refine (specDec t _ (by omega)).mono ?_; rintro e w7 ⟨rfl, hb7⟩
  have HB7 := Lib.hid (stepB HB6.out hb7)
  clear hb7
  have hys := decR_size t
  have hq : (decR t.data.toList).2 = true → (encS (decR t.data.toList).1 == t.toList) = true := fun h => by rw [decR_true h, ByteArray.toList_eq]; simp
  have HQ := Lib.hid hq
  clear hq
  generalize hy : (decR t.data.toList).1 = y at *
  have hy0 : (⟨y.toArray⟩ : ByteArray).data.toList = y := rfl
  clear hy
  cases hf : (decR t.data.toList).2
  case' true =>
    have hq := HQ.out hf
    go_wp2_with fail
    refine (implEnc _ _ (by omega)).mono ?_; rintro e w8 ⟨rfl, hb8⟩
    have HB8 := Lib.hid (stepB HB7.out hb8)
    clear hb8
  case' false => have HB8 := HB7
  all_goals
    go_wp2_with fail
    refine (drawSum_any A n c l _ hn ((HBB.out.below HB8.out).more HB8.out.size)).mono ?_; rintro e w9 ⟨r, rfl, hr, hb9⟩
    have HB9 := Lib.hid (stepB HB8.out hb9)
    clear hb9
    have hconv := Lib.run_convert_string_bytes (P := Tryd.prog) w9 9 25 5 r Tryd.underlying9 Tryd.underlying25 Tryd.underlying5
    have hrow := rowOf w9 5 r
    generalize Lib.bytesWorld w9 5 r = W at *
    have HR := Lib.hid hrow
    have hback := hrow.back (grownCap w9 r.size 0 5) W (Below.refl _ _)
    have HBW := Lib.hid (stepB HB9.out hrow.below)
    clear hrow
    go_wp2_with fail
    refine (implSum r _ (by omega)).mono ?_; rintro e w' ⟨rfl, rfl⟩
    go_wp2_with fail
    refine (specSum r _ (by omega)).mono ?_; rintro e w' ⟨rfl, rfl⟩
    by_cases h0 : r.size = 0
    · have e0 : ((r.size : Int) == 0) = true := by rw [h0]; rfl
      clear h0
      go_wp2_with fail
      refine (specSum r _ (by omega)).mono ?_; rintro e w' ⟨rfl, rfl⟩
      go_wp2
      go_ret
      exact ⟨rfl, HBW.out⟩
    · have e0 : ((r.size : Int) == 0) = false := by rw [beq_eq_false_iff_ne]; omega
      obtain ⟨q, hq1, hq2⟩ := idx_of (at0v l 1) r.size (at0v_in l 1).1 (by omega)
      obtain ⟨d, hd1, hd2⟩ := idx_of (at0v l 2) 255 (at0v_in l 2).1 (by omega)
      have hd3 : (at0v l 2).tmod 255 = (d : Int) := hd2
      clear hd2
      have hv := (r[q]'hq1).toNat_lt
      obtain ⟨nb, hnb1, hnb2⟩ := turn_byte (r[q]'hq1).toNat d (by omega) hd1
      have hcv := HR.out.cell q hq1
      have hfv := HR.out.free q hq1
      have hset := HR.out.back_set (grownCap w9 r.size 0 5) q nb hq1 ((W.setCell ⟨w9.heap.size, q, none⟩ (.int .u8 (nb.toNat : Int))).drew) rfl
      have HN := Lib.hid (crc_set r.data.toList q nb (by simpa using hq1) (by intro e; exact hnb2 (by rw [e]; rfl)))
      have hns : (nextByte r q nb).size ≤ 1048576 := by
        show (r.data.toList.set q nb).toArray.size ≤ _
        rw [List.size_toArray]; simp; omega
      have HBY := Lib.hid (((HBB.out.below HBW.out).keep_drew))
      have p0 : (0 : Int) ≤ (q : Int) := by omega
      have p1 : (q : Int) < (r.size : Int) := by omega
      have p2 : IntKind.i64.wrap (q : Int) = (q : Int) := IntWalk.i64_in _ (by omega)
      have p3 : IntKind.i64.wrap (d : Int) = (d : Int) := IntWalk.i64_in _ (by omega)
      have p4 : IntKind.i64.wrap (1 + (d : Int)) = 1 + (d : Int) := IntWalk.i64_in _ (by omega)
      have p5 : IntKind.u8.wrap (1 + (d : Int)) = 1 + (d : Int) := IntWalk.u8_in _ (by omega)
      generalize (r[q]'hq1).toNat = v at *
      have p6 : ¬ (r.size : Int) = 0 := by omega
      have p7 : (0 : Int) < (r.size : Int) := by omega
      clear hnb2
      go_wp2_with fail
      go_region_with (go_at_call 15; refine (at0_int _ A n c w.heap.size l _ (by omega) (by omega) hn HBY.out).mono ?_; rintro e w' ⟨rfl, rfl⟩)
      all_goals
        go_wp2_with fail
        refine (implSum (nextByte r q nb) _ hns).mono ?_; rintro e w' ⟨rfl, rfl⟩
        go_wp2
        go_ret
        refine ⟨?_, (HBW.out.setCell (p := ⟨w9.heap.size, q, none⟩) HB9.out.size _).drew⟩
        have hne : (((crcFold (nextByte r q nb).data.toList ^^^ 4294967295 : Nat) : Int) == ((crcFold r.data.toList ^^^ 4294967295 : Nat) : Int)) = false := by
          rw [beq_eq_false_iff_ne]
          intro e
          exact HN.out (Int.ofNat.inj e)
        exact ret_bool (by rw [bne, hne]; rfl)
end Go.Proofs.YtpkgppfcnddgaabDoor
