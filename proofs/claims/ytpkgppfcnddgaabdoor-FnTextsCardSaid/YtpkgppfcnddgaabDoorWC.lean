/- The walks of EncodeText, the reference's and the program's. -/
import Derived.Test.YtpkgppfcnddgaabDoorFrame
import Derived.Test.YtpkgppfcnddgaabDoorShelf
import Derived.Lib.HexFns
import Derived.Lib.ConvBytes
import Derived.Laws.IdiomStrings
import Derived.Deep.RegionHeld3
import Derived.Deep.AppendLies
import Derived.StillTactics
import Derived.OwnWalk
import Derived.IntWalk
namespace Go.Proofs.YtpkgppfcnddgaabDoor
open Go.ChangeShapes Go.WideShapes Go.ChangeAt Go.RowKit

def bytesV (l : List UInt8) : List Value := l.map fun b => Value.int .u8 (b.toNat : Int)
theorem info_u8 : (Tryd.prog.info? 5).map (fun i => (i.zero, i.size, i.bytes)) = some (some (.int .u8 0), 1, 1) := by kernel_rfl

theorem tab_at (i : Int) (h0 : 0 ≤ i) (h1 : i < 16) (h : i.toNat < ({ data := #[48, 49, 50, 51, 52, 53, 54, 55, 56, 57, 97, 98, 99, 100, 101, 102] } : ByteArray).size) :
    (({ data := #[48, 49, 50, 51, 52, 53, 54, 55, 56, 57, 97, 98, 99, 100, 101, 102] } : ByteArray)[i.toNat]'h).toNat = (Lib.Hx.digit i.toNat).toNat := by
  rcases (by omega : i = 0 ∨ i = 1 ∨ i = 2 ∨ i = 3 ∨ i = 4 ∨ i = 5 ∨ i = 6 ∨ i = 7 ∨ i = 8 ∨ i = 9 ∨ i = 10 ∨ i = 11 ∨ i = 12 ∨ i = 13 ∨ i = 14 ∨ i = 15) with rfl | rfl | rfl | rfl | rfl | rfl | rfl | rfl | rfl | rfl | rfl | rfl | rfl | rfl | rfl | rfl <;> rfl
theorem enc_snoc (s : ByteArray) (k : Nat) (h : k < s.size) : bytesV (Lib.Hx.encode (s.data.toList.take k)) ++ [.int .u8 ((Lib.Hx.digit ((s[k].toNat : Int) / 16).toNat).toNat : Int), .int .u8 ((Lib.Hx.digit ((s[k].toNat : Int) % 16).toNat).toNat : Int)] = bytesV (Lib.Hx.encode (s.data.toList.take (k + 1))) := by
  have e : s.data.toList.take (k + 1) = s.data.toList.take k ++ [s[k]] := by
    rw [List.take_succ_eq_append_getElem (by simpa using h)]; rfl
  rw [e]
  unfold bytesV Lib.Hx.encode
  rw [List.flatMap_append, List.map_append]
  congr 1

theorem own_ge {w : World} {base size n : Nat} {e : TypeId} {v : Value} {xs : List Value} (h : w.ownsRow base e size v n xs) : ∀ k, v.ownBlock = some k → base ≤ k := by
  intro k hk
  rcases h.2 with ⟨rfl, _⟩ | ⟨g, cap, cur, rfl, hb, _⟩
  · simp [Value.ownBlock] at hk
  · simp [Value.ownBlock] at hk; omega
theorem enc_back (s : ByteArray) (w : World) (base g cap : Nat) (h : w.ownsRow base 5 1 (.slice (some ⟨g, 0, none⟩) (2 * s.size) cap) (2 * s.size) (bytesV (Lib.Hx.encode s.data.toList))) :
    (convert 25 9 (.slice (some ⟨g, 0, none⟩) (2 * s.size) cap)).run Tryd.prog w = .ok (.string ⟨(Lib.Hx.encode s.data.toList).toArray⟩) w := by
  have hl : (Lib.Hx.encode s.data.toList).length = 2 * s.size := by rw [Lib.Hx.encode_length]; simp
  have := run_convert_bytes_back (P := Tryd.prog) w 25 9 5 ⟨g, 0, none⟩ cap (Lib.Hx.encode s.data.toList) Tryd.underlying25 Tryd.underlying5 Tryd.underlying9 (fun j hj => by
    have ha : (⟨g, 0, none⟩ : Addr).add j = ⟨g, j, none⟩ := by unfold Addr.add; split <;> simp_all
    rw [ha, h.cellAt j (by omega)]
    simp [bytesV, hj])
  rwa [hl] at this

set_option maxHeartbeats 1000000 in
theorem specEnc_full (s : ByteArray) (w : World) (hs : s.size ≤ 1048576) (hne : s.toList.isEmpty = false) :
    Calls Tryd.prog 10 #[.string s] w fun e w' => e = .returned (.string ⟨(Lib.Hx.encode s.data.toList).toArray⟩) ∧ Below w.heap.size w w' := by
  obtain ⟨i0, hi, hz0, hz1, hz2⟩ := info_parts info_u8
  go_enter Tryd.func10, Tryd.ntmps10
  go_wp2_with fail
  go_loopw [4, 5] (fun v i wr => ∃ k g cap : Nat, k ≤ s.size ∧ i = .int .i64 k ∧ v = .slice (some ⟨g, 0, none⟩) (2 * k) cap ∧ wr.ownsRow w.heap.size 5 1 (.slice (some ⟨g, 0, none⟩) (2 * k) cap) (2 * k) (bytesV (Lib.Hx.encode (s.data.toList.take k))) ∧ Below w.heap.size w wr) (fun _ i _ => s.size - (intOf i).toNat)
  case atStart => exact ⟨0, _, _, Nat.zero_le _, rfl, rfl, ⟨rfl, .inr ⟨_, 0, #[], rfl, Nat.le_refl _, heap_alloc_new w _, Nat.le_refl _, by simp [maxLen], rfl, rfl⟩⟩, firstB _ _⟩
  case round =>
    obtain ⟨k, g, cap, hk, rfl, rfl, hown, hbel⟩ := hrel
    by_cases hlt : k < s.size
    · have hbl := s[k].toNat_lt
      have q0 : (0 : Int) ≤ (k : Int) := by omega
      have q1 : (k : Int) < (s.size : Int) := by omega
      have q2 : (0 : Int) ≤ (s[k].toNat : Int) / 16 := by omega
      have q3 : (s[k].toNat : Int) / 16 < 16 := by omega
      have q4 : (0 : Int) ≤ (s[k].toNat : Int) % 16 := by omega
      have q5 : (s[k].toNat : Int) % 16 < 16 := by omega
      have q6 : IntKind.i64.wrap ((s[k].toNat : Int)) = (s[k].toNat : Int) := IntWalk.i64_in _ (by omega)
      have q7 : ((s[k].toNat : Int)).tdiv 16 = (s[k].toNat : Int) / 16 := Int.tdiv_eq_ediv_of_nonneg (by omega)
      have q8 : ((s[k].toNat : Int)).tmod 16 = (s[k].toNat : Int) % 16 := Int.tmod_eq_emod_of_nonneg (by omega)
      have q9 : IntKind.i64.wrap ((s[k].toNat : Int) / 16) = (s[k].toNat : Int) / 16 := IntWalk.i64_in _ (by omega)
      have q10 : IntKind.i64.wrap ((s[k].toNat : Int) % 16) = (s[k].toNat : Int) % 16 := IntWalk.i64_in _ (by omega)
      have q11 := tab_at _ q2 q3 (by show _ < 16; omega)
      have q12 := tab_at _ q4 q5 (by show _ < 16; omega)
      have hsz := hbel.size
      have HE := Lib.hid (enc_snoc s k hlt)
      go_wp2_with fail
      go_region_held3 (fun _ => True) (trivial) ((refine step_append_lies _ (by rfl) _ _ _ (by rfl) w.heap.size 5 i0 _ 1 1 Tryd.underlying25 hi hz0 hz1 hz2 rfl (by omega) (.slice (some ⟨g, 0, none⟩) (2 * k) cap) (2 * k) (bytesV (Lib.Hx.encode (s.data.toList.take k))) (by rfl) ((hown.alloc _).drew) ⟨wr.heap.size, 0, none⟩ 2 2 [(.int .u8 ((Lib.Hx.digit ((s[k].toNat : Int) / 16).toNat).toNat : Int)), (.int .u8 ((Lib.Hx.digit ((s[k].toNat : Int) % 16).toNat).toNat : Int))] (by rfl) (by rfl) (World.news_of_block (cs := #[(.int .u8 ((Lib.Hx.digit ((s[k].toNat : Int) / 16).toNat).toNat : Int)), (.int .u8 ((Lib.Hx.digit ((s[k].toNat : Int) % 16).toNat).toNat : Int))]) (t := 5) (fr := (0, 0)) (heap_alloc_new wr _)) (by simp [Value.oneCell']) (by omega) (by unfold maxLen; omega) (by omega) (by simp; omega) (wr.heap.size + 1) (by simp) ?_; intro gg cap' w1 hown1 hgrow hat hlt1))
      clear q2 q3 q4 q5 q6 q7 q8 q9 q10 q11 q12
      go_wp2
      all_goals
        go_roundw
        · exact ⟨k + 1, gg, cap', by omega, by go_num, rfl, by have h := hown1; rw [HE.out] at h; exact h, ((hbel.alloc hsz _).drew).grown hgrow (by simp; omega) (own_ge hown)⟩
        · simp [intOf]; omega
    · obtain rfl : k = s.size := by omega
      rw [show s.data.toList.take s.size = s.data.toList from List.take_of_length_le (by simp)] at hown
      have hc := enc_back s wr _ _ _ hown
      clear hown
      go_wp2
      go_ret
      exact ⟨rfl, hbel⟩
theorem specEnc_empty (s : ByteArray) (w : World) (hne : s.toList.isEmpty = true) :
    Calls Tryd.prog 10 #[.string s] w fun e w' => e = .returned (.string ⟨#[45]⟩) ∧ Below w.heap.size w w' := by
  go_enter Tryd.func10, Tryd.ntmps10
  go_wp2
  go_ret
  exact ⟨rfl, Below.refl _ _⟩
theorem implEnc_empty (s : ByteArray) (w : World) (hne : s.toList.isEmpty = true) :
    Calls Tryd.prog 9 #[.string s] w fun e w' => e = .returned (.string ⟨#[45]⟩) ∧ Below w.heap.size w w' := by
  go_enter Tryd.func9, Tryd.ntmps9
  go_wp2
  go_ret
  exact ⟨rfl, Below.refl _ _⟩
theorem bytesW_below (w : World) (e : TypeId) (s : ByteArray) : Below w.heap.size w (Lib.bytesWorld w e s) :=
  ⟨rfl, rfl, rfl, by rw [Lib.bytesWorld_size]; omega, fun k hk => Lib.bytesWorld_at_old w e s k hk⟩
theorem implEnc_full (s : ByteArray) (w : World) (hs : s.size ≤ 1048576) (hne : s.toList.isEmpty = false) :
    Calls Tryd.prog 9 #[.string s] w fun e w' => e = .returned (.string ⟨(Lib.Hx.encode s.data.toList).toArray⟩) ∧ Below w.heap.size w w' := by
  have hc := Lib.run_convert_string_bytes (P := Tryd.prog) w 9 25 5 s Tryd.underlying9 Tryd.underlying25 Tryd.underlying5
  have hx := Tryd.hex_EncodeToString_bytes w.heap.size 0 (grownCap w s.size 0 5) s.data.toList (Lib.bytesWorld w 5 s)
    (fun i h => by rw [Nat.zero_add, Lib.bytesWorld_cell w _ s i (by simpa using h)]; simp [List.getD, List.getElem?_eq_getElem h])
    (by rw [Lib.bytesWorld_size]; omega) (by simp; omega)
  rw [show s.data.toList.length = s.size from by simp] at hx
  have hb0 := bytesW_below w 5 s
  have HX := Lib.hid hx
  clear hx
  generalize Lib.bytesWorld w 5 s = W1 at *
  go_enter Tryd.func9, Tryd.ntmps9
  go_wp2_with fail
  refine HX.out.mono ?_; rintro e w1 ⟨rfl, hb1⟩
  go_wp2
  go_ret
  exact ⟨rfl, stepB hb0 hb1⟩
end Go.Proofs.YtpkgppfcnddgaabDoor
