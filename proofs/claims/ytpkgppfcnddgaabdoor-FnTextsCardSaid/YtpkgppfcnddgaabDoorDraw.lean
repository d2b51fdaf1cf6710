/- The walks of the draws' small functions: the cursor over the code's bytes. -/
import Derived.Test.YtpkgppfcnddgaabDoorFrame
import Derived.Test.YtpkgppfcnddgaabDoorPB
import Derived.Deep.RegionHeld3
import Derived.Deep.QuietTactic
import Derived.BigQuiet
import Derived.IntWalk
import Derived.StillTactics
import Derived.Laws.Pointers
import Derived.Deep.AppendLies
namespace Go.Proofs.YtpkgppfcnddgaabDoor
open Go.ChangeShapes Go.WideShapes Go.ChangeAt Go.RowKit

/-- What the walk is told of a slice of bytes that came in. -/
def IsBytes (w : World) (B : Nat) (A : Option Addr) (n : Nat) (l : List UInt8) : Prop :=
  l.length = n ∧ (0 < n → ∃ ad : Addr, A = some ad ∧ ad.spot = none ∧ ad.block < B ∧ ∀ k (h : k < l.length), w.cell? (ad.add k) = some (.int .u8 (l[k].toNat : Int)))

theorem and255 (a : Int) : 0 ≤ bits .and .i64 a 255 ∧ bits .and .i64 a 255 ≤ 255 := by
  have h : (BitVec.ofInt 64 a &&& BitVec.ofInt 64 255).toNat ≤ 255 := by
    rw [BitVec.toNat_and]
    exact Nat.le_trans Nat.and_le_right (by decide)
  show 0 ≤ IntKind.i64.wrap ((BitVec.ofInt 64 a &&& BitVec.ofInt 64 255).toNat : Int) ∧ IntKind.i64.wrap ((BitVec.ofInt 64 a &&& BitVec.ofInt 64 255).toNat : Int) ≤ 255
  rw [wrap_i64_in (by omega) (by omega)]
  omega

theorem andMask (a : Int) : 0 ≤ bits .and .i64 a 1073741823 ∧ bits .and .i64 a 1073741823 ≤ 1073741823 := by
  have h : (BitVec.ofInt 64 a &&& BitVec.ofInt 64 1073741823).toNat ≤ 1073741823 := by
    rw [BitVec.toNat_and]
    exact Nat.le_trans Nat.and_le_right (by decide)
  show 0 ≤ IntKind.i64.wrap ((BitVec.ofInt 64 a &&& BitVec.ofInt 64 1073741823).toNat : Int) ∧ IntKind.i64.wrap ((BitVec.ofInt 64 a &&& BitVec.ofInt 64 1073741823).toNat : Int) ≤ 1073741823
  rw [wrap_i64_in (by omega) (by omega)]
  omega
theorem ret_bool {a b : Bool} (h : a = b) : Ending.returned (.bool a) = Ending.returned (.bool b) := by rw [h]
theorem big_any (A : Option Addr) (n c : Nat) (w : World) : Calls Tryd.prog 7 #[.slice A n c] w fun e w' => e = .returned (.bool (decide ((1048576 : Int) < n))) ∧ w = w' := by
  go_enter Tryd.func7, Tryd.ntmps7
  go_wp2
  go_ret
  exact ⟨rfl, rfl⟩

/-- The cursor: one block of three cells. -/
def Cur (w : World) (g : Nat) (A : Option Addr) (n c : Nat) : Prop := ∃ (k : Nat) (h : Int), k ≤ n ∧ w.heap[g]? = some (.cells #[.slice A n c, .int .i64 k, .int .i64 h] 48 (0, 0))
theorem Cur.lt {w : World} {g : Nat} {A : Option Addr} {n c : Nat} (h : Cur w g A n c) : g < w.heap.size := by
  obtain ⟨k, x, _, hb⟩ := h
  rcases Nat.lt_or_ge g w.heap.size with h' | h'
  · exact h'
  · rw [Array.getElem?_eq_none h'] at hb; cases hb
def NewOut (w : World) (A : Option Addr) (n c : Nat) (e : Ending) (w' : World) : Prop := ∃ g, e = .returned (.pointer (some ⟨g, 0, none⟩)) ∧ w.heap.size ≤ g ∧ Cur w' g A n c ∧ Below w.heap.size w w'

theorem new_out (w : World) (A : Option Addr) (n c : Nat) (h : Int) : NewOut w A n c (.returned (.pointer (some ⟨w.heap.size, 0, none⟩))) (w.alloc (.cells #[.slice A n c, .int .i64 0, .int .i64 h] 48)) :=
  ⟨_, rfl, Nat.le_refl _, ⟨0, h, Nat.zero_le _, heap_alloc_new w _⟩, firstB _ _⟩
set_option maxRecDepth 100000 in
theorem new_any (A : Option Addr) (n c : Nat) (l : List UInt8) (w : World) (hn : n ≤ 1048576) (hb : IsBytes w w.heap.size A n l) :
    Calls Tryd.prog 19 #[.slice A n c] w (NewOut w A n c) := by
  obtain ⟨hl, hc⟩ := hb
  have HL := Lib.hid hl
  have HC := Lib.hid hc
  clear hl hc
  go_enter Tryd.func19, Tryd.ntmps19
  go_wp2_with fail
  go_loop [3, 4] (fun h i => ∃ (k : Nat) (x : Int), k ≤ n ∧ i = .int .i64 k ∧ h = .int .i64 x ∧ 0 ≤ x ∧ x ≤ 1100000000) (fun _ i => n - (intOf i).toNat)
  case atStart => exact ⟨0, _, Nat.zero_le _, rfl, rfl, by omega, by omega⟩
  case round =>
    obtain ⟨k, x, hk, rfl, rfl, hx0, hx1⟩ := hrel
    by_cases hlt : k < n
    · by_cases h4 : (k : Int) < 4000
      · obtain ⟨ad, rfl, hs, hbk, hcell⟩ := HC.out (by omega)
        obtain ⟨b, off, spot⟩ := ad
        have hs' : spot = none := hs
        subst hs'
        have hkl : k < l.length := by rw [HL.out]; exact hlt
        have hcx := hcell k hkl
        have ha : (⟨b, off, none⟩ : Addr).add k = ⟨b, off + k, none⟩ := by unfold Addr.add; split <;> simp_all
        rw [ha] at hcx
        have hv := (l[k]'hkl).toNat_lt
        generalize (l[k]'hkl).toNat = v at *
        have hm := andMask (x * 131 + (v : Int) + 7)
        clear hcell ha hs HC
        have HM := Lib.hid hm
        clear hm
        go_wp2
        all_goals go_round
        all_goals
          first
          | (case rel => exact ⟨k + 1, _, by omega, by go_num, rfl, by have := HM.out; omega, by have := HM.out; omega⟩)
          | skip
        all_goals simp [intOf]; omega
      · go_wp2
        go_ret
        exact new_out w A n c _
    · go_wp2
      go_ret
      exact new_out w A n c _
theorem addr_add (b off k : Nat) : (⟨b, off, none⟩ : Addr).add k = ⟨b, off + k, none⟩ := by unfold Addr.add; split <;> simp_all
theorem IsBytes.grown {w w' : World} {B : Nat} {A : Option Addr} {n g : Nat} {l : List UInt8} (h : IsBytes w B A n l) (hg : w.grownBy w' (some g)) (hB : B ≤ g) (hw : B ≤ w.heap.size) : IsBytes w' B A n l :=
  ⟨h.1, fun hn => by
    obtain ⟨ad, hA, hs, hb, hc⟩ := h.2 hn
    refine ⟨ad, hA, hs, hb, fun k hk => ?_⟩
    obtain ⟨b, off, spot⟩ := ad
    have hs' : spot = none := hs
    subst hs'
    have hb' : b < B := hb
    rw [← hc k hk, addr_add]
    exact World.cell?_of_block (hg.block b (by omega) (by intro e; have := Option.some.inj e; omega))⟩
theorem IsBytes.below {w w' : World} {B : Nat} {A : Option Addr} {n : Nat} {l : List UInt8} (h : IsBytes w B A n l) (hb : Below B w w') : IsBytes w' B A n l :=
  ⟨h.1, fun hn => by
    obtain ⟨ad, hA, hs, hbk, hc⟩ := h.2 hn
    refine ⟨ad, hA, hs, hbk, fun k hk => ?_⟩
    obtain ⟨b, off, spot⟩ := ad
    have hs' : spot = none := hs
    subst hs'
    have hb' : b < B := hbk
    rw [← hc k hk, addr_add]
    exact hb.cell (p := ⟨b, off + k, none⟩) hb'⟩
theorem IsBytes.more {w : World} {B B' : Nat} {A : Option Addr} {n : Nat} {l : List UInt8} (h : IsBytes w B A n l) (hB : B ≤ B') : IsBytes w B' A n l :=
  ⟨h.1, fun hn => by
    obtain ⟨ad, hA, hs, hbk, hc⟩ := h.2 hn
    exact ⟨ad, hA, hs, by omega, hc⟩⟩
def ByteOut (w : World) (g : Nat) (A : Option Addr) (n c : Nat) (e : Ending) (w' : World) : Prop := ∃ x : Int, e = .returned (.int .i64 x) ∧ 0 ≤ x ∧ x ≤ 255 ∧ Cur w' g A n c ∧ w.grownBy w' (some g)
theorem byte_end1 {A : Option Addr} {n c g k m : Nat} {h h' x : Int} {w : World} (hk : k ≤ n) (hg : w.heap[g]? = some (.cells #[.slice A n c, .int .i64 k, .int .i64 h] 48 (0, 0))) :
    ByteOut w g A n c (.returned (.int .i64 (bits .and .i64 x 255))) ((w.setCell ⟨g, 2, none⟩ (.int .i64 h')).drewN m) :=
  ⟨_, rfl, (and255 _).1, (and255 _).2, ⟨k, h', hk, Joins.block_setCell hg _⟩, ⟨rfl, rfl, rfl, by simp [World.setCell], fun j _ hj => Below.heap_setCell _ _ _ _ (by intro e; exact hj (by rw [e]))⟩⟩
theorem byte_end2 {A : Option Addr} {n c g k m : Nat} {h h' x : Int} {w : World} (hk : k < n) (hg : w.heap[g]? = some (.cells #[.slice A n c, .int .i64 k, .int .i64 h] 48 (0, 0))) :
    ByteOut w g A n c (.returned (.int .i64 (bits .and .i64 x 255))) (((w.setCell ⟨g, 2, none⟩ (.int .i64 h')).drewN m).setCell ⟨g, 1, none⟩ (.int .i64 ((k : Int) + 1))) :=
  ⟨_, rfl, (and255 _).1, (and255 _).2, ⟨k + 1, h', hk, Joins.block_setCell (w := (w.setCell ⟨g, 2, none⟩ (.int .i64 h')).drewN m) (show ((w.setCell ⟨g, 2, none⟩ (.int .i64 h')).drewN m).heap[g]? = _ from Joins.block_setCell hg _) _⟩, ⟨rfl, rfl, rfl, by simp [World.setCell], fun j _ hj =>
    (Below.heap_setCell _ _ _ _ (by intro e; exact hj (by rw [e]))).trans (show ((w.setCell ⟨g, 2, none⟩ (.int .i64 h')).drewN m).heap[j]? = _ from Below.heap_setCell _ _ _ _ (by intro e; exact hj (by rw [e])))⟩⟩
set_option maxRecDepth 100000 in
set_option maxHeartbeats 1000000 in
theorem byte_any (A : Option Addr) (n c g B : Nat) (l : List UInt8) (w : World) (hn : n ≤ 1048576) (hb : IsBytes w B A n l) (hB : B ≤ g) (hC : Cur w g A n c) :
    Calls Tryd.prog 28 #[.pointer (some ⟨g, 0, none⟩)] w (ByteOut w g A n c) := by
  obtain ⟨k, h, hk, hg⟩ := hC
  have c0 : w.cell? ⟨g, 0, none⟩ = some (.slice A n c) := by rw [Joins.cell_of_block hg]; rfl
  have c1 : w.cell? ⟨g, 1, none⟩ = some (.int .i64 k) := by rw [Joins.cell_of_block hg]; rfl
  have c2 : w.cell? ⟨g, 2, none⟩ = some (.int .i64 h) := by rw [Joins.cell_of_block hg]; rfl
  have f1 : w.frozen? ⟨g, 1, none⟩ = false := Joins.unfrozen_of_block hg 1
  have f2 : w.frozen? ⟨g, 2, none⟩ = false := Joins.unfrozen_of_block hg 2
  have HG := Lib.hid hg
  have HC := Lib.hid hb.2
  have HL := Lib.hid hb.1
  clear hg hb
  by_cases hlt : k < n
  · obtain ⟨ad, rfl, hs, hbk, hcell⟩ := HC.out (by omega)
    obtain ⟨b, off, spot⟩ := ad
    have hs' : spot = none := hs
    subst hs'
    have hkl : k < l.length := by rw [HL.out]; exact hlt
    have hcx := hcell k hkl
    rw [addr_add] at hcx
    have hv := (l[k]'hkl).toNat_lt
    generalize (l[k]'hkl).toNat = v at *
    have hbg : b ≠ g := by have : b < B := hbk; omega
    have hgb : g ≠ b := hbg.symm
    clear hcell hs HC hbk HL
    have q0 : (0 : Int) ≤ (k : Int) := by omega
    have q1 : (k : Int) < (n : Int) := by omega
    go_enter Tryd.func28, Tryd.ntmps28
    go_wp2
    go_quiet (fail)
    go_wp2
    go_quiet (fail)
    go_wp2
    go_quiet (fail)
    go_wp2
    go_ret
    exact byte_end2 hlt HG.out
  · have hlt' : ¬ (k : Int) < (n : Int) := by omega
    go_enter Tryd.func28, Tryd.ntmps28
    go_wp2
    go_quiet (fail)
    go_wp2
    go_quiet (fail)
    go_wp2
    go_ret
    rw [World.drewN_drewN]
    exact byte_end1 hk HG.out
def BelowOut (m : Int) (w : World) (g : Nat) (A : Option Addr) (n c : Nat) (e : Ending) (w' : World) : Prop := ∃ x : Int, e = .returned (.int .i64 x) ∧ 0 ≤ x ∧ x < m ∧ Cur w' g A n c ∧ w.grownBy w' (some g)
theorem below_any (m : Int) (A : Option Addr) (n c g B : Nat) (l : List UInt8) (w : World) (hm0 : 0 < m) (hm1 : m ≤ 256) (hn : n ≤ 1048576) (hb : IsBytes w B A n l) (hB : B ≤ g) (hC : Cur w g A n c) :
    Calls Tryd.prog 27 #[.pointer (some ⟨g, 0, none⟩), .int .i64 m] w (BelowOut m w g A n c) := by
  have HC := Lib.hid hC
  have HBB := Lib.hid hb
  clear hC hb
  go_enter Tryd.func27, Tryd.ntmps27
  go_wp2_with fail
  refine (byte_any A n c g B l _ hn HBB.out hB HC.out).mono ?_; rintro e w1 ⟨x, rfl, hx0, hx1, hC1, hg1⟩
  have H1 := Lib.hid hC1
  have H2 := Lib.hid hg1
  clear hC1 hg1
  have hne : (m == 0) = false := by rw [beq_eq_false_iff_ne]; omega
  go_wp2
  go_ret
  first
  | exact ⟨x % m, rfl, Int.emod_nonneg _ (by omega), Int.emod_lt_of_pos _ hm0, H1.out, H2.out⟩
  | exact ⟨x.tmod m, rfl, Int.tmod_nonneg _ hx0, Int.tmod_lt_of_pos _ hm0, H1.out, H2.out⟩
theorem texts_at (w : World) (ss : List ByteArray) (t : TypeId) : ∀ k (h : k < ss.length), (w.alloc (.cells (ss.map Value.string).toArray t)).cell? ⟨w.heap.size, k, none⟩ = some (.string ss[k]) := by
  intro k h
  rw [Joins.cell_of_block (heap_alloc_new w _)]
  simp [h]
def PickOut (ss : List ByteArray) (w : World) (g : Nat) (A : Option Addr) (n c : Nat) (e : Ending) (w' : World) : Prop := ∃ s, e = .returned (.string s) ∧ s ∈ ss ∧ Cur w' g A n c ∧ w.grownBy w' (some g)
theorem pick_any (ss : List ByteArray) (bl N : Nat) (hN : ss.length = N) (A : Option Addr) (n c g B : Nat) (l : List UInt8) (w : World) (hm0 : 0 < N) (hm1 : N ≤ 256) (hn : n ≤ 1048576) (hb : IsBytes w B A n l) (hB : B ≤ g) (hC : Cur w g A n c)
    (hss : ∀ k (h : k < ss.length), w.cell? ⟨bl, k, none⟩ = some (.string ss[k])) (hbg : bl ≠ g) (hbl : bl < w.heap.size) :
    Calls Tryd.prog 22 #[.pointer (some ⟨g, 0, none⟩), .slice (some ⟨bl, 0, none⟩) N N] w (PickOut ss w g A n c) := by
  have HC := Lib.hid hC
  have HBB := Lib.hid hb
  have HS := Lib.hid hss
  have HN := Lib.hid hN
  clear hC hb hss hN
  go_enter Tryd.func22, Tryd.ntmps22
  go_wp2_with fail
  refine (below_any (N : Int) A n c g B l _ (by omega) (by omega) hn HBB.out hB HC.out).mono ?_; rintro e w1 ⟨x, rfl, hx0, hx1, hC1, hg1⟩
  obtain ⟨j, rfl⟩ := Int.eq_ofNat_of_zero_le hx0
  have hj : j < ss.length := by rw [HN.out]; omega
  have hcj := (hg1.cell_far ⟨bl, j, none⟩ hbl (by intro e; exact hbg (Option.some.inj e))).trans (HS.out j hj)
  have hmem := List.getElem_mem hj
  generalize ss[j]'hj = s at *
  have H0 := Lib.hid hmem
  have H1 := Lib.hid hC1
  have H2 := Lib.hid hg1
  clear hC1 hg1 hmem hj
  have q0 : (0 : Int) ≤ (j : Int) := by omega
  go_wp2
  go_ret
  exact ⟨s, rfl, H0.out, H1.out, H2.out⟩
end Go.Proofs.YtpkgppfcnddgaabDoor
