/- The walk of the function that makes a cursor, with the number that it lays. -/
import Derived.Test.YtfmjpoibfpgfbaaFrame
import Derived.Test.YtfmjpoibfpgfbaaPB
import Derived.IntWalk
namespace Go.Proofs.Ytfmjpoibfpgfbaa
open Go.ChangeShapes Go.WideShapes Go.ChangeAt Go.RowKit
set_option linter.unusedVariables false
def IsBytes (w : World) (B : Nat) (A : Option Addr) (n : Nat) (l : List UInt8) : Prop :=
  l.length = n ∧ (0 < n → ∃ ad : Addr, A = some ad ∧ ad.spot = none ∧ ad.block < B ∧ ∀ k (h : k < l.length), w.cell? (ad.add k) = some (.int .u8 (l[k].toNat : Int)))
theorem andMask (a : Int) : 0 ≤ bits .and .i64 a 1073741823 ∧ bits .and .i64 a 1073741823 ≤ 1073741823 := by
  have h : (BitVec.ofInt 64 a &&& BitVec.ofInt 64 1073741823).toNat ≤ 1073741823 := by
    rw [BitVec.toNat_and]
    exact Nat.le_trans Nat.and_le_right (by decide)
  show 0 ≤ IntKind.i64.wrap ((BitVec.ofInt 64 a &&& BitVec.ofInt 64 1073741823).toNat : Int) ∧ IntKind.i64.wrap ((BitVec.ofInt 64 a &&& BitVec.ofInt 64 1073741823).toNat : Int) ≤ 1073741823
  rw [wrap_i64_in (by omega) (by omega)]
  omega
def hStep (x : Int) (b : UInt8) : Int := bits .and .i64 (x * 131 + (b.toNat : Int) + 7) 1073741823
def hTo (l : List UInt8) (k : Nat) : Int := (l.take k).foldl hStep (26583 + (l.length : Int))
theorem hTo_next {l : List UInt8} {k : Nat} (h : k < l.length) : hTo l (k + 1) = hStep (hTo l k) l[k] := by
  unfold hTo
  rw [List.take_add_one, List.getElem?_eq_getElem h, List.foldl_append]
  rfl
theorem hTo_in (l : List UInt8) (hl : l.length ≤ 1048576) : ∀ k, k ≤ l.length → 0 ≤ hTo l k ∧ hTo l k ≤ 1100000000
  | 0, _ => by
    show 0 ≤ (26583 + (l.length : Int)) ∧ (26583 + (l.length : Int)) ≤ 1100000000
    omega
  | k + 1, hk => by
    rw [hTo_next (by omega)]
    have := andMask (hTo l k * 131 + (l[k].toNat : Int) + 7)
    unfold hStep
    omega
/-- The number that a cursor begins with. -/
def hOf (l : List UInt8) : Int := hTo l 4000
theorem hTo_end {l : List UInt8} {k : Nat} (h4 : k ≤ 4000) (hk : k ≤ l.length) (h : k = l.length ∨ ¬ (k : Int) < 4000) : hTo l k = hOf l := by
  unfold hOf
  rcases h with h | h
  · unfold hTo
    rw [List.take_of_length_le (show l.length ≤ k by omega), List.take_of_length_le (show l.length ≤ 4000 by omega)]
  · rw [show k = 4000 by omega]
set_option maxRecDepth 100000 in
theorem new_exact (A : Option Addr) (n c : Nat) (l : List UInt8) (w : World) (hn : n ≤ 1048576) (hb : IsBytes w w.heap.size A n l) :
    Calls Try.prog 10 #[.slice A n c] w fun e w' => e = .returned (.pointer (some ⟨w.heap.size, 0, none⟩)) ∧ w' = w.alloc (.cells #[.slice A n c, .int .i64 0, .int .i64 (hOf l)] 60) := by
  obtain ⟨hl, hc⟩ := hb
  have HIN := Lib.hid (hTo_in l (by omega))
  have HEND := Lib.hid (fun k a b d => @hTo_end l k a b d)
  have HNX := Lib.hid (fun k h => @hTo_next l k h)
  have HL := Lib.hid hl
  have HC := Lib.hid hc
  have h00 : hTo l 0 = 26583 + (n : Int) := by rw [← hl]; rfl
  have H00 := Lib.hid h00
  clear hl hc h00
  go_enter Try.func10, Try.ntmps10
  go_wp2_with fail
  go_loop [3, 4] (fun h i => ∃ (k : Nat) (x : Int), k ≤ n ∧ k ≤ 4000 ∧ i = .int .i64 k ∧ h = .int .i64 x ∧ x = hTo l k ∧ 0 ≤ x ∧ x ≤ 1100000000) (fun _ i => n - (intOf i).toNat)
  case atStart => exact ⟨0, _, Nat.zero_le _, Nat.zero_le _, rfl, rfl, by rw [H00.out], by omega, by omega⟩
  case round =>
    obtain ⟨k, x, hk, hk4, rfl, rfl, hx, hx0, hx1⟩ := hrel
    have HX := Lib.hid hx
    clear hx
    by_cases hlt : k < n
    · by_cases h4 : (k : Int) < 4000
      · obtain ⟨ad, rfl, hs, hbk, hcell⟩ := HC.out (by omega)
        obtain ⟨b, off, spot⟩ := ad
        have hs' : spot = none := hs
        subst hs'
        have hkl : k < l.length := by rw [HL.out]; exact hlt
        have hcx := hcell k hkl
        have HK := Lib.hid hkl
        have hnx : hTo l (k + 1) = bits .and .i64 (x * 131 + ((l[k]'hkl).toNat : Int) + 7) 1073741823 := by rw [HNX.out k hkl, ← HX.out]; rfl
        have HNX2 := Lib.hid hnx
        have ha : (⟨b, off, none⟩ : Addr).add k = ⟨b, off + k, none⟩ := by unfold Addr.add; split <;> simp_all
        rw [ha] at hcx
        have hv := (l[k]'hkl).toNat_lt
        clear hnx
        generalize (l[k]'hkl).toNat = v at *
        have hm := andMask (x * 131 + (v : Int) + 7)
        clear hcell ha hs HC hkl
        have HM := Lib.hid hm
        clear hm
        go_wp2
        all_goals go_round
        all_goals
          first
          | (case rel => exact ⟨k + 1, _, by omega, by omega, by go_num, rfl, by rw [HNX2.out], by have := HM.out; omega, by have := HM.out; omega⟩)
          | skip
        all_goals simp [intOf]; omega
      · have he := HX.out.trans (HEND.out k hk4 (by have := HL.out; omega) (.inr (by omega)))
        have HE := Lib.hid he
        clear he
        go_wp2
        go_ret
        exact ⟨rfl, by rw [HE.out]⟩
    · have he := HX.out.trans (HEND.out k hk4 (by have := HL.out; omega) (.inl (by have := HL.out; omega)))
      have HE := Lib.hid he
      clear he
      go_wp2
      go_ret
      exact ⟨rfl, by rw [HE.out]⟩
end Go.Proofs.Ytfmjpoibfpgfbaa
