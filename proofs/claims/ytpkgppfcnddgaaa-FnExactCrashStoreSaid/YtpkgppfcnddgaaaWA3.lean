/- The law of CrashStore, walked. -/
import Derived.Test.YtpkgppfcnddgaaaWA2
namespace Go.Proofs.Ytpkgppfcnddgaaa
open Go.ChangeShapes Go.WideShapes Go.ChangeAt Go.RowKit Go.Joins
theorem specCrash (s : ByteArray) (n k : Int) (w : World) (hs : s.size ≤ 1048576) : Calls Try.prog 22 #[.agg #[.string s, .int .i64 n], .int .i64 k] w fun e w' => e = .returned (.string (crash s n k)) ∧ Below w.heap.size w w' := by
  cases h : inB n 0 s.size
  · exact specCrash_no s n k w h
  · exact specCrash_yes s n k w h hs
theorem implCrash (s : ByteArray) (n k : Int) (w : World) (hs : s.size ≤ 1048576) : Calls Try.prog 23 #[.agg #[.string s, .int .i64 n], .int .i64 k] w fun e w' => e = .returned (.string (crash s n k)) ∧ Below w.heap.size w w' := by
  cases h : inB n 0 s.size
  · exact implCrash_no s n k w h
  · exact implCrash_yes s n k w h hs
theorem crashLaw_small (s : ByteArray) (n k : Int) (w : World) (hs : s.size ≤ 1048576) : Calls Try.prog 8 #[.agg #[.string s, .int .i64 n], .int .i64 k] w fun e w' => e = .returned (.bool true) ∧ Below w.heap.size w w' := by
  go_enter Try.func8, Try.ntmps8
  go_wp2_with fail
  refine (szStore_small _ _ _ hs).mono ?_; rintro e w1 ⟨rfl, hb1⟩
  obtain ⟨hc1, hf1, hz1⟩ := bcell hb1
  try simp at hz1
  have hl1 : w.heap.size < w1.heap.size := by omega
  go_wp2_with fail
  refine (toStore_any _ _ _).mono ?_; rintro e w2 ⟨rfl, hb2⟩
  obtain ⟨hc2, hf2, hz2⟩ := bcell hb2
  try simp at hz2
  have hl2 : w.heap.size < w2.heap.size := by omega
  try have hl1_2 : w1.heap.size < w2.heap.size := by omega
  go_wp2_with fail
  refine (specCrash _ _ _ _ hs).mono ?_; rintro e w3 ⟨rfl, hb3⟩
  obtain ⟨hc3, hf3, hz3⟩ := bcell hb3
  try simp at hz3
  have hl3 : w.heap.size < w3.heap.size := by omega
  try have hl1_3 : w1.heap.size < w3.heap.size := by omega
  try have hl2_3 : w2.heap.size < w3.heap.size := by omega
  go_wp2_with fail
  refine (toStore_any _ _ _).mono ?_; rintro e w4 ⟨rfl, hb4⟩
  obtain ⟨hc4, hf4, hz4⟩ := bcell hb4
  try simp at hz4
  have hl4 : w.heap.size < w4.heap.size := by omega
  try have hl1_4 : w1.heap.size < w4.heap.size := by omega
  try have hl2_4 : w2.heap.size < w4.heap.size := by omega
  try have hl3_4 : w3.heap.size < w4.heap.size := by omega
  go_wp2_with fail
  refine (implCrash _ _ _ _ hs).mono ?_; rintro e w5 ⟨rfl, hb5⟩
  obtain ⟨hc5, hf5, hz5⟩ := bcell hb5
  try simp at hz5
  have hl5 : w.heap.size < w5.heap.size := by omega
  try have hl1_5 : w1.heap.size < w5.heap.size := by omega
  try have hl2_5 : w2.heap.size < w5.heap.size := by omega
  try have hl3_5 : w3.heap.size < w5.heap.size := by omega
  try have hl4_5 : w4.heap.size < w5.heap.size := by omega
  go_wp2
  go_ret
  exact ⟨rfl, by repeat (first | exact firstB _ _ | (refine stepB ?_ (by assumption)) | (refine allocB ?_ _))⟩
theorem crashLaw_big (s : ByteArray) (n k : Int) (w : World) (hs : 1048576 < s.size) (hm : s.size ≤ maxLen) : Calls Try.prog 8 #[.agg #[.string s, .int .i64 n], .int .i64 k] w fun e w' => e = .returned (.bool true) ∧ Below w.heap.size w w' := by
  go_enter Try.func8, Try.ntmps8
  go_wp2_with fail
  refine (szStore_big _ _ _ hs hm).mono ?_; rintro e w1 ⟨rfl, hb1⟩
  go_wp2
  go_ret
  exact ⟨rfl, stepB (firstB _ _) hb1⟩
theorem walkFnExactCrashStore {H : Type} {enc : TypeId × Value → H} (W : World) {base : Nat} {v0 : Value} {d0 : DataW H} {p0 : List MemPlace} (k0 : Value.okWide Try.prog W .any base 25 v0)
    (h0 : DataW.Trod enc Try.prog W 0 (fun _ => true) true 25 v0 d0 p0) {v1 : Value} {d1 : DataW H} {p1 : List MemPlace} (k1 : Value.okWide Try.prog W .any base 3 v1)
    (h1 : DataW.Trod enc Try.prog W 0 (fun _ => true) true 3 v1 d1 p1) : Calls Try.prog 8 #[v0, v1] W fun e W' => e = .returned (.bool true) ∧ Below W.heap.size W W' := by
  obtain ⟨s, n, rfl, hm⟩ := open_store k0 h0
  obtain ⟨k, rfl, rfl, rfl, _⟩ := open_int Try.underlying3 k1 h1
  by_cases hs : s.size ≤ 1048576
  · exact crashLaw_small s n k W hs
  · exact crashLaw_big s n k W (by omega) hm
end Go.Proofs.Ytpkgppfcnddgaaa
