/- The walks of the store's small functions. -/
import Derived.Test.YtpkgppfcnddgaaaWA
import Derived.Deep.QuietTactic
import Derived.BigQuiet
import Derived.IntWalk
namespace Go.Proofs.Ytpkgppfcnddgaaa
open Go.ChangeShapes Go.WideShapes Go.ChangeAt Go.RowKit Go.Joins

theorem cellsStore : Try.prog.cellsOf 25 = 2 := by kernel_rfl
theorem specValid (s : ByteArray) (n : Int) (w : World) :
    Calls Try.prog 12 #[.agg #[.string s, .int .i64 n]] w fun e w' => e = .returned (.bool (inB n 0 s.size)) ∧ Below w.heap.size w w' := by
  go_enter Try.func12, Try.ntmps12
  go_wp2_with fail
  refine (in_any _ _ _ _).mono ?_; rintro e w' ⟨rfl, rfl⟩
  go_wp2
  go_ret
  exact ⟨rfl, by go_grown⟩
theorem implValid (s : ByteArray) (n : Int) (w : World) :
    Calls Try.prog 14 #[.agg #[.string s, .int .i64 n]] w fun e w' => e = .returned (.bool (inB n 0 s.size)) ∧ Below w.heap.size w w' := by
  go_enter Try.func14, Try.ntmps14
  go_wp2_with fail
  refine (within_any _ _ _ _).mono ?_; rintro e w' ⟨rfl, rfl⟩
  go_wp2
  go_ret
  exact ⟨rfl, by go_grown⟩
theorem szStore_small (s : ByteArray) (n : Int) (w : World) (hs : s.size ≤ 1048576) :
    Calls Try.prog 11 #[.agg #[.string s, .int .i64 n], .int .i64 1048576] w fun e w' => e = .returned (.int .i64 (1048576 - s.size)) ∧ Below w.heap.size w w' := by
  have h0 : (0 : Int) ≤ 1048576 - s.size := by omega
  go_enter Try.func11, Try.ntmps11
  go_wp2
  go_ret
  exact ⟨rfl, by go_grown⟩
theorem szStore_big (s : ByteArray) (n : Int) (w : World) (hs : 1048576 < s.size) (hm : s.size ≤ maxLen) :
    Calls Try.prog 11 #[.agg #[.string s, .int .i64 n], .int .i64 1048576] w fun e w' => e = .returned (.int .i64 (-1)) ∧ Below w.heap.size w w' := by
  unfold maxLen at hm
  go_enter Try.func11, Try.ntmps11
  go_wp2
  go_ret
  exact ⟨rfl, by go_grown⟩
theorem toStore_any (s : ByteArray) (n : Int) (w : World) :
    Calls Try.prog 13 #[.agg #[.string s, .int .i64 n]] w fun e w' => e = .returned (.agg #[.string s, .int .i64 n]) ∧ Below w.heap.size w w' := by
  go_enter Try.func13, Try.ntmps13
  go_wp2
  go_returns
  exact ⟨rfl, by go_grown⟩
theorem specSync (s : ByteArray) (n : Int) (w : World) :
    Calls Try.prog 15 #[.agg #[.string s, .int .i64 n]] w fun e w' => e = .returned (.agg #[.string s, .int .i64 s.size]) ∧ Below w.heap.size w w' := by
  go_enter Try.func15, Try.ntmps15
  go_wp2
  go_returns
  exact ⟨rfl, by go_grown⟩
theorem implSync (s : ByteArray) (n : Int) (w : World) :
    Calls Try.prog 16 #[.agg #[.string s, .int .i64 n]] w fun e w' => e = .returned (.agg #[.string s, .int .i64 s.size]) ∧ Below w.heap.size w w' := by
  go_enter Try.func16, Try.ntmps16
  go_wp2
  go_returns
  exact ⟨rfl, by go_grown⟩
theorem eqStore_same (s : ByteArray) (n : Int) (w : World) :
    Calls Try.prog 17 #[.agg #[.string s, .int .i64 n], .agg #[.string s, .int .i64 n]] w fun e w' => e = .returned (.bool true) ∧ Below w.heap.size w w' := by
  go_enter Try.func17, Try.ntmps17
  go_wp2
  go_ret
  exact ⟨rfl, by go_grown⟩
/-- A store that came in: a string and a number. -/
theorem open_store {H : Type} {enc : TypeId × Value → H} {W : World} {base : Nat} {v0 : Value} {d0 : DataW H} {p0 : List MemPlace} (k0 : Value.okWide Try.prog W .any base 25 v0)
    (h0 : DataW.Trod enc Try.prog W 0 (fun _ => true) true 25 v0 d0 p0) : ∃ s n, v0 = .agg #[.string s, .int .i64 n] ∧ s.size ≤ maxLen := by
  obtain ⟨c0, c1, y0, y1, m, rfl, rfl, rfl, hy0, hy1⟩ := open_agg2 Try.underlying25 (by kernel_rfl) cellsStore k0 h0
  obtain ⟨s, e0, rfl, ws⟩ := DataW.trod_string Try.underlying9 hy0
  obtain ⟨b, e1, rfl, wb⟩ := DataW.trod_int Try.underlying3 hy1
  simp at e0 e1
  subst e0 e1
  exact ⟨s, b, rfl, by first | exact ws | exact ws.1⟩
theorem validLaw_small (s : ByteArray) (n : Int) (w : World) (hs : s.size ≤ 1048576) : Calls Try.prog 4 #[.agg #[.string s, .int .i64 n]] w fun e w' => e = .returned (.bool true) ∧ Below w.heap.size w w' := by
  go_enter Try.func4, Try.ntmps4
  go_wp2_with fail
  refine (szStore_small _ _ _ hs).mono ?_; rintro e w1 ⟨rfl, hb1⟩
  obtain ⟨hc1, hf1, hz1⟩ := bcell hb1
  try simp at hz1
  have hl1 : w.heap.size < w1.heap.size := by omega
  go_wp2_with fail
  refine (toStore_any _ _ _).mono ?_; rintro e w2 ⟨rfl, hb2⟩
  obtain ⟨hc2, hf2, hz2⟩ := bcell hb2
  try simp at hz2
  have hl2 : w.heap.size < w2.heap.size := by omega
  try have hl1_2 : w1.heap.size < w2.heap.size := by omega
  go_wp2_with fail
  refine (specValid _ _ _).mono ?_; rintro e w3 ⟨rfl, hb3⟩
  obtain ⟨hc3, hf3, hz3⟩ := bcell hb3
  try simp at hz3
  have hl3 : w.heap.size < w3.heap.size := by omega
  try have hl1_3 : w1.heap.size < w3.heap.size := by omega
  try have hl2_3 : w2.heap.size < w3.heap.size := by omega
  go_wp2_with fail
  refine (toStore_any _ _ _).mono ?_; rintro e w4 ⟨rfl, hb4⟩
  obtain ⟨hc4, hf4, hz4⟩ := bcell hb4
  try simp at hz4
  have hl4 : w.heap.size < w4.heap.size := by omega
  try have hl1_4 : w1.heap.size < w4.heap.size := by omega
  try have hl2_4 : w2.heap.size < w4.heap.size := by omega
  try have hl3_4 : w3.heap.size < w4.heap.size := by omega
  go_wp2_with fail
  refine (implValid _ _ _).mono ?_; rintro e w5 ⟨rfl, hb5⟩
  obtain ⟨hc5, hf5, hz5⟩ := bcell hb5
  try simp at hz5
  have hl5 : w.heap.size < w5.heap.size := by omega
  try have hl1_5 : w1.heap.size < w5.heap.size := by omega
  try have hl2_5 : w2.heap.size < w5.heap.size := by omega
  try have hl3_5 : w3.heap.size < w5.heap.size := by omega
  try have hl4_5 : w4.heap.size < w5.heap.size := by omega
  go_wp2
  go_ret
  exact ⟨rfl, stepB (stepB (stepB (stepB (stepB (firstB _ _) hb1) hb2) hb3) hb4) hb5⟩
theorem validLaw_big (s : ByteArray) (n : Int) (w : World) (hs : 1048576 < s.size) (hm : s.size ≤ maxLen) : Calls Try.prog 4 #[.agg #[.string s, .int .i64 n]] w fun e w' => e = .returned (.bool true) ∧ Below w.heap.size w w' := by
  go_enter Try.func4, Try.ntmps4
  go_wp2_with fail
  refine (szStore_big _ _ _ hs hm).mono ?_; rintro e w1 ⟨rfl, hb1⟩
  go_wp2
  go_ret
  exact ⟨rfl, stepB (firstB _ _) hb1⟩
theorem walkFnExactIsValidStore {H : Type} {enc : TypeId × Value → H} (W : World) {base : Nat} {v0 : Value} {d0 : DataW H} {p0 : List MemPlace} (k0 : Value.okWide Try.prog W .any base 25 v0)
    (h0 : DataW.Trod enc Try.prog W 0 (fun _ => true) true 25 v0 d0 p0) : Calls Try.prog 4 #[v0] W fun e W' => e = .returned (.bool true) ∧ Below W.heap.size W W' := by
  obtain ⟨s, n, rfl, hm⟩ := open_store k0 h0
  by_cases hs : s.size ≤ 1048576
  · exact validLaw_small s n W hs
  · exact validLaw_big s n W (by omega) hm
theorem syncLaw_small (s : ByteArray) (n : Int) (w : World) (hs : s.size ≤ 1048576) : Calls Try.prog 5 #[.agg #[.string s, .int .i64 n]] w fun e w' => e = .returned (.bool true) ∧ Below w.heap.size w w' := by
  go_enter Try.func5, Try.ntmps5
  go_wp2_with fail
  refine (szStore_small _ _ _ hs).mono ?_; rintro e w1 ⟨rfl, hb1⟩
  obtain ⟨hc1, hf1, hz1⟩ := bcell hb1
  try simp at hz1
  have hl1 : w.heap.size < w1.heap.size := by omega
  go_wp2_with fail
  refine (toStore_any _ _ _).mono ?_; rintro e w2 ⟨rfl, hb2⟩
  obtain ⟨hc2, hf2, hz2⟩ := bcell hb2
  try simp at hz2
  have hl2 : w.heap.size < w2.heap.size := by omega
  try have hl1_2 : w1.heap.size < w2.heap.size := by omega
  go_wp2_with fail
  refine (specSync _ _ _).mono ?_; rintro e w3 ⟨rfl, hb3⟩
  obtain ⟨hc3, hf3, hz3⟩ := bcell hb3
  try simp at hz3
  have hl3 : w.heap.size < w3.heap.size := by omega
  try have hl1_3 : w1.heap.size < w3.heap.size := by omega
  try have hl2_3 : w2.heap.size < w3.heap.size := by omega
  go_wp2_with fail
  refine (toStore_any _ _ _).mono ?_; rintro e w4 ⟨rfl, hb4⟩
  obtain ⟨hc4, hf4, hz4⟩ := bcell hb4
  try simp at hz4
  have hl4 : w.heap.size < w4.heap.size := by omega
  try have hl1_4 : w1.heap.size < w4.heap.size := by omega
  try have hl2_4 : w2.heap.size < w4.heap.size := by omega
  try have hl3_4 : w3.heap.size < w4.heap.size := by omega
  go_wp2_with fail
  refine (implSync _ _ _).mono ?_; rintro e w5 ⟨rfl, hb5⟩
  obtain ⟨hc5, hf5, hz5⟩ := bcell hb5
  try simp at hz5
  have hl5 : w.heap.size < w5.heap.size := by omega
  try have hl1_5 : w1.heap.size < w5.heap.size := by omega
  try have hl2_5 : w2.heap.size < w5.heap.size := by omega
  try have hl3_5 : w3.heap.size < w5.heap.size := by omega
  try have hl4_5 : w4.heap.size < w5.heap.size := by omega
  go_wp2_with fail
  refine (eqStore_same _ _ _).mono ?_; rintro e w6 ⟨rfl, hb6⟩
  obtain ⟨hc6, hf6, hz6⟩ := bcell hb6
  try simp at hz6
  have hl6 : w.heap.size < w6.heap.size := by omega
  try have hl1_6 : w1.heap.size < w6.heap.size := by omega
  try have hl2_6 : w2.heap.size < w6.heap.size := by omega
  try have hl3_6 : w3.heap.size < w6.heap.size := by omega
  try have hl4_6 : w4.heap.size < w6.heap.size := by omega
  try have hl5_6 : w5.heap.size < w6.heap.size := by omega
  go_wp2
  go_ret
  exact ⟨rfl, by repeat (first | exact firstB _ _ | (refine stepB ?_ (by assumption)) | (refine allocB ?_ _))⟩
theorem syncLaw_big (s : ByteArray) (n : Int) (w : World) (hs : 1048576 < s.size) (hm : s.size ≤ maxLen) : Calls Try.prog 5 #[.agg #[.string s, .int .i64 n]] w fun e w' => e = .returned (.bool true) ∧ Below w.heap.size w w' := by
  go_enter Try.func5, Try.ntmps5
  go_wp2_with fail
  refine (szStore_big _ _ _ hs hm).mono ?_; rintro e w1 ⟨rfl, hb1⟩
  go_wp2
  go_ret
  exact ⟨rfl, stepB (firstB _ _) hb1⟩
theorem walkFnExactSyncStore {H : Type} {enc : TypeId × Value → H} (W : World) {base : Nat} {v0 : Value} {d0 : DataW H} {p0 : List MemPlace} (k0 : Value.okWide Try.prog W .any base 25 v0)
    (h0 : DataW.Trod enc Try.prog W 0 (fun _ => true) true 25 v0 d0 p0) : Calls Try.prog 5 #[v0] W fun e W' => e = .returned (.bool true) ∧ Below W.heap.size W W' := by
  obtain ⟨s, n, rfl, hm⟩ := open_store k0 h0
  by_cases hs : s.size ≤ 1048576
  · exact syncLaw_small s n W hs
  · exact syncLaw_big s n W (by omega) hm
/-- What is left on disk after a power failure. -/
def crash (s : ByteArray) (n k : Int) : ByteArray := if inB n 0 s.size = true then s.extract 0 (n + max 0 (min k (s.size - n))).toNat else ByteArray.empty
theorem maxAny (a b : Int) (w : World) : Calls Try.prog 27 #[.int .i64 a, .int .i64 b] w fun e w' => e = .returned (.int .i64 (max a b)) ∧ w = w' := by
  go_enter Try.func27, Try.ntmps27
  go_wp2
  all_goals go_ret
  all_goals exact ⟨by congr 2; simp; omega, rfl⟩
theorem minAny (a b : Int) (w : World) : Calls Try.prog 28 #[.int .i64 a, .int .i64 b] w fun e w' => e = .returned (.int .i64 (min a b)) ∧ w = w' := by
  go_enter Try.func28, Try.ntmps28
  go_wp2
  all_goals go_ret
  all_goals exact ⟨by congr 2; simp; omega, rfl⟩
theorem quietS {P : Program} {f : FuncId} {args : Array Value} {w : World} {v : Value} (h : Calls P f args w fun e w' => e = .returned v ∧ w = w') : Calls P f args w fun e w' => e = .returned v ∧ w' = w :=
  h.mono fun _ _ h => ⟨h.1, h.2.symm⟩
theorem specCrash_no (s : ByteArray) (n k : Int) (w : World) (h : inB n 0 s.size = false) :
    Calls Try.prog 22 #[.agg #[.string s, .int .i64 n], .int .i64 k] w fun e w' => e = .returned (.string (crash s n k)) ∧ Below w.heap.size w w' := by
  have hr : crash s n k = ByteArray.empty := by simp [crash, h]
  have HR := Lib.hid hr
  clear hr
  go_enter Try.func22, Try.ntmps22
  go_wp2_with fail
  refine (specValid _ _ _).mono ?_; rintro e w1 ⟨rfl, hb1⟩
  go_wp2
  go_ret
  exact ⟨by rw [HR.out]; rfl, stepB (firstB _ _) hb1⟩
theorem implCrash_no (s : ByteArray) (n k : Int) (w : World) (h : inB n 0 s.size = false) :
    Calls Try.prog 23 #[.agg #[.string s, .int .i64 n], .int .i64 k] w fun e w' => e = .returned (.string (crash s n k)) ∧ Below w.heap.size w w' := by
  have hr : crash s n k = ByteArray.empty := by simp [crash, h]
  have HR := Lib.hid hr
  clear hr
  go_enter Try.func23, Try.ntmps23
  go_wp2_with fail
  refine (implValid _ _ _).mono ?_; rintro e w1 ⟨rfl, hb1⟩
  go_wp2
  go_ret
  exact ⟨by rw [HR.out]; rfl, stepB (firstB _ _) hb1⟩
theorem specCrash_yes (s : ByteArray) (n k : Int) (w : World) (h : inB n 0 s.size = true) (hs : s.size ≤ 1048576) :
    Calls Try.prog 22 #[.agg #[.string s, .int .i64 n], .int .i64 k] w fun e w' => e = .returned (.string (crash s n k)) ∧ Below w.heap.size w w' := by
  have hn : 0 ≤ n ∧ n ≤ s.size := by simpa [inB] using h
  obtain ⟨hn0, hn1⟩ := hn
  have hr : crash s n k = s.extract 0 (n + max 0 (min k (s.size - n))).toNat := by simp [crash, h]
  have HR := Lib.hid hr
  clear hr
  go_enter Try.func22, Try.ntmps22
  go_wp2_with fail
  refine (specValid _ _ _).mono ?_; rintro e w1 ⟨rfl, hb1⟩
  obtain ⟨hc1, hf1, hz1⟩ := bcell hb1
  try simp at hz1
  have hl1 : w.heap.size < w1.heap.size := by omega
  go_wp2_with fail
  have a1 : 0 ≤ n + max 0 (min k (s.size - n)) := by omega
  have a2 : n + max 0 (min k (s.size - n)) ≤ s.size := by omega
  have a3 : IntKind.i64.wrap ((s.size : Int) - n) = s.size - n := IntWalk.i64_in _ (by omega)
  have a4 : IntKind.i64.wrap (n + max 0 (min k (s.size - n))) = n + max 0 (min k (s.size - n)) := IntWalk.i64_in _ (by omega)
  go_quiet (first | (go_at_call 28; exact Calls.quiet_of_same (quietS (minAny _ _ _))) | (go_at_call 27; exact Calls.quiet_of_same (quietS (maxAny _ _ _))))
  go_wp2
  go_ret
  exact ⟨by rw [HR.out]; rfl, (stepB (firstB _ _) hb1).trans (Joins.below_draws _ _ _)⟩
theorem implCrash_yes (s : ByteArray) (n k : Int) (w : World) (h : inB n 0 s.size = true) (hs : s.size ≤ 1048576) :
    Calls Try.prog 23 #[.agg #[.string s, .int .i64 n], .int .i64 k] w fun e w' => e = .returned (.string (crash s n k)) ∧ Below w.heap.size w w' := by
  have hn : 0 ≤ n ∧ n ≤ s.size := by simpa [inB] using h
  obtain ⟨hn0, hn1⟩ := hn
  have hr : crash s n k = s.extract 0 (n + max 0 (min k (s.size - n))).toNat := by simp [crash, h]
  rcases (by omega : k ≤ 0 ∨ (0 < k ∧ k ≤ s.size - n) ∨ (0 < k ∧ s.size - n < k ∧ 0 < s.size - n) ∨ (0 < k ∧ s.size - n < k ∧ s.size - n ≤ 0)) with hq | ⟨hq, hq2⟩ | ⟨hq, hq2, hq3⟩ | ⟨hq, hq2, hq3⟩
  · rw [show n + max 0 (min k (s.size - n)) = n from by omega] at hr
    have HR := Lib.hid hr
    clear hr
    have hq' : min k (s.size - n) ≤ 0 := by omega
    go_enter Try.func23, Try.ntmps23
    go_wp2_with fail
    refine (implValid _ _ _).mono ?_; rintro e w1 ⟨rfl, hb1⟩
    obtain ⟨hc1, hf1, hz1⟩ := bcell hb1
    try simp at hz1
    have hl1 : w.heap.size < w1.heap.size := by omega
    go_wp2
    all_goals go_ret
    all_goals exact ⟨by rw [HR.out]; rfl, stepB (firstB _ _) hb1⟩
  · rw [show n + max 0 (min k (s.size - n)) = n + k from by omega] at hr
    have HR := Lib.hid hr
    clear hr
    go_enter Try.func23, Try.ntmps23
    go_wp2_with fail
    refine (implValid _ _ _).mono ?_; rintro e w1 ⟨rfl, hb1⟩
    obtain ⟨hc1, hf1, hz1⟩ := bcell hb1
    try simp at hz1
    have hl1 : w.heap.size < w1.heap.size := by omega
    go_wp2
    all_goals first | (go_ret; exact ⟨by rw [HR.out]; rfl, stepB (firstB _ _) hb1⟩) | trace_state
  · rw [show n + max 0 (min k (s.size - n)) = n + (s.size - n) from by omega] at hr
    have HR := Lib.hid hr
    clear hr
    go_enter Try.func23, Try.ntmps23
    go_wp2_with fail
    refine (implValid _ _ _).mono ?_; rintro e w1 ⟨rfl, hb1⟩
    obtain ⟨hc1, hf1, hz1⟩ := bcell hb1
    try simp at hz1
    have hl1 : w.heap.size < w1.heap.size := by omega
    go_wp2
    all_goals first | (go_ret; exact ⟨by rw [HR.out]; rfl, stepB (firstB _ _) hb1⟩) | trace_state
  · rw [show n + max 0 (min k (s.size - n)) = n from by omega] at hr
    have HR := Lib.hid hr
    clear hr
    go_enter Try.func23, Try.ntmps23
    go_wp2_with fail
    refine (implValid _ _ _).mono ?_; rintro e w1 ⟨rfl, hb1⟩
    obtain ⟨hc1, hf1, hz1⟩ := bcell hb1
    try simp at hz1
    have hl1 : w.heap.size < w1.heap.size := by omega
    go_wp2
    all_goals first | (go_ret; exact ⟨by rw [HR.out]; rfl, stepB (firstB _ _) hb1⟩) | trace_state
end Go.Proofs.Ytpkgppfcnddgaaa
