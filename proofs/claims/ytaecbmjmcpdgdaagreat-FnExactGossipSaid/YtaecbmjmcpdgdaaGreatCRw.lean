/- The text of a number that a mark writes: the law's markText. The walk of the law FnExactGossip. The statement on FnExactGossip: for every input the law returns true, and each argument reads as before. No conditions of ours. -/
import Derived.Test.YtaecbmjmcpdgdaaGreatCMi
import Derived.IntWalk
import Derived.Test.YtaecbmjmcpdgdaaGreatCRv
import Derived.Test.YtaecbmjmcpdgdaaGreatCFa
namespace Go.Proofs.YtaecbmjmcpdgdaaGreat.Ab
open Go.RowKit
set_option linter.unusedVariables false
set_option linter.unusedSimpArgs false
set_option maxRecDepth 100000
set_option maxHeartbeats 2000000
def digX (k : Int) : ByteArray := bytesOf ([] ++ [[D.i (IntKind.u8.wrap (IntKind.i64.wrap (48 + k.tmod 10)))]])
def mtD : Nat → Int → ByteArray → ByteArray
  | 0, _, t => t
  | n + 1, k, t => if k > 0 then mtD n (k.tdiv 10) (digX k ++ t) else t
theorem mtD_end {n : Nat} {k : Int} {t : ByteArray} (h : ¬ k > 0) : mtD n k t = t := by
  cases n with
  | zero => rfl
  | succ n => rw [mtD, if_neg h]
theorem mtD_go {n : Nat} {k : Int} {t : ByteArray} (h : k > 0) : mtD (n + 1) k t = mtD n (k.tdiv 10) (digX k ++ t) := by rw [mtD, if_pos h]
theorem digX_size (k : Int) : (digX k).size = 1 := rfl
theorem tdiv_lt {m : Nat} {x : Int} (h0 : 0 < x) (h : x < 2 ^ m) : ∃ g, m = g + 1 ∧ 0 ≤ x.tdiv 10 ∧ x.tdiv 10 < 2 ^ g := by
  cases m with
  | zero => simp at h; omega
  | succ g =>
    refine ⟨g, rfl, Int.tdiv_nonneg (by omega) (by decide), ?_⟩
    rw [Int.tdiv_eq_ediv_of_nonneg (by omega)]
    rw [Int.pow_succ] at h
    omega
theorem ok41 : FOk Tryz.prog T 41 (spMT fun k => ⟨#[109]⟩ ++ mtD 63 k ⟨#[]⟩) := by
  refine fok (env := envL []) (N := 20) tabT envL_nil mixed Tryz.func41 rfl Tryz.call41 Tryz.ntmps41 ?_
  rintro args ⟨k, h1, h2, rfl⟩ hwf
  clear hwf
  refine ⟨by simp, ?_⟩
  rw [Tryz.results41]
  repeat' first
    | (refine And.intro ?_ ?_)
    | (intro h; simp only [reduceCtorEq] at h; done)
    | (intro h; exact absurd (of_decide_eq_true h) (by omega))
    | (intro h)
  all_goals first
    | (show lowEdges _ = true; kernel_rfl) | (show logOk _ _ = true; kernel_rfl) | exact True.intro | exact Or.inr rfl | exact Or.inl rfl
    | skip
  refine awp_loop (Q := _) [0, 3] [] (fun m st => ∃ (x : Int) (t : ByteArray), st = ([.val false [.i .i64 x], .val false [.s t]], []) ∧ 0 ≤ x ∧ x ≤ 4611686018427387904 ∧ x < 2 ^ m ∧ t.size + m ≤ 63 ∧ mtD m x t = mtD 63 k ⟨#[]⟩) ?_ ?_
  · exact ⟨rfl, 63, k, _, rfl, by omega, h2, by omega, Nat.le_refl _, rfl⟩
  rintro m st ⟨x, t, rfl, h3, hx, h4, h5, h6⟩
  repeat' first
    | (refine And.intro ?_ ?_)
    | (intro h; simp only [reduceCtorEq] at h; done)
    | (intro h)
  all_goals first
    | (show lowEdges _ = true; kernel_rfl) | (show logOk _ _ = true; kernel_rfl) | exact True.intro | exact Or.inr rfl | exact Or.inl rfl
    | exact absurd h (by decide)
    | (show Alive _ _; exact rfl)
    | (have ht := Int.tmod_nonneg 10 h3
       have ht2 := Int.tmod_lt_of_pos x (show (0 : Int) < 10 by decide)
       have e1 : IntKind.i64.min = -9223372036854775808 := by decide
       have e2 : IntKind.i64.max = 9223372036854775807 := by decide
       first
         | (rw [e1]; omega)
         | (rw [e2]; omega)
         | (show (digX x).size + t.size ≤ maxLen; rw [digX_size]; simp only [maxLen]; omega))
    | (have h7 : x > 0 := of_decide_eq_true (by assumption)
       obtain ⟨g, rfl, h8, h9⟩ := tdiv_lt h7 h4
       have h10 : x.tdiv 10 ≤ 4611686018427387904 := by rw [Int.tdiv_eq_ediv_of_nonneg h3]; omega
       refine ⟨g, Nat.lt_succ_self _, x.tdiv 10, digX x ++ t, ?_, h8, h10, h9, by rw [ByteArray.size_append, digX_size]; omega, (mtD_go h7).symm.trans h6⟩
       first
         | rfl
         | exact congrArg (fun z : Int => (([.val false [.i .i64 z], .val false [.s (digX x ++ t)]], []) : Snap)) (IntWalk.i64_in _ (by omega)))
    | (have h7 : ¬ x > 0 := of_decide_eq_false (by assumption)
       have hE := (mtD_end h7).symm.trans h6
       first
         | (show (⟨#[109]⟩ : ByteArray).size + t.size ≤ maxLen; show 1 + t.size ≤ maxLen; simp only [maxLen]; omega)
         | exact congrArg (fun z : ByteArray => [CV.s ((⟨#[109]⟩ : ByteArray) ++ z)]) hE)
    | skip
end Go.Proofs.YtaecbmjmcpdgdaaGreat.Ab
namespace Go.Proofs.YtaecbmjmcpdgdaaGreat
open Go.ChangeShapes Go.WideShapes Go.ChangeAt Go.RowKit Ab
set_option linter.unusedVariables false
set_option maxRecDepth 100000
theorem flatGs : [22, 33, 3, 31, 72, 69, 67, 47, 9, 70, 124, 122, 119, 89, 120, 148, 146, 155].all (flatOk Tryz.prog T [22, 33, 3, 31, 72, 69, 67, 47, 9, 70, 124, 122, 119, 89, 120, 148, 146, 155]) = true := by kernel_rfl
theorem Ab.RowR.one {w : World} {X : Nat → Prop} {e : TypeId} {v : Value} {row : List D} (h : RowR T w X [.l e] [v] row) : RdR T w X (.l e) v (.l (row.getD 0 default).rows) := by
  obtain ⟨c, hc, hv⟩ := h.argS
  obtain rfl := List.singleton_inj.1 hc
  exact hv
theorem walkFnExactGossip {H : Type} {enc : TypeId × Value → H} (W : World) {base : Nat} {v0 : Value} {d0 : DataW H} {p0 : List MemPlace} (k0 : Value.okWide Tryz.prog W .any base 22 v0) (h0 : DataW.Trod enc Tryz.prog W 0 (fun _ => true) true 22 v0 d0 p0) :
    Calls Tryz.prog 3 #[v0] W fun e W' => e = .returned (.bool true) ∧ Below W.heap.size W W' := by
  obtain ⟨a0, n0, c0, rfl⟩ := okWide_slice Tryz.underlying22 k0
  obtain ⟨m0, t0⟩ := h0
  obtain ⟨ty0, r0, e0, w0⟩ := row_of_trod tabT flatGs m0 22 _ _ (by decide) t0
  obtain rfl : ⟨false, [.l 33], _, _, _, _⟩ = ty0 := Option.some.inj e0
  have g0 : RowR T W (fun _ => False) [.l 33] [.slice a0 n0 c0] r0 := w0
  exact lawW _ Ab.ok41 W
    ⟨fun p hp => absurd (show p ∈ ([] : List _) from hp) List.not_mem_nil, fun p hp => absurd (show p ∈ ([] : List _) from hp) List.not_mem_nil⟩
    (Ab.RowR.one g0)
end Go.Proofs.YtaecbmjmcpdgdaaGreat
namespace Go.Proofs.YtaecbmjmcpdgdaaGreat.fnExactGossip
open Go.ChangeShapes Go.WideShapes Go.ChangeAt Go.RowKit
set_option linter.unusedVariables false
set_option maxRecDepth 100000 in
theorem lifted (os : Os) (started : os.Started) (H : Type) (enc : TypeId × Value → H) :
    ReturnsInHanded {} Tryz.checked os 3 .any (Rows.fnExactGossipSpec.pre6 enc Tryz.prog Tryz.f3 Rows.fnExactGossipRow.domain false) (Rows.fnExactGossipSpec.post enc Tryz.prog Tryz.f3 false true false false) := by
  refine returnsInHanded_of_change (C := Tryz.checked) own started (by kernel_rfl) Tryz.func3
    (ChangeSpec.witness6 (enc := enc) (C := Tryz.checked) false ⟨#[], #[.slice none 0 0], []⟩ 8 (by kernel_rfl) (by kernel_rfl) (by kernel_rfl) (by kernel_rfl)) ?_
  intro W base args ds gs before hval0 hW hcnd _
  have hval : ∀ (j : Nat) t v, Tryz.f3.params[j]? = some t → args[j]? = some v → Value.okWide Tryz.prog W .any base t v := hval0
  have hW' := hW
  obtain ⟨p, q, hA0, hV, rfl, hfz, hnd⟩ := hW
  have hA : DataW.TrodAll enc Tryz.prog W 0 (fun _ => true) true Tryz.f3.params.toList args.toList ds p := hA0
  rw [Tryz.params3] at hA hval
  obtain ⟨v0, vs0, d0, ds0, p0, q0, hargs, rfl, rfl, h0, r0⟩ := trodAll_cons hA
  obtain ⟨rfl, rfl, rfl⟩ := trodAll_nil r0
  obtain rfl : args = #[v0] := by cases args; simp_all
  obtain ⟨rfl, rfl⟩ := trodVars_none hV
  have lt0 : ∀ x ∈ p0, x.block < W.heap.size := by obtain ⟨m, hm⟩ := h0; exact DataW.trod_lt m _ _ _ hm
  refine (walkFnExactGossip W (hval 0 22 v0 rfl rfl) h0).mono fun e W' ⟨he, bel⟩ => ?_
  subst he
  exact ⟨_, rfl, _, _, _, [], _, [], hW', trodAll_mk1 (shut_bool Tryz.underlying4 _), (trodAll_cons_mk (Below.trod laidOut (by kernel_rfl) (of_decide_eq_true (by kernel_rfl)) h0 bel lt0) trodAll_mk0), rfl, bel.frame _, fun h => by cases h⟩
theorem over : Rows.fnExactGossipRow.holds Tryz.pinned (OpenSpec.ofChange Rows.fnExactGossipSpec) :=
  OpenClaim.holds_of_wide 3 Tryz.f3 rfl rfl rfl rfl rfl rfl rfl ⟨rfl, rfl, rfl, rfl, rfl⟩ rfl rfl rfl rfl rfl (by kernel_rfl) Tryz.func3 (by kernel_rfl)
    (of_decide_eq_true (by kernel_rfl)) (by unfold Func.isWrapper; first | (rw [if_pos (by decide +kernel)]; kernel_rfl) | (rw [if_neg (by decide +kernel)]; exact ⟨rfl, rfl⟩))
    (fun os started H enc _ => lifted os started H enc)
theorem proved : Rows.FnExactGossipSaid := over
end Go.Proofs.YtaecbmjmcpdgdaaGreat.fnExactGossip
