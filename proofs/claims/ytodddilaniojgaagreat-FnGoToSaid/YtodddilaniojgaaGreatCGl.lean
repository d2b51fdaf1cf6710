/- What the laws of histories ask, in plain Lean. No program in sight. The laws of histories over data: printed by a program of this claim. -/
import Derived.Test.YtodddilaniojgaaGreatCGz
import Derived.Test.YtodddilaniojgaaGreatCJg
import Derived.Test.YtodddilaniojgaaGreatCGs
namespace Go.Proofs.YtodddilaniojgaaGreat.Ab
open Go.RowKit
set_option linter.unusedVariables false
theorem HC.monoM {C : Int → List Zc} {M M' : Nat} {K : Int} {h : H3} (g : HC C M K h) (hM : M ≤ M') : HC C M' K h :=
  ⟨g.ok, g.vl, g.can, fun x hx => ⟨(g.ne x hx).1, (g.ne x hx).2.1, Nat.le_trans (g.ne x hx).2.2.1 hM, Nat.le_trans (g.ne x hx).2.2.2 hM⟩, g.cur, g.st⟩
theorem do_same {h : H3} {es : List (List D)} (hd : (doE h es).2 = false) : (doE h es).1 = h := by
  unfold doE at hd ⊢
  split at hd
  · cases hd
  · rename_i hc; rw [if_neg hc]
theorem go_same {h : H3} {k : Int} (hd : (goE h k).2 = false) : (goE h k).1 = h := by
  unfold goE at hd ⊢
  split at hd
  · rename_i hc; rw [if_pos hc]
  · rename_i hc
    rw [if_neg hc]
    split at hd
    · rfl
    · split at hd
      · rfl
      · cases hd
structure HLaw (x : H3) (A B Cc : H3 × Bool) : Prop where
  ok : okH A.1 = true
  b1 : B.2 = true
  c1 : Cc.2 = true
  b2 : B.1.2.2 = x.2.2
  b3 : eqNb (strip B.1.1) (strip x.1) = true
  c2 : Cc.1.2.2 = A.1.2.2
  c3 : eqNb (strip Cc.1.1) (strip A.1.1) = true
theorem hist_law {x : H3} {es : List (List D)} (hs : SmH x) (hi : HIn 2 759 x) (he : ∀ r ∈ es, EdD r) (hl : (es.length : Int) ≤ 3) (hd : (doE x es).2 = true) :
    HLaw x (doE x es) (unE (doE x es).1) (reE (unE (doE x es).1).1 (IntKind.i64.wrap (((doE x es).1.2.1.length : Int) - 1))) := by
  rcases hi with hi | ⟨C, g⟩
  · rw [do_no1 (by rw [hi]; rfl)] at hd; cases hd
  have g3 := g.monoM (M' := 3) (by decide)
  obtain ⟨C', g1, e1, e2, e3, e4⟩ := g3.do_ (by decide) (by decide) (EdD.eb he (by decide)) (by omega) hd
  have hol := okH_len g.ok
  have hw : IntKind.i64.wrap (((doE x es).1.2.1.length : Int) - 1) = (x.2.1.length : Int) := by
    rw [e3, IntWalk.i64_in _ (by omega)]; omega
  rw [hw]
  obtain ⟨u1, u2, u3, u4⟩ := g1.un (by decide) (by decide) (by rw [e2]; omega)
  have hp : parI (unE (doE x es).1).1.2.1 (x.2.1.length : Int) = (unE (doE x es).1).1.2.2 := by rw [u3, u4, e2]
  obtain ⟨r1, r2, r3, r4⟩ := u2.re (k := (x.2.1.length : Int)) (by decide) (by decide) (by omega) (by rw [u3, e3]; omega) hp
  have ub : (unE (doE x es).1).1.2.2 = x.2.2 := by rw [u4, e2, e4]
  refine ⟨g1.ok, u1, r1, ub, same_cont u2.can g.can ?_, by rw [r4, e2], same_cont r2.can g1.can ?_⟩
  · rw [u2.cur, ub, e1, g.cur]
  · rw [r2.cur, r4, g1.cur, e2]
structure GLaw (x : H3) (k : Int) (A B : H3 × Bool) : Prop where
  at_ : A.1.2.2 = k
  ne : 0 < (pthE x k).length
  l0 : gI (pthE x k) 0 = 0
  ln : gI (pthE x k) ((pthE x k).length - 1) = k
  pw : (pthE x k).Pairwise (· < ·)
  b1 : B.2 = true
  b2 : B.1.2.2 = x.2.2
  b3 : eqNb (strip B.1.1) (strip x.1) = true
theorem goto_law {x : H3} {k : Int} (hs : SmH x) (hi : HIn 2 759 x) (hd : (goE x k).2 = true) : GLaw x k (goE x k) (goE (goE x k).1 x.2.2) := by
  have hp0 : (pthE x k).length ≠ 0 := fun e => by rw [goE_nil e] at hd; cases hd
  obtain ⟨ho, h0, h1, ep⟩ := pth_open hp0
  rcases hi with hi | ⟨C, g⟩
  · rw [hi] at ho; cases ho
  obtain ⟨a1, a2, a3, a4⟩ := g.go (by decide) (by decide) h0 h1
  have hol := okH_len g.ok
  obtain ⟨b1, b2, b3, b4⟩ := a2.go (k := x.2.2) (by decide) (by decide) hol.2.2.1 (by rw [a3]; omega)
  obtain ⟨q, e1, e2, e3, e4⟩ := pth_spec hp0
  refine ⟨a4, by omega, e4, ?_, e2, b1, b4, same_cont b2.can g.can ?_⟩
  · rw [e1]
    simp [gI, List.getD_eq_getElem?_getD]
  · rw [b2.cur, b4, g.cur]
end Go.Proofs.YtodddilaniojgaaGreat.Ab
namespace Go.Proofs.YtodddilaniojgaaGreat.Ab
open Go.RowKit
set_option linter.unusedVariables false
set_option linter.unusedSimpArgs false
set_option maxRecDepth 100000
set_option maxHeartbeats 2000000
def spBig (e : TypeId) : FSpec where
  pre args := ∃ rows : List (List D), args = [argS e rows]
  res args := match args with
    | [.val _ [.sl _ _ rows]] => .val false [.b (decide ((rows.length : Int) > 1048576))]
    | _ => .none
def lawB (e : TypeId) : FSpec where
  pre args := ∃ rows : List (List D), args = [argS e rows]
  res _ := .val false [.b true]
theorem okBig : FOk Tryz.prog T 5 (spBig 5) := by
  refine fok (env := envL []) (N := 6) tabT envL_nil mixed Tryz.func5 rfl Tryz.call5 Tryz.ntmps5 ?_
  rintro args ⟨rows, rfl⟩ hwf
  clear hwf
  refine ⟨by simp, ?_⟩
  rw [Tryz.results5]
  repeat' first
    | (refine And.intro ?_ ?_)
    | (intro h; simp only [reduceCtorEq] at h; done)
    | (intro h; rw [h])
    | (intro h)
  all_goals first
    | (show lowEdges _ = true; kernel_rfl) | (show logOk _ _ = true; kernel_rfl) | exact True.intro | exact Or.inr rfl | exact Or.inl rfl
    | rfl
    | skip
theorem vtT {b : Bool} {p : Prop} (e : b = true) (h : b = false) : p := by rw [e] at h; cases h
theorem vtZ {b c : Int} {p : Prop} (e : b = c) (h : (b == c) = false) : p := by subst e; simp at h
theorem vtB {b : Bool} {p : Prop} (h : (b != b) = true) : p := by simp at h
theorem vtC {b : Bool} {p : Prop} (h : (!(b == b)) = true) : p := by simp at h
theorem len_pos {n : Nat} (h : ((n : Int) == 0) = false) (h2 : decide ((n : Int) > 0) = false) : False := by
  have := beq_eq_false_iff_ne.1 h
  have := of_decide_eq_false h2
  omega
theorem vtU {p : Prop} (h : (!true) = true) : p := by cases h
set_option maxHeartbeats 8000000 in
theorem ok3 : FOk Tryz.prog T 3 (lawB 5) := by
  obtain ⟨g6, k6, q6⟩ := any6
  refine fok (env := envL [(5, (spBig 5)), (6, { pre := fun a => ∃ rows : List (List D), rows.length ≤ 1048576 ∧ a = [argS 5 rows], res := fun a => (fun x : (H3 × List (List D)) => .tup [(true, [.sl false 72 x.1.1, .sl false 55 x.1.2.1, .i .i64 x.1.2.2]), (false, [.sl false 82 x.2])]) (g6 a) }), (7, (spDo 72 55 82)), (8, (spDo 72 55 82)), (9, (spSame fun v => ∃ (l ns : List (List D)) (a : Int), v = hA 72 55 l ns a)), (10, (spUn 72 55)), (11, (spRe 72 55)), (12, (spOkH 72 55)), (13, (spEqC 72))]) (N := 96) tabT (envL_cons okBig (envL_cons k6 (envL_cons xk7 (envL_cons xk8 (envL_cons xk9 (envL_cons xk10 (envL_cons xk11 (envL_cons xk12 (envL_cons xk13 envL_nil))))))))) mixed Tryz.func3 rfl Tryz.call3 Tryz.ntmps3 ?_
  rintro args ⟨rows, rfl⟩ hwf
  refine ⟨by simp, ?_⟩
  clear hwf
  rw [Tryz.results3]
  by_cases hbig : (rows.length : Int) > 1048576
  · repeat' first
      | (refine And.intro ?_ ?_)
      | (intro h; exact absurd hbig (of_decide_eq_false h))
      | (intro h)
    all_goals first
      | (show lowEdges _ = true; kernel_rfl) | (show logOk _ _ = true; kernel_rfl) | exact True.intro | exact Or.inr rfl | exact Or.inl rfl
      | exact ⟨_, rfl⟩
      | exact Eq.refl [CV.b true]
      | rfl
  have hr : rows.length ≤ 1048576 := by omega
  have hbf : decide ((rows.length : Int) > 1048576) = false := decide_eq_false hbig
  obtain ⟨X, hX⟩ : ∃ x, g6 [.val false [.sl false 5 rows]] = x := ⟨_, rfl⟩
  have qx := q6 [.val false [.sl false 5 rows]]
  rw [hX] at qx
  clear k6 q6 hbig
  have hs : SmH (X.1.1, X.1.2.1, X.1.2.2) := qx.1.1
  have hes : X.2.length ≤ 1000 := by have := qx.2.2; omega
  have hF := do_same (h := (X.1.1, X.1.2.1, X.1.2.2)) (es := X.2)
  have hY := hist_law (x := (X.1.1, X.1.2.1, X.1.2.2)) (es := X.2) hs qx.1.2 qx.2.1 qx.2.2
  have hsA : SmH (doE (X.1.1, X.1.2.1, X.1.2.2) X.2).1 := hs.do_ hes
  generalize hA : doE (X.1.1, X.1.2.1, X.1.2.2) X.2 = A at hF hY hsA
  have hsB : SmH (unE (A.1.1, A.1.2.1, A.1.2.2)).1 := SmH.un hsA
  have hsC : SmH (reE (unE (A.1.1, A.1.2.1, A.1.2.2)).1 (IntKind.i64.wrap ((A.1.2.1.length : Int) - 1))).1 := SmH.re hsB _
  have hZ : A.2 = true → HLaw (X.1.1, X.1.2.1, X.1.2.2) A (unE (A.1.1, A.1.2.1, A.1.2.2)) (reE (unE (A.1.1, A.1.2.1, A.1.2.2)).1 (IntKind.i64.wrap ((A.1.2.1.length : Int) - 1))) := hY
  clear hY
  generalize hB : unE (A.1.1, A.1.2.1, A.1.2.2) = B at hsB hsC hZ
  have hC0 : reE B.1 (IntKind.i64.wrap ((A.1.2.1.length : Int) - 1)) = reE (B.1.1, B.1.2.1, B.1.2.2) (IntKind.i64.wrap ((A.1.2.1.length : Int) - 1)) := rfl
  rw [hC0] at hsC hZ
  generalize hC : reE (B.1.1, B.1.2.1, B.1.2.2) (IntKind.i64.wrap ((A.1.2.1.length : Int) - 1)) = Cc at hsC hZ
  clear hC0
  repeat' first
    | (refine And.intro ?_ ?_)
    | (intro h; rw [hbf] at h; cases h)
    | (intro h; simp only [reduceCtorEq] at h; done)
    | (rw [hX])
    | (rw [hA])
    | (rw [hB])
    | (rw [hC])
    | (intro h; rw [h])
    | (intro h)
  all_goals first
    | (show lowEdges _ = true; kernel_rfl) | (show logOk _ _ = true; kernel_rfl) | exact True.intro | exact Or.inr rfl | exact Or.inl rfl
    | exact ⟨_, hr, rfl⟩
    | exact ⟨_, rfl⟩
    | exact ⟨_, _, _, _, hs, hes, rfl⟩
    | exact ⟨_, ⟨_, _, _, rfl⟩, rfl⟩
    | exact ⟨_, _, _, hsA, rfl⟩
    | exact ⟨_, _, _, _, hsB, rfl⟩
    | exact ⟨_, _, _, rfl⟩
    | exact ⟨_, _, hsB.1, hs.1, rfl⟩
    | exact ⟨_, _, hsC.1, hsA.1, rfl⟩
    | exact vtB (by with_reducible assumption)
    | exact vtC (by with_reducible assumption)
    | exact vtU (by with_reducible assumption)
    | (have hf := hF (of_notT (by with_reducible assumption)); first | exact ⟨_, ⟨_, _, _, rfl⟩, (by rw [hf])⟩ | exact Eq.refl [CV.b true])
    | exact Eq.refl [CV.b true]
    | (have hz := hZ (of_notF (by with_reducible assumption)); first | exact vtT hz.ok (by with_reducible assumption) | exact vtT hz.b1 (by with_reducible assumption) | exact vtT hz.c1 (by with_reducible assumption) | exact vtZ hz.b2 (by with_reducible assumption) | exact vtZ hz.c2 (by with_reducible assumption) | exact vtT hz.b3 (by with_reducible assumption) | exact vtT hz.c3 (by with_reducible assumption) | exact congrArg (fun z => [CV.b z]) hz.c3)
    | skip
set_option maxHeartbeats 8000000 in
theorem ok4 : FOk Tryz.prog T 4 (lawB 5) := by
  obtain ⟨g14, k14, q14⟩ := any14
  refine fok (env := envL [(5, (spBig 5)), (14, { pre := fun a => ∃ rows : List (List D), rows.length ≤ 1048576 ∧ a = [argS 5 rows], res := fun a => (fun x : (H3 × Int) => .tup [(true, [.sl false 72 x.1.1, .sl false 55 x.1.2.1, .i .i64 x.1.2.2]), (false, [.i .i64 x.2])]) (g14 a) }), (15, (spGo 72 55)), (16, (spGo 72 55)), (9, (spSame fun v => ∃ (l ns : List (List D)) (a : Int), v = hA 72 55 l ns a)), (17, (spPth 72 55 3)), (18, (spRise 3)), (13, (spEqC 72))]) (N := 111) tabT (envL_cons okBig (envL_cons k14 (envL_cons xk15 (envL_cons xk16 (envL_cons xk9 (envL_cons xk17 (envL_cons xk18 (envL_cons xk13 envL_nil)))))))) mixed Tryz.func4 rfl Tryz.call4 Tryz.ntmps4 ?_
  rintro args ⟨rows, rfl⟩ hwf
  refine ⟨by simp, ?_⟩
  clear hwf
  rw [Tryz.results4]
  by_cases hbig : (rows.length : Int) > 1048576
  · repeat' first
      | (refine And.intro ?_ ?_)
      | (intro h; exact absurd hbig (of_decide_eq_false h))
      | (intro h)
    all_goals first
      | (show lowEdges _ = true; kernel_rfl) | (show logOk _ _ = true; kernel_rfl) | exact True.intro | exact Or.inr rfl | exact Or.inl rfl
      | exact ⟨_, rfl⟩
      | exact Eq.refl [CV.b true]
      | rfl
  have hr : rows.length ≤ 1048576 := by omega
  have hbf : decide ((rows.length : Int) > 1048576) = false := decide_eq_false hbig
  obtain ⟨X, hX⟩ : ∃ x, g14 [.val false [.sl false 5 rows]] = x := ⟨_, rfl⟩
  have qx := q14 [.val false [.sl false 5 rows]]
  rw [hX] at qx
  clear k14 q14 hbig
  have hs : SmH (X.1.1, X.1.2.1, X.1.2.2) := qx.1
  have hF := go_same (h := (X.1.1, X.1.2.1, X.1.2.2)) (k := X.2)
  have hY := goto_law (x := (X.1.1, X.1.2.1, X.1.2.2)) (k := X.2) hs qx.2
  have hsA : SmH (goE (X.1.1, X.1.2.1, X.1.2.2) X.2).1 := hs.go _
  have hpl := pth_len (X.1.1, X.1.2.1, X.1.2.2) X.2
  have hZ : (goE (X.1.1, X.1.2.1, X.1.2.2) X.2).2 = true → GLaw (X.1.1, X.1.2.1, X.1.2.2) X.2 (goE (X.1.1, X.1.2.1, X.1.2.2) X.2) (goE ((goE (X.1.1, X.1.2.1, X.1.2.2) X.2).1.1, (goE (X.1.1, X.1.2.1, X.1.2.2) X.2).1.2.1, (goE (X.1.1, X.1.2.1, X.1.2.2) X.2).1.2.2) X.1.2.2) := hY
  clear hY
  generalize hA : goE (X.1.1, X.1.2.1, X.1.2.2) X.2 = A at hF hZ hsA
  have hsB : SmH (goE (A.1.1, A.1.2.1, A.1.2.2) X.1.2.2).1 := SmH.go hsA _
  generalize hB : goE (A.1.1, A.1.2.1, A.1.2.2) X.1.2.2 = B at hsB hZ
  have hP0 : ∀ (h : (A.2) = true), (pthE (X.1.1, X.1.2.1, X.1.2.2) X.2).Pairwise (· < ·) := fun h => (hZ h).pw
  have hNE : ∀ (h : (A.2) = true), 0 < (pthE (X.1.1, X.1.2.1, X.1.2.2) X.2).length := fun h => (hZ h).ne
  have hG0 : ∀ (h : (A.2) = true), gI (pthE (X.1.1, X.1.2.1, X.1.2.2) X.2) 0 = 0 := fun h => (hZ h).l0
  have hGN : ∀ (h : (A.2) = true), gI (pthE (X.1.1, X.1.2.1, X.1.2.2) X.2) ((pthE (X.1.1, X.1.2.1, X.1.2.2) X.2).length - 1) = X.2 := fun h => (hZ h).ln
  have hAT : ∀ (h : (A.2) = true), A.1.2.2 = X.2 := fun h => (hZ h).at_
  have hB1 : ∀ (h : (A.2) = true), B.2 = true := fun h => (hZ h).b1
  have hB2 : ∀ (h : (A.2) = true), B.1.2.2 = X.1.2.2 := fun h => (hZ h).b2
  have hB3 : ∀ (h : (A.2) = true), eqNb (strip B.1.1) (strip X.1.1) = true := fun h => (hZ h).b3
  clear hZ
  generalize hP : pthE (X.1.1, X.1.2.1, X.1.2.2) X.2 = P at hpl hP0 hNE hG0 hGN
  have hPl := intR_len P
  have hw : IntKind.i64.wrap (((intR P).length : Int) - 1) = (P.length : Int) - 1 := by rw [hPl, IntWalk.i64_in _ (by omega)]
  repeat' first
    | (refine And.intro ?_ ?_)
    | (intro h; rw [hbf] at h; cases h)
    | (intro h; simp only [reduceCtorEq] at h; done)
    | (rw [hX])
    | (rw [hA])
    | (rw [hB])
    | (rw [hP])
    | (intro h; rw [h])
    | (intro h)
  all_goals first
    | (show lowEdges _ = true; kernel_rfl) | (show logOk _ _ = true; kernel_rfl) | exact True.intro | exact Or.inr rfl | exact Or.inl rfl
    | exact ⟨_, hr, rfl⟩
    | exact ⟨_, rfl⟩
    | exact ⟨_, _, _, _, hs, rfl⟩
    | exact ⟨_, ⟨_, _, _, rfl⟩, rfl⟩
    | exact ⟨_, _, _, _, hsA, rfl⟩
    | exact ⟨_, _, hsB.1, hs.1, rfl⟩
    | exact vtB (by with_reducible assumption)
    | exact vtC (by with_reducible assumption)
    | exact vtU (by with_reducible assumption)
    | (have hf := hF (of_notT (by with_reducible assumption)); first | exact ⟨_, ⟨_, _, _, rfl⟩, (by rw [hf])⟩ | exact Eq.refl [CV.b true] | exact (len_pos (by with_reducible assumption) (by with_reducible assumption)).elim)
    | exact Eq.refl [CV.b true]
    | (have ha : A.2 = true := of_notF (by with_reducible assumption)
       have hne := hNE ha
       have e0 : iAt ((intR P).getD (Int.toNat 0) []) 0 = 0 := (rAt_int (p := P) (i := 0) hne).trans (hG0 ha)
       have e1 : iAt ((intR P).getD (IntKind.i64.wrap (((intR P).length : Int) - 1)).toNat []) 0 = X.2 := by
         rw [hw, show (P.length : Int) - 1 = ((P.length - 1 : Nat) : Int) by omega]
         exact (rAt_int (p := P) (i := P.length - 1) (by omega)).trans (hGN ha)
       first
         | exact vtZ (hAT ha) (by with_reducible assumption)
         | exact vtZ e1 (by with_reducible assumption)
         | exact vtZ e0 (by with_reducible assumption)
         | exact vtT (hB1 ha) (by with_reducible assumption)
         | exact vtT (hB3 ha) (by with_reducible assumption)
         | exact vtZ (hB2 ha) (by with_reducible assumption)
         | (rw [hw]; omega)
         | (show (0 : Int) ≤ 0; exact Int.le_refl 0)
         | (rw [hPl]; omega)
         | (rw [hw, hPl]; omega)
         | exact ⟨P, hP0 ha, by omega, rfl⟩
         | exact congrArg (fun z => [CV.b z]) (beq_iff_eq.2 (hB2 ha)))
    | skip
end Go.Proofs.YtodddilaniojgaaGreat.Ab
