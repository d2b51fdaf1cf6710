/- Histories: moves, exactly: printed by a program of this claim. -/
import Derived.Test.YtodddilaniojgaaGreatCHv
namespace Go.Proofs.YtodddilaniojgaaGreat.Ab
open Go.RowKit
set_option linter.unusedVariables false
set_option linter.unusedSimpArgs false
set_option maxRecDepth 100000
set_option maxHeartbeats 2000000
theorem xo24 : FOk Tryz.prog T 24 (spMvO 72 55 82) := by
  refine fok (env := envL [(22, (spCpH 72 55)), (52, (spApB 72 82))]) (N := 28) tabT (envL_cons xk22 (envL_cons xk52 envL_nil)) mixed Tryz.func24 rfl Tryz.call24 Tryz.ntmps24 ?_
  rintro args ⟨l, ns, at_, es, to, hs, rfl⟩ hwf
  have hl : l.length ≤ 1048576 := hs.1
  have hn : ns.length ≤ 1000 := hs.2.1
  refine ⟨by simp, ?_⟩
  clear hwf
  rw [Tryz.results24]
  repeat' first
    | (refine And.intro ?_ ?_)
    | (intro h; simp only [reduceCtorEq] at h; done)
    | (intro h; rw [h])
    | (intro h)
  all_goals first
    | (show lowEdges _ = true; kernel_rfl) | (show logOk _ _ = true; kernel_rfl) | exact True.intro | exact Or.inr rfl | exact Or.inl rfl
    | exact Nat.le_of_ble_eq_true rfl
    | exact ⟨_, _, _, hs, rfl⟩
    | exact ⟨_, _, hl, rfl⟩
    | exact congrArg (mvT 72 55) (mv_no (h := (l, ns, at_)) h).symm
    | exact congrArg (mvT 72 55) (mv_yes (h := (l, ns, at_)) (by with_reducible assumption)).symm
    | skip
theorem xk60 : FOk Tryz.prog T 60 (spMv 72 55 82) := by
  refine fok (env := envL [(26, (spCpH 72 55)), (28, (spApB 72 82))]) (N := 28) tabT (envL_cons xk26 (envL_cons xk28 envL_nil)) mixed Tryz.func60 rfl Tryz.call60 Tryz.ntmps60 ?_
  rintro args ⟨l, ns, at_, es, to, hs, rfl⟩ hwf
  have hl : l.length ≤ 1048576 := hs.1
  have hn : ns.length ≤ 1000 := hs.2.1
  refine ⟨by simp, ?_⟩
  clear hwf
  rw [Tryz.results60]
  repeat' first
    | (refine And.intro ?_ ?_)
    | (intro h; simp only [reduceCtorEq] at h; done)
    | (intro h; rw [h])
    | (intro h)
  all_goals first
    | (show lowEdges _ = true; kernel_rfl) | (show logOk _ _ = true; kernel_rfl) | exact True.intro | exact Or.inr rfl | exact Or.inl rfl
    | exact Nat.le_of_ble_eq_true rfl
    | exact ⟨_, _, _, hs, rfl⟩
    | exact ⟨_, _, hl, rfl⟩
    | exact congrArg (tupH 72 55) (mv_no (h := (l, ns, at_)) h).symm
    | exact congrArg (tupH 72 55) (mv_yes (h := (l, ns, at_)) (by with_reducible assumption)).symm
    | skip
theorem xk24 : FOk Tryz.prog T 24 (spMv 72 55 82) := by
  refine fok (env := envL [(22, (spCpH 72 55)), (52, (spApB 72 82))]) (N := 28) tabT (envL_cons xk22 (envL_cons xk52 envL_nil)) mixed Tryz.func24 rfl Tryz.call24 Tryz.ntmps24 ?_
  rintro args ⟨l, ns, at_, es, to, hs, rfl⟩ hwf
  have hl : l.length ≤ 1048576 := hs.1
  have hn : ns.length ≤ 1000 := hs.2.1
  refine ⟨by simp, ?_⟩
  clear hwf
  rw [Tryz.results24]
  repeat' first
    | (refine And.intro ?_ ?_)
    | (intro h; simp only [reduceCtorEq] at h; done)
    | (intro h; rw [h])
    | (intro h)
  all_goals first
    | (show lowEdges _ = true; kernel_rfl) | (show logOk _ _ = true; kernel_rfl) | exact True.intro | exact Or.inr rfl | exact Or.inl rfl
    | exact Nat.le_of_ble_eq_true rfl
    | exact ⟨_, _, _, hs, rfl⟩
    | exact ⟨_, _, hl, rfl⟩
    | exact congrArg (tupH 72 55) (mv_no (h := (l, ns, at_)) h).symm
    | exact congrArg (tupH 72 55) (mv_yes (h := (l, ns, at_)) (by with_reducible assumption)).symm
    | skip
theorem xk8 : FOk Tryz.prog T 8 (spDo 72 55 82) := by
  refine fok (env := envL [(26, (spCpH 72 55)), (27, (spIvB 72 82)), (28, (spApB 72 82)), (29, (spOkH 72 55)), (30, (spCpE 82))]) (N := 64) tabT (envL_cons xk26 (envL_cons xk27 (envL_cons xk28 (envL_cons xk29 (envL_cons xk30 envL_nil))))) mixed Tryz.func8 rfl Tryz.call8 Tryz.ntmps8 ?_
  rintro args ⟨l, ns, at_, es, hs, he, rfl⟩ hwf
  have hl : l.length ≤ 1048576 := hs.1
  have hn : ns.length ≤ 1000 := hs.2.1
  have hes : es.length ≤ 1048576 := Nat.le_trans he (by decide)
  refine ⟨by simp, ?_⟩
  clear hwf
  rw [Tryz.results8]
  repeat' first
    | (refine And.intro ?_ ?_)
    | (intro h; simp only [reduceCtorEq] at h; done)
    | (intro h; rw [h])
    | (intro h)
  all_goals first
    | (show lowEdges _ = true; kernel_rfl) | (show logOk _ _ = true; kernel_rfl) | exact True.intro | exact Or.inr rfl | exact Or.inl rfl
    | exact Nat.le_of_ble_eq_true rfl
    | exact ⟨_, _, _, hs, rfl⟩
    | exact ⟨_, _, _, rfl⟩
    | exact ⟨_, _, hl, hes, rfl⟩
    | exact ⟨_, _, hl, rfl⟩
    | exact ⟨_, hes, rfl⟩
    | exact ⟨_, _, _, _, _, hs, rfl⟩
    | exact ⟨_, _, _, rfl⟩
    | (simp only [List.length_append, List.length_cons, List.length_nil, maxLen]; omega)
    | (simp only [List.length_append, List.length_cons, List.length_nil]; omega)
    | exact congrArg (tupH 72 55) (do_no1 (h := (l, ns, at_)) (by with_reducible assumption)).symm
    | exact congrArg (tupH 72 55) (do_no2 (h := (l, ns, at_)) (by with_reducible assumption)).symm
    | exact congrArg (tupH 72 55) (do_no3 (h := (l, ns, at_)) (by with_reducible assumption)).symm
    | exact congrArg (tupH 72 55) (do_no4 (h := (l, ns, at_)) (by with_reducible assumption)).symm
    | (have e1 : IntKind.i64.wrap (((ns ++ ([] ++ [nodeR at_ es (ivB l es).1])).length : Int) - 1) = (ns.length : Int) := by
         rw [IntWalk.i64_in _ (by simp only [List.length_append, List.length_cons, List.length_nil]; omega)]
         simp only [List.length_append, List.length_cons, List.length_nil]; omega
       refine Eq.trans ?_ (congrArg (tupH 72 55) (do_yes (h := (l, ns, at_)) (by with_reducible assumption) (by with_reducible assumption) (by with_reducible assumption)).symm)
       exact congrArg (fun z : Int => tupH 72 55 ((((apB l es).1, ns ++ ([] ++ [nodeR at_ es (ivB l es).1]), z), true) : H3 × Bool)) e1)
    | skip
theorem xk7 : FOk Tryz.prog T 7 (spDo 72 55 82) := by
  refine fok (env := envL [(12, (spOkH 72 55)), (22, (spCpH 72 55)), (23, (spIvB 72 82)), (24, (spMvO 72 55 82)), (25, (spCpE 82))]) (N := 51) tabT (envL_cons xk12 (envL_cons xk22 (envL_cons xk23 (envL_cons xo24 (envL_cons xk25 envL_nil))))) mixed Tryz.func7 rfl Tryz.call7 Tryz.ntmps7 ?_
  rintro args ⟨l, ns, at_, es, hs, he, rfl⟩ hwf
  have hl : l.length ≤ 1048576 := hs.1
  have hn : ns.length ≤ 1000 := hs.2.1
  have hes : es.length ≤ 1048576 := Nat.le_trans he (by decide)
  have hmv : (mvE (l, ns, at_) es (ns.length : Int)).1.2.1.length ≤ 1000 := (hs.mv es _).2.1
  refine ⟨by simp, ?_⟩
  clear hwf
  rw [Tryz.results7]
  repeat' first
    | (refine And.intro ?_ ?_)
    | (intro h; simp only [reduceCtorEq] at h; done)
    | (intro h; rw [h])
    | (intro h)
  all_goals first
    | (show lowEdges _ = true; kernel_rfl) | (show logOk _ _ = true; kernel_rfl) | exact True.intro | exact Or.inr rfl | exact Or.inl rfl
    | exact Nat.le_of_ble_eq_true rfl
    | exact ⟨_, _, _, hs, rfl⟩
    | exact ⟨_, _, _, rfl⟩
    | exact ⟨_, _, hl, hes, rfl⟩
    | exact ⟨_, _, hl, rfl⟩
    | exact ⟨_, hes, rfl⟩
    | exact ⟨_, _, _, _, _, hs, rfl⟩
    | exact ⟨_, _, _, rfl⟩
    | (simp only [List.length_append, List.length_cons, List.length_nil, maxLen]; omega)
    | (simp only [List.length_append, List.length_cons, List.length_nil]; omega)
    | exact congrArg (tupH 72 55) (do_no1 (h := (l, ns, at_)) (by with_reducible assumption)).symm
    | exact congrArg (tupH 72 55) (do_no2i (h := (l, ns, at_)) (by with_reducible assumption) (by with_reducible assumption)).symm
    | exact congrArg (tupH 72 55) (do_imY (h := (l, ns, at_)) (by with_reducible assumption) (by with_reducible assumption) (by with_reducible assumption)).symm
    | exact congrArg (tupH 72 55) (do_imN (h := (l, ns, at_)) (by with_reducible assumption)).symm
    | skip
theorem xk40 : FOk Tryz.prog T 40 (spUn 72 55) := by
  refine fok (env := envL [(29, (spOkH 72 55)), (26, (spCpH 72 55)), (60, (spMv 72 55 82))]) (N := 32) tabT (envL_cons xk29 (envL_cons xk26 (envL_cons xk60 envL_nil))) mixed Tryz.func40 rfl Tryz.call40 Tryz.ntmps40 ?_
  rintro args ⟨l, ns, at_, hs, rfl⟩ hwf
  have hl : l.length ≤ 1048576 := hs.1
  have hn : ns.length ≤ 1000 := hs.2.1
  refine ⟨by simp, ?_⟩
  clear hwf
  rw [Tryz.results40]
  repeat' first
    | (refine And.intro ?_ ?_)
    | (intro h; simp only [reduceCtorEq] at h; done)
    | (intro h; rw [h])
    | (intro h)
  all_goals first
    | (show lowEdges _ = true; kernel_rfl) | (show logOk _ _ = true; kernel_rfl) | exact True.intro | exact Or.inr rfl | exact Or.inl rfl
    | exact Nat.le_of_ble_eq_true rfl
    | exact ⟨_, _, _, hs, rfl⟩
    | exact ⟨_, _, _, rfl⟩
    | exact ⟨_, _, _, _, _, hs, rfl⟩
    | exact (at_in (h := (l, ns, at_)) (by with_reducible assumption)).1
    | exact (at_in (h := (l, ns, at_)) (by with_reducible assumption)).2
    | exact congrArg (tupH 72 55) (un_no1 (h := (l, ns, at_)) (by with_reducible assumption)).symm
    | exact congrArg (tupH 72 55) (un_no2 (h := (l, ns, at_)) (by with_reducible assumption) (by with_reducible assumption)).symm
    | exact congrArg (tupH 72 55) (un_yes (h := (l, ns, at_)) (by with_reducible assumption) (by with_reducible assumption)).symm
    | skip
theorem xk10 : FOk Tryz.prog T 10 (spUn 72 55) := by
  refine fok (env := envL [(12, (spOkH 72 55)), (22, (spCpH 72 55)), (24, (spMv 72 55 82))]) (N := 37) tabT (envL_cons xk12 (envL_cons xk22 (envL_cons xk24 envL_nil))) mixed Tryz.func10 rfl Tryz.call10 Tryz.ntmps10 ?_
  rintro args ⟨l, ns, at_, hs, rfl⟩ hwf
  have hl : l.length ≤ 1048576 := hs.1
  have hn : ns.length ≤ 1000 := hs.2.1
  refine ⟨by simp, ?_⟩
  clear hwf
  rw [Tryz.results10]
  repeat' first
    | (refine And.intro ?_ ?_)
    | (intro h; simp only [reduceCtorEq] at h; done)
    | (intro h; rw [h])
    | (intro h)
  all_goals first
    | (show lowEdges _ = true; kernel_rfl) | (show logOk _ _ = true; kernel_rfl) | exact True.intro | exact Or.inr rfl | exact Or.inl rfl
    | exact Nat.le_of_ble_eq_true rfl
    | exact ⟨_, _, _, hs, rfl⟩
    | exact ⟨_, _, _, rfl⟩
    | exact ⟨_, _, _, _, _, hs, rfl⟩
    | exact (at_in (h := (l, ns, at_)) (by with_reducible assumption)).1
    | exact (at_in (h := (l, ns, at_)) (by with_reducible assumption)).2
    | exact congrArg (tupH 72 55) (un_no1 (h := (l, ns, at_)) (by with_reducible assumption)).symm
    | exact congrArg (tupH 72 55) (un_no2 (h := (l, ns, at_)) (by with_reducible assumption) (by with_reducible assumption)).symm
    | exact congrArg (tupH 72 55) (un_yes (h := (l, ns, at_)) (by with_reducible assumption) (by with_reducible assumption)).symm
    | skip
theorem xk41 : FOk Tryz.prog T 41 (spRe 72 55) := by
  refine fok (env := envL [(29, (spOkH 72 55)), (54, spIn), (26, (spCpH 72 55)), (60, (spMv 72 55 82))]) (N := 42) tabT (envL_cons xk29 (envL_cons xk54 (envL_cons xk26 (envL_cons xk60 envL_nil)))) mixed Tryz.func41 rfl Tryz.call41 Tryz.ntmps41 ?_
  rintro args ⟨l, ns, at_, k, hs, rfl⟩ hwf
  have hl : l.length ≤ 1048576 := hs.1
  have hn : ns.length ≤ 1000 := hs.2.1
  have hw : IntKind.i64.wrap ((ns.length : Int) - 1) = (ns.length : Int) - 1 := IntWalk.i64_in _ (by omega)
  refine ⟨by simp, ?_⟩
  clear hwf
  rw [Tryz.results41]
  repeat' first
    | (refine And.intro ?_ ?_)
    | (intro h; simp only [reduceCtorEq] at h; done)
    | (intro h; rw [h])
    | (intro h)
  all_goals first
    | (show lowEdges _ = true; kernel_rfl) | (show logOk _ _ = true; kernel_rfl) | exact True.intro | exact Or.inr rfl | exact Or.inl rfl
    | exact Nat.le_of_ble_eq_true rfl
    | exact ⟨_, _, _, hs, rfl⟩
    | exact ⟨_, _, _, rfl⟩
    | exact ⟨_, _, _, _, _, hs, rfl⟩
    | exact ⟨_, _, _, rfl⟩
    | exact (k_in (n := (ns.length : Int)) (a := 1) (by decide) (by rw [← hw]; with_reducible assumption)).1
    | exact (k_in (n := (ns.length : Int)) (a := 1) (by decide) (by rw [← hw]; with_reducible assumption)).2
    | exact congrArg (tupH 72 55) (re_no1 (h := (l, ns, at_)) (by with_reducible assumption)).symm
    | exact congrArg (tupH 72 55) (re_no2 (h := (l, ns, at_)) (by rw [← hw]; with_reducible assumption)).symm
    | exact congrArg (tupH 72 55) (re_no3 (h := (l, ns, at_)) (by with_reducible assumption)).symm
    | exact congrArg (tupH 72 55) (re_yes (h := (l, ns, at_)) (by with_reducible assumption) (by rw [← hw]; with_reducible assumption) (by with_reducible assumption)).symm
    | skip
theorem xk11 : FOk Tryz.prog T 11 (spRe 72 55) := by
  refine fok (env := envL [(12, (spOkH 72 55)), (32, spIn), (22, (spCpH 72 55)), (24, (spMv 72 55 82))]) (N := 47) tabT (envL_cons xk12 (envL_cons xk32 (envL_cons xk22 (envL_cons xk24 envL_nil)))) mixed Tryz.func11 rfl Tryz.call11 Tryz.ntmps11 ?_
  rintro args ⟨l, ns, at_, k, hs, rfl⟩ hwf
  have hl : l.length ≤ 1048576 := hs.1
  have hn : ns.length ≤ 1000 := hs.2.1
  have hw : IntKind.i64.wrap ((ns.length : Int) - 1) = (ns.length : Int) - 1 := IntWalk.i64_in _ (by omega)
  refine ⟨by simp, ?_⟩
  clear hwf
  rw [Tryz.results11]
  repeat' first
    | (refine And.intro ?_ ?_)
    | (intro h; simp only [reduceCtorEq] at h; done)
    | (intro h; rw [h])
    | (intro h)
  all_goals first
    | (show lowEdges _ = true; kernel_rfl) | (show logOk _ _ = true; kernel_rfl) | exact True.intro | exact Or.inr rfl | exact Or.inl rfl
    | exact Nat.le_of_ble_eq_true rfl
    | exact ⟨_, _, _, hs, rfl⟩
    | exact ⟨_, _, _, rfl⟩
    | exact ⟨_, _, _, _, _, hs, rfl⟩
    | exact ⟨_, _, _, rfl⟩
    | exact (k_in (n := (ns.length : Int)) (a := 0) (by decide) (by rw [← hw]; with_reducible assumption)).1
    | exact (k_in (n := (ns.length : Int)) (a := 0) (by decide) (by rw [← hw]; with_reducible assumption)).2
    | exact congrArg (tupH 72 55) (re_no1 (h := (l, ns, at_)) (by with_reducible assumption)).symm
    | exact congrArg (tupH 72 55) (re_no2i (h := (l, ns, at_)) (by rw [← hw]; with_reducible assumption)).symm
    | exact congrArg (tupH 72 55) (re_no3 (h := (l, ns, at_)) (by with_reducible assumption)).symm
    | exact congrArg (tupH 72 55) (re_yesi (h := (l, ns, at_)) (by with_reducible assumption) (by rw [← hw]; with_reducible assumption) (by with_reducible assumption)).symm
    | skip
end Go.Proofs.YtodddilaniojgaaGreat.Ab
