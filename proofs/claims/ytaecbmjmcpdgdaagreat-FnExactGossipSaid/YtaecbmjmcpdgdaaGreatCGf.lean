/- Merging logs: the program's two loops: printed by a program of this claim. -/
import Derived.Test.YtaecbmjmcpdgdaaGreatCZc
import Derived.Test.YtaecbmjmcpdgdaaGreatCGc
import Derived.Test.YtaecbmjmcpdgdaaGreatCCc
namespace Go.Proofs.YtaecbmjmcpdgdaaGreat.Ab
open Go.RowKit
set_option linter.unusedVariables false
set_option linter.unusedSimpArgs false
set_option maxRecDepth 100000
set_option maxHeartbeats 2000000
def kn (M : List (List D)) (r : List D) (k : Nat) : Bool := (M.take k).any fun x => opSame x r
theorem kn_succ {M : List (List D)} {r : List D} {k : Nat} (h : k < M.length) : kn M r (k + 1) = (kn M r k || opSame (rAt M k) r) := by
  unfold kn
  rw [List.take_add_one, List.getElem?_eq_getElem h, List.any_append, rAt_get h]
  simp
theorem kn_all {M : List (List D)} {r : List D} {k : Nat} (h : ¬ k < M.length) : kn M r k = known M r := by
  unfold kn known; rw [List.take_of_length_le (by omega)]
theorem mD_skip {L : List (List D)} {i : Nat} (h : i < L.length) (hk : known (mD L i) (rAt L i) = true) : mD L i = mD L (i + 1) := by
  rw [mD_next h]; unfold addOp; rw [if_pos hk]
theorem mD_put {L : List (List D)} {i : Nat} (h : i < L.length) (hk : known (mD L i) (rAt L i) = false) : mD L i ++ [rAt L i] = mD L (i + 1) := by
  rw [mD_next h]; unfold addOp; rw [if_neg (by rw [hk]; simp)]
theorem sm_t {x y : List D} (h : ((x.getD 0 default).int == (y.getD 0 default).int) = true) : ((x.getD 1 default).int == (y.getD 1 default).int) = (false || opSame x y) := by
  have h' : kT x = kT y := eq_of_beq h
  unfold opSame
  rw [decide_eq_true h', Bool.true_and, Bool.false_or]; rfl
theorem sm_f {x y : List D} (h : ((x.getD 0 default).int == (y.getD 0 default).int) = false) : false = (false || opSame x y) := by
  have h' : ¬ kT x = kT y := fun e => by have : ((x.getD 0 default).int == (y.getD 0 default).int) = true := beq_iff_eq.2 e; rw [h] at this; cases this
  unfold opSame
  rw [decide_eq_false h', Bool.false_and, Bool.false_or]
theorem sm_k {x y : List D} : true = (true || opSame x y) := (Bool.true_or _).symm
theorem xk19 : FOk Tryz.prog T 19 (spMrg 54) := by
  have hE : EnvOk Tryz.prog T (envL [(34, (cpG T [.i .i64, .i .i64, .i .i64, .l 3, .i .i64, .i .i64, .i .i64, .i .i64, .i .i64, .s, .s, .i .i64, .s, .s, .i .i64, .i .i64, .l 94]))]) := envL_cons ok34 envL_nil
  refine fokO (N := 57) tabT Tryz.func19 rfl Tryz.call19 Tryz.ntmps19 rfl ?_
  rintro args ⟨l, m, hs, rfl⟩ hwf
  have hL : ∃ L, L = l ++ m := ⟨_, rfl⟩
  obtain ⟨L, hL⟩ := hL
  have hw : ∀ r ∈ L, WfRow T [.i .i64, .i .i64, .i .i64, .l 3, .i .i64, .i .i64, .i .i64, .i .i64, .i .i64, .s, .s, .i .i64, .s, .s, .i .i64, .i .i64, .l 94] r := by
    rw [hL]
    exact app_wf (show T 54 = some _ from rfl) (show WfD T (.l 54) (.l l) from hwf _ (List.mem_cons_self ..) _ (List.mem_singleton_self _)) (show WfD T (.l 54) (.l m) from hwf _ (List.mem_cons_of_mem _ (List.mem_singleton_self _)) _ (List.mem_singleton_self _))
  have hLn : L.length + wRows L ≤ 1048576 := by rw [hL, List.length_append, wRows_append]; omega
  have hL0 : [] ++ l ++ m = L := by rw [List.nil_append]; exact hL.symm
  have hlm : L.length ≤ maxLen := by simp only [maxLen]; omega
  have hla : l.length ≤ 1048576 := by omega
  have hma : l.length + m.length ≤ 1048576 := by omega
  clear hwf
  refine ⟨by simp, ?_⟩
  rw [Tryz.results19]
  refine OkC.seq tabT hE mixed ?_
  repeat' first
    | (refine And.intro ?_ ?_)
    | (intro h; simp only [reduceCtorEq] at h; done)
    | (intro h; exact absurd h (by decide))
    | (intro h; exact absurd hlt (nltN h))
    | (intro h; exact absurd (ltN h) hge)
    | (intro h; rw [h])
    | (intro h)
  all_goals first
    | (show lowEdges _ = true; kernel_rfl) | (show logOk _ _ = true; kernel_rfl) | exact True.intro | exact Or.inr rfl | exact Or.inl rfl
    | with_reducible exact Int.natCast_nonneg _
    | skip
  refine OkC.seq tabT hE mixed ?_
  repeat' first
    | (refine And.intro ?_ ?_)
    | (intro h; simp only [reduceCtorEq] at h; done)
    | (intro h; exact absurd h (by decide))
    | (intro h; exact absurd hlt (nltN h))
    | (intro h; exact absurd (ltN h) hge)
    | (intro h; rw [h])
    | (intro h)
  all_goals first
    | (show lowEdges _ = true; kernel_rfl) | (show logOk _ _ = true; kernel_rfl) | exact True.intro | exact Or.inr rfl | exact Or.inl rfl
    | with_reducible exact Int.natCast_nonneg _
    | skip
  refine OkC.seqO ?_
  refine OkC.seq tabT hE mixed ?_
  repeat' first
    | (refine And.intro ?_ ?_)
    | (intro h; simp only [reduceCtorEq] at h; done)
    | (intro h; exact absurd h (by decide))
    | (intro h; exact absurd hlt (nltN h))
    | (intro h; exact absurd (ltN h) hge)
    | (intro h; rw [h])
    | (intro h)
  all_goals first
    | (show lowEdges _ = true; kernel_rfl) | (show logOk _ _ = true; kernel_rfl) | exact True.intro | exact Or.inr rfl | exact Or.inl rfl
    | with_reducible exact Int.natCast_nonneg _
    | (simp only [List.length_append, List.length_nil, maxLen]; omega)
    | skip
  rw [hL0]
  refine OkC.block ?_
  refine OkC.loop [5, 16, 17, 18] [5] (fun n st => ∃ i : Nat, st = ([.ptr 5 1 0, .val false [.sl true 54 L], .val false [.i .i64 L.length], .val false [.i .i64 (i : Int)]], [(1, [.val false [.sl true 54 (mD L i)]])]) ∧ i ≤ L.length ∧ n = L.length - i) ?_ ?_
  · exact ⟨rfl, L.length, 0, rfl, Nat.zero_le _, rfl⟩
  rintro n st ⟨i, rfl, hle, rfl⟩
  have hml : (mD L i).length ≤ i := mD_len hle
  by_cases hlt : i < L.length
  case neg =>
    have hge : ¬ i < L.length := hlt
    refine OkC.seq tabT hE mixed ?_
    repeat' first
      | (refine And.intro ?_ ?_)
      | (intro h; simp only [reduceCtorEq] at h; done)
      | (intro h; exact absurd h (by decide))
      | (intro h; exact absurd hlt (nltN h))
      | (intro h; exact absurd (ltN h) hge)
      | (intro h; rw [h])
      | (intro h)
    all_goals first
      | (show lowEdges _ = true; kernel_rfl) | (show logOk _ _ = true; kernel_rfl) | exact True.intro | exact Or.inr rfl | exact Or.inl rfl
      | with_reducible exact Int.natCast_nonneg _
      | skip
    refine OkC.of_awp tabT hE mixed ?_
    repeat' first
      | (refine And.intro ?_ ?_)
      | (intro h; simp only [reduceCtorEq] at h; done)
      | (intro h; exact absurd h (by decide))
      | (intro h; exact absurd hlt (nltN h))
      | (intro h; exact absurd (ltN h) hge)
      | (intro h; rw [h])
      | (intro h)
    all_goals first
      | (show lowEdges _ = true; kernel_rfl) | (show logOk _ _ = true; kernel_rfl) | exact True.intro | exact Or.inr rfl | exact Or.inl rfl
      | with_reducible exact Int.natCast_nonneg _
      | skip
    refine OkC.forgetTo [5] [5] ([.ptr 5 1 0], [(1, [.val false [.sl true 54 (mD L i)]])]) rfl rfl ?_
    rw [mD_all hge]
    have hdl := (ded_size L []).1
    rw [List.length_nil] at hdl
    subst hL
    exact mrg_end (by show (List.foldl addOp [] (l ++ m)).length ≤ 1048576; omega)
  have hwr := hw _ (rAt_memL hlt)
  have hws := wRow_mem (rAt_memL hlt)
  refine OkC.seq tabT hE mixed ?_
  repeat' first
    | (refine And.intro ?_ ?_)
    | (intro h; simp only [reduceCtorEq] at h; done)
    | (intro h; exact absurd h (by decide))
    | (intro h; exact absurd hlt (nltN h))
    | (intro h; exact absurd (ltN h) hge)
    | (intro h; rw [h])
    | (intro h)
  all_goals first
    | (show lowEdges _ = true; kernel_rfl) | (show logOk _ _ = true; kernel_rfl) | exact True.intro | exact Or.inr rfl | exact Or.inl rfl
    | with_reducible exact Int.natCast_nonneg _
    | skip
  refine OkC.seq tabT hE mixed ?_
  repeat' first
    | (refine And.intro ?_ ?_)
    | (intro h; simp only [reduceCtorEq] at h; done)
    | (intro h; exact absurd h (by decide))
    | (intro h; exact absurd hlt (nltN h))
    | (intro h; exact absurd (ltN h) hge)
    | (intro h; rw [h])
    | (intro h)
  all_goals first
    | (show lowEdges _ = true; kernel_rfl) | (show logOk _ _ = true; kernel_rfl) | exact True.intro | exact Or.inr rfl | exact Or.inl rfl
    | with_reducible exact Int.natCast_nonneg _
    | skip
  refine OkC.seqO (OkC.block ?_)
  refine OkC.seq tabT hE mixed ?_
  repeat' first
    | (refine And.intro ?_ ?_)
    | (intro h; simp only [reduceCtorEq] at h; done)
    | (intro h; exact absurd h (by decide))
    | (intro h; exact absurd hlt (nltN h))
    | (intro h; exact absurd (ltN h) hge)
    | (intro h; rw [h])
    | (intro h)
  all_goals first
    | (show lowEdges _ = true; kernel_rfl) | (show logOk _ _ = true; kernel_rfl) | exact True.intro | exact Or.inr rfl | exact Or.inl rfl
    | with_reducible exact Int.natCast_nonneg _
    | (show (Int.toNat (i : Int)) < _; rw [Int.toNat_natCast]; exact hlt)
    | (show (i : Int) < _; omega)
    | skip
  refine OkC.seq tabT hE mixed ?_
  repeat' first
    | (refine And.intro ?_ ?_)
    | (intro h; simp only [reduceCtorEq] at h; done)
    | (intro h; exact absurd h (by decide))
    | (intro h; exact absurd hlt (nltN h))
    | (intro h; exact absurd (ltN h) hge)
    | (intro h; rw [h])
    | (intro h)
  all_goals first
    | (show lowEdges _ = true; kernel_rfl) | (show logOk _ _ = true; kernel_rfl) | exact True.intro | exact Or.inr rfl | exact Or.inl rfl
    | with_reducible exact Int.natCast_nonneg _
    | skip
  refine OkC.seqO ?_
  refine OkC.seq tabT hE mixed ?_
  repeat' first
    | (refine And.intro ?_ ?_)
    | (intro h; simp only [reduceCtorEq] at h; done)
    | (intro h; exact absurd h (by decide))
    | (intro h; exact absurd hlt (nltN h))
    | (intro h; exact absurd (ltN h) hge)
    | (intro h; rw [h])
    | (intro h)
  all_goals first
    | (show lowEdges _ = true; kernel_rfl) | (show logOk _ _ = true; kernel_rfl) | exact True.intro | exact Or.inr rfl | exact Or.inl rfl
    | with_reducible exact Int.natCast_nonneg _
    | (simp only [maxLen]; omega)
    | skip
  refine OkC.block ?_
  refine OkC.loopA [5, 7, 8, 16, 17, 18, 23, 24] [5, 7] 22 5 (fun n st => ∃ k : Nat, st = ([.ptr 5 1 0, .ptr 7 1 0, .val false [.b (kn (mD L i) (rAt L i) k)], .val false [.sl true 54 L], .val false [.i .i64 L.length], .val false [.i .i64 (i : Int)], .val false [.i .i64 (mD L i).length], .val false [.i .i64 (k : Int)]], [(1, [.val false [.sl true 54 (mD L i)]]), (1, (rowC [.i .i64, .i .i64, .i .i64, .l 3, .i .i64, .i .i64, .i .i64, .i .i64, .i .i64, .s, .s, .i .i64, .s, .s, .i .i64, .i .i64, .l 94] (rAt L i)).map fun c => .val false [c])]) ∧ k ≤ (mD L i).length ∧ n = (mD L i).length - k) rfl rfl ?_ ?_
  · exact ⟨rfl, ⟨1, rfl, by decide, rfl⟩, (mD L i).length, 0, rfl, Nat.zero_le _, rfl⟩
  rintro n2 st2 ⟨k, rfl, hk, rfl⟩
  obtain ⟨q, hq⟩ : ∃ q, kn (mD L i) (rAt L i) k = q := ⟨_, rfl⟩
  rw [hq]
  have hms : (mD L i).length ≤ maxLen := by simp only [maxLen]; omega
  cases q
  all_goals
    refine OkC.of_awp tabT hE mixed ?_
    repeat' first
      | (refine And.intro ?_ ?_)
      | (intro h; simp only [reduceCtorEq] at h; done)
      | (intro h; exact absurd h (by decide))
      | (intro h; exact absurd hlt (nltN h))
      | (intro h; exact absurd (ltN h) hge)
      | (intro h; rw [h])
      | (intro h)
    all_goals first
      | (show lowEdges _ = true; kernel_rfl) | (show logOk _ _ = true; kernel_rfl) | exact True.intro | exact Or.inr rfl | exact Or.inl rfl
      | with_reducible exact Int.natCast_nonneg _
      | skip
    all_goals (try simp only [Nat.reduceAdd] at *)
    all_goals first
      | with_reducible exact of_decide_eq_true (by with_reducible assumption)
      | (show (Int.toNat (k : Int)) < _; rw [Int.toNat_natCast]; exact ltN (by with_reducible assumption))
      | (show Alive _ _; exact rfl)
      | (show AlAt _ _ _; exact ⟨1, rfl, by decide, rfl⟩)
      | (have hkl := ltN (i := k) (by with_reducible assumption)
         refine ⟨(mD L i).length - (k + 1), by omega, k + 1, ?_, by omega, rfl⟩
         refine (congrArg (fun z : Int => (([.ptr 5 1 0, .ptr 7 1 0, .val false [.b _], .val false [.sl true 54 L], .val false [.i .i64 L.length], .val false [.i .i64 (i : Int)], .val false [.i .i64 (mD L i).length], .val false [.i .i64 z]], [(1, [.val false [.sl true 54 (mD L i)]]), (1, (rowC [.i .i64, .i .i64, .i .i64, .l 3, .i .i64, .i .i64, .i .i64, .i .i64, .i .i64, .s, .s, .i .i64, .s, .s, .i .i64, .i .i64, .l 94] (rAt L i)).map fun c => .val false [c])]) : Snap)) (wrapN hkl hms)).trans ?_
         refine congrArg (fun b : Bool => (([.ptr 5 1 0, .ptr 7 1 0, .val false [.b b], .val false [.sl true 54 L], .val false [.i .i64 L.length], .val false [.i .i64 (i : Int)], .val false [.i .i64 (mD L i).length], .val false [.i .i64 ((k + 1 : Nat) : Int)]], [(1, [.val false [.sl true 54 (mD L i)]]), (1, (rowC [.i .i64, .i .i64, .i .i64, .l 3, .i .i64, .i .i64, .i .i64, .i .i64, .i .i64, .s, .s, .i .i64, .s, .s, .i .i64, .i .i64, .l 94] (rAt L i)).map fun c => .val false [c])]) : Snap)) ?_
         rw [kn_succ hkl, hq]
         first
           | exact sm_k
           | exact sm_t (x := rAt (mD L i) k) (y := (rAt L i)) (by assumption)
           | exact sm_f (x := rAt (mD L i) k) (y := (rAt L i)) (by assumption))
      | (have hkn := (kn_all (nltN (i := k) (by with_reducible assumption))).symm.trans hq
         refine OkC.forgetTo [5, 7, 8, 16, 17, 18] [5, 7] ([.ptr 5 1 0, .ptr 7 1 0, .val false [.b _], .val false [.sl true 54 L], .val false [.i .i64 L.length], .val false [.i .i64 (i : Int)]], [(1, [.val false [.sl true 54 (mD L i)]]), (1, (rowC [.i .i64, .i .i64, .i .i64, .l 3, .i .i64, .i .i64, .i .i64, .i .i64, .i .i64, .s, .s, .i .i64, .s, .s, .i .i64, .i .i64, .l 94] (rAt L i)).map fun c => .val false [c])]) rfl rfl ?_
         clear hq hk
         refine OkC.of_awp tabT hE mixed ?_
         repeat' first
           | (refine And.intro ?_ ?_)
           | (intro h; simp only [reduceCtorEq] at h; done)
           | (intro h; exact absurd h (by decide))
           | (intro h; exact absurd hlt (nltN h))
           | (intro h; exact absurd (ltN h) hge)
           | (intro h; rw [h])
           | (intro h)
         all_goals first
           | (show lowEdges _ = true; kernel_rfl) | (show logOk _ _ = true; kernel_rfl) | exact True.intro | exact Or.inr rfl | exact Or.inl rfl
           | with_reducible exact Int.natCast_nonneg _
           | skip
         all_goals first
           | exact ⟨_, hwr, by omega, rfl⟩
           | (simp only [List.length_append, List.length_cons, List.length_nil, maxLen]; omega)
           | (refine OkC.forgetTo [5, 16, 17, 18] [5] ([.ptr 5 1 0, .val false [.sl true 54 L], .val false [.i .i64 L.length], .val false [.i .i64 (i : Int)]], [(1, [.val false [.sl true 54 _]])]) rfl rfl ?_
              refine OkC.of_awp tabT hE mixed ?_
              repeat' first
                | (refine And.intro ?_ ?_)
                | (intro h; simp only [reduceCtorEq] at h; done)
                | (intro h; exact absurd h (by decide))
                | (intro h; exact absurd hlt (nltN h))
                | (intro h; exact absurd (ltN h) hge)
                | (intro h; rw [h])
                | (intro h)
              all_goals first
                | (show lowEdges _ = true; kernel_rfl) | (show logOk _ _ = true; kernel_rfl) | exact True.intro | exact Or.inr rfl | exact Or.inl rfl
                | with_reducible exact Int.natCast_nonneg _
                | skip
              all_goals first
                | (show Alive _ _; exact rfl)
                | (refine ⟨L.length - (i + 1), by omega, i + 1, ?_, by omega, rfl⟩
                   refine (congrArg (fun z : Int => (([.ptr 5 1 0, .val false [.sl true 54 L], .val false [.i .i64 L.length], .val false [.i .i64 z]], [(1, [.val false [.sl true 54 _]])]) : Snap)) (wrapN hlt hlm)).trans ?_
                   exact congrArg (fun q : List (List D) => (([.ptr 5 1 0, .val false [.sl true 54 L], .val false [.i .i64 L.length], .val false [.i .i64 ((i + 1 : Nat) : Int)]], [(1, [.val false [.sl true 54 q]])]) : Snap)) (show (mD L i) ++ ([] ++ [csD (rowC [.i .i64, .i .i64, .i .i64, .l 3, .i .i64, .i .i64, .i .i64, .i .i64, .i .i64, .s, .s, .i .i64, .s, .s, .i .i64, .i .i64, .l 94] (rAt L i))]) = mD L (i + 1) from by rw [csD_rowC hwr, List.nil_append]; exact mD_put hlt hkn)))
           | (refine OkC.forgetTo [5, 16, 17, 18] [5] ([.ptr 5 1 0, .val false [.sl true 54 L], .val false [.i .i64 L.length], .val false [.i .i64 (i : Int)]], [(1, [.val false [.sl true 54 _]])]) rfl rfl ?_
              refine OkC.of_awp tabT hE mixed ?_
              repeat' first
                | (refine And.intro ?_ ?_)
                | (intro h; simp only [reduceCtorEq] at h; done)
                | (intro h; exact absurd h (by decide))
                | (intro h; exact absurd hlt (nltN h))
                | (intro h; exact absurd (ltN h) hge)
                | (intro h; rw [h])
                | (intro h)
              all_goals first
                | (show lowEdges _ = true; kernel_rfl) | (show logOk _ _ = true; kernel_rfl) | exact True.intro | exact Or.inr rfl | exact Or.inl rfl
                | with_reducible exact Int.natCast_nonneg _
                | skip
              all_goals first
                | (show Alive _ _; exact rfl)
                | (refine ⟨L.length - (i + 1), by omega, i + 1, ?_, by omega, rfl⟩
                   refine (congrArg (fun z : Int => (([.ptr 5 1 0, .val false [.sl true 54 L], .val false [.i .i64 L.length], .val false [.i .i64 z]], [(1, [.val false [.sl true 54 _]])]) : Snap)) (wrapN hlt hlm)).trans ?_
                   exact congrArg (fun q : List (List D) => (([.ptr 5 1 0, .val false [.sl true 54 L], .val false [.i .i64 L.length], .val false [.i .i64 ((i + 1 : Nat) : Int)]], [(1, [.val false [.sl true 54 q]])]) : Snap)) (mD_skip hlt hkn)))
           | (show awp _ _ _ Code.skip _ _
              refine OkC.forgetTo [5, 16, 17, 18] [5] ([.ptr 5 1 0, .val false [.sl true 54 L], .val false [.i .i64 L.length], .val false [.i .i64 (i : Int)]], [(1, [.val false [.sl true 54 _]])]) rfl rfl ?_
              refine OkC.of_awp tabT hE mixed ?_
              repeat' first
                | (refine And.intro ?_ ?_)
                | (intro h; simp only [reduceCtorEq] at h; done)
                | (intro h; exact absurd h (by decide))
                | (intro h; exact absurd hlt (nltN h))
                | (intro h; exact absurd (ltN h) hge)
                | (intro h; rw [h])
                | (intro h)
              all_goals first
                | (show lowEdges _ = true; kernel_rfl) | (show logOk _ _ = true; kernel_rfl) | exact True.intro | exact Or.inr rfl | exact Or.inl rfl
                | with_reducible exact Int.natCast_nonneg _
                | skip
              all_goals first
                | (show Alive _ _; exact rfl)
                | (refine ⟨L.length - (i + 1), by omega, i + 1, ?_, by omega, rfl⟩
                   refine (congrArg (fun z : Int => (([.ptr 5 1 0, .val false [.sl true 54 L], .val false [.i .i64 L.length], .val false [.i .i64 z]], [(1, [.val false [.sl true 54 _]])]) : Snap)) (wrapN hlt hlm)).trans ?_
                   exact congrArg (fun q : List (List D) => (([.ptr 5 1 0, .val false [.sl true 54 L], .val false [.i .i64 L.length], .val false [.i .i64 ((i + 1 : Nat) : Int)]], [(1, [.val false [.sl true 54 q]])]) : Snap)) (mD_skip hlt hkn)))
           | skip)
      | skip
end Go.Proofs.YtaecbmjmcpdgdaaGreat.Ab
