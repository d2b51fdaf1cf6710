/- Drawn edits and histories: printed by a program of this claim. -/
import Derived.Test.YtodddilaniojgaaGreatCJe
import Derived.Test.YtodddilaniojgaaGreatCHz
import Derived.Test.YtodddilaniojgaaGreatCGz
namespace Go.Proofs.YtodddilaniojgaaGreat.Ab
open Go.RowKit
set_option linter.unusedVariables false
set_option linter.unusedSimpArgs false
set_option maxRecDepth 100000
set_option maxHeartbeats 2000000
theorem any43 : AnyD Tryz.prog T 43 5 (fun m => m = [.val false [.i .i64 5]]) (fun x : List (List D) => .val true [.sl false 72 x]) (fun (m : List SV) (x : List (List D)) => (∀ r ∈ x, CelD r) ∧ x.length ≤ 5) := by
  obtain ⟨g61, k61, q61⟩ := any61
  refine AnyD.of (fun _ => []) (fun _ _ => ⟨all0, Nat.zero_le _⟩) (fokBA (α := List (List D) × Int × Int) (fun _ z => (fun x : List (List D) => .val true [.sl false 72 x]) z.1) (fun a z => curU 5 a z.2.1 z.2.2) (post := fun a z => CurOk (rowsOf a) z.2.1 ∧ (fun (m : List SV) (x : List (List D)) => (∀ r ∈ x, CelD r) ∧ x.length ≤ 5) a.tail z.1) (env := envL [(44, (spBelow 5)), (61, spD 5 (fun m => ∃ n : Int, m = [.val false [.i .i64 n]]) (fun x : CLs => .val true [.i .i64 x.id, .i .i64 x.ve, .i .i64 x.k, .s x.nm, .s x.cd, .i .i64 x.n]) g61), (45, (spOnce 5))]) (N := 59) tabT (envL_cons ok44 (envL_cons k61 (envL_cons ok45 envL_nil))) mixed Tryz.func43 rfl Tryz.call43 Tryz.ntmps43 ?_)
  rintro cs args ⟨rows, i, h0, more, ok, hp, he⟩ hwf
  obtain ⟨rfl, rfl⟩ : cs = curC 5 rows i h0 ∧ args = more := by simpa only [List.cons.injEq, SV.tup.injEq, Prod.mk.injEq, true_and, and_true] using he
  obtain rfl := hp
  refine ⟨by simp, ?_⟩
  clear he hwf
  rw [Tryz.results43]
  repeat' first
    | (refine And.intro ?_ ?_)
    | (intro h; simp only [reduceCtorEq] at h; done)
    | (intro h; rw [h])
    | (intro h)
  all_goals first
    | (show lowEdges _ = true; kernel_rfl) | (show logOk _ _ = true; kernel_rfl) | exact True.intro | exact Or.inr rfl | exact Or.inl rfl
    | (show Alive _ _; rfl)
    | (show List.length _ = _; rfl)
    | refine ⟨_, _, _, _, ?_, ⟨by decide, by decide⟩, rfl⟩
    | refine ⟨_, _, _, ?_, rfl⟩
    | refine ⟨_, _, _, _, ?_, ⟨_, rfl⟩, rfl⟩
    | skip
  all_goals try ((with_reducible show CurOk _ _); repeat (first | exact ok | exact ok1 | exact ok2 | refine byteI_ok ?_ | refine (q61 _ _ _ _ ?_ ⟨_, rfl⟩).1))
  refine awp_loop (Q := _) [0, 4, 5, 6, 7] [59, 4, 5] (fun q s => ∃ (n z : Int) (x : List (List D)) (I H : Int), s = ([.ptr 59 0 0, .ptr 4 1 0, .ptr 5 1 0, .val false [.i .i64 n], .val false [.i .i64 z]], [(0, [.val false [.sl false 5 rows], .val false [.i .i64 I], .val false [.i .i64 H]]), (1, [.val false [.sl true 72 ([])]]), (1, [.val false [.sl false 72 (x)]])]) ∧ 0 ≤ n ∧ n ≤ 5 ∧ CurOk rows I ∧ (∀ r ∈ x, CelD r) ∧ x.length = z.toNat ∧ 0 ≤ z ∧ z ≤ n ∧ q = n.toNat - z.toNat) ?_ ?_
  · exact ⟨rfl, _, _, 0, _, _, _, rfl, (belowR_in (rows := rows) (i := i) (h := h0) (n := 6) ⟨by decide, by decide⟩).1, Int.le_of_lt_add_one (belowR_in (rows := rows) (i := i) (h := h0) (n := 6) ⟨by decide, by decide⟩).2, byteI_ok ok, all0, rfl, by decide, (belowR_in (rows := rows) (i := i) (h := h0) (n := 6) ⟨by decide, by decide⟩).1, rfl⟩
  rintro q s ⟨n, z, x, I, H, rfl, hn0, hn1, ok1, hA, hxl, h1, h2, h3⟩
  have hx5 : x.length ≤ 5 := by omega
  have hw : IntKind.i64.wrap ((x.length : Int) + 1) = (x.length : Int) + 1 := IntWalk.i64_in _ (by omega)
  repeat' first
    | (refine And.intro ?_ ?_)
    | (intro h; simp only [reduceCtorEq] at h; done)
    | (intro h; rw [h])
    | (intro h)
  all_goals first
    | (show lowEdges _ = true; kernel_rfl) | (show logOk _ _ = true; kernel_rfl) | exact True.intro | exact Or.inr rfl | exact Or.inl rfl
    | (show Alive _ _; rfl)
    | (show List.length _ = _; rfl)
    | exact ⟨_, _, _, _, (by repeat (first | exact ok | exact ok1 | exact ok2 | refine byteI_ok ?_ | refine (q61 _ _ _ _ ?_ ⟨_, rfl⟩).1)), ⟨_, rfl⟩, rfl⟩
    | exact ⟨_, _, _, _, (by repeat (first | exact ok | exact ok1 | exact ok2 | refine byteI_ok ?_ | refine (q61 _ _ _ _ ?_ ⟨_, rfl⟩).1)), ⟨by decide, by decide⟩, rfl⟩
    | exact ⟨_, _, _, _, (by repeat (first | exact ok | exact ok1 | exact ok2 | refine byteI_ok ?_ | refine (q61 _ _ _ _ ?_ ⟨_, rfl⟩).1)), ⟨by rw [hw]; omega, by rw [hw]; omega⟩, rfl⟩
    | (have hz : z < n := of_decide_eq_true ‹decide (z < n) = true›
       first
         | exact h1
         | (show z < ((8 : Nat) : Int); omega)
         | (show z.toNat < 8; omega)
         | exact Int.le_refl _
         | exact (belowR_in (rows := rows) (i := _) (h := _) (n := IntKind.i64.wrap ((x.length : Int) + 1)) ⟨by rw [hw]; omega, by rw [hw]; omega⟩).1
         | exact Int.le_of_lt_add_one (Int.lt_of_lt_of_le (belowR_in ⟨by rw [hw]; omega, by rw [hw]; omega⟩).2 (Int.le_of_eq hw))
         | ((with_reducible show (_ : Nat) ≤ _); simp only [List.length_append, List.length_drop, List.length_take, List.length_cons, List.length_nil, maxLen]; omega)
         | (refine ⟨n.toNat - (z + 1).toNat, by omega, n, z + 1, _, _, _, congrArg (fun q => (([.ptr 59 0 0, .ptr 4 1 0, .ptr 5 1 0, .val false [.i .i64 _], .val false [.i .i64 q]], [(0, [.val false [.sl false 5 rows], .val false [.i .i64 _], .val false [.i .i64 _]]), (1, [.val false [.sl true 72 ([])]]), (1, [.val false [.sl false 72 (_)]])]) : Snap)) (wrap_i64_in (by omega) (by omega)), hn0, hn1, (by repeat (first | exact ok | exact ok1 | exact ok2 | refine byteI_ok ?_ | refine (q61 _ _ _ _ ?_ ⟨_, rfl⟩).1)), ?_, ?_, by omega, by omega, rfl⟩
            · exact allApp (allApp (allApp all0 (allDrop (allTake hA _) _)) (allSnoc all0 (CelD.mk _ _ _ _ _ (q61 _ _ _ _ (by repeat (first | exact ok | exact ok1 | exact ok2 | refine byteI_ok ?_ | refine (q61 _ _ _ _ ?_ ⟨_, rfl⟩).1)) ⟨_, rfl⟩).2.2.1.2))) (allDrop (allTake hA _) _)
            · simp only [List.length_append, List.length_drop, List.length_take, List.length_cons, List.length_nil]; omega))
    | (refine ⟨(_, _, _), ⟨ok1, hA, hx5⟩, rfl, rfl, True.intro⟩)
    | skip
theorem any44z : AnyD Tryz.prog T 44 5 (fun m => ∃ n : Int, n ≤ 1048577 ∧ m = [.val false [.i .i64 n]]) (fun x : Int => .val false [.i .i64 x]) (fun (m : List SV) (x : Int) => 1 ≤ nOfM m → 0 ≤ x ∧ x < nOfM m) := by
  refine AnyD.of (fun _ => 0) (fun m _ h => ⟨Int.le_refl 0, (show 0 < nOfM m by omega)⟩) (fokBA (α := Int × Int × Int) (fun _ z => (fun x : Int => .val false [.i .i64 x]) z.1) (fun a z => curU 5 a z.2.1 z.2.2) (post := fun a z => CurOk (rowsOf a) z.2.1 ∧ (fun (m : List SV) (x : Int) => 1 ≤ nOfM m → 0 ≤ x ∧ x < nOfM m) a.tail z.1) (env := envL [(62, (spByte 5))]) (N := 37) tabT (envL_cons ok62 envL_nil) mixed Tryz.func44 rfl Tryz.call44 Tryz.ntmps44 ?_)
  rintro cs args ⟨rows, i, h0, more, ok, hp, he⟩ hwf
  obtain ⟨rfl, rfl⟩ : cs = curC 5 rows i h0 ∧ args = more := by simpa only [List.cons.injEq, SV.tup.injEq, Prod.mk.injEq, true_and, and_true] using he
  obtain ⟨n, hn, rfl⟩ := hp
  refine ⟨by simp, ?_⟩
  clear he hwf
  rw [Tryz.results44]
  repeat' first
    | (refine And.intro ?_ ?_)
    | (intro h; simp only [reduceCtorEq] at h; done)
    | (intro h; rw [h])
    | (intro h)
  all_goals first
    | (show lowEdges _ = true; kernel_rfl) | (show logOk _ _ = true; kernel_rfl) | exact True.intro | exact Or.inr rfl | exact Or.inl rfl
    | (show Alive _ _; rfl)
    | (show List.length _ = _; rfl)
    | refine ⟨_, _, _, _, ?_, ⟨by decide, by decide⟩, rfl⟩
    | refine ⟨_, _, _, ?_, rfl⟩
    | (have hn1 : 1 ≤ n ∧ n ≤ 1048577 := ⟨(by have := of_decide_eq_false (show decide (n ≤ 0) = false by with_reducible assumption); omega), hn⟩; first | exact tmK (byteR_in _ _ _).1 hn1 | exact (tmK (byteR_in _ _ _).1 hn1).1 | exact (tmK (byteR_in _ _ _).1 hn1).2 | exact (tmK big4 hn1).1 | exact (tmK big4 hn1).2 | (have := hn1.1; omega))
    | (refine ⟨(_, _, _), ⟨?_, ?_⟩, rfl, rfl, True.intro⟩; rotate_left; focus ((intro h1; have h2 := of_decide_eq_true (show decide (n ≤ 0) = true by with_reducible assumption); exact absurd (show 1 ≤ n from h1) (by omega))))
    | (refine ⟨(_, _, _), ⟨?_, ?_⟩, rfl, rfl, True.intro⟩; rotate_left; focus ((have hn1 : 1 ≤ n ∧ n ≤ 1048577 := ⟨(by have := of_decide_eq_false (show decide (n ≤ 0) = false by with_reducible assumption); omega), hn⟩; exact fun _ => tm_in (byteR_in _ _ _).1 hn1.1)))
    | (refine ⟨(_, _, _), ⟨?_, ?_⟩, rfl, rfl, True.intro⟩; rotate_left; focus ((have hn1 : 1 ≤ n ∧ n ≤ 1048577 := ⟨(by have := of_decide_eq_false (show decide (n ≤ 0) = false by with_reducible assumption); omega), hn⟩; exact fun _ => tm_in big4 hn1.1)))
    | skip
  all_goals repeat (first | exact ok | exact ok1 | exact ok2 | refine byteI_ok ?_)
theorem any46z : AnyD Tryz.prog T 46 5 (fun m => ∃ l : List (List D), smallN (l.length : Int) ∧ m = [argS 3 l]) (fun x : Int => .val false [.i .i64 x]) (fun (m : List SV) (x : Int) => ∀ P : Int → Prop, (∀ r ∈ rowsM m, P (r.getD 0 default).int) → P x) := by
  refine AnyD.of (fun m => (((rowsM m).getD 0 []).getD 0 default).int) ((by rintro m ⟨l, hl, rfl⟩ P h; exact h _ (hd_mem hl))) (fokBA (α := Int × Int × Int) (fun _ z => (fun x : Int => .val false [.i .i64 x]) z.1) (fun a z => curU 5 a z.2.1 z.2.2) (post := fun a z => CurOk (rowsOf a) z.2.1 ∧ (fun (m : List SV) (x : Int) => ∀ P : Int → Prop, (∀ r ∈ rowsM m, P (r.getD 0 default).int) → P x) a.tail z.1) (env := envL [(44, (spBelow 5))]) (N := 12) tabT (envL_cons ok44 envL_nil) mixed Tryz.func46 rfl Tryz.call46 Tryz.ntmps46 ?_)
  rintro cs args ⟨rows, i, h0, more, ok, hp, he⟩ hwf
  obtain ⟨rfl, rfl⟩ : cs = curC 5 rows i h0 ∧ args = more := by simpa only [List.cons.injEq, SV.tup.injEq, Prod.mk.injEq, true_and, and_true] using he
  obtain ⟨l, hl, rfl⟩ := hp
  refine ⟨by simp, ?_⟩
  clear he hwf
  rw [Tryz.results46]
  repeat' first
    | (refine And.intro ?_ ?_)
    | (intro h; simp only [reduceCtorEq] at h; done)
    | (intro h; rw [h])
    | (intro h)
  all_goals first
    | (show lowEdges _ = true; kernel_rfl) | (show logOk _ _ = true; kernel_rfl) | exact True.intro | exact Or.inr rfl | exact Or.inl rfl
    | (show Alive _ _; rfl)
    | (show List.length _ = _; rfl)
    | refine ⟨_, _, _, _, ?_, ⟨by decide, by decide⟩, rfl⟩
    | refine ⟨_, _, _, ?_, rfl⟩
    | exact (belowR_in hl).1
    | exact (belowR_in hl).2
    | refine ⟨_, _, _, _, ?_, hl, rfl⟩
    | (refine ⟨(_, _, _), ⟨?_, ?_⟩, rfl, rfl, True.intro⟩; rotate_left; focus (exact fun P h => h _ (at_mem (belowR_in hl).1 (belowR_in hl).2)))
    | skip
  all_goals repeat (first | exact ok | exact ok1 | exact ok2 | refine byteI_ok ?_)
set_option maxHeartbeats 8000000 in
theorem any47 : AnyD Tryz.prog T 47 5 (fun m => ∃ l : List (List D), l.length ≤ 1048576 ∧ m = [nbA false 72 l]) (fun x : EDx => .val true [.i .i64 x.k, .i .i64 x.at_, .i .i64 x.id, .i .i64 x.ve, .i .i64 x.kd, .s x.nm, .s x.cd, .i .i64 x.n]) (fun (m : List SV) (x : EDx) => x.ve ≤ 3) := by
  obtain ⟨g44z, k44z, q44z⟩ := any44z
  obtain ⟨g61, k61, q61⟩ := any61
  obtain ⟨g63, k63, q63⟩ := any63
  have hE : EnvOk Tryz.prog T (envL [(44, spD 5 (fun m => ∃ n : Int, n ≤ 1048577 ∧ m = [.val false [.i .i64 n]]) (fun x : Int => .val false [.i .i64 x]) g44z), (45, (spOnce 5)), (61, spD 5 (fun m => ∃ n : Int, m = [.val false [.i .i64 n]]) (fun x : CLs => .val true [.i .i64 x.id, .i .i64 x.ve, .i .i64 x.k, .s x.nm, .s x.cd, .i .i64 x.n]) g61), (63, spD 5 (fun m => m = []) (fun x : ByteArray => .val false [.s x]) g63)]) := (envL_cons k44z (envL_cons ok45 (envL_cons k61 (envL_cons k63 envL_nil))))
  refine AnyD.of (fun _ => ⟨0, 0, 0, 0, 0, ⟨#[]⟩, ⟨#[]⟩, 0⟩) (fun _ _ => (by decide : (0 : Int) ≤ 3)) (fokBSA (α := EDx × Int × Int) (fun _ z => (fun x : EDx => .val true [.i .i64 x.k, .i .i64 x.at_, .i .i64 x.id, .i .i64 x.ve, .i .i64 x.kd, .s x.nm, .s x.cd, .i .i64 x.n]) z.1) (fun a z => curU 5 a z.2.1 z.2.2) (post := fun a z => CurOk (rowsOf a) z.2.1 ∧ (fun (m : List SV) (x : EDx) => x.ve ≤ 3) a.tail z.1) (N := 100) tabT Tryz.func47 rfl Tryz.call47 Tryz.ntmps47 ?_)
  rintro cs args ⟨rows, i, h0, more, ok, hp, he⟩ hwf
  obtain ⟨rfl, rfl⟩ : cs = curC 5 rows i h0 ∧ args = more := by simpa only [List.cons.injEq, SV.tup.injEq, Prod.mk.injEq, true_and, and_true] using he
  obtain ⟨l, hl, rfl⟩ := hp
  refine ⟨by simp, ?_⟩
  clear he hwf
  rw [Tryz.results47]
  refine Snd.cut2 tabT hE mixed [0, 3, 4, 5] [100, 3, 4, 5] (fun q => ∃ k at_ I H : Int, q = ([.ptr 100 0 0, .ptr 3 1 0, .ptr 4 1 0, .ptr 5 1 0], [(0, [.val false [.sl false 5 rows], .val false [.i .i64 I], .val false [.i .i64 H]]), (1, [.val false [.sl false 72 (l)]]), (1, [.val false [.i .i64 0], .val false [.i .i64 0], .val false [.i .i64 0], .val false [.i .i64 0], .val false [.i .i64 0], .val false [.s ByteArray.empty], .val false [.s ByteArray.empty], .val false [.i .i64 0]]), (1, [.val false [.i .i64 k], .val false [.i .i64 at_], .val false [.i .i64 0], .val false [.i .i64 0], .val false [.i .i64 0], .val false [.s ByteArray.empty], .val false [.s ByteArray.empty], .val false [.i .i64 0]])]) ∧ CurOk rows I) ?_ ?_
  · repeat' first
      | (refine And.intro ?_ ?_)
      | (intro h; simp only [reduceCtorEq] at h; done)
      | (intro h; rw [h])
      | (intro h)
    all_goals first
      | (show lowEdges _ = true; kernel_rfl) | (show logOk _ _ = true; kernel_rfl) | exact True.intro | exact Or.inr rfl | exact Or.inl rfl
      | (show Alive _ _; rfl)
      | (show List.length _ = _; rfl)
      | refine ⟨_, _, _, _, ?_, ⟨by decide, by decide⟩, rfl⟩
      | refine ⟨_, _, _, ?_, rfl⟩
      | refine ⟨_, _, _, _, ?_, ⟨_, (by decide), rfl⟩, rfl⟩
      | refine ⟨_, _, _, _, ?_, ⟨_, (show ((l.length : Nat) : Int) ≤ 1048577 by omega), rfl⟩, rfl⟩
      | refine ⟨_, _, _, _, ?_, ⟨_, rfl⟩, rfl⟩
      | refine ⟨_, _, _, _, ?_, rfl, rfl⟩
      | (refine ⟨_, _, _, _, rfl, ?_⟩)
      | skip
    all_goals try ((with_reducible show CurOk _ _); repeat (first | exact ok | exact ok1 | exact ok2 | refine byteI_ok ?_ | refine (q61 _ _ _ _ ?_ ⟨_, rfl⟩).1 | refine (q44z _ _ _ _ ?_ (by first | exact ⟨_, (by decide), rfl⟩ | exact ⟨_, (show ((l.length : Nat) : Int) ≤ 1048577 by omega), rfl⟩)).1 | refine (q63 _ _ _ _ ?_ rfl).1))
  clear ok
  rintro q ⟨k, at_, I, H, rfl, ok1⟩
  refine Snd.cut2 tabT hE mixed [0, 3, 4, 5] [100, 3, 4, 5] (fun q => ∃ k at_ I H : Int, q = ([.ptr 100 0 0, .ptr 3 1 0, .ptr 4 1 0, .ptr 5 1 0], [(0, [.val false [.sl false 5 rows], .val false [.i .i64 I], .val false [.i .i64 H]]), (1, [.val false [.sl false 72 (l)]]), (1, [.val false [.i .i64 0], .val false [.i .i64 0], .val false [.i .i64 0], .val false [.i .i64 0], .val false [.i .i64 0], .val false [.s ByteArray.empty], .val false [.s ByteArray.empty], .val false [.i .i64 0]]), (1, [.val false [.i .i64 k], .val false [.i .i64 at_], .val false [.i .i64 0], .val false [.i .i64 0], .val false [.i .i64 0], .val false [.s ByteArray.empty], .val false [.s ByteArray.empty], .val false [.i .i64 0]])]) ∧ CurOk rows I) ?_ ?_
  · repeat' first
      | (refine And.intro ?_ ?_)
      | (intro h; simp only [reduceCtorEq] at h; done)
      | (intro h; rw [h])
      | (intro h)
    all_goals first
      | (show lowEdges _ = true; kernel_rfl) | (show logOk _ _ = true; kernel_rfl) | exact True.intro | exact Or.inr rfl | exact Or.inl rfl
      | (show Alive _ _; rfl)
      | (show List.length _ = _; rfl)
      | refine ⟨_, _, _, _, ?_, ⟨by decide, by decide⟩, rfl⟩
      | refine ⟨_, _, _, ?_, rfl⟩
      | refine ⟨_, _, _, _, ?_, ⟨_, (by decide), rfl⟩, rfl⟩
      | refine ⟨_, _, _, _, ?_, ⟨_, (show ((l.length : Nat) : Int) ≤ 1048577 by omega), rfl⟩, rfl⟩
      | refine ⟨_, _, _, _, ?_, ⟨_, rfl⟩, rfl⟩
      | refine ⟨_, _, _, _, ?_, rfl, rfl⟩
      | exact ⟨_, _, _, _, rfl, ok1⟩
      | (refine ⟨_, _, _, _, rfl, ?_⟩)
      | (refine ⟨(⟨_, _, _, _, _, _, _, _⟩, _, _), ⟨?_, (q61 _ _ _ _ (by repeat (first | exact ok | exact ok1 | exact ok2 | refine byteI_ok ?_ | refine (q61 _ _ _ _ ?_ ⟨_, rfl⟩).1 | refine (q44z _ _ _ _ ?_ (by first | exact ⟨_, (by decide), rfl⟩ | exact ⟨_, (show ((l.length : Nat) : Int) ≤ 1048577 by omega), rfl⟩)).1 | refine (q63 _ _ _ _ ?_ rfl).1)) ⟨_, rfl⟩).2.2.1.2⟩, rfl, rfl, True.intro⟩)
      | skip
    all_goals try ((with_reducible show CurOk _ _); repeat (first | exact ok | exact ok1 | exact ok2 | refine byteI_ok ?_ | refine (q61 _ _ _ _ ?_ ⟨_, rfl⟩).1 | refine (q44z _ _ _ _ ?_ (by first | exact ⟨_, (by decide), rfl⟩ | exact ⟨_, (show ((l.length : Nat) : Int) ≤ 1048577 by omega), rfl⟩)).1 | refine (q63 _ _ _ _ ?_ rfl).1))
  clear ok1
  rintro q ⟨k, at_, I, H, rfl, ok1⟩
  refine Snd.cut2 tabT hE mixed [0, 4, 5, 6] [100, 4, 5, 6] (fun q => ∃ (k at_ id ve kd n I H : Int) (nm cd : ByteArray), q = ([.ptr 100 0 0, .ptr 4 1 0, .ptr 5 1 0, .ptr 6 1 0], [(0, [.val false [.sl false 5 rows], .val false [.i .i64 I], .val false [.i .i64 H]]), (1, [.val false [.i .i64 0], .val false [.i .i64 0], .val false [.i .i64 0], .val false [.i .i64 0], .val false [.i .i64 0], .val false [.s ByteArray.empty], .val false [.s ByteArray.empty], .val false [.i .i64 0]]), (1, [.val false [.i .i64 k], .val false [.i .i64 at_], .val false [.i .i64 0], .val false [.i .i64 0], .val false [.i .i64 0], .val false [.s ByteArray.empty], .val false [.s ByteArray.empty], .val false [.i .i64 0]]), (1, [.val false [.i .i64 id], .val false [.i .i64 ve], .val false [.i .i64 kd], .val false [.s nm], .val false [.s cd], .val false [.i .i64 n]])]) ∧ CurOk rows I ∧ ve ≤ 3) ?_ ?_
  · repeat' first
      | (refine And.intro ?_ ?_)
      | (intro h; simp only [reduceCtorEq] at h; done)
      | (intro h; rw [h])
      | (intro h)
    all_goals first
      | (show lowEdges _ = true; kernel_rfl) | (show logOk _ _ = true; kernel_rfl) | exact True.intro | exact Or.inr rfl | exact Or.inl rfl
      | (show Alive _ _; rfl)
      | (show List.length _ = _; rfl)
      | refine ⟨_, _, _, _, ?_, ⟨by decide, by decide⟩, rfl⟩
      | refine ⟨_, _, _, ?_, rfl⟩
      | refine ⟨_, _, _, _, ?_, ⟨_, (by decide), rfl⟩, rfl⟩
      | refine ⟨_, _, _, _, ?_, ⟨_, (show ((l.length : Nat) : Int) ≤ 1048577 by omega), rfl⟩, rfl⟩
      | refine ⟨_, _, _, _, ?_, ⟨_, rfl⟩, rfl⟩
      | refine ⟨_, _, _, _, ?_, rfl, rfl⟩
      | exact ((q44z _ _ _ _ (by repeat (first | exact ok | exact ok1 | exact ok2 | refine byteI_ok ?_ | refine (q61 _ _ _ _ ?_ ⟨_, rfl⟩).1 | refine (q44z _ _ _ _ ?_ (by first | exact ⟨_, (by decide), rfl⟩ | exact ⟨_, (show ((l.length : Nat) : Int) ≤ 1048577 by omega), rfl⟩)).1 | refine (q63 _ _ _ _ ?_ rfl).1)) ⟨_, (show ((l.length : Nat) : Int) ≤ 1048577 by omega), rfl⟩).2 (show 1 ≤ ((l.length : Nat) : Int) by have := of_decide_eq_true (show decide (((l.length : Nat) : Int) > 0) = true by with_reducible assumption); omega)).1
      | exact ((q44z _ _ _ _ (by repeat (first | exact ok | exact ok1 | exact ok2 | refine byteI_ok ?_ | refine (q61 _ _ _ _ ?_ ⟨_, rfl⟩).1 | refine (q44z _ _ _ _ ?_ (by first | exact ⟨_, (by decide), rfl⟩ | exact ⟨_, (show ((l.length : Nat) : Int) ≤ 1048577 by omega), rfl⟩)).1 | refine (q63 _ _ _ _ ?_ rfl).1)) ⟨_, (show ((l.length : Nat) : Int) ≤ 1048577 by omega), rfl⟩).2 (show 1 ≤ ((l.length : Nat) : Int) by have := of_decide_eq_true (show decide (((l.length : Nat) : Int) > 0) = true by with_reducible assumption); omega)).2
      | (refine ⟨_, _, _, _, _, _, _, _, _, _, rfl, ?_, (q61 _ _ _ _ (by repeat (first | exact ok | exact ok1 | exact ok2 | refine byteI_ok ?_ | refine (q61 _ _ _ _ ?_ ⟨_, rfl⟩).1 | refine (q44z _ _ _ _ ?_ (by first | exact ⟨_, (by decide), rfl⟩ | exact ⟨_, (show ((l.length : Nat) : Int) ≤ 1048577 by omega), rfl⟩)).1 | refine (q63 _ _ _ _ ?_ rfl).1)) ⟨_, rfl⟩).2.2.1.2⟩)
      | skip
    all_goals try ((with_reducible show CurOk _ _); repeat (first | exact ok | exact ok1 | exact ok2 | refine byteI_ok ?_ | refine (q61 _ _ _ _ ?_ ⟨_, rfl⟩).1 | refine (q44z _ _ _ _ ?_ (by first | exact ⟨_, (by decide), rfl⟩ | exact ⟨_, (show ((l.length : Nat) : Int) ≤ 1048577 by omega), rfl⟩)).1 | refine (q63 _ _ _ _ ?_ rfl).1))
  clear ok1
  rintro q ⟨k, at_, id, ve, kd, n, I, H, nm, cd, rfl, ok1, hve⟩
  refine Snd.cut2 tabT hE mixed [0, 4, 5] [100, 4, 5] (fun q => ∃ (k at_ id ve kd n I H : Int) (nm cd : ByteArray), q = ([.ptr 100 0 0, .ptr 4 1 0, .ptr 5 1 0], [(0, [.val false [.sl false 5 rows], .val false [.i .i64 I], .val false [.i .i64 H]]), (1, [.val false [.i .i64 0], .val false [.i .i64 0], .val false [.i .i64 0], .val false [.i .i64 0], .val false [.i .i64 0], .val false [.s ByteArray.empty], .val false [.s ByteArray.empty], .val false [.i .i64 0]]), (1, [.val false [.i .i64 k], .val false [.i .i64 at_], .val false [.i .i64 id], .val false [.i .i64 ve], .val false [.i .i64 kd], .val false [.s nm], .val false [.s cd], .val false [.i .i64 n]])]) ∧ CurOk rows I ∧ ve ≤ 3) ?_ ?_
  · repeat' first
      | (refine And.intro ?_ ?_)
      | (intro h; simp only [reduceCtorEq] at h; done)
      | (intro h; rw [h])
      | (intro h)
    all_goals first
      | (show lowEdges _ = true; kernel_rfl) | (show logOk _ _ = true; kernel_rfl) | exact True.intro | exact Or.inr rfl | exact Or.inl rfl
      | (show Alive _ _; rfl)
      | (show List.length _ = _; rfl)
      | refine ⟨_, _, _, _, ?_, ⟨by decide, by decide⟩, rfl⟩
      | refine ⟨_, _, _, ?_, rfl⟩
      | refine ⟨_, _, _, _, ?_, ⟨_, (by decide), rfl⟩, rfl⟩
      | refine ⟨_, _, _, _, ?_, ⟨_, (show ((l.length : Nat) : Int) ≤ 1048577 by omega), rfl⟩, rfl⟩
      | refine ⟨_, _, _, _, ?_, ⟨_, rfl⟩, rfl⟩
      | refine ⟨_, _, _, _, ?_, rfl, rfl⟩
      | (refine ⟨_, _, _, _, _, _, _, _, _, _, rfl, ?_, hve⟩)
      | skip
    all_goals try ((with_reducible show CurOk _ _); repeat (first | exact ok | exact ok1 | exact ok2 | refine byteI_ok ?_ | refine (q61 _ _ _ _ ?_ ⟨_, rfl⟩).1 | refine (q44z _ _ _ _ ?_ (by first | exact ⟨_, (by decide), rfl⟩ | exact ⟨_, (show ((l.length : Nat) : Int) ≤ 1048577 by omega), rfl⟩)).1 | refine (q63 _ _ _ _ ?_ rfl).1))
  clear ok1 hve
  rintro q ⟨k, at_, id, ve, kd, n, I, H, nm, cd, rfl, ok1, hve⟩
  refine Snd.of_awp tabT hE mixed ?_
  repeat' first
    | (refine And.intro ?_ ?_)
    | (intro h; simp only [reduceCtorEq] at h; done)
    | (intro h; rw [h])
    | (intro h)
  all_goals first
    | (show lowEdges _ = true; kernel_rfl) | (show logOk _ _ = true; kernel_rfl) | exact True.intro | exact Or.inr rfl | exact Or.inl rfl
    | (refine ⟨(⟨_, _, _, _, _, _, _, _⟩, _, _), ⟨?_, hve⟩, rfl, rfl, True.intro⟩)
    | (show Alive _ _; rfl)
    | (show List.length _ = _; rfl)
    | refine ⟨_, _, _, _, ?_, ⟨by decide, by decide⟩, rfl⟩
    | refine ⟨_, _, _, ?_, rfl⟩
    | refine ⟨_, _, _, _, ?_, ⟨_, (by decide), rfl⟩, rfl⟩
    | refine ⟨_, _, _, _, ?_, ⟨_, (show ((l.length : Nat) : Int) ≤ 1048577 by omega), rfl⟩, rfl⟩
    | refine ⟨_, _, _, _, ?_, ⟨_, rfl⟩, rfl⟩
    | refine ⟨_, _, _, _, ?_, rfl, rfl⟩
    | skip
  all_goals try ((with_reducible show CurOk _ _); repeat (first | exact ok | exact ok1 | exact ok2 | refine byteI_ok ?_ | refine (q61 _ _ _ _ ?_ ⟨_, rfl⟩).1 | refine (q44z _ _ _ _ ?_ (by first | exact ⟨_, (by decide), rfl⟩ | exact ⟨_, (show ((l.length : Nat) : Int) ≤ 1048577 by omega), rfl⟩)).1 | refine (q63 _ _ _ _ ?_ rfl).1))
theorem any21 : AnyD Tryz.prog T 21 5 (fun m => ∃ (l : List (List D)) (most : Int), (l.length ≤ 1048576 ∧ 0 ≤ most ∧ most ≤ 3) ∧ m = [nbA false 72 l, .val false [.i .i64 most]]) (fun x : List (List D) => .val false [.sl true 82 x]) (fun (m : List SV) (x : List (List D)) => (∀ r ∈ x, EdD r) ∧ (x.length : Int) ≤ mostM m) := by
  obtain ⟨g44z, k44z, q44z⟩ := any44z
  obtain ⟨g47, k47, q47⟩ := any47
  refine AnyD.of (fun _ => []) ((by rintro m ⟨l, most, h, rfl⟩; exact ⟨all0, h.2.1⟩)) (fokBA (α := List (List D) × Int × Int) (fun _ z => (fun x : List (List D) => .val false [.sl true 82 x]) z.1) (fun a z => curU 5 a z.2.1 z.2.2) (post := fun a z => CurOk (rowsOf a) z.2.1 ∧ (fun (m : List SV) (x : List (List D)) => (∀ r ∈ x, EdD r) ∧ (x.length : Int) ≤ mostM m) a.tail z.1) (env := envL [(44, spD 5 (fun m => ∃ n : Int, n ≤ 1048577 ∧ m = [.val false [.i .i64 n]]) (fun x : Int => .val false [.i .i64 x]) g44z), (47, spD 5 (fun m => ∃ l : List (List D), l.length ≤ 1048576 ∧ m = [nbA false 72 l]) (fun x : EDx => .val true [.i .i64 x.k, .i .i64 x.at_, .i .i64 x.id, .i .i64 x.ve, .i .i64 x.kd, .s x.nm, .s x.cd, .i .i64 x.n]) g47), (48, (spAp 72))]) (N := 35) tabT (envL_cons k44z (envL_cons k47 (envL_cons xk48 envL_nil))) mixed Tryz.func21 rfl Tryz.call21 Tryz.ntmps21 ?_)
  rintro cs args ⟨rows, i, h0, more, ok, hp, he⟩ hwf
  obtain ⟨rfl, rfl⟩ : cs = curC 5 rows i h0 ∧ args = more := by simpa only [List.cons.injEq, SV.tup.injEq, Prod.mk.injEq, true_and, and_true] using he
  obtain ⟨l, most, ⟨hl, hm0, hm1⟩, rfl⟩ := hp
  refine ⟨by simp, ?_⟩
  clear he hwf
  have hw : IntKind.i64.wrap (most + 1) = most + 1 := IntWalk.i64_in _ (by omega)
  rw [Tryz.results21]
  repeat' first
    | (refine And.intro ?_ ?_)
    | (intro h; simp only [reduceCtorEq] at h; done)
    | (intro h; rw [h])
    | (intro h)
  all_goals first
    | (show lowEdges _ = true; kernel_rfl) | (show logOk _ _ = true; kernel_rfl) | exact True.intro | exact Or.inr rfl | exact Or.inl rfl
    | (show Alive _ _; rfl)
    | (show List.length _ = _; rfl)
    | refine ⟨_, _, _, _, ?_, ⟨by decide, by decide⟩, rfl⟩
    | refine ⟨_, _, _, ?_, rfl⟩
    | refine ⟨_, _, _, _, ?_, ⟨_, (show IntKind.i64.wrap (most + 1) ≤ 1048577 by rw [hw]; omega), rfl⟩, rfl⟩
    | refine ⟨_, _, _, _, ?_, ⟨_, ‹_›, rfl⟩, rfl⟩
    | skip
  all_goals try ((with_reducible show CurOk _ _); repeat (first | exact ok | exact ok1 | exact ok2 | refine byteI_ok ?_ | refine (q44z _ _ _ _ ?_ ⟨_, (show IntKind.i64.wrap (most + 1) ≤ 1048577 by rw [hw]; omega), rfl⟩).1 | refine (q47 _ _ _ _ ?_ ⟨_, ‹_›, rfl⟩).1))
  refine awp_loop (Q := _) [0, 4, 7, 8, 9] [35, 4] (fun q s => ∃ (n z : Int) (o l2 : List (List D)) (I H : Int), s = ([.ptr 35 0 0, .ptr 4 1 0, .val false [.sl true 82 (o)], .val false [.i .i64 n], .val false [.i .i64 z]], [(0, [.val false [.sl false 5 rows], .val false [.i .i64 I], .val false [.i .i64 H]]), (1, [.val false [.sl false 72 (l2)]])]) ∧ 0 ≤ n ∧ n ≤ most ∧ CurOk rows I ∧ (∀ r ∈ o, EdD r) ∧ o.length = z.toNat ∧ l2.length ≤ 1048576 ∧ 0 ≤ z ∧ z ≤ n ∧ q = n.toNat - z.toNat) ?_ ?_
  · exact ⟨rfl, _, _, 0, _, l, _, _, rfl, ((q44z _ _ _ _ (by repeat (first | exact ok | exact ok1 | exact ok2 | refine byteI_ok ?_ | refine (q44z _ _ _ _ ?_ ⟨_, (show IntKind.i64.wrap (most + 1) ≤ 1048577 by rw [hw]; omega), rfl⟩).1 | refine (q47 _ _ _ _ ?_ ⟨_, ‹_›, rfl⟩).1)) ⟨_, (show IntKind.i64.wrap (most + 1) ≤ 1048577 by rw [hw]; omega), rfl⟩).2 (show 1 ≤ IntKind.i64.wrap (most + 1) by rw [hw]; omega)).1, Int.le_of_lt_add_one (Int.lt_of_lt_of_le ((q44z _ _ _ _ (by repeat (first | exact ok | exact ok1 | exact ok2 | refine byteI_ok ?_ | refine (q44z _ _ _ _ ?_ ⟨_, (show IntKind.i64.wrap (most + 1) ≤ 1048577 by rw [hw]; omega), rfl⟩).1 | refine (q47 _ _ _ _ ?_ ⟨_, ‹_›, rfl⟩).1)) ⟨_, (show IntKind.i64.wrap (most + 1) ≤ 1048577 by rw [hw]; omega), rfl⟩).2 (show 1 ≤ IntKind.i64.wrap (most + 1) by rw [hw]; omega)).2 (Int.le_of_eq hw)), (by repeat (first | exact ok | exact ok1 | exact ok2 | refine byteI_ok ?_ | refine (q44z _ _ _ _ ?_ ⟨_, (show IntKind.i64.wrap (most + 1) ≤ 1048577 by rw [hw]; omega), rfl⟩).1 | refine (q47 _ _ _ _ ?_ ⟨_, ‹_›, rfl⟩).1)), all0, rfl, hl, by decide, ((q44z _ _ _ _ (by repeat (first | exact ok | exact ok1 | exact ok2 | refine byteI_ok ?_ | refine (q44z _ _ _ _ ?_ ⟨_, (show IntKind.i64.wrap (most + 1) ≤ 1048577 by rw [hw]; omega), rfl⟩).1 | refine (q47 _ _ _ _ ?_ ⟨_, ‹_›, rfl⟩).1)) ⟨_, (show IntKind.i64.wrap (most + 1) ≤ 1048577 by rw [hw]; omega), rfl⟩).2 (show 1 ≤ IntKind.i64.wrap (most + 1) by rw [hw]; omega)).1, rfl⟩
  rintro q s ⟨n, z, o, l2, I, H, rfl, hn0, hn1, ok1, hA, hol, hl2, h1, h2, h3⟩
  repeat' first
    | (refine And.intro ?_ ?_)
    | (intro h; simp only [reduceCtorEq] at h; done)
    | (intro h; rw [h])
    | (intro h)
  all_goals first
    | (show lowEdges _ = true; kernel_rfl) | (show logOk _ _ = true; kernel_rfl) | exact True.intro | exact Or.inr rfl | exact Or.inl rfl
    | (show Alive _ _; rfl)
    | (show List.length _ = _; rfl)
    | exact ⟨_, _, _, _, (by repeat (first | exact ok | exact ok1 | exact ok2 | refine byteI_ok ?_ | refine (q44z _ _ _ _ ?_ ⟨_, (show IntKind.i64.wrap (most + 1) ≤ 1048577 by rw [hw]; omega), rfl⟩).1 | refine (q47 _ _ _ _ ?_ ⟨_, ‹_›, rfl⟩).1)), ⟨_, hl2, rfl⟩, rfl⟩
    | exact ⟨_, EDx.row _, hl2, rfl⟩
    | (show o.length + 1 ≤ maxLen; simp only [maxLen]; omega)
    | (show (o.length + 1) * 80 ≤ 140737488355328; omega)
    | (have hz : z < n := of_decide_eq_true ‹decide (z < n) = true›
       refine ⟨n.toNat - (z + 1).toNat, by omega, n, z + 1, _, _, _, _, congrArg (fun q => (([.ptr 35 0 0, .ptr 4 1 0, .val false [.sl true 82 (_)], .val false [.i .i64 _], .val false [.i .i64 q]], [(0, [.val false [.sl false 5 rows], .val false [.i .i64 _], .val false [.i .i64 _]]), (1, [.val false [.sl false 72 (_)]])]) : Snap)) (wrap_i64_in (by omega) (by omega)), hn0, hn1, (by repeat (first | exact ok | exact ok1 | exact ok2 | refine byteI_ok ?_ | refine (q44z _ _ _ _ ?_ ⟨_, (show IntKind.i64.wrap (most + 1) ≤ 1048577 by rw [hw]; omega), rfl⟩).1 | refine (q47 _ _ _ _ ?_ ⟨_, ‹_›, rfl⟩).1)), ?_, ?_, ?_, by omega, by omega, rfl⟩
       · exact allSnoc hA (EdD.mk _ (q47 _ _ _ _ (by repeat (first | exact ok | exact ok1 | exact ok2 | refine byteI_ok ?_ | refine (q44z _ _ _ _ ?_ ⟨_, (show IntKind.i64.wrap (most + 1) ≤ 1048577 by rw [hw]; omega), rfl⟩).1 | refine (q47 _ _ _ _ ?_ ⟨_, ‹_›, rfl⟩).1)) ⟨_, hl2, rfl⟩).2)
       · rw [List.length_append, hol]; show z.toNat + 1 = _; omega
       · exact ap_len hl2 (by decide))
    | (refine ⟨(_, _, _), ⟨ok1, hA, (show ((o.length : Nat) : Int) ≤ most by omega)⟩, rfl, rfl, True.intro⟩)
    | skip
theorem any20 : AnyD Tryz.prog T 20 5 (fun m => m = []) (fun x : H3 => .val true [.sl false 72 x.1, .sl false 55 x.2.1, .i .i64 x.2.2]) (fun (m : List SV) (x : H3) => SmH x ∧ HIn 2 759 x) := by
  obtain ⟨g43, k43, q43⟩ := any43
  obtain ⟨g44z, k44z, q44z⟩ := any44z
  obtain ⟨g21, k21, q21⟩ := any21
  obtain ⟨g46z, k46z, q46z⟩ := any46z
  refine AnyD.of (fun _ => ([], [], 0)) (fun _ _ => ⟨z_SmH, z_HIn⟩) (fokBA (α := H3 × Int × Int) (fun _ z => (fun x : H3 => .val true [.sl false 72 x.1, .sl false 55 x.2.1, .i .i64 x.2.2]) z.1) (fun a z => curU 5 a z.2.1 z.2.2) (post := fun a z => CurOk (rowsOf a) z.2.1 ∧ (fun (m : List SV) (x : H3) => SmH x ∧ HIn 2 759 x) a.tail z.1) (env := envL [(43, spD 5 (fun m => m = [.val false [.i .i64 5]]) (fun x : List (List D) => .val true [.sl false 72 x]) g43), (42, (spNewH 72 55)), (44, spD 5 (fun m => ∃ n : Int, n ≤ 1048577 ∧ m = [.val false [.i .i64 n]]) (fun x : Int => .val false [.i .i64 x]) g44z), (40, (spUn 72 55)), (16, (spGo 72 55)), (21, spD 5 (fun m => ∃ (l : List (List D)) (most : Int), (l.length ≤ 1048576 ∧ 0 ≤ most ∧ most ≤ 3) ∧ m = [nbA false 72 l, .val false [.i .i64 most]]) (fun x : List (List D) => .val false [.sl true 82 x]) g21), (8, (spDo 72 55 82)), (45, (spOnce 5)), (46, spD 5 (fun m => ∃ l : List (List D), smallN (l.length : Int) ∧ m = [argS 3 l]) (fun x : Int => .val false [.i .i64 x]) g46z)]) (N := 60) tabT (envL_cons k43 (envL_cons xk42 (envL_cons k44z (envL_cons xk40 (envL_cons xk16 (envL_cons k21 (envL_cons xk8 (envL_cons ok45 (envL_cons k46z envL_nil))))))))) mixed Tryz.func20 rfl Tryz.call20 Tryz.ntmps20 ?_)
  rintro cs args ⟨rows, i, h0, more, ok, hp, he⟩ hwf
  obtain ⟨rfl, rfl⟩ : cs = curC 5 rows i h0 ∧ args = more := by simpa only [List.cons.injEq, SV.tup.injEq, Prod.mk.injEq, true_and, and_true] using he
  obtain rfl := hp
  refine ⟨by simp, ?_⟩
  clear he hwf
  rw [Tryz.results20]
  repeat' first
    | (refine And.intro ?_ ?_)
    | (intro h; simp only [reduceCtorEq] at h; done)
    | (intro h; rw [h])
    | (intro h)
  all_goals first
    | (show lowEdges _ = true; kernel_rfl) | (show logOk _ _ = true; kernel_rfl) | exact True.intro | exact Or.inr rfl | exact Or.inl rfl
    | (show Alive _ _; rfl)
    | (show List.length _ = _; rfl)
    | refine ⟨_, _, _, _, ?_, ⟨by decide, by decide⟩, rfl⟩
    | refine ⟨_, _, _, ?_, rfl⟩
    | refine ⟨_, _, _, _, ?_, rfl, rfl⟩
    | refine ⟨_, _, _, _, ?_, (by first | exact ⟨_, (by decide), rfl⟩ | exact ⟨_, (show ((ns.length : Nat) : Int) ≤ 1048577 by omega), rfl⟩), rfl⟩
    | refine ⟨_, _, _, _, ?_, ⟨_, _, ⟨hs.1, by decide, by decide⟩, rfl⟩, rfl⟩
    | refine ⟨_, _, _, _, ?_, ⟨_, small2 (-1) (ns.length : Int), rfl⟩, rfl⟩
    | exact ⟨_, Nat.le_trans (q43 _ _ _ _ (by repeat (first | exact ok | exact ok1 | exact ok2 | refine byteI_ok ?_ | refine (q43 _ _ _ _ ?_ rfl).1 | refine (q44z _ _ _ _ ?_ (by first | exact ⟨_, (by decide), rfl⟩ | exact ⟨_, (show ((ns.length : Nat) : Int) ≤ 1048577 by omega), rfl⟩)).1 | refine (q21 _ _ _ _ ?_ ⟨_, _, ⟨hs.1, by decide, by decide⟩, rfl⟩).1 | refine (q46z _ _ _ _ ?_ ⟨_, small2 (-1) (ns.length : Int), rfl⟩).1)) rfl).2.2 (by decide), rfl⟩
    | skip
  all_goals try ((with_reducible show CurOk _ _); repeat (first | exact ok | exact ok1 | exact ok2 | refine byteI_ok ?_ | refine (q43 _ _ _ _ ?_ rfl).1 | refine (q44z _ _ _ _ ?_ (by first | exact ⟨_, (by decide), rfl⟩ | exact ⟨_, (show ((ns.length : Nat) : Int) ≤ 1048577 by omega), rfl⟩)).1 | refine (q21 _ _ _ _ ?_ ⟨_, _, ⟨hs.1, by decide, by decide⟩, rfl⟩).1 | refine (q46z _ _ _ _ ?_ ⟨_, small2 (-1) (ns.length : Int), rfl⟩).1))
  refine awp_loop (Q := _) [0, 2, 3, 5, 6] [60, 2, 3] (fun q s => ∃ (n z : Int) (l ns : List (List D)) (a I H : Int), s = ([.ptr 60 0 0, .ptr 2 1 0, .ptr 3 1 0, .val false [.i .i64 n], .val false [.i .i64 z]], [(0, [.val false [.sl false 5 rows], .val false [.i .i64 I], .val false [.i .i64 H]]), (1, [.val false [.sl true 72 []], .val false [.sl true 55 []], .val false [.i .i64 0]]), (1, [.val false [.sl false 72 l], .val false [.sl false 55 ns], .val false [.i .i64 a]])]) ∧ 0 ≤ n ∧ n ≤ 9 ∧ CurOk rows I ∧ SmH (l, ns, a) ∧ HIn 2 (3 + 84 * z) (l, ns, a) ∧ 0 ≤ z ∧ z ≤ n ∧ q = n.toNat - z.toNat) ?_ ?_
  · exact ⟨rfl, _, _, 0, _, _, _, _, _, rfl, ((q44z _ _ _ _ (by repeat (first | exact ok | exact ok1 | exact ok2 | refine byteI_ok ?_ | refine (q43 _ _ _ _ ?_ rfl).1 | refine (q44z _ _ _ _ ?_ (by first | exact ⟨_, (by decide), rfl⟩ | exact ⟨_, (show ((ns.length : Nat) : Int) ≤ 1048577 by omega), rfl⟩)).1 | refine (q21 _ _ _ _ ?_ ⟨_, _, ⟨hs.1, by decide, by decide⟩, rfl⟩).1 | refine (q46z _ _ _ _ ?_ ⟨_, small2 (-1) (ns.length : Int), rfl⟩).1)) ⟨_, (show (10 : Int) ≤ 1048577 by decide), rfl⟩).2 (show (1 : Int) ≤ 10 by decide)).1, Int.le_of_lt_add_one ((q44z _ _ _ _ (by repeat (first | exact ok | exact ok1 | exact ok2 | refine byteI_ok ?_ | refine (q43 _ _ _ _ ?_ rfl).1 | refine (q44z _ _ _ _ ?_ (by first | exact ⟨_, (by decide), rfl⟩ | exact ⟨_, (show ((ns.length : Nat) : Int) ≤ 1048577 by omega), rfl⟩)).1 | refine (q21 _ _ _ _ ?_ ⟨_, _, ⟨hs.1, by decide, by decide⟩, rfl⟩).1 | refine (q46z _ _ _ _ ?_ ⟨_, small2 (-1) (ns.length : Int), rfl⟩).1)) ⟨_, (show (10 : Int) ≤ 1048577 by decide), rfl⟩).2 (show (1 : Int) ≤ 10 by decide)).2, (by repeat (first | exact ok | exact ok1 | exact ok2 | refine byteI_ok ?_ | refine (q43 _ _ _ _ ?_ rfl).1 | refine (q44z _ _ _ _ ?_ (by first | exact ⟨_, (by decide), rfl⟩ | exact ⟨_, (show ((ns.length : Nat) : Int) ≤ 1048577 by omega), rfl⟩)).1 | refine (q21 _ _ _ _ ?_ ⟨_, _, ⟨hs.1, by decide, by decide⟩, rfl⟩).1 | refine (q46z _ _ _ _ ?_ ⟨_, small2 (-1) (ns.length : Int), rfl⟩).1)), SmH.new (Nat.le_trans (q43 _ _ _ _ (by repeat (first | exact ok | exact ok1 | exact ok2 | refine byteI_ok ?_ | refine (q43 _ _ _ _ ?_ rfl).1 | refine (q44z _ _ _ _ ?_ (by first | exact ⟨_, (by decide), rfl⟩ | exact ⟨_, (show ((ns.length : Nat) : Int) ≤ 1048577 by omega), rfl⟩)).1 | refine (q21 _ _ _ _ ?_ ⟨_, _, ⟨hs.1, by decide, by decide⟩, rfl⟩).1 | refine (q46z _ _ _ _ ?_ ⟨_, small2 (-1) (ns.length : Int), rfl⟩).1)) rfl).2.2 (by decide)), HIn.new (CelD.vb (q43 _ _ _ _ (by repeat (first | exact ok | exact ok1 | exact ok2 | refine byteI_ok ?_ | refine (q43 _ _ _ _ ?_ rfl).1 | refine (q44z _ _ _ _ ?_ (by first | exact ⟨_, (by decide), rfl⟩ | exact ⟨_, (show ((ns.length : Nat) : Int) ≤ 1048577 by omega), rfl⟩)).1 | refine (q21 _ _ _ _ ?_ ⟨_, _, ⟨hs.1, by decide, by decide⟩, rfl⟩).1 | refine (q46z _ _ _ _ ?_ ⟨_, small2 (-1) (ns.length : Int), rfl⟩).1)) rfl).2.1) (CelD.can (q43 _ _ _ _ (by repeat (first | exact ok | exact ok1 | exact ok2 | refine byteI_ok ?_ | refine (q43 _ _ _ _ ?_ rfl).1 | refine (q44z _ _ _ _ ?_ (by first | exact ⟨_, (by decide), rfl⟩ | exact ⟨_, (show ((ns.length : Nat) : Int) ≤ 1048577 by omega), rfl⟩)).1 | refine (q21 _ _ _ _ ?_ ⟨_, _, ⟨hs.1, by decide, by decide⟩, rfl⟩).1 | refine (q46z _ _ _ _ ?_ ⟨_, small2 (-1) (ns.length : Int), rfl⟩).1)) rfl).2.1), by decide, ((q44z _ _ _ _ (by repeat (first | exact ok | exact ok1 | exact ok2 | refine byteI_ok ?_ | refine (q43 _ _ _ _ ?_ rfl).1 | refine (q44z _ _ _ _ ?_ (by first | exact ⟨_, (by decide), rfl⟩ | exact ⟨_, (show ((ns.length : Nat) : Int) ≤ 1048577 by omega), rfl⟩)).1 | refine (q21 _ _ _ _ ?_ ⟨_, _, ⟨hs.1, by decide, by decide⟩, rfl⟩).1 | refine (q46z _ _ _ _ ?_ ⟨_, small2 (-1) (ns.length : Int), rfl⟩).1)) ⟨_, (show (10 : Int) ≤ 1048577 by decide), rfl⟩).2 (show (1 : Int) ≤ 10 by decide)).1, rfl⟩
  rintro q s ⟨n, z, l, ns, a, I, H, rfl, hn0, hn1, ok1, hs, hh, h1, h2, h3⟩
  have hns : ns.length ≤ 1000 := hs.2.1
  repeat' first
    | (refine And.intro ?_ ?_)
    | (intro h; simp only [reduceCtorEq] at h; done)
    | (intro h; rw [h])
    | (intro h)
  all_goals first
    | (show lowEdges _ = true; kernel_rfl) | (show logOk _ _ = true; kernel_rfl) | exact True.intro | exact Or.inr rfl | exact Or.inl rfl
    | (show Alive _ _; rfl)
    | (show List.length _ = _; rfl)
    | exact ⟨_, _, _, hs, rfl⟩
    | exact ⟨_, _, _, _, hs, rfl⟩
    | exact ⟨_, _, _, _, (by repeat (first | exact ok | exact ok1 | exact ok2 | refine byteI_ok ?_ | refine (q43 _ _ _ _ ?_ rfl).1 | refine (q44z _ _ _ _ ?_ (by first | exact ⟨_, (by decide), rfl⟩ | exact ⟨_, (show ((ns.length : Nat) : Int) ≤ 1048577 by omega), rfl⟩)).1 | refine (q21 _ _ _ _ ?_ ⟨_, _, ⟨hs.1, by decide, by decide⟩, rfl⟩).1 | refine (q46z _ _ _ _ ?_ ⟨_, small2 (-1) (ns.length : Int), rfl⟩).1)), ⟨by decide, by decide⟩, rfl⟩
    | exact ⟨_, _, _, _, (by repeat (first | exact ok | exact ok1 | exact ok2 | refine byteI_ok ?_ | refine (q43 _ _ _ _ ?_ rfl).1 | refine (q44z _ _ _ _ ?_ (by first | exact ⟨_, (by decide), rfl⟩ | exact ⟨_, (show ((ns.length : Nat) : Int) ≤ 1048577 by omega), rfl⟩)).1 | refine (q21 _ _ _ _ ?_ ⟨_, _, ⟨hs.1, by decide, by decide⟩, rfl⟩).1 | refine (q46z _ _ _ _ ?_ ⟨_, small2 (-1) (ns.length : Int), rfl⟩).1)), ⟨_, (by decide), rfl⟩, rfl⟩
    | exact ⟨_, _, _, _, (by repeat (first | exact ok | exact ok1 | exact ok2 | refine byteI_ok ?_ | refine (q43 _ _ _ _ ?_ rfl).1 | refine (q44z _ _ _ _ ?_ (by first | exact ⟨_, (by decide), rfl⟩ | exact ⟨_, (show ((ns.length : Nat) : Int) ≤ 1048577 by omega), rfl⟩)).1 | refine (q21 _ _ _ _ ?_ ⟨_, _, ⟨hs.1, by decide, by decide⟩, rfl⟩).1 | refine (q46z _ _ _ _ ?_ ⟨_, small2 (-1) (ns.length : Int), rfl⟩).1)), ⟨_, small2 (-1) (ns.length : Int), rfl⟩, rfl⟩
    | exact ⟨_, _, _, _, (by repeat (first | exact ok | exact ok1 | exact ok2 | refine byteI_ok ?_ | refine (q43 _ _ _ _ ?_ rfl).1 | refine (q44z _ _ _ _ ?_ (by first | exact ⟨_, (by decide), rfl⟩ | exact ⟨_, (show ((ns.length : Nat) : Int) ≤ 1048577 by omega), rfl⟩)).1 | refine (q21 _ _ _ _ ?_ ⟨_, _, ⟨hs.1, by decide, by decide⟩, rfl⟩).1 | refine (q46z _ _ _ _ ?_ ⟨_, small2 (-1) (ns.length : Int), rfl⟩).1)), ⟨_, (show ((ns.length : Nat) : Int) ≤ 1048577 by omega), rfl⟩, rfl⟩
    | exact ⟨_, _, _, _, (by repeat (first | exact ok | exact ok1 | exact ok2 | refine byteI_ok ?_ | refine (q43 _ _ _ _ ?_ rfl).1 | refine (q44z _ _ _ _ ?_ (by first | exact ⟨_, (by decide), rfl⟩ | exact ⟨_, (show ((ns.length : Nat) : Int) ≤ 1048577 by omega), rfl⟩)).1 | refine (q21 _ _ _ _ ?_ ⟨_, _, ⟨hs.1, by decide, by decide⟩, rfl⟩).1 | refine (q46z _ _ _ _ ?_ ⟨_, small2 (-1) (ns.length : Int), rfl⟩).1)), ⟨_, _, ⟨hs.1, by decide, by decide⟩, rfl⟩, rfl⟩
    | exact ⟨_, _, _, _, hs, Nat.le_trans (most2 (q21 _ _ _ _ (by repeat (first | exact ok | exact ok1 | exact ok2 | refine byteI_ok ?_ | refine (q43 _ _ _ _ ?_ rfl).1 | refine (q44z _ _ _ _ ?_ (by first | exact ⟨_, (by decide), rfl⟩ | exact ⟨_, (show ((ns.length : Nat) : Int) ≤ 1048577 by omega), rfl⟩)).1 | refine (q21 _ _ _ _ ?_ ⟨_, _, ⟨hs.1, by decide, by decide⟩, rfl⟩).1 | refine (q46z _ _ _ _ ?_ ⟨_, small2 (-1) (ns.length : Int), rfl⟩).1)) ⟨_, _, ⟨hs.1, by decide, by decide⟩, rfl⟩).2.2) (by decide), rfl⟩
    | (have hz : z < n := of_decide_eq_true ‹decide (z < n) = true›
       refine ⟨n.toNat - (z + 1).toNat, by omega, n, z + 1, _, _, _, _, _, congrArg (fun q => (([.ptr 60 0 0, .ptr 2 1 0, .ptr 3 1 0, .val false [.i .i64 _], .val false [.i .i64 q]], [(0, [.val false [.sl false 5 rows], .val false [.i .i64 _], .val false [.i .i64 _]]), (1, [.val false [.sl true 72 []], .val false [.sl true 55 []], .val false [.i .i64 0]]), (1, [.val false [.sl false 72 _], .val false [.sl false 55 _], .val false [.i .i64 _]])]) : Snap)) (wrap_i64_in (by omega) (by omega)), hn0, hn1, (by repeat (first | exact ok | exact ok1 | exact ok2 | refine byteI_ok ?_ | refine (q43 _ _ _ _ ?_ rfl).1 | refine (q44z _ _ _ _ ?_ (by first | exact ⟨_, (by decide), rfl⟩ | exact ⟨_, (show ((ns.length : Nat) : Int) ≤ 1048577 by omega), rfl⟩)).1 | refine (q21 _ _ _ _ ?_ ⟨_, _, ⟨hs.1, by decide, by decide⟩, rfl⟩).1 | refine (q46z _ _ _ _ ?_ ⟨_, small2 (-1) (ns.length : Int), rfl⟩).1)), ?_, ?_, by omega, by omega, rfl⟩
       · first
           | exact SmH.un hs
           | exact SmH.go hs _
           | exact SmH.do_ hs (Nat.le_trans (most2 (q21 _ _ _ _ (by repeat (first | exact ok | exact ok1 | exact ok2 | refine byteI_ok ?_ | refine (q43 _ _ _ _ ?_ rfl).1 | refine (q44z _ _ _ _ ?_ (by first | exact ⟨_, (by decide), rfl⟩ | exact ⟨_, (show ((ns.length : Nat) : Int) ≤ 1048577 by omega), rfl⟩)).1 | refine (q21 _ _ _ _ ?_ ⟨_, _, ⟨hs.1, by decide, by decide⟩, rfl⟩).1 | refine (q46z _ _ _ _ ?_ ⟨_, small2 (-1) (ns.length : Int), rfl⟩).1)) ⟨_, _, ⟨hs.1, by decide, by decide⟩, rfl⟩).2.2) (by decide))
       · first
           | exact (HIn.un hh (by omega) (by omega)).mono (by omega)
           | exact (HIn.go hh (by omega) (by omega)).mono (by omega)
           | exact (HIn.do_ hh (by omega) (by omega) (EdD.eb (q21 _ _ _ _ (by repeat (first | exact ok | exact ok1 | exact ok2 | refine byteI_ok ?_ | refine (q43 _ _ _ _ ?_ rfl).1 | refine (q44z _ _ _ _ ?_ (by first | exact ⟨_, (by decide), rfl⟩ | exact ⟨_, (show ((ns.length : Nat) : Int) ≤ 1048577 by omega), rfl⟩)).1 | refine (q21 _ _ _ _ ?_ ⟨_, _, ⟨hs.1, by decide, by decide⟩, rfl⟩).1 | refine (q46z _ _ _ _ ?_ ⟨_, small2 (-1) (ns.length : Int), rfl⟩).1)) ⟨_, _, ⟨hs.1, by decide, by decide⟩, rfl⟩).2.1 (by omega)) (most2 (q21 _ _ _ _ (by repeat (first | exact ok | exact ok1 | exact ok2 | refine byteI_ok ?_ | refine (q43 _ _ _ _ ?_ rfl).1 | refine (q44z _ _ _ _ ?_ (by first | exact ⟨_, (by decide), rfl⟩ | exact ⟨_, (show ((ns.length : Nat) : Int) ≤ 1048577 by omega), rfl⟩)).1 | refine (q21 _ _ _ _ ?_ ⟨_, _, ⟨hs.1, by decide, by decide⟩, rfl⟩).1 | refine (q46z _ _ _ _ ?_ ⟨_, small2 (-1) (ns.length : Int), rfl⟩).1)) ⟨_, _, ⟨hs.1, by decide, by decide⟩, rfl⟩).2.2)).mono (by omega))
    | (refine ⟨((_, _, _), _, _), ⟨(by repeat (first | exact ok | exact ok1 | exact ok2 | refine byteI_ok ?_ | refine (q43 _ _ _ _ ?_ rfl).1 | refine (q44z _ _ _ _ ?_ (by first | exact ⟨_, (by decide), rfl⟩ | exact ⟨_, (show ((ns.length : Nat) : Int) ≤ 1048577 by omega), rfl⟩)).1 | refine (q21 _ _ _ _ ?_ ⟨_, _, ⟨hs.1, by decide, by decide⟩, rfl⟩).1 | refine (q46z _ _ _ _ ?_ ⟨_, small2 (-1) (ns.length : Int), rfl⟩).1)), ⟨hs.1, hs.2⟩, hh.mono (by omega)⟩, rfl, rfl, True.intro⟩)
    | (refine ⟨((_, _, _), _, _), ⟨(by repeat (first | exact ok | exact ok1 | exact ok2 | refine byteI_ok ?_ | refine (q43 _ _ _ _ ?_ rfl).1 | refine (q44z _ _ _ _ ?_ (by first | exact ⟨_, (by decide), rfl⟩ | exact ⟨_, (show ((ns.length : Nat) : Int) ≤ 1048577 by omega), rfl⟩)).1 | refine (q21 _ _ _ _ ?_ ⟨_, _, ⟨hs.1, by decide, by decide⟩, rfl⟩).1 | refine (q46z _ _ _ _ ?_ ⟨_, small2 (-1) (ns.length : Int), rfl⟩).1)), SmH.atn hs, bent_HIn ?_⟩, rfl, rfl, True.intro⟩
       exact (q46z _ _ _ _ (by repeat (first | exact ok | exact ok1 | exact ok2 | refine byteI_ok ?_ | refine (q43 _ _ _ _ ?_ rfl).1 | refine (q44z _ _ _ _ ?_ (by first | exact ⟨_, (by decide), rfl⟩ | exact ⟨_, (show ((ns.length : Nat) : Int) ≤ 1048577 by omega), rfl⟩)).1 | refine (q21 _ _ _ _ ?_ ⟨_, _, ⟨hs.1, by decide, by decide⟩, rfl⟩).1 | refine (q46z _ _ _ _ ?_ ⟨_, small2 (-1) (ns.length : Int), rfl⟩).1)) ⟨_, small2 (-1) (ns.length : Int), rfl⟩).2 (fun v => v = -1 ∨ v = (ns.length : Int)) (by intro r hr; simp only [rowsM, List.nil_append, List.cons_append, List.mem_cons, List.not_mem_nil, or_false] at hr; rcases hr with rfl | rfl; exact .inl rfl; exact .inr rfl))
    | skip
end Go.Proofs.YtodddilaniojgaaGreat.Ab
