/- Drawn expressions: printed by a program of this claim. -/
import Derived.Test.YtodddilaniojgaaGreatCJx
namespace Go.Proofs.YtodddilaniojgaaGreat.Ab
open Go.RowKit
set_option linter.unusedVariables false
set_option linter.unusedSimpArgs false
set_option maxRecDepth 100000
set_option maxHeartbeats 2000000
def spE106 : FSpec where
  pre args := ∃ n : Int, args = [.val false [.i .i64 n]]
  res args := match args with
    | [.val _ [.i _ n]] => .val true [.i .i64 1, .i .i64 n, .s ⟨#[]⟩, .sl true 126 []]
    | _ => .none
theorem okE106 : FOk Tryz.prog T 106 spE106 := by
  refine fok (env := envL []) (N := 5) tabT envL_nil mixed Tryz.func106 rfl Tryz.call106 Tryz.ntmps106 ?_
  rintro args ⟨n, rfl⟩ hwf
  refine ⟨by simp, ?_⟩
  clear hwf
  rw [Tryz.results106]
  repeat' first
    | (refine And.intro ?_ ?_)
    | (intro h; simp only [reduceCtorEq] at h; done)
    | (intro h; rw [h])
    | (intro h)
  all_goals first
    | (show lowEdges _ = true; kernel_rfl) | (show logOk _ _ = true; kernel_rfl) | exact True.intro | exact Or.inr rfl | exact Or.inl rfl
    | exact rfl
    | skip
def spE113 : FSpec where
  pre args := ∃ n : ByteArray, args = [.val false [.s n]]
  res args := match args with
    | [.val _ [.s n]] => .val true [.i .i64 3, .i .i64 0, .s n, .sl true 126 []]
    | _ => .none
theorem okE113 : FOk Tryz.prog T 113 spE113 := by
  refine fok (env := envL []) (N := 5) tabT envL_nil mixed Tryz.func113 rfl Tryz.call113 Tryz.ntmps113 ?_
  rintro args ⟨n, rfl⟩ hwf
  refine ⟨by simp, ?_⟩
  clear hwf
  rw [Tryz.results113]
  repeat' first
    | (refine And.intro ?_ ?_)
    | (intro h; simp only [reduceCtorEq] at h; done)
    | (intro h; rw [h])
    | (intro h)
  all_goals first
    | (show lowEdges _ = true; kernel_rfl) | (show logOk _ _ = true; kernel_rfl) | exact True.intro | exact Or.inr rfl | exact Or.inl rfl
    | exact rfl
    | skip
def spE102 : FSpec where
  pre args := ∃ (n : Int) (a b : List D), args = [.val false [.i .i64 n], argG [.i .i64, .i .i64, .s, .l 126] a, argG [.i .i64, .i .i64, .s, .l 126] b]
  res args := match args with
    | [.val _ [.i _ n], .val _ ca, .val _ cb] => .val true [.i .i64 6, .i .i64 n, .s ⟨#[]⟩, .sl true 126 ([] ++ [csD ca] ++ [csD cb])]
    | _ => .none
theorem okE102 : FOk Tryz.prog T 102 spE102 := by
  refine fok (env := envL []) (N := 12) tabT envL_nil mixed Tryz.func102 rfl Tryz.call102 Tryz.ntmps102 ?_
  rintro args ⟨n, a, b, rfl⟩ hwf
  refine ⟨by simp, ?_⟩
  clear hwf
  rw [Tryz.results102]
  repeat' first
    | (refine And.intro ?_ ?_)
    | (intro h; simp only [reduceCtorEq] at h; done)
    | (intro h; rw [h])
    | (intro h)
  all_goals first
    | (show lowEdges _ = true; kernel_rfl) | (show logOk _ _ = true; kernel_rfl) | exact True.intro | exact Or.inr rfl | exact Or.inl rfl
    | exact rfl
    | skip
def spE104 : FSpec where
  pre args := ∃ (s : ByteArray) (l : List (List D)), args = [.val false [.s s], argS 126 l]
  res args := match args with
    | [.val _ [.s s], .val _ [.sl _ _ l]] => .val true [.i .i64 5, .i .i64 0, .s s, .sl false 126 l]
    | _ => .none
theorem okE104 : FOk Tryz.prog T 104 spE104 := by
  refine fok (env := envL []) (N := 8) tabT envL_nil mixed Tryz.func104 rfl Tryz.call104 Tryz.ntmps104 ?_
  rintro args ⟨n, l, rfl⟩ hwf
  refine ⟨by simp, ?_⟩
  clear hwf
  rw [Tryz.results104]
  repeat' first
    | (refine And.intro ?_ ?_)
    | (intro h; simp only [reduceCtorEq] at h; done)
    | (intro h; rw [h])
    | (intro h)
  all_goals first
    | (show lowEdges _ = true; kernel_rfl) | (show logOk _ _ = true; kernel_rfl) | exact True.intro | exact Or.inr rfl | exact Or.inl rfl
    | exact rfl
    | skip
theorem okN104 : FOk Tryz.prog T 104 (nil2 spE104 126) := FOk.nil2 rfl (by rintro a x ⟨s, l, rfl⟩ h; simp at h) okE104
def rows2 (a : List SV) : List (List D) := match a with
  | [.val _ c, .val _ c'] => [csD c, csD c']
  | _ => []
theorem all2 {p : List D → Prop} {a b : List D} (ha : p a) (hb : p b) : ∀ y ∈ [a, b], p y := fun y hy => by
  rcases List.mem_cons.1 hy with rfl | hy
  · exact ha
  · exact all1 hb y hy
theorem any105 : AnyD Tryz.prog T 105 5 (fun m => ∃ a b : EL, m = [argG [.i .i64, .i .i64, .s, .l 126] a.row, argG [.i .i64, .i .i64, .s, .l 126] b.row]) (fun x : EL => .val true [.i .i64 x.k, .i .i64 x.n, .s x.t, .sl false 126 x.l]) (fun (m : List SV) (x : EL) => ∀ P : List D → Prop, (∀ r ∈ rows2 m, P r) → P x.row) := by
  refine AnyD.of (fun m => ⟨((rows2 m).getD 0 [] |>.getD 0 default).int, ((rows2 m).getD 0 [] |>.getD 1 default).int, ((rows2 m).getD 0 [] |>.getD 2 default).str, ((rows2 m).getD 0 [] |>.getD 3 default).rows⟩) ((by rintro m ⟨x, y, rfl⟩ P h; exact h _ (List.mem_cons_self ..))) (fokBA (α := EL × Int × Int) (fun _ z => (fun x : EL => .val true [.i .i64 x.k, .i .i64 x.n, .s x.t, .sl false 126 x.l]) z.1) (fun a z => curU 5 a z.2.1 z.2.2) (post := fun a z => CurOk (rowsOf a) z.2.1 ∧ (fun (m : List SV) (x : EL) => ∀ P : List D → Prop, (∀ r ∈ rows2 m, P r) → P x.row) a.tail z.1) (env := envL [(45, (spOnce 5))]) (N := 11) tabT (envL_cons ok45 envL_nil) mixed Tryz.func105 rfl Tryz.call105 Tryz.ntmps105 ?_)
  rintro cs args ⟨rows, i, h0, more, ok, hp, he⟩ hwf
  obtain ⟨rfl, rfl⟩ : cs = curC 5 rows i h0 ∧ args = more := by simpa only [List.cons.injEq, SV.tup.injEq, Prod.mk.injEq, true_and, and_true] using he
  obtain ⟨a, b, rfl⟩ := hp
  refine ⟨by simp, ?_⟩
  clear he hwf
  rw [Tryz.results105]
  repeat' first
    | (refine And.intro ?_ ?_)
    | (intro h; simp only [reduceCtorEq] at h; done)
    | (intro h; rw [h])
    | (intro h)
  all_goals first
    | (show lowEdges _ = true; kernel_rfl) | (show logOk _ _ = true; kernel_rfl) | exact True.intro | exact Or.inr rfl | exact Or.inl rfl
    | (show Alive _ _; rfl)
    | (show List.length _ = _; rfl)
    | refine ⟨_, _, _, _, ?_, ⟨by decide, by decide⟩, rfl⟩
    | refine ⟨_, _, _, ?_, rfl⟩
    | (refine ⟨(⟨_, _, _, _⟩, _, _), ⟨?_, ?_⟩, rfl, rfl, True.intro⟩; rotate_left; focus (exact fun P h => h _ (List.mem_cons_self ..)))
    | (refine ⟨(⟨_, _, _, _⟩, _, _), ⟨?_, ?_⟩, rfl, rfl, True.intro⟩; rotate_left; focus (exact fun P h => h _ (List.mem_cons_of_mem _ (List.mem_cons_self ..))))
    | skip
  all_goals repeat (first | exact ok | exact ok1 | exact ok2 | refine byteI_ok ?_)
theorem any107 : AnyD Tryz.prog T 107 5 (fun m => m = []) (fun x : EL => .val true [.i .i64 x.k, .i .i64 x.n, .s x.t, .sl false 126 x.l]) (fun (m : List SV) (x : EL) => ExOk 1 x.row) := by
  refine AnyD.of (fun _ => ⟨1, 0, ⟨#[]⟩, []⟩) (fun _ _ => ExOk.mk (d := 0) kk1 kk0 (Nat.zero_le _) (Nat.zero_le _) rfl all0) (fokBA (α := EL × Int × Int) (fun _ z => (fun x : EL => .val true [.i .i64 x.k, .i .i64 x.n, .s x.t, .sl false 126 x.l]) z.1) (fun a z => curU 5 a z.2.1 z.2.2) (post := fun a z => CurOk (rowsOf a) z.2.1 ∧ (fun (m : List SV) (x : EL) => ExOk 1 x.row) a.tail z.1) (env := envL [(77, (spPick 5 9))]) (N := 7) tabT (envL_cons ok77 envL_nil) mixed Tryz.func107 rfl Tryz.call107 Tryz.ntmps107 ?_)
  rintro cs args ⟨rows, i, h0, more, ok, hp, he⟩ hwf
  obtain ⟨rfl, rfl⟩ : cs = curC 5 rows i h0 ∧ args = more := by simpa only [List.cons.injEq, SV.tup.injEq, Prod.mk.injEq, true_and, and_true] using he
  obtain rfl := hp
  refine ⟨by simp, ?_⟩
  clear he hwf
  rw [Tryz.results107]
  repeat' first
    | (refine And.intro ?_ ?_)
    | (intro h; simp only [reduceCtorEq] at h; done)
    | (intro h; rw [h])
    | (intro h)
  all_goals first
    | (show lowEdges _ = true; kernel_rfl) | (show logOk _ _ = true; kernel_rfl) | exact True.intro | exact Or.inr rfl | exact Or.inl rfl
    | (show Alive _ _; rfl)
    | (show List.length _ = _; rfl)
    | refine ⟨_, _, _, _, ?_, ⟨by decide, by decide⟩, rfl⟩
    | refine ⟨_, _, _, ?_, rfl⟩
    | (refine ⟨(⟨_, _, _, _⟩, _, _), ⟨?_, ?_⟩, rfl, rfl, True.intro⟩; rotate_left; focus (exact ExOk.mk (d := 0) kk2 kk0 (pick_size (P := fun t => t.size ≤ 8) (Nat.zero_le _) (by intro r hr; simp only [rowsM, List.nil_append, List.cons_append, List.mem_cons, List.not_mem_nil, or_false] at hr; rcases hr with rfl | rfl | rfl | rfl | rfl <;> decide) _) (Nat.zero_le _) rfl all0))
    | skip
  all_goals repeat (first | exact ok | exact ok1 | exact ok2 | refine byteI_ok ?_)
theorem any101 : AnyD Tryz.prog T 101 5 (fun m => ∃ l : List (List D), (TR 8 l ∧ 1 ≤ l.length ∧ l.length ≤ 32) ∧ m = [argS 9 l]) (fun x : EL => .val true [.i .i64 x.k, .i .i64 x.n, .s x.t, .sl false 126 x.l]) (fun (m : List SV) (x : EL) => ExOk 1 x.row) := by
  refine AnyD.of (fun _ => ⟨1, 0, ⟨#[]⟩, []⟩) (fun _ _ => ExOk.mk (d := 0) kk1 kk0 (Nat.zero_le _) (Nat.zero_le _) rfl all0) (fokBA (α := EL × Int × Int) (fun _ z => (fun x : EL => .val true [.i .i64 x.k, .i .i64 x.n, .s x.t, .sl false 126 x.l]) z.1) (fun a z => curU 5 a z.2.1 z.2.2) (post := fun a z => CurOk (rowsOf a) z.2.1 ∧ (fun (m : List SV) (x : EL) => ExOk 1 x.row) a.tail z.1) (env := envL [(44, (spBelow 5)), (77, (spPick 5 9)), (106, spE106), (113, spE113)]) (N := 23) tabT (envL_cons ok44 (envL_cons ok77 (envL_cons okE106 (envL_cons okE113 envL_nil)))) mixed Tryz.func101 rfl Tryz.call101 Tryz.ntmps101 ?_)
  rintro cs args ⟨rows, i, h0, more, ok, hp, he⟩ hwf
  obtain ⟨rfl, rfl⟩ : cs = curC 5 rows i h0 ∧ args = more := by simpa only [List.cons.injEq, SV.tup.injEq, Prod.mk.injEq, true_and, and_true] using he
  obtain ⟨l, ⟨hT, hl1, hl2⟩, rfl⟩ := hp
  refine ⟨by simp, ?_⟩
  clear he hwf
  rw [Tryz.results101]
  repeat' first
    | (refine And.intro ?_ ?_)
    | (intro h; simp only [reduceCtorEq] at h; done)
    | (intro h; rw [h])
    | (intro h)
  all_goals first
    | (show lowEdges _ = true; kernel_rfl) | (show logOk _ _ = true; kernel_rfl) | exact True.intro | exact Or.inr rfl | exact Or.inl rfl
    | (show Alive _ _; rfl)
    | (show List.length _ = _; rfl)
    | refine ⟨_, _, _, _, ?_, ⟨by decide, by decide⟩, rfl⟩
    | refine ⟨_, _, _, ?_, rfl⟩
    | exact ⟨_, rfl⟩
    | refine ⟨_, _, _, _, ?_, ⟨by omega, by omega⟩, rfl⟩
    | (refine ⟨(⟨_, _, _, _⟩, _, _), ⟨?_, ?_⟩, rfl, rfl, True.intro⟩; rotate_left; focus (exact ExOk.mk (d := 0) kk2 kk0 (pick_size (P := fun t => t.size ≤ 8) (Nat.zero_le _) (by intro r hr; simp only [rowsM, List.nil_append, List.cons_append, List.mem_cons, List.not_mem_nil, or_false] at hr; rcases hr with rfl | rfl | rfl | rfl <;> decide) _) (Nat.zero_le _) rfl all0))
    | (refine ⟨(⟨_, _, _, _⟩, _, _), ⟨?_, ?_⟩, rfl, rfl, True.intro⟩; rotate_left; focus (exact ExOk.mk (d := 0) kk1 (small_in (belowR_lt ⟨by decide, by decide⟩)) (Nat.zero_le _) (Nat.zero_le _) rfl all0))
    | (refine ⟨(⟨_, _, _, _⟩, _, _), ⟨?_, ?_⟩, rfl, rfl, True.intro⟩; rotate_left; focus (exact ExOk.mk (d := 0) kk3 kk0 (hT.pick _) (Nat.zero_le _) rfl all0))
    | skip
  all_goals repeat (first | exact ok | exact ok1 | exact ok2 | refine byteI_ok ?_)
theorem any103 : AnyD Tryz.prog T 103 5 (fun m => ∃ l : List (List D), (TR 8 l ∧ 1 ≤ l.length ∧ l.length ≤ 32) ∧ m = [argS 9 l]) (fun x : EL => .val true [.i .i64 x.k, .i .i64 x.n, .s x.t, .sl false 126 x.l]) (fun (m : List SV) (x : EL) => ExOk 2 x.row) := by
  obtain ⟨g101, k101, q101⟩ := any101
  refine AnyD.of (fun _ => ⟨1, 0, ⟨#[]⟩, []⟩) (fun _ _ => ExOk.mk (d := 1) kk1 kk0 (Nat.zero_le _) (Nat.zero_le _) rfl all0) (fokBA (α := EL × Int × Int) (fun _ z => (fun x : EL => .val true [.i .i64 x.k, .i .i64 x.n, .s x.t, .sl false 126 x.l]) z.1) (fun a z => curU 5 a z.2.1 z.2.2) (post := fun a z => CurOk (rowsOf a) z.2.1 ∧ (fun (m : List SV) (x : EL) => ExOk 2 x.row) a.tail z.1) (env := envL [(44, (spBelow 5)), (106, spE106), (45, (spOnce 5)), (101, spD 5 (fun m => ∃ l : List (List D), (TR 8 l ∧ 1 ≤ l.length ∧ l.length ≤ 32) ∧ m = [argS 9 l]) (fun x : EL => .val true [.i .i64 x.k, .i .i64 x.n, .s x.t, .sl false 126 x.l]) g101)]) (N := 34) tabT (envL_cons ok44 (envL_cons okE106 (envL_cons ok45 (envL_cons k101 envL_nil)))) mixed Tryz.func103 rfl Tryz.call103 Tryz.ntmps103 ?_)
  rintro cs args ⟨rows, i, h0, more, ok, hp, he⟩ hwf
  obtain ⟨rfl, rfl⟩ : cs = curC 5 rows i h0 ∧ args = more := by simpa only [List.cons.injEq, SV.tup.injEq, Prod.mk.injEq, true_and, and_true] using he
  obtain ⟨l, ⟨hT, hl1, hl2⟩, rfl⟩ := hp
  refine ⟨by simp, ?_⟩
  clear he hwf
  rw [Tryz.results103]
  repeat' first
    | (refine And.intro ?_ ?_)
    | (intro h; simp only [reduceCtorEq] at h; done)
    | (intro h; rw [h])
    | (intro h)
  all_goals first
    | (show lowEdges _ = true; kernel_rfl) | (show logOk _ _ = true; kernel_rfl) | exact True.intro | exact Or.inr rfl | exact Or.inl rfl
    | (show Alive _ _; rfl)
    | (show List.length _ = _; rfl)
    | refine ⟨_, _, _, _, ?_, ⟨by decide, by decide⟩, rfl⟩
    | refine ⟨_, _, _, ?_, rfl⟩
    | refine ⟨_, _, _, _, ?_, ⟨_, ⟨hT, hl1, hl2⟩, rfl⟩, rfl⟩
    | skip
  all_goals try ((with_reducible show CurOk _ _); repeat (first | exact ok | exact ok1 | exact ok2 | refine byteI_ok ?_ | refine (q101 _ _ _ _ ?_ ⟨_, ⟨hT, hl1, hl2⟩, rfl⟩).1))
  refine awp_loop (Q := _) [0, 1, 4, 5, 6, 7] [34, 4, 5] (fun n s => ∃ (z m : Int) (o : List (List D)) (I H : Int), s = ([.ptr 34 0 0, argS 9 l, .ptr 4 1 0, .ptr 5 1 0, .val false [.i .i64 m], .val false [.i .i64 z]], [(0, [.val false [.sl false 5 rows], .val false [.i .i64 I], .val false [.i .i64 H]]), (1, [.val false [.i .i64 0], .val false [.i .i64 0], .val false [.s ByteArray.empty], .val false [.sl true 126 []]]), (1, [.val false [.i .i64 4], .val false [.i .i64 0], .val false [.s ByteArray.empty], .val false [.sl true 126 (o)]])]) ∧ 0 ≤ m ∧ m ≤ 3 ∧ CurOk rows I ∧ (∀ y ∈ o, ExOk 1 y) ∧ o.length = z.toNat ∧ 0 ≤ z ∧ z ≤ m ∧ n = m.toNat - z.toNat) ?_ ?_
  · exact ⟨rfl, _, 0, _, _, _, _, rfl, (belowR_in (rows := rows) (i := i) (h := h0) (n := 4) ⟨by decide, by decide⟩).1, Int.le_of_lt_add_one (belowR_in (rows := rows) (i := i) (h := h0) (n := 4) ⟨by decide, by decide⟩).2, byteI_ok ok, all0, rfl, by decide, (belowR_in (rows := rows) (i := i) (h := h0) (n := 4) ⟨by decide, by decide⟩).1, rfl⟩
  rintro n s ⟨z, m, o, I, H, rfl, hm0, hm1, ok1, hA, hol, h1, h2, h3⟩
  repeat' first
    | (refine And.intro ?_ ?_)
    | (intro h; simp only [reduceCtorEq] at h; done)
    | (intro h; rw [h])
    | (intro h)
  all_goals first
    | (show lowEdges _ = true; kernel_rfl) | (show logOk _ _ = true; kernel_rfl) | exact True.intro | exact Or.inr rfl | exact Or.inl rfl
    | (show Alive _ _; rfl)
    | (show List.length _ = _; rfl)
    | exact ⟨_, _, _, _, (by repeat (first | exact ok | exact ok1 | exact ok2 | refine byteI_ok ?_ | refine (q101 _ _ _ _ ?_ ⟨_, ⟨hT, hl1, hl2⟩, rfl⟩).1)), ⟨by decide, by decide⟩, rfl⟩
    | exact ⟨_, rfl⟩
    | exact ⟨_, _, _, _, (by repeat (first | exact ok | exact ok1 | exact ok2 | refine byteI_ok ?_ | refine (q101 _ _ _ _ ?_ ⟨_, ⟨hT, hl1, hl2⟩, rfl⟩).1)), ⟨_, ⟨hT, hl1, hl2⟩, rfl⟩, rfl⟩
    | (show o.length + 1 ≤ maxLen; simp only [maxLen]; omega)
    | (show (o.length + 1) * 56 ≤ 140737488355328; omega)
    | (have hz : z < m := of_decide_eq_true ‹decide (z < m) = true›
       first
         | exact h1
         | (show z < (((o ++ _).length : Nat) : Int); rw [List.length_append]; show z < ((o.length + 1 : Nat) : Int); omega)
         | (show z.toNat < (o ++ _).length; rw [List.length_append]; show z.toNat < o.length + 1; omega)
         | (refine ⟨m.toNat - (z + 1).toNat, by omega, z + 1, m, _, _, _, congrArg (fun q => (([.ptr 34 0 0, argS 9 l, .ptr 4 1 0, .ptr 5 1 0, .val false [.i .i64 _], .val false [.i .i64 q]], [(0, [.val false [.sl false 5 rows], .val false [.i .i64 _], .val false [.i .i64 _]]), (1, [.val false [.i .i64 0], .val false [.i .i64 0], .val false [.s ByteArray.empty], .val false [.sl true 126 []]]), (1, [.val false [.i .i64 4], .val false [.i .i64 0], .val false [.s ByteArray.empty], .val false [.sl true 126 (_)]])]) : Snap)) (wrap_i64_in (by omega) (by omega)), hm0, hm1, (by repeat (first | exact ok | exact ok1 | exact ok2 | refine byteI_ok ?_ | refine (q101 _ _ _ _ ?_ ⟨_, ⟨hT, hl1, hl2⟩, rfl⟩).1)), ?_, ?_, by omega, by omega, rfl⟩
            · first | exact allSnoc hA (ExOk.mk (d := 0) kk1 (small_in (belowR_lt ⟨by decide, by decide⟩)) (Nat.zero_le _) (Nat.zero_le _) rfl all0) | exact exPoke (allSnoc hA (ExOk.mk (d := 0) kk1 (small_in (belowR_lt ⟨by decide, by decide⟩)) (Nat.zero_le _) (Nat.zero_le _) rfl all0)) (by rw [List.length_append]; show z.toNat < o.length + 1; omega) (q101 _ _ _ _ (by repeat (first | exact ok | exact ok1 | exact ok2 | refine byteI_ok ?_ | refine (q101 _ _ _ _ ?_ ⟨_, ⟨hT, hl1, hl2⟩, rfl⟩).1)) ⟨_, ⟨hT, hl1, hl2⟩, rfl⟩).2
            · first | (rw [List.length_append, hol]; show z.toNat + 1 = _; omega) | (rw [pokeLen, List.length_append, hol]; show z.toNat + 1 = _; omega)))
    | (refine ⟨(⟨_, _, _, _⟩, _, _), ⟨ok1, ?_⟩, rfl, rfl, True.intro⟩
       exact ExOk.mk kk4 kk0 (Nat.zero_le _) (show o.length ≤ 4 by omega) rfl hA)
    | skip
theorem any108 : AnyD Tryz.prog T 108 5 (fun m => m = []) (fun x : EL => .val true [.i .i64 x.k, .i .i64 x.n, .s x.t, .sl false 126 x.l]) (fun (m : List SV) (x : EL) => ExOk 4 x.row) := by
  refine AnyD.of (fun _ => ⟨1, 0, ⟨#[]⟩, []⟩) (fun _ _ => ExOk.mk (d := 3) kk1 kk0 (Nat.zero_le _) (Nat.zero_le _) rfl all0) (fokBA (α := EL × Int × Int) (fun _ z => (fun x : EL => .val true [.i .i64 x.k, .i .i64 x.n, .s x.t, .sl false 126 x.l]) z.1) (fun a z => curU 5 a z.2.1 z.2.2) (post := fun a z => CurOk (rowsOf a) z.2.1 ∧ (fun (m : List SV) (x : EL) => ExOk 4 x.row) a.tail z.1) (env := envL [(44, (spBelow 5)), (106, spE106), (104, (nil2 spE104 126))]) (N := 31) tabT (envL_cons ok44 (envL_cons okE106 (envL_cons okN104 envL_nil))) mixed Tryz.func108 rfl Tryz.call108 Tryz.ntmps108 ?_)
  rintro cs args ⟨rows, i, h0, more, ok, hp, he⟩ hwf
  obtain ⟨rfl, rfl⟩ : cs = curC 5 rows i h0 ∧ args = more := by simpa only [List.cons.injEq, SV.tup.injEq, Prod.mk.injEq, true_and, and_true] using he
  obtain rfl := hp
  refine ⟨by simp, ?_⟩
  clear he hwf
  rw [Tryz.results108]
  repeat' first
    | (refine And.intro ?_ ?_)
    | (intro h; simp only [reduceCtorEq] at h; done)
    | (intro h; rw [h])
    | (intro h)
  all_goals first
    | (show lowEdges _ = true; kernel_rfl) | (show logOk _ _ = true; kernel_rfl) | exact True.intro | exact Or.inr rfl | exact Or.inl rfl
    | (show Alive _ _; rfl)
    | (show List.length _ = _; rfl)
    | refine ⟨_, _, _, _, ?_, ⟨by decide, by decide⟩, rfl⟩
    | refine ⟨_, _, _, ?_, rfl⟩
    | skip
  all_goals try ((with_reducible show CurOk _ _); repeat (first | exact ok | exact ok1 | exact ok2 | refine byteI_ok ?_))
  refine awp_loop (Q := _) [0, 2, 3, 4, 5] [31, 2, 3] (fun n s => ∃ (z m : Int) (o : List (List D)) (I H : Int), s = ([.ptr 31 0 0, .ptr 2 1 0, .ptr 3 1 0, .val false [.i .i64 m], .val false [.i .i64 z]], [(0, [.val false [.sl false 5 rows], .val false [.i .i64 I], .val false [.i .i64 H]]), (1, [.val false [.i .i64 0], .val false [.i .i64 0], .val false [.s ByteArray.empty], .val false [.sl true 126 []]]), (1, [.val false [.i .i64 4], .val false [.i .i64 0], .val false [.s ByteArray.empty], .val false [.sl true 126 (o)]])]) ∧ 0 ≤ m ∧ m ≤ 3 ∧ CurOk rows I ∧ (∀ y ∈ o, ExOk 2 y) ∧ o.length = z.toNat ∧ 0 ≤ z ∧ z ≤ m ∧ n = m.toNat - z.toNat) ?_ ?_
  · exact ⟨rfl, _, 0, _, _, _, _, rfl, (belowR_in (rows := rows) (i := i) (h := h0) (n := 4) ⟨by decide, by decide⟩).1, Int.le_of_lt_add_one (belowR_in (rows := rows) (i := i) (h := h0) (n := 4) ⟨by decide, by decide⟩).2, byteI_ok ok, all0, rfl, by decide, (belowR_in (rows := rows) (i := i) (h := h0) (n := 4) ⟨by decide, by decide⟩).1, rfl⟩
  rintro n s ⟨z, m, o, I, H, rfl, hm0, hm1, ok1, hA, hol, h1, h2, h3⟩
  repeat' first
    | (refine And.intro ?_ ?_)
    | (intro h; simp only [reduceCtorEq] at h; done)
    | (intro h; rw [h])
    | (intro h)
  all_goals first
    | (show lowEdges _ = true; kernel_rfl) | (show logOk _ _ = true; kernel_rfl) | exact True.intro | exact Or.inr rfl | exact Or.inl rfl
    | (show Alive _ _; rfl)
    | (show List.length _ = _; rfl)
    | exact ⟨_, _, _, _, (by repeat (first | exact ok | exact ok1 | exact ok2 | refine byteI_ok ?_)), ⟨by decide, by decide⟩, rfl⟩
    | exact ⟨_, rfl⟩
    | exact .inl ⟨_, _, rfl⟩
    | (show o.length + 1 ≤ maxLen; simp only [maxLen]; omega)
    | (show (o.length + 1) * 56 ≤ 140737488355328; omega)
    | (have hz : z < m := of_decide_eq_true ‹decide (z < m) = true›
       first
         | exact h1
         | (show z < (((o ++ _).length : Nat) : Int); rw [List.length_append]; show z < ((o.length + 1 : Nat) : Int); omega)
         | (show z.toNat < (o ++ _).length; rw [List.length_append]; show z.toNat < o.length + 1; omega)
         | (refine ⟨m.toNat - (z + 1).toNat, by omega, z + 1, m, _, _, _, congrArg (fun q => (([.ptr 31 0 0, .ptr 2 1 0, .ptr 3 1 0, .val false [.i .i64 _], .val false [.i .i64 q]], [(0, [.val false [.sl false 5 rows], .val false [.i .i64 _], .val false [.i .i64 _]]), (1, [.val false [.i .i64 0], .val false [.i .i64 0], .val false [.s ByteArray.empty], .val false [.sl true 126 []]]), (1, [.val false [.i .i64 4], .val false [.i .i64 0], .val false [.s ByteArray.empty], .val false [.sl true 126 (_)]])]) : Snap)) (wrap_i64_in (by omega) (by omega)), hm0, hm1, (by repeat (first | exact ok | exact ok1 | exact ok2 | refine byteI_ok ?_)), ?_, ?_, by omega, by omega, rfl⟩
            · exact allSnoc hA (ExOk.mk (d := 1) kk4 kk0 (Nat.zero_le _) (show (2 : Nat) ≤ 4 by decide) rfl (allSnoc (allSnoc all0 (ExOk.mk (d := 0) kk1 (small_in (belowR_lt ⟨by decide, by decide⟩)) (Nat.zero_le _) (Nat.zero_le _) rfl all0)) (ExOk.mk (d := 0) kk1 (small_in (belowR_lt ⟨by decide, by decide⟩)) (Nat.zero_le _) (Nat.zero_le _) rfl all0)))
            · first | (rw [List.length_append, hol]; show z.toNat + 1 = _; omega) | (rw [pokeLen, List.length_append, hol]; show z.toNat + 1 = _; omega)))
    | (refine ⟨(⟨_, _, _, _⟩, _, _), ⟨ok1, ?_⟩, rfl, rfl, True.intro⟩
       exact ExOk.mk (d := 3) kk5 kk0 (Nat.le_of_ble_eq_true rfl) (show (2 : Nat) ≤ 4 by decide) rfl (allSnoc (allSnoc all0 ((ExOk.mk (d := 0) kk2 kk0 (Nat.le_of_ble_eq_true rfl) (Nat.zero_le _) rfl all0).mono (by decide))) (ExOk.mk (d := 2) kk4 kk0 (Nat.zero_le _) (show o.length ≤ 4 by omega) rfl hA)))
    | skip
theorem any93d1 : AnyD Tryz.prog T 93 5 (fun m => ∃ l : List (List D), (TR 8 l ∧ 1 ≤ l.length ∧ l.length ≤ 16) ∧ m = [argS 9 l, .val false [.i .i64 1]]) (fun x : EL => .val true [.i .i64 x.k, .i .i64 x.n, .s x.t, .sl false 126 x.l]) (fun (m : List SV) (x : EL) => ExOk 1 x.row) := by
  obtain ⟨g101, k101, q101⟩ := any101
  obtain ⟨g103, k103, q103⟩ := any103
  obtain ⟨g105, k105, q105⟩ := any105
  obtain ⟨g107, k107, q107⟩ := any107
  obtain ⟨g108, k108, q108⟩ := any108
  refine AnyD.of (fun _ => ⟨1, 0, ⟨#[]⟩, []⟩) (fun _ _ => ExOk.mk (d := 0) kk1 kk0 (Nat.zero_le _) (Nat.zero_le _) rfl all0) (fokBA (α := EL × Int × Int) (fun _ z => (fun x : EL => .val true [.i .i64 x.k, .i .i64 x.n, .s x.t, .sl false 126 x.l]) z.1) (fun a z => curU 5 a z.2.1 z.2.2) (post := fun a z => CurOk (rowsOf a) z.2.1 ∧ (fun (m : List SV) (x : EL) => ExOk 1 x.row) a.tail z.1) (env := envL [(101, spD 5 (fun m => ∃ l : List (List D), (TR 8 l ∧ 1 ≤ l.length ∧ l.length ≤ 32) ∧ m = [argS 9 l]) (fun x : EL => .val true [.i .i64 x.k, .i .i64 x.n, .s x.t, .sl false 126 x.l]) g101), (44, (spBelow 5)), (93, { pre := fun _ => False, res := fun _ => .none }), (102, spE102), (77, (spPick 5 9)), (103, spD 5 (fun m => ∃ l : List (List D), (TR 8 l ∧ 1 ≤ l.length ∧ l.length ≤ 32) ∧ m = [argS 9 l]) (fun x : EL => .val true [.i .i64 x.k, .i .i64 x.n, .s x.t, .sl false 126 x.l]) g103), (105, spD 5 (fun m => ∃ a b : EL, m = [argG [.i .i64, .i .i64, .s, .l 126] a.row, argG [.i .i64, .i .i64, .s, .l 126] b.row]) (fun x : EL => .val true [.i .i64 x.k, .i .i64 x.n, .s x.t, .sl false 126 x.l]) g105), (104, (nil2 spE104 126)), (106, spE106), (107, spD 5 (fun m => m = []) (fun x : EL => .val true [.i .i64 x.k, .i .i64 x.n, .s x.t, .sl false 126 x.l]) g107), (108, spD 5 (fun m => m = []) (fun x : EL => .val true [.i .i64 x.k, .i .i64 x.n, .s x.t, .sl false 126 x.l]) g108)]) (N := 209) tabT (envL_cons k101 (envL_cons ok44 (envL_cons (FOk.no Tryz.call93) (envL_cons okE102 (envL_cons ok77 (envL_cons k103 (envL_cons k105 (envL_cons okN104 (envL_cons okE106 (envL_cons k107 (envL_cons k108 envL_nil))))))))))) mixed Tryz.func93 rfl Tryz.call93 Tryz.ntmps93 ?_)
  rintro cs args ⟨rows, i, h0, more, ok, hp, he⟩ hwf
  obtain ⟨rfl, rfl⟩ : cs = curC 5 rows i h0 ∧ args = more := by simpa only [List.cons.injEq, SV.tup.injEq, Prod.mk.injEq, true_and, and_true] using he
  obtain ⟨l, ⟨hT, hl1, hl2⟩, rfl⟩ := hp
  refine ⟨by simp, ?_⟩
  clear he hwf
  rw [Tryz.results93]
  repeat' first
    | (refine And.intro ?_ ?_)
    | (intro h; simp only [reduceCtorEq] at h; done)
    | (intro h; rw [h])
    | (intro h)
  all_goals first
    | (show lowEdges _ = true; kernel_rfl) | (show logOk _ _ = true; kernel_rfl) | exact True.intro | exact Or.inr rfl | exact Or.inl rfl
    | exact absurd (by assumption : decide ((1 : Int) < 2) = false) (by decide)
    | (show Alive _ _; rfl)
    | (show List.length _ = _; rfl)
    | refine ⟨_, _, _, _, ?_, ⟨by decide, by decide⟩, rfl⟩
    | refine ⟨_, _, _, ?_, rfl⟩
    | refine ⟨_, _, _, _, ?_, ⟨_, ⟨hT, hl1, (by omega)⟩, rfl⟩, rfl⟩
    | refine ⟨_, _, _, _, ?_, ⟨_, ⟨‹_›, ‹_›, ‹_›⟩, rfl⟩, rfl⟩
    | refine ⟨_, _, _, _, ?_, ⟨⟨_, _, _, _⟩, ⟨_, _, _, _⟩, rfl⟩, rfl⟩
    | refine ⟨_, _, _, _, ?_, rfl, rfl⟩
    | refine ⟨_, _, _, _, ?_, rfl, rfl⟩
    | (refine ⟨(⟨_, _, _, _⟩, _, _), ⟨?_, ?_⟩, rfl, rfl, True.intro⟩; rotate_left; focus (refine (q101 _ _ _ _ ?_ ⟨_, ⟨hT, hl1, (by omega)⟩, rfl⟩).2))
    | skip
  all_goals repeat (first | exact ok | exact ok1 | exact ok2 | refine byteI_ok ?_ | refine (q101 _ _ _ _ ?_ ⟨_, ⟨hT, hl1, (by omega)⟩, rfl⟩).1 | refine (q103 _ _ _ _ ?_ ⟨_, ⟨‹_›, ‹_›, ‹_›⟩, rfl⟩).1 | refine (q105 _ _ _ _ ?_ ⟨⟨_, _, _, _⟩, ⟨_, _, _, _⟩, rfl⟩).1 | refine (q107 _ _ _ _ ?_ rfl).1 | refine (q108 _ _ _ _ ?_ rfl).1)
theorem any93d2 : AnyD Tryz.prog T 93 5 (fun m => ∃ l : List (List D), (TR 8 l ∧ 1 ≤ l.length ∧ l.length ≤ 8) ∧ m = [argS 9 l, .val false [.i .i64 2]]) (fun x : EL => .val true [.i .i64 x.k, .i .i64 x.n, .s x.t, .sl false 126 x.l]) (fun (m : List SV) (x : EL) => ExOk 5 x.row) := by
  obtain ⟨g101, k101, q101⟩ := any101
  obtain ⟨g93d1, k93d1, q93d1⟩ := any93d1
  obtain ⟨g103, k103, q103⟩ := any103
  obtain ⟨g105, k105, q105⟩ := any105
  obtain ⟨g107, k107, q107⟩ := any107
  obtain ⟨g108, k108, q108⟩ := any108
  refine AnyD.of (fun _ => ⟨1, 0, ⟨#[]⟩, []⟩) (fun _ _ => ExOk.mk (d := 4) kk1 kk0 (Nat.zero_le _) (Nat.zero_le _) rfl all0) (fokBA (α := EL × Int × Int) (fun _ z => (fun x : EL => .val true [.i .i64 x.k, .i .i64 x.n, .s x.t, .sl false 126 x.l]) z.1) (fun a z => curU 5 a z.2.1 z.2.2) (post := fun a z => CurOk (rowsOf a) z.2.1 ∧ (fun (m : List SV) (x : EL) => ExOk 5 x.row) a.tail z.1) (env := envL [(101, spD 5 (fun m => ∃ l : List (List D), (TR 8 l ∧ 1 ≤ l.length ∧ l.length ≤ 32) ∧ m = [argS 9 l]) (fun x : EL => .val true [.i .i64 x.k, .i .i64 x.n, .s x.t, .sl false 126 x.l]) g101), (44, (spBelow 5)), (93, spD 5 (fun m => ∃ l : List (List D), (TR 8 l ∧ 1 ≤ l.length ∧ l.length ≤ 16) ∧ m = [argS 9 l, .val false [.i .i64 1]]) (fun x : EL => .val true [.i .i64 x.k, .i .i64 x.n, .s x.t, .sl false 126 x.l]) g93d1), (102, spE102), (77, (spPick 5 9)), (103, spD 5 (fun m => ∃ l : List (List D), (TR 8 l ∧ 1 ≤ l.length ∧ l.length ≤ 32) ∧ m = [argS 9 l]) (fun x : EL => .val true [.i .i64 x.k, .i .i64 x.n, .s x.t, .sl false 126 x.l]) g103), (105, spD 5 (fun m => ∃ a b : EL, m = [argG [.i .i64, .i .i64, .s, .l 126] a.row, argG [.i .i64, .i .i64, .s, .l 126] b.row]) (fun x : EL => .val true [.i .i64 x.k, .i .i64 x.n, .s x.t, .sl false 126 x.l]) g105), (104, (nil2 spE104 126)), (106, spE106), (107, spD 5 (fun m => m = []) (fun x : EL => .val true [.i .i64 x.k, .i .i64 x.n, .s x.t, .sl false 126 x.l]) g107), (108, spD 5 (fun m => m = []) (fun x : EL => .val true [.i .i64 x.k, .i .i64 x.n, .s x.t, .sl false 126 x.l]) g108)]) (N := 209) tabT (envL_cons k101 (envL_cons ok44 (envL_cons k93d1 (envL_cons okE102 (envL_cons ok77 (envL_cons k103 (envL_cons k105 (envL_cons okN104 (envL_cons okE106 (envL_cons k107 (envL_cons k108 envL_nil))))))))))) mixed Tryz.func93 rfl Tryz.call93 Tryz.ntmps93 ?_)
  rintro cs args ⟨rows, i, h0, more, ok, hp, he⟩ hwf
  obtain ⟨rfl, rfl⟩ : cs = curC 5 rows i h0 ∧ args = more := by simpa only [List.cons.injEq, SV.tup.injEq, Prod.mk.injEq, true_and, and_true] using he
  obtain ⟨l, ⟨hT, hl1, hl2⟩, rfl⟩ := hp
  refine ⟨by simp, ?_⟩
  clear he hwf
  rw [Tryz.results93]
  repeat' first
    | (refine And.intro ?_ ?_)
    | (intro h; simp only [reduceCtorEq] at h; done)
    | (intro h; rw [h])
    | (intro h)
  all_goals first
    | (show lowEdges _ = true; kernel_rfl) | (show logOk _ _ = true; kernel_rfl) | exact True.intro | exact Or.inr rfl | exact Or.inl rfl
    | exact absurd (by assumption : decide ((2 : Int) < 2) = true) (by decide)
    | (show Alive _ _; rfl)
    | (show List.length _ = _; rfl)
    | refine ⟨_, _, _, _, ?_, ⟨by decide, by decide⟩, rfl⟩
    | refine ⟨_, _, _, ?_, rfl⟩
    | refine ⟨_, _, _, _, ?_, ⟨_, ⟨hT, hl1, (by omega)⟩, rfl⟩, rfl⟩
    | refine ⟨_, _, _, _, ?_, (by first | exact ⟨_, ⟨hT, hl1, (by omega)⟩, rfl⟩ | exact ⟨_, ⟨(TR.nil.add (pick_size (P := fun t => t.size ≤ 8) (Nat.zero_le _) (by intro r hr; simp only [rowsM, List.nil_append, List.cons_append, List.mem_cons, List.not_mem_nil, or_false] at hr; rcases hr with rfl | rfl | rfl <;> (first | decide | exact hT.pick _)) _)).app hT, (by rw [List.length_append]; show 1 ≤ 1 + l.length; omega), (by rw [List.length_append]; show 1 + l.length ≤ 16; omega)⟩, rfl⟩ | exact ⟨_, ⟨((TR.nil.add (pick_size (P := fun t => t.size ≤ 8) (Nat.zero_le _) (by intro r hr; simp only [rowsM, List.nil_append, List.cons_append, List.mem_cons, List.not_mem_nil, or_false] at hr; rcases hr with rfl | rfl | rfl <;> (first | decide | exact hT.pick _)) _)).add (pick_size (P := fun t => t.size ≤ 8) (Nat.zero_le _) (by intro r hr; simp only [rowsM, List.nil_append, List.cons_append, List.mem_cons, List.not_mem_nil, or_false] at hr; rcases hr with rfl | rfl | rfl <;> (first | decide | exact hT.pick _)) _)).app hT, (by rw [List.length_append]; show 1 ≤ 2 + l.length; omega), (by rw [List.length_append]; show 2 + l.length ≤ 16; omega)⟩, rfl⟩), rfl⟩
    | refine ⟨_, _, _, _, ?_, ⟨_, ⟨hT, hl1, (by omega)⟩, rfl⟩, rfl⟩
    | refine ⟨_, _, _, _, ?_, ⟨⟨_, _, _, _⟩, ⟨_, _, _, _⟩, rfl⟩, rfl⟩
    | refine ⟨_, _, _, _, ?_, rfl, rfl⟩
    | refine ⟨_, _, _, _, ?_, rfl, rfl⟩
    | (show (0 : Int) < (l.length : Int); omega)
    | (show Int.toNat 0 < l.length; exact hl1)
    | (show 1 + l.length ≤ maxLen; simp only [maxLen]; omega)
    | (show 2 + l.length ≤ maxLen; simp only [maxLen]; omega)
    | (show (1 + l.length) * 16 ≤ 140737488355328; omega)
    | (show (2 + l.length) * 16 ≤ 140737488355328; omega)
    | exact Int.le_refl _
    | refine ⟨_, _, _, _, ?_, (by exact (show smallN ((3 : Nat) : Int) from ⟨by decide, by decide⟩)), rfl⟩
    | exact ⟨_, EL.row _, EL.row _, rfl⟩
    | exact .inl ⟨_, _, rfl⟩
    | exact .inr ⟨_, rfl, _, _, rfl⟩
    | exact ⟨_, rfl⟩
    | exact ⟨_, _, rfl⟩
    | exact ⟨_, _, _, rfl⟩
    | (refine ⟨(⟨_, _, _, _⟩, _, _), ⟨?_, ?_⟩, rfl, rfl, True.intro⟩; rotate_left; focus ((refine ExOk.mk (d := 4) kk6 (wrap_inK _ _) (Nat.zero_le _) (by first | exact (show (0 : Nat) ≤ 4 by decide) | exact (show (1 : Nat) ≤ 4 by decide) | exact (show (2 : Nat) ≤ 4 by decide) | exact (show (3 : Nat) ≤ 4 by decide)) rfl ?_; (repeat' (first | with_reducible exact all0 | with_reducible refine allSnoc ?_ ?_ | refine (q103 _ _ _ _ ?_ ⟨_, ⟨hT, hl1, (by omega)⟩, rfl⟩).2.mono (by decide) | refine (q93d1 _ _ _ _ ?_ (by first | exact ⟨_, ⟨hT, hl1, (by omega)⟩, rfl⟩ | exact ⟨_, ⟨(TR.nil.add (pick_size (P := fun t => t.size ≤ 8) (Nat.zero_le _) (by intro r hr; simp only [rowsM, List.nil_append, List.cons_append, List.mem_cons, List.not_mem_nil, or_false] at hr; rcases hr with rfl | rfl | rfl <;> (first | decide | exact hT.pick _)) _)).app hT, (by rw [List.length_append]; show 1 ≤ 1 + l.length; omega), (by rw [List.length_append]; show 1 + l.length ≤ 16; omega)⟩, rfl⟩ | exact ⟨_, ⟨((TR.nil.add (pick_size (P := fun t => t.size ≤ 8) (Nat.zero_le _) (by intro r hr; simp only [rowsM, List.nil_append, List.cons_append, List.mem_cons, List.not_mem_nil, or_false] at hr; rcases hr with rfl | rfl | rfl <;> (first | decide | exact hT.pick _)) _)).add (pick_size (P := fun t => t.size ≤ 8) (Nat.zero_le _) (by intro r hr; simp only [rowsM, List.nil_append, List.cons_append, List.mem_cons, List.not_mem_nil, or_false] at hr; rcases hr with rfl | rfl | rfl <;> (first | decide | exact hT.pick _)) _)).app hT, (by rw [List.length_append]; show 1 ≤ 2 + l.length; omega), (by rw [List.length_append]; show 2 + l.length ≤ 16; omega)⟩, rfl⟩)).2.mono (by decide) | refine (q107 _ _ _ _ ?_ rfl).2.mono (by decide) | refine (q108 _ _ _ _ ?_ rfl).2.mono (by decide) | exact (ExOk.mk (d := 0) kk1 (small_in (belowR_lt ⟨by decide, by decide⟩)) (Nat.zero_le _) (Nat.zero_le _) rfl all0).mono (by decide) | exact (ExOk.mk (d := 0) kk1 (wrap_inK _ _) (Nat.zero_le _) (Nat.zero_le _) rfl all0).mono (by decide) | exact (ExOk.mk (d := 0) kk2 kk0 (pick_size (P := fun t => t.size ≤ 8) (Nat.zero_le _) (by intro r hr; simp only [rowsM, List.nil_append, List.cons_append, List.mem_cons, List.not_mem_nil, or_false] at hr; rcases hr with rfl | rfl | rfl <;> (first | decide | exact hT.pick _)) _) (Nat.zero_le _) rfl all0).mono (by decide) | refine (q105 _ _ _ _ (by repeat (first | exact ok | exact ok1 | exact ok2 | refine byteI_ok ?_ | refine (q101 _ _ _ _ ?_ ⟨_, ⟨hT, hl1, (by omega)⟩, rfl⟩).1 | refine (q93d1 _ _ _ _ ?_ (by first | exact ⟨_, ⟨hT, hl1, (by omega)⟩, rfl⟩ | exact ⟨_, ⟨(TR.nil.add (pick_size (P := fun t => t.size ≤ 8) (Nat.zero_le _) (by intro r hr; simp only [rowsM, List.nil_append, List.cons_append, List.mem_cons, List.not_mem_nil, or_false] at hr; rcases hr with rfl | rfl | rfl <;> (first | decide | exact hT.pick _)) _)).app hT, (by rw [List.length_append]; show 1 ≤ 1 + l.length; omega), (by rw [List.length_append]; show 1 + l.length ≤ 16; omega)⟩, rfl⟩ | exact ⟨_, ⟨((TR.nil.add (pick_size (P := fun t => t.size ≤ 8) (Nat.zero_le _) (by intro r hr; simp only [rowsM, List.nil_append, List.cons_append, List.mem_cons, List.not_mem_nil, or_false] at hr; rcases hr with rfl | rfl | rfl <;> (first | decide | exact hT.pick _)) _)).add (pick_size (P := fun t => t.size ≤ 8) (Nat.zero_le _) (by intro r hr; simp only [rowsM, List.nil_append, List.cons_append, List.mem_cons, List.not_mem_nil, or_false] at hr; rcases hr with rfl | rfl | rfl <;> (first | decide | exact hT.pick _)) _)).app hT, (by rw [List.length_append]; show 1 ≤ 2 + l.length; omega), (by rw [List.length_append]; show 2 + l.length ≤ 16; omega)⟩, rfl⟩)).1 | refine (q103 _ _ _ _ ?_ ⟨_, ⟨hT, hl1, (by omega)⟩, rfl⟩).1 | refine (q105 _ _ _ _ ?_ ⟨⟨_, _, _, _⟩, ⟨_, _, _, _⟩, rfl⟩).1 | refine (q107 _ _ _ _ ?_ rfl).1 | refine (q108 _ _ _ _ ?_ rfl).1)) ⟨⟨_, _, _, _⟩, ⟨_, _, _, _⟩, rfl⟩).2 (ExOk _) (all2 ?_ ?_) | refine ExOk.mk (d := 3) kk5 kk0 (Nat.le_of_ble_eq_true rfl) (by first | exact (show (0 : Nat) ≤ 4 by decide) | exact (show (1 : Nat) ≤ 4 by decide) | exact (show (2 : Nat) ≤ 4 by decide) | exact (show (3 : Nat) ≤ 4 by decide)) rfl ?_ | refine allSnoc ?_ ?_ | exact all0)))))
    | (refine ⟨(⟨_, _, _, _⟩, _, _), ⟨?_, ?_⟩, rfl, rfl, True.intro⟩; rotate_left; focus ((refine ExOk.mk (d := 4) kk7 kk0 (pick_size (P := fun t => t.size ≤ 8) (Nat.zero_le _) (by intro r hr; simp only [rowsM, List.nil_append, List.cons_append, List.mem_cons, List.not_mem_nil, or_false] at hr; rcases hr with rfl | rfl | rfl <;> (first | decide | exact hT.pick _)) _) (by first | exact (show (0 : Nat) ≤ 4 by decide) | exact (show (1 : Nat) ≤ 4 by decide) | exact (show (2 : Nat) ≤ 4 by decide) | exact (show (3 : Nat) ≤ 4 by decide)) rfl ?_; (repeat' (first | with_reducible exact all0 | with_reducible refine allSnoc ?_ ?_ | refine (q103 _ _ _ _ ?_ ⟨_, ⟨hT, hl1, (by omega)⟩, rfl⟩).2.mono (by decide) | refine (q93d1 _ _ _ _ ?_ (by first | exact ⟨_, ⟨hT, hl1, (by omega)⟩, rfl⟩ | exact ⟨_, ⟨(TR.nil.add (pick_size (P := fun t => t.size ≤ 8) (Nat.zero_le _) (by intro r hr; simp only [rowsM, List.nil_append, List.cons_append, List.mem_cons, List.not_mem_nil, or_false] at hr; rcases hr with rfl | rfl | rfl <;> (first | decide | exact hT.pick _)) _)).app hT, (by rw [List.length_append]; show 1 ≤ 1 + l.length; omega), (by rw [List.length_append]; show 1 + l.length ≤ 16; omega)⟩, rfl⟩ | exact ⟨_, ⟨((TR.nil.add (pick_size (P := fun t => t.size ≤ 8) (Nat.zero_le _) (by intro r hr; simp only [rowsM, List.nil_append, List.cons_append, List.mem_cons, List.not_mem_nil, or_false] at hr; rcases hr with rfl | rfl | rfl <;> (first | decide | exact hT.pick _)) _)).add (pick_size (P := fun t => t.size ≤ 8) (Nat.zero_le _) (by intro r hr; simp only [rowsM, List.nil_append, List.cons_append, List.mem_cons, List.not_mem_nil, or_false] at hr; rcases hr with rfl | rfl | rfl <;> (first | decide | exact hT.pick _)) _)).app hT, (by rw [List.length_append]; show 1 ≤ 2 + l.length; omega), (by rw [List.length_append]; show 2 + l.length ≤ 16; omega)⟩, rfl⟩)).2.mono (by decide) | refine (q107 _ _ _ _ ?_ rfl).2.mono (by decide) | refine (q108 _ _ _ _ ?_ rfl).2.mono (by decide) | exact (ExOk.mk (d := 0) kk1 (small_in (belowR_lt ⟨by decide, by decide⟩)) (Nat.zero_le _) (Nat.zero_le _) rfl all0).mono (by decide) | exact (ExOk.mk (d := 0) kk1 (wrap_inK _ _) (Nat.zero_le _) (Nat.zero_le _) rfl all0).mono (by decide) | exact (ExOk.mk (d := 0) kk2 kk0 (pick_size (P := fun t => t.size ≤ 8) (Nat.zero_le _) (by intro r hr; simp only [rowsM, List.nil_append, List.cons_append, List.mem_cons, List.not_mem_nil, or_false] at hr; rcases hr with rfl | rfl | rfl <;> (first | decide | exact hT.pick _)) _) (Nat.zero_le _) rfl all0).mono (by decide) | refine (q105 _ _ _ _ (by repeat (first | exact ok | exact ok1 | exact ok2 | refine byteI_ok ?_ | refine (q101 _ _ _ _ ?_ ⟨_, ⟨hT, hl1, (by omega)⟩, rfl⟩).1 | refine (q93d1 _ _ _ _ ?_ (by first | exact ⟨_, ⟨hT, hl1, (by omega)⟩, rfl⟩ | exact ⟨_, ⟨(TR.nil.add (pick_size (P := fun t => t.size ≤ 8) (Nat.zero_le _) (by intro r hr; simp only [rowsM, List.nil_append, List.cons_append, List.mem_cons, List.not_mem_nil, or_false] at hr; rcases hr with rfl | rfl | rfl <;> (first | decide | exact hT.pick _)) _)).app hT, (by rw [List.length_append]; show 1 ≤ 1 + l.length; omega), (by rw [List.length_append]; show 1 + l.length ≤ 16; omega)⟩, rfl⟩ | exact ⟨_, ⟨((TR.nil.add (pick_size (P := fun t => t.size ≤ 8) (Nat.zero_le _) (by intro r hr; simp only [rowsM, List.nil_append, List.cons_append, List.mem_cons, List.not_mem_nil, or_false] at hr; rcases hr with rfl | rfl | rfl <;> (first | decide | exact hT.pick _)) _)).add (pick_size (P := fun t => t.size ≤ 8) (Nat.zero_le _) (by intro r hr; simp only [rowsM, List.nil_append, List.cons_append, List.mem_cons, List.not_mem_nil, or_false] at hr; rcases hr with rfl | rfl | rfl <;> (first | decide | exact hT.pick _)) _)).app hT, (by rw [List.length_append]; show 1 ≤ 2 + l.length; omega), (by rw [List.length_append]; show 2 + l.length ≤ 16; omega)⟩, rfl⟩)).1 | refine (q103 _ _ _ _ ?_ ⟨_, ⟨hT, hl1, (by omega)⟩, rfl⟩).1 | refine (q105 _ _ _ _ ?_ ⟨⟨_, _, _, _⟩, ⟨_, _, _, _⟩, rfl⟩).1 | refine (q107 _ _ _ _ ?_ rfl).1 | refine (q108 _ _ _ _ ?_ rfl).1)) ⟨⟨_, _, _, _⟩, ⟨_, _, _, _⟩, rfl⟩).2 (ExOk _) (all2 ?_ ?_) | refine ExOk.mk (d := 3) kk5 kk0 (Nat.le_of_ble_eq_true rfl) (by first | exact (show (0 : Nat) ≤ 4 by decide) | exact (show (1 : Nat) ≤ 4 by decide) | exact (show (2 : Nat) ≤ 4 by decide) | exact (show (3 : Nat) ≤ 4 by decide)) rfl ?_ | refine allSnoc ?_ ?_ | exact all0)))))
    | (refine ⟨(⟨_, _, _, _⟩, _, _), ⟨?_, ?_⟩, rfl, rfl, True.intro⟩; rotate_left; focus ((refine ExOk.mk (d := 4) kk9 kk0 (pick_size (P := fun t => t.size ≤ 8) (Nat.zero_le _) (by intro r hr; simp only [rowsM, List.nil_append, List.cons_append, List.mem_cons, List.not_mem_nil, or_false] at hr; rcases hr with rfl | rfl | rfl <;> (first | decide | exact hT.pick _)) _) (by first | exact (show (0 : Nat) ≤ 4 by decide) | exact (show (1 : Nat) ≤ 4 by decide) | exact (show (2 : Nat) ≤ 4 by decide) | exact (show (3 : Nat) ≤ 4 by decide)) rfl ?_; (repeat' (first | with_reducible exact all0 | with_reducible refine allSnoc ?_ ?_ | refine (q103 _ _ _ _ ?_ ⟨_, ⟨hT, hl1, (by omega)⟩, rfl⟩).2.mono (by decide) | refine (q93d1 _ _ _ _ ?_ (by first | exact ⟨_, ⟨hT, hl1, (by omega)⟩, rfl⟩ | exact ⟨_, ⟨(TR.nil.add (pick_size (P := fun t => t.size ≤ 8) (Nat.zero_le _) (by intro r hr; simp only [rowsM, List.nil_append, List.cons_append, List.mem_cons, List.not_mem_nil, or_false] at hr; rcases hr with rfl | rfl | rfl <;> (first | decide | exact hT.pick _)) _)).app hT, (by rw [List.length_append]; show 1 ≤ 1 + l.length; omega), (by rw [List.length_append]; show 1 + l.length ≤ 16; omega)⟩, rfl⟩ | exact ⟨_, ⟨((TR.nil.add (pick_size (P := fun t => t.size ≤ 8) (Nat.zero_le _) (by intro r hr; simp only [rowsM, List.nil_append, List.cons_append, List.mem_cons, List.not_mem_nil, or_false] at hr; rcases hr with rfl | rfl | rfl <;> (first | decide | exact hT.pick _)) _)).add (pick_size (P := fun t => t.size ≤ 8) (Nat.zero_le _) (by intro r hr; simp only [rowsM, List.nil_append, List.cons_append, List.mem_cons, List.not_mem_nil, or_false] at hr; rcases hr with rfl | rfl | rfl <;> (first | decide | exact hT.pick _)) _)).app hT, (by rw [List.length_append]; show 1 ≤ 2 + l.length; omega), (by rw [List.length_append]; show 2 + l.length ≤ 16; omega)⟩, rfl⟩)).2.mono (by decide) | refine (q107 _ _ _ _ ?_ rfl).2.mono (by decide) | refine (q108 _ _ _ _ ?_ rfl).2.mono (by decide) | exact (ExOk.mk (d := 0) kk1 (small_in (belowR_lt ⟨by decide, by decide⟩)) (Nat.zero_le _) (Nat.zero_le _) rfl all0).mono (by decide) | exact (ExOk.mk (d := 0) kk1 (wrap_inK _ _) (Nat.zero_le _) (Nat.zero_le _) rfl all0).mono (by decide) | exact (ExOk.mk (d := 0) kk2 kk0 (pick_size (P := fun t => t.size ≤ 8) (Nat.zero_le _) (by intro r hr; simp only [rowsM, List.nil_append, List.cons_append, List.mem_cons, List.not_mem_nil, or_false] at hr; rcases hr with rfl | rfl | rfl <;> (first | decide | exact hT.pick _)) _) (Nat.zero_le _) rfl all0).mono (by decide) | refine (q105 _ _ _ _ (by repeat (first | exact ok | exact ok1 | exact ok2 | refine byteI_ok ?_ | refine (q101 _ _ _ _ ?_ ⟨_, ⟨hT, hl1, (by omega)⟩, rfl⟩).1 | refine (q93d1 _ _ _ _ ?_ (by first | exact ⟨_, ⟨hT, hl1, (by omega)⟩, rfl⟩ | exact ⟨_, ⟨(TR.nil.add (pick_size (P := fun t => t.size ≤ 8) (Nat.zero_le _) (by intro r hr; simp only [rowsM, List.nil_append, List.cons_append, List.mem_cons, List.not_mem_nil, or_false] at hr; rcases hr with rfl | rfl | rfl <;> (first | decide | exact hT.pick _)) _)).app hT, (by rw [List.length_append]; show 1 ≤ 1 + l.length; omega), (by rw [List.length_append]; show 1 + l.length ≤ 16; omega)⟩, rfl⟩ | exact ⟨_, ⟨((TR.nil.add (pick_size (P := fun t => t.size ≤ 8) (Nat.zero_le _) (by intro r hr; simp only [rowsM, List.nil_append, List.cons_append, List.mem_cons, List.not_mem_nil, or_false] at hr; rcases hr with rfl | rfl | rfl <;> (first | decide | exact hT.pick _)) _)).add (pick_size (P := fun t => t.size ≤ 8) (Nat.zero_le _) (by intro r hr; simp only [rowsM, List.nil_append, List.cons_append, List.mem_cons, List.not_mem_nil, or_false] at hr; rcases hr with rfl | rfl | rfl <;> (first | decide | exact hT.pick _)) _)).app hT, (by rw [List.length_append]; show 1 ≤ 2 + l.length; omega), (by rw [List.length_append]; show 2 + l.length ≤ 16; omega)⟩, rfl⟩)).1 | refine (q103 _ _ _ _ ?_ ⟨_, ⟨hT, hl1, (by omega)⟩, rfl⟩).1 | refine (q105 _ _ _ _ ?_ ⟨⟨_, _, _, _⟩, ⟨_, _, _, _⟩, rfl⟩).1 | refine (q107 _ _ _ _ ?_ rfl).1 | refine (q108 _ _ _ _ ?_ rfl).1)) ⟨⟨_, _, _, _⟩, ⟨_, _, _, _⟩, rfl⟩).2 (ExOk _) (all2 ?_ ?_) | refine ExOk.mk (d := 3) kk5 kk0 (Nat.le_of_ble_eq_true rfl) (by first | exact (show (0 : Nat) ≤ 4 by decide) | exact (show (1 : Nat) ≤ 4 by decide) | exact (show (2 : Nat) ≤ 4 by decide) | exact (show (3 : Nat) ≤ 4 by decide)) rfl ?_ | refine allSnoc ?_ ?_ | exact all0)))))
    | (refine ⟨(⟨_, _, _, _⟩, _, _), ⟨?_, ?_⟩, rfl, rfl, True.intro⟩; rotate_left; focus ((refine ExOk.mk (d := 4) kk8 kk0 (Nat.zero_le _) (by first | exact (show (0 : Nat) ≤ 4 by decide) | exact (show (1 : Nat) ≤ 4 by decide) | exact (show (2 : Nat) ≤ 4 by decide) | exact (show (3 : Nat) ≤ 4 by decide)) rfl ?_; (repeat' (first | with_reducible exact all0 | with_reducible refine allSnoc ?_ ?_ | refine (q103 _ _ _ _ ?_ ⟨_, ⟨hT, hl1, (by omega)⟩, rfl⟩).2.mono (by decide) | refine (q93d1 _ _ _ _ ?_ (by first | exact ⟨_, ⟨hT, hl1, (by omega)⟩, rfl⟩ | exact ⟨_, ⟨(TR.nil.add (pick_size (P := fun t => t.size ≤ 8) (Nat.zero_le _) (by intro r hr; simp only [rowsM, List.nil_append, List.cons_append, List.mem_cons, List.not_mem_nil, or_false] at hr; rcases hr with rfl | rfl | rfl <;> (first | decide | exact hT.pick _)) _)).app hT, (by rw [List.length_append]; show 1 ≤ 1 + l.length; omega), (by rw [List.length_append]; show 1 + l.length ≤ 16; omega)⟩, rfl⟩ | exact ⟨_, ⟨((TR.nil.add (pick_size (P := fun t => t.size ≤ 8) (Nat.zero_le _) (by intro r hr; simp only [rowsM, List.nil_append, List.cons_append, List.mem_cons, List.not_mem_nil, or_false] at hr; rcases hr with rfl | rfl | rfl <;> (first | decide | exact hT.pick _)) _)).add (pick_size (P := fun t => t.size ≤ 8) (Nat.zero_le _) (by intro r hr; simp only [rowsM, List.nil_append, List.cons_append, List.mem_cons, List.not_mem_nil, or_false] at hr; rcases hr with rfl | rfl | rfl <;> (first | decide | exact hT.pick _)) _)).app hT, (by rw [List.length_append]; show 1 ≤ 2 + l.length; omega), (by rw [List.length_append]; show 2 + l.length ≤ 16; omega)⟩, rfl⟩)).2.mono (by decide) | refine (q107 _ _ _ _ ?_ rfl).2.mono (by decide) | refine (q108 _ _ _ _ ?_ rfl).2.mono (by decide) | exact (ExOk.mk (d := 0) kk1 (small_in (belowR_lt ⟨by decide, by decide⟩)) (Nat.zero_le _) (Nat.zero_le _) rfl all0).mono (by decide) | exact (ExOk.mk (d := 0) kk1 (wrap_inK _ _) (Nat.zero_le _) (Nat.zero_le _) rfl all0).mono (by decide) | exact (ExOk.mk (d := 0) kk2 kk0 (pick_size (P := fun t => t.size ≤ 8) (Nat.zero_le _) (by intro r hr; simp only [rowsM, List.nil_append, List.cons_append, List.mem_cons, List.not_mem_nil, or_false] at hr; rcases hr with rfl | rfl | rfl <;> (first | decide | exact hT.pick _)) _) (Nat.zero_le _) rfl all0).mono (by decide) | refine (q105 _ _ _ _ (by repeat (first | exact ok | exact ok1 | exact ok2 | refine byteI_ok ?_ | refine (q101 _ _ _ _ ?_ ⟨_, ⟨hT, hl1, (by omega)⟩, rfl⟩).1 | refine (q93d1 _ _ _ _ ?_ (by first | exact ⟨_, ⟨hT, hl1, (by omega)⟩, rfl⟩ | exact ⟨_, ⟨(TR.nil.add (pick_size (P := fun t => t.size ≤ 8) (Nat.zero_le _) (by intro r hr; simp only [rowsM, List.nil_append, List.cons_append, List.mem_cons, List.not_mem_nil, or_false] at hr; rcases hr with rfl | rfl | rfl <;> (first | decide | exact hT.pick _)) _)).app hT, (by rw [List.length_append]; show 1 ≤ 1 + l.length; omega), (by rw [List.length_append]; show 1 + l.length ≤ 16; omega)⟩, rfl⟩ | exact ⟨_, ⟨((TR.nil.add (pick_size (P := fun t => t.size ≤ 8) (Nat.zero_le _) (by intro r hr; simp only [rowsM, List.nil_append, List.cons_append, List.mem_cons, List.not_mem_nil, or_false] at hr; rcases hr with rfl | rfl | rfl <;> (first | decide | exact hT.pick _)) _)).add (pick_size (P := fun t => t.size ≤ 8) (Nat.zero_le _) (by intro r hr; simp only [rowsM, List.nil_append, List.cons_append, List.mem_cons, List.not_mem_nil, or_false] at hr; rcases hr with rfl | rfl | rfl <;> (first | decide | exact hT.pick _)) _)).app hT, (by rw [List.length_append]; show 1 ≤ 2 + l.length; omega), (by rw [List.length_append]; show 2 + l.length ≤ 16; omega)⟩, rfl⟩)).1 | refine (q103 _ _ _ _ ?_ ⟨_, ⟨hT, hl1, (by omega)⟩, rfl⟩).1 | refine (q105 _ _ _ _ ?_ ⟨⟨_, _, _, _⟩, ⟨_, _, _, _⟩, rfl⟩).1 | refine (q107 _ _ _ _ ?_ rfl).1 | refine (q108 _ _ _ _ ?_ rfl).1)) ⟨⟨_, _, _, _⟩, ⟨_, _, _, _⟩, rfl⟩).2 (ExOk _) (all2 ?_ ?_) | refine ExOk.mk (d := 3) kk5 kk0 (Nat.le_of_ble_eq_true rfl) (by first | exact (show (0 : Nat) ≤ 4 by decide) | exact (show (1 : Nat) ≤ 4 by decide) | exact (show (2 : Nat) ≤ 4 by decide) | exact (show (3 : Nat) ≤ 4 by decide)) rfl ?_ | refine allSnoc ?_ ?_ | exact all0)))))
    | (refine ⟨(⟨_, _, _, _⟩, _, _), ⟨?_, ?_⟩, rfl, rfl, True.intro⟩; rotate_left; focus (refine (q103 _ _ _ _ ?_ ⟨_, ⟨hT, hl1, (by omega)⟩, rfl⟩).2.mono (by decide)))
    | (refine ⟨(⟨_, _, _, _⟩, _, _), ⟨?_, ?_⟩, rfl, rfl, True.intro⟩; rotate_left; focus ((refine ExOk.mk (d := 4) kk5 kk0 (Nat.le_of_ble_eq_true rfl) (by first | exact (show (0 : Nat) ≤ 4 by decide) | exact (show (1 : Nat) ≤ 4 by decide) | exact (show (2 : Nat) ≤ 4 by decide) | exact (show (3 : Nat) ≤ 4 by decide)) rfl ?_; (repeat' (first | with_reducible exact all0 | with_reducible refine allSnoc ?_ ?_ | refine (q103 _ _ _ _ ?_ ⟨_, ⟨hT, hl1, (by omega)⟩, rfl⟩).2.mono (by decide) | refine (q93d1 _ _ _ _ ?_ (by first | exact ⟨_, ⟨hT, hl1, (by omega)⟩, rfl⟩ | exact ⟨_, ⟨(TR.nil.add (pick_size (P := fun t => t.size ≤ 8) (Nat.zero_le _) (by intro r hr; simp only [rowsM, List.nil_append, List.cons_append, List.mem_cons, List.not_mem_nil, or_false] at hr; rcases hr with rfl | rfl | rfl <;> (first | decide | exact hT.pick _)) _)).app hT, (by rw [List.length_append]; show 1 ≤ 1 + l.length; omega), (by rw [List.length_append]; show 1 + l.length ≤ 16; omega)⟩, rfl⟩ | exact ⟨_, ⟨((TR.nil.add (pick_size (P := fun t => t.size ≤ 8) (Nat.zero_le _) (by intro r hr; simp only [rowsM, List.nil_append, List.cons_append, List.mem_cons, List.not_mem_nil, or_false] at hr; rcases hr with rfl | rfl | rfl <;> (first | decide | exact hT.pick _)) _)).add (pick_size (P := fun t => t.size ≤ 8) (Nat.zero_le _) (by intro r hr; simp only [rowsM, List.nil_append, List.cons_append, List.mem_cons, List.not_mem_nil, or_false] at hr; rcases hr with rfl | rfl | rfl <;> (first | decide | exact hT.pick _)) _)).app hT, (by rw [List.length_append]; show 1 ≤ 2 + l.length; omega), (by rw [List.length_append]; show 2 + l.length ≤ 16; omega)⟩, rfl⟩)).2.mono (by decide) | refine (q107 _ _ _ _ ?_ rfl).2.mono (by decide) | refine (q108 _ _ _ _ ?_ rfl).2.mono (by decide) | exact (ExOk.mk (d := 0) kk1 (small_in (belowR_lt ⟨by decide, by decide⟩)) (Nat.zero_le _) (Nat.zero_le _) rfl all0).mono (by decide) | exact (ExOk.mk (d := 0) kk1 (wrap_inK _ _) (Nat.zero_le _) (Nat.zero_le _) rfl all0).mono (by decide) | exact (ExOk.mk (d := 0) kk2 kk0 (pick_size (P := fun t => t.size ≤ 8) (Nat.zero_le _) (by intro r hr; simp only [rowsM, List.nil_append, List.cons_append, List.mem_cons, List.not_mem_nil, or_false] at hr; rcases hr with rfl | rfl | rfl <;> (first | decide | exact hT.pick _)) _) (Nat.zero_le _) rfl all0).mono (by decide) | refine (q105 _ _ _ _ (by repeat (first | exact ok | exact ok1 | exact ok2 | refine byteI_ok ?_ | refine (q101 _ _ _ _ ?_ ⟨_, ⟨hT, hl1, (by omega)⟩, rfl⟩).1 | refine (q93d1 _ _ _ _ ?_ (by first | exact ⟨_, ⟨hT, hl1, (by omega)⟩, rfl⟩ | exact ⟨_, ⟨(TR.nil.add (pick_size (P := fun t => t.size ≤ 8) (Nat.zero_le _) (by intro r hr; simp only [rowsM, List.nil_append, List.cons_append, List.mem_cons, List.not_mem_nil, or_false] at hr; rcases hr with rfl | rfl | rfl <;> (first | decide | exact hT.pick _)) _)).app hT, (by rw [List.length_append]; show 1 ≤ 1 + l.length; omega), (by rw [List.length_append]; show 1 + l.length ≤ 16; omega)⟩, rfl⟩ | exact ⟨_, ⟨((TR.nil.add (pick_size (P := fun t => t.size ≤ 8) (Nat.zero_le _) (by intro r hr; simp only [rowsM, List.nil_append, List.cons_append, List.mem_cons, List.not_mem_nil, or_false] at hr; rcases hr with rfl | rfl | rfl <;> (first | decide | exact hT.pick _)) _)).add (pick_size (P := fun t => t.size ≤ 8) (Nat.zero_le _) (by intro r hr; simp only [rowsM, List.nil_append, List.cons_append, List.mem_cons, List.not_mem_nil, or_false] at hr; rcases hr with rfl | rfl | rfl <;> (first | decide | exact hT.pick _)) _)).app hT, (by rw [List.length_append]; show 1 ≤ 2 + l.length; omega), (by rw [List.length_append]; show 2 + l.length ≤ 16; omega)⟩, rfl⟩)).1 | refine (q103 _ _ _ _ ?_ ⟨_, ⟨hT, hl1, (by omega)⟩, rfl⟩).1 | refine (q105 _ _ _ _ ?_ ⟨⟨_, _, _, _⟩, ⟨_, _, _, _⟩, rfl⟩).1 | refine (q107 _ _ _ _ ?_ rfl).1 | refine (q108 _ _ _ _ ?_ rfl).1)) ⟨⟨_, _, _, _⟩, ⟨_, _, _, _⟩, rfl⟩).2 (ExOk _) (all2 ?_ ?_) | refine ExOk.mk (d := 3) kk5 kk0 (Nat.le_of_ble_eq_true rfl) (by first | exact (show (0 : Nat) ≤ 4 by decide) | exact (show (1 : Nat) ≤ 4 by decide) | exact (show (2 : Nat) ≤ 4 by decide) | exact (show (3 : Nat) ≤ 4 by decide)) rfl ?_ | refine allSnoc ?_ ?_ | exact all0)))))
    | (refine ⟨(⟨_, _, _, _⟩, _, _), ⟨?_, ?_⟩, rfl, rfl, True.intro⟩; rotate_left; focus ((refine ExOk.mk (d := 4) kk5 kk0 (pick_size (P := fun t => t.size ≤ 8) (Nat.zero_le _) (by intro r hr; simp only [rowsM, List.nil_append, List.cons_append, List.mem_cons, List.not_mem_nil, or_false] at hr; rcases hr with rfl | rfl <;> (first | decide | exact hT.pick _)) _) (by first | exact (show (0 : Nat) ≤ 4 by decide) | exact (show (1 : Nat) ≤ 4 by decide) | exact (show (2 : Nat) ≤ 4 by decide) | exact (show (3 : Nat) ≤ 4 by decide)) rfl ?_; (repeat' (first | with_reducible exact all0 | with_reducible refine allSnoc ?_ ?_ | refine (q103 _ _ _ _ ?_ ⟨_, ⟨hT, hl1, (by omega)⟩, rfl⟩).2.mono (by decide) | refine (q93d1 _ _ _ _ ?_ (by first | exact ⟨_, ⟨hT, hl1, (by omega)⟩, rfl⟩ | exact ⟨_, ⟨(TR.nil.add (pick_size (P := fun t => t.size ≤ 8) (Nat.zero_le _) (by intro r hr; simp only [rowsM, List.nil_append, List.cons_append, List.mem_cons, List.not_mem_nil, or_false] at hr; rcases hr with rfl | rfl | rfl <;> (first | decide | exact hT.pick _)) _)).app hT, (by rw [List.length_append]; show 1 ≤ 1 + l.length; omega), (by rw [List.length_append]; show 1 + l.length ≤ 16; omega)⟩, rfl⟩ | exact ⟨_, ⟨((TR.nil.add (pick_size (P := fun t => t.size ≤ 8) (Nat.zero_le _) (by intro r hr; simp only [rowsM, List.nil_append, List.cons_append, List.mem_cons, List.not_mem_nil, or_false] at hr; rcases hr with rfl | rfl | rfl <;> (first | decide | exact hT.pick _)) _)).add (pick_size (P := fun t => t.size ≤ 8) (Nat.zero_le _) (by intro r hr; simp only [rowsM, List.nil_append, List.cons_append, List.mem_cons, List.not_mem_nil, or_false] at hr; rcases hr with rfl | rfl | rfl <;> (first | decide | exact hT.pick _)) _)).app hT, (by rw [List.length_append]; show 1 ≤ 2 + l.length; omega), (by rw [List.length_append]; show 2 + l.length ≤ 16; omega)⟩, rfl⟩)).2.mono (by decide) | refine (q107 _ _ _ _ ?_ rfl).2.mono (by decide) | refine (q108 _ _ _ _ ?_ rfl).2.mono (by decide) | exact (ExOk.mk (d := 0) kk1 (small_in (belowR_lt ⟨by decide, by decide⟩)) (Nat.zero_le _) (Nat.zero_le _) rfl all0).mono (by decide) | exact (ExOk.mk (d := 0) kk1 (wrap_inK _ _) (Nat.zero_le _) (Nat.zero_le _) rfl all0).mono (by decide) | exact (ExOk.mk (d := 0) kk2 kk0 (pick_size (P := fun t => t.size ≤ 8) (Nat.zero_le _) (by intro r hr; simp only [rowsM, List.nil_append, List.cons_append, List.mem_cons, List.not_mem_nil, or_false] at hr; rcases hr with rfl | rfl | rfl <;> (first | decide | exact hT.pick _)) _) (Nat.zero_le _) rfl all0).mono (by decide) | refine (q105 _ _ _ _ (by repeat (first | exact ok | exact ok1 | exact ok2 | refine byteI_ok ?_ | refine (q101 _ _ _ _ ?_ ⟨_, ⟨hT, hl1, (by omega)⟩, rfl⟩).1 | refine (q93d1 _ _ _ _ ?_ (by first | exact ⟨_, ⟨hT, hl1, (by omega)⟩, rfl⟩ | exact ⟨_, ⟨(TR.nil.add (pick_size (P := fun t => t.size ≤ 8) (Nat.zero_le _) (by intro r hr; simp only [rowsM, List.nil_append, List.cons_append, List.mem_cons, List.not_mem_nil, or_false] at hr; rcases hr with rfl | rfl | rfl <;> (first | decide | exact hT.pick _)) _)).app hT, (by rw [List.length_append]; show 1 ≤ 1 + l.length; omega), (by rw [List.length_append]; show 1 + l.length ≤ 16; omega)⟩, rfl⟩ | exact ⟨_, ⟨((TR.nil.add (pick_size (P := fun t => t.size ≤ 8) (Nat.zero_le _) (by intro r hr; simp only [rowsM, List.nil_append, List.cons_append, List.mem_cons, List.not_mem_nil, or_false] at hr; rcases hr with rfl | rfl | rfl <;> (first | decide | exact hT.pick _)) _)).add (pick_size (P := fun t => t.size ≤ 8) (Nat.zero_le _) (by intro r hr; simp only [rowsM, List.nil_append, List.cons_append, List.mem_cons, List.not_mem_nil, or_false] at hr; rcases hr with rfl | rfl | rfl <;> (first | decide | exact hT.pick _)) _)).app hT, (by rw [List.length_append]; show 1 ≤ 2 + l.length; omega), (by rw [List.length_append]; show 2 + l.length ≤ 16; omega)⟩, rfl⟩)).1 | refine (q103 _ _ _ _ ?_ ⟨_, ⟨hT, hl1, (by omega)⟩, rfl⟩).1 | refine (q105 _ _ _ _ ?_ ⟨⟨_, _, _, _⟩, ⟨_, _, _, _⟩, rfl⟩).1 | refine (q107 _ _ _ _ ?_ rfl).1 | refine (q108 _ _ _ _ ?_ rfl).1)) ⟨⟨_, _, _, _⟩, ⟨_, _, _, _⟩, rfl⟩).2 (ExOk _) (all2 ?_ ?_) | refine ExOk.mk (d := 3) kk5 kk0 (Nat.le_of_ble_eq_true rfl) (by first | exact (show (0 : Nat) ≤ 4 by decide) | exact (show (1 : Nat) ≤ 4 by decide) | exact (show (2 : Nat) ≤ 4 by decide) | exact (show (3 : Nat) ≤ 4 by decide)) rfl ?_ | refine allSnoc ?_ ?_ | exact all0)))))
    | (refine ⟨(⟨_, _, _, _⟩, _, _), ⟨?_, ?_⟩, rfl, rfl, True.intro⟩; rotate_left; focus ((refine ExOk.mk (d := 4) kk5 kk0 (pick_size (P := fun t => t.size ≤ 8) (Nat.zero_le _) (by intro r hr; simp only [rowsM, List.nil_append, List.cons_append, List.mem_cons, List.not_mem_nil, or_false] at hr; rcases hr with rfl | rfl | rfl | rfl <;> (first | decide | exact hT.pick _)) _) (by first | exact (show (0 : Nat) ≤ 4 by decide) | exact (show (1 : Nat) ≤ 4 by decide) | exact (show (2 : Nat) ≤ 4 by decide) | exact (show (3 : Nat) ≤ 4 by decide)) rfl ?_; (repeat' (first | with_reducible exact all0 | with_reducible refine allSnoc ?_ ?_ | refine (q103 _ _ _ _ ?_ ⟨_, ⟨hT, hl1, (by omega)⟩, rfl⟩).2.mono (by decide) | refine (q93d1 _ _ _ _ ?_ (by first | exact ⟨_, ⟨hT, hl1, (by omega)⟩, rfl⟩ | exact ⟨_, ⟨(TR.nil.add (pick_size (P := fun t => t.size ≤ 8) (Nat.zero_le _) (by intro r hr; simp only [rowsM, List.nil_append, List.cons_append, List.mem_cons, List.not_mem_nil, or_false] at hr; rcases hr with rfl | rfl | rfl <;> (first | decide | exact hT.pick _)) _)).app hT, (by rw [List.length_append]; show 1 ≤ 1 + l.length; omega), (by rw [List.length_append]; show 1 + l.length ≤ 16; omega)⟩, rfl⟩ | exact ⟨_, ⟨((TR.nil.add (pick_size (P := fun t => t.size ≤ 8) (Nat.zero_le _) (by intro r hr; simp only [rowsM, List.nil_append, List.cons_append, List.mem_cons, List.not_mem_nil, or_false] at hr; rcases hr with rfl | rfl | rfl <;> (first | decide | exact hT.pick _)) _)).add (pick_size (P := fun t => t.size ≤ 8) (Nat.zero_le _) (by intro r hr; simp only [rowsM, List.nil_append, List.cons_append, List.mem_cons, List.not_mem_nil, or_false] at hr; rcases hr with rfl | rfl | rfl <;> (first | decide | exact hT.pick _)) _)).app hT, (by rw [List.length_append]; show 1 ≤ 2 + l.length; omega), (by rw [List.length_append]; show 2 + l.length ≤ 16; omega)⟩, rfl⟩)).2.mono (by decide) | refine (q107 _ _ _ _ ?_ rfl).2.mono (by decide) | refine (q108 _ _ _ _ ?_ rfl).2.mono (by decide) | exact (ExOk.mk (d := 0) kk1 (small_in (belowR_lt ⟨by decide, by decide⟩)) (Nat.zero_le _) (Nat.zero_le _) rfl all0).mono (by decide) | exact (ExOk.mk (d := 0) kk1 (wrap_inK _ _) (Nat.zero_le _) (Nat.zero_le _) rfl all0).mono (by decide) | exact (ExOk.mk (d := 0) kk2 kk0 (pick_size (P := fun t => t.size ≤ 8) (Nat.zero_le _) (by intro r hr; simp only [rowsM, List.nil_append, List.cons_append, List.mem_cons, List.not_mem_nil, or_false] at hr; rcases hr with rfl | rfl | rfl <;> (first | decide | exact hT.pick _)) _) (Nat.zero_le _) rfl all0).mono (by decide) | refine (q105 _ _ _ _ (by repeat (first | exact ok | exact ok1 | exact ok2 | refine byteI_ok ?_ | refine (q101 _ _ _ _ ?_ ⟨_, ⟨hT, hl1, (by omega)⟩, rfl⟩).1 | refine (q93d1 _ _ _ _ ?_ (by first | exact ⟨_, ⟨hT, hl1, (by omega)⟩, rfl⟩ | exact ⟨_, ⟨(TR.nil.add (pick_size (P := fun t => t.size ≤ 8) (Nat.zero_le _) (by intro r hr; simp only [rowsM, List.nil_append, List.cons_append, List.mem_cons, List.not_mem_nil, or_false] at hr; rcases hr with rfl | rfl | rfl <;> (first | decide | exact hT.pick _)) _)).app hT, (by rw [List.length_append]; show 1 ≤ 1 + l.length; omega), (by rw [List.length_append]; show 1 + l.length ≤ 16; omega)⟩, rfl⟩ | exact ⟨_, ⟨((TR.nil.add (pick_size (P := fun t => t.size ≤ 8) (Nat.zero_le _) (by intro r hr; simp only [rowsM, List.nil_append, List.cons_append, List.mem_cons, List.not_mem_nil, or_false] at hr; rcases hr with rfl | rfl | rfl <;> (first | decide | exact hT.pick _)) _)).add (pick_size (P := fun t => t.size ≤ 8) (Nat.zero_le _) (by intro r hr; simp only [rowsM, List.nil_append, List.cons_append, List.mem_cons, List.not_mem_nil, or_false] at hr; rcases hr with rfl | rfl | rfl <;> (first | decide | exact hT.pick _)) _)).app hT, (by rw [List.length_append]; show 1 ≤ 2 + l.length; omega), (by rw [List.length_append]; show 2 + l.length ≤ 16; omega)⟩, rfl⟩)).1 | refine (q103 _ _ _ _ ?_ ⟨_, ⟨hT, hl1, (by omega)⟩, rfl⟩).1 | refine (q105 _ _ _ _ ?_ ⟨⟨_, _, _, _⟩, ⟨_, _, _, _⟩, rfl⟩).1 | refine (q107 _ _ _ _ ?_ rfl).1 | refine (q108 _ _ _ _ ?_ rfl).1)) ⟨⟨_, _, _, _⟩, ⟨_, _, _, _⟩, rfl⟩).2 (ExOk _) (all2 ?_ ?_) | refine ExOk.mk (d := 3) kk5 kk0 (Nat.le_of_ble_eq_true rfl) (by first | exact (show (0 : Nat) ≤ 4 by decide) | exact (show (1 : Nat) ≤ 4 by decide) | exact (show (2 : Nat) ≤ 4 by decide) | exact (show (3 : Nat) ≤ 4 by decide)) rfl ?_ | refine allSnoc ?_ ?_ | exact all0)))))
    | (refine ⟨(⟨_, _, _, _⟩, _, _), ⟨?_, ?_⟩, rfl, rfl, True.intro⟩; rotate_left; focus ((refine ((q105 _ _ _ _ (by repeat (first | exact ok | exact ok1 | exact ok2 | refine byteI_ok ?_ | refine (q101 _ _ _ _ ?_ ⟨_, ⟨hT, hl1, (by omega)⟩, rfl⟩).1 | refine (q93d1 _ _ _ _ ?_ (by first | exact ⟨_, ⟨hT, hl1, (by omega)⟩, rfl⟩ | exact ⟨_, ⟨(TR.nil.add (pick_size (P := fun t => t.size ≤ 8) (Nat.zero_le _) (by intro r hr; simp only [rowsM, List.nil_append, List.cons_append, List.mem_cons, List.not_mem_nil, or_false] at hr; rcases hr with rfl | rfl | rfl <;> (first | decide | exact hT.pick _)) _)).app hT, (by rw [List.length_append]; show 1 ≤ 1 + l.length; omega), (by rw [List.length_append]; show 1 + l.length ≤ 16; omega)⟩, rfl⟩ | exact ⟨_, ⟨((TR.nil.add (pick_size (P := fun t => t.size ≤ 8) (Nat.zero_le _) (by intro r hr; simp only [rowsM, List.nil_append, List.cons_append, List.mem_cons, List.not_mem_nil, or_false] at hr; rcases hr with rfl | rfl | rfl <;> (first | decide | exact hT.pick _)) _)).add (pick_size (P := fun t => t.size ≤ 8) (Nat.zero_le _) (by intro r hr; simp only [rowsM, List.nil_append, List.cons_append, List.mem_cons, List.not_mem_nil, or_false] at hr; rcases hr with rfl | rfl | rfl <;> (first | decide | exact hT.pick _)) _)).app hT, (by rw [List.length_append]; show 1 ≤ 2 + l.length; omega), (by rw [List.length_append]; show 2 + l.length ≤ 16; omega)⟩, rfl⟩)).1 | refine (q103 _ _ _ _ ?_ ⟨_, ⟨hT, hl1, (by omega)⟩, rfl⟩).1 | refine (q105 _ _ _ _ ?_ ⟨⟨_, _, _, _⟩, ⟨_, _, _, _⟩, rfl⟩).1 | refine (q107 _ _ _ _ ?_ rfl).1 | refine (q108 _ _ _ _ ?_ rfl).1)) ⟨⟨_, _, _, _⟩, ⟨_, _, _, _⟩, rfl⟩).2 (ExOk _) (all2 ?_ ?_) : ExOk 4 _).mono (by decide); (repeat' (first | with_reducible exact all0 | with_reducible refine allSnoc ?_ ?_ | refine (q103 _ _ _ _ ?_ ⟨_, ⟨hT, hl1, (by omega)⟩, rfl⟩).2.mono (by decide) | refine (q93d1 _ _ _ _ ?_ (by first | exact ⟨_, ⟨hT, hl1, (by omega)⟩, rfl⟩ | exact ⟨_, ⟨(TR.nil.add (pick_size (P := fun t => t.size ≤ 8) (Nat.zero_le _) (by intro r hr; simp only [rowsM, List.nil_append, List.cons_append, List.mem_cons, List.not_mem_nil, or_false] at hr; rcases hr with rfl | rfl | rfl <;> (first | decide | exact hT.pick _)) _)).app hT, (by rw [List.length_append]; show 1 ≤ 1 + l.length; omega), (by rw [List.length_append]; show 1 + l.length ≤ 16; omega)⟩, rfl⟩ | exact ⟨_, ⟨((TR.nil.add (pick_size (P := fun t => t.size ≤ 8) (Nat.zero_le _) (by intro r hr; simp only [rowsM, List.nil_append, List.cons_append, List.mem_cons, List.not_mem_nil, or_false] at hr; rcases hr with rfl | rfl | rfl <;> (first | decide | exact hT.pick _)) _)).add (pick_size (P := fun t => t.size ≤ 8) (Nat.zero_le _) (by intro r hr; simp only [rowsM, List.nil_append, List.cons_append, List.mem_cons, List.not_mem_nil, or_false] at hr; rcases hr with rfl | rfl | rfl <;> (first | decide | exact hT.pick _)) _)).app hT, (by rw [List.length_append]; show 1 ≤ 2 + l.length; omega), (by rw [List.length_append]; show 2 + l.length ≤ 16; omega)⟩, rfl⟩)).2.mono (by decide) | refine (q107 _ _ _ _ ?_ rfl).2.mono (by decide) | refine (q108 _ _ _ _ ?_ rfl).2.mono (by decide) | exact (ExOk.mk (d := 0) kk1 (small_in (belowR_lt ⟨by decide, by decide⟩)) (Nat.zero_le _) (Nat.zero_le _) rfl all0).mono (by decide) | exact (ExOk.mk (d := 0) kk1 (wrap_inK _ _) (Nat.zero_le _) (Nat.zero_le _) rfl all0).mono (by decide) | exact (ExOk.mk (d := 0) kk2 kk0 (pick_size (P := fun t => t.size ≤ 8) (Nat.zero_le _) (by intro r hr; simp only [rowsM, List.nil_append, List.cons_append, List.mem_cons, List.not_mem_nil, or_false] at hr; rcases hr with rfl | rfl | rfl <;> (first | decide | exact hT.pick _)) _) (Nat.zero_le _) rfl all0).mono (by decide) | refine (q105 _ _ _ _ (by repeat (first | exact ok | exact ok1 | exact ok2 | refine byteI_ok ?_ | refine (q101 _ _ _ _ ?_ ⟨_, ⟨hT, hl1, (by omega)⟩, rfl⟩).1 | refine (q93d1 _ _ _ _ ?_ (by first | exact ⟨_, ⟨hT, hl1, (by omega)⟩, rfl⟩ | exact ⟨_, ⟨(TR.nil.add (pick_size (P := fun t => t.size ≤ 8) (Nat.zero_le _) (by intro r hr; simp only [rowsM, List.nil_append, List.cons_append, List.mem_cons, List.not_mem_nil, or_false] at hr; rcases hr with rfl | rfl | rfl <;> (first | decide | exact hT.pick _)) _)).app hT, (by rw [List.length_append]; show 1 ≤ 1 + l.length; omega), (by rw [List.length_append]; show 1 + l.length ≤ 16; omega)⟩, rfl⟩ | exact ⟨_, ⟨((TR.nil.add (pick_size (P := fun t => t.size ≤ 8) (Nat.zero_le _) (by intro r hr; simp only [rowsM, List.nil_append, List.cons_append, List.mem_cons, List.not_mem_nil, or_false] at hr; rcases hr with rfl | rfl | rfl <;> (first | decide | exact hT.pick _)) _)).add (pick_size (P := fun t => t.size ≤ 8) (Nat.zero_le _) (by intro r hr; simp only [rowsM, List.nil_append, List.cons_append, List.mem_cons, List.not_mem_nil, or_false] at hr; rcases hr with rfl | rfl | rfl <;> (first | decide | exact hT.pick _)) _)).app hT, (by rw [List.length_append]; show 1 ≤ 2 + l.length; omega), (by rw [List.length_append]; show 2 + l.length ≤ 16; omega)⟩, rfl⟩)).1 | refine (q103 _ _ _ _ ?_ ⟨_, ⟨hT, hl1, (by omega)⟩, rfl⟩).1 | refine (q105 _ _ _ _ ?_ ⟨⟨_, _, _, _⟩, ⟨_, _, _, _⟩, rfl⟩).1 | refine (q107 _ _ _ _ ?_ rfl).1 | refine (q108 _ _ _ _ ?_ rfl).1)) ⟨⟨_, _, _, _⟩, ⟨_, _, _, _⟩, rfl⟩).2 (ExOk _) (all2 ?_ ?_) | refine ExOk.mk (d := 3) kk5 kk0 (Nat.le_of_ble_eq_true rfl) (by first | exact (show (0 : Nat) ≤ 4 by decide) | exact (show (1 : Nat) ≤ 4 by decide) | exact (show (2 : Nat) ≤ 4 by decide) | exact (show (3 : Nat) ≤ 4 by decide)) rfl ?_ | refine allSnoc ?_ ?_ | exact all0)))))
    | skip
  all_goals repeat (first | exact ok | exact ok1 | exact ok2 | refine byteI_ok ?_ | refine (q101 _ _ _ _ ?_ ⟨_, ⟨hT, hl1, (by omega)⟩, rfl⟩).1 | refine (q93d1 _ _ _ _ ?_ (by first | exact ⟨_, ⟨hT, hl1, (by omega)⟩, rfl⟩ | exact ⟨_, ⟨(TR.nil.add (pick_size (P := fun t => t.size ≤ 8) (Nat.zero_le _) (by intro r hr; simp only [rowsM, List.nil_append, List.cons_append, List.mem_cons, List.not_mem_nil, or_false] at hr; rcases hr with rfl | rfl | rfl <;> (first | decide | exact hT.pick _)) _)).app hT, (by rw [List.length_append]; show 1 ≤ 1 + l.length; omega), (by rw [List.length_append]; show 1 + l.length ≤ 16; omega)⟩, rfl⟩ | exact ⟨_, ⟨((TR.nil.add (pick_size (P := fun t => t.size ≤ 8) (Nat.zero_le _) (by intro r hr; simp only [rowsM, List.nil_append, List.cons_append, List.mem_cons, List.not_mem_nil, or_false] at hr; rcases hr with rfl | rfl | rfl <;> (first | decide | exact hT.pick _)) _)).add (pick_size (P := fun t => t.size ≤ 8) (Nat.zero_le _) (by intro r hr; simp only [rowsM, List.nil_append, List.cons_append, List.mem_cons, List.not_mem_nil, or_false] at hr; rcases hr with rfl | rfl | rfl <;> (first | decide | exact hT.pick _)) _)).app hT, (by rw [List.length_append]; show 1 ≤ 2 + l.length; omega), (by rw [List.length_append]; show 2 + l.length ≤ 16; omega)⟩, rfl⟩)).1 | refine (q103 _ _ _ _ ?_ ⟨_, ⟨hT, hl1, (by omega)⟩, rfl⟩).1 | refine (q105 _ _ _ _ ?_ ⟨⟨_, _, _, _⟩, ⟨_, _, _, _⟩, rfl⟩).1 | refine (q107 _ _ _ _ ?_ rfl).1 | refine (q108 _ _ _ _ ?_ rfl).1)
end Go.Proofs.YtodddilaniojgaaGreat.Ab
