/- Drawn cells: printed by a program of this claim. -/
import Derived.Test.YtodddilaniojgaaGreatCJd
import Derived.Test.YtodddilaniojgaaGreatCGy
namespace Go.Proofs.YtodddilaniojgaaGreat.Ab
open Go.RowKit
set_option linter.unusedVariables false
set_option linter.unusedSimpArgs false
set_option maxRecDepth 100000
set_option maxHeartbeats 2000000
theorem any78 : AnyD Tryz.prog T 78 5 (fun m => m = []) (fun x : ByteArray => .val false [.s x]) (fun (m : List SV) (x : ByteArray) => x.size ≤ 120) := by
  obtain ⟨g94, k94, q94⟩ := any94
  obtain ⟨g93d2, k93d2, q93d2⟩ := any93d2
  refine AnyD.of (fun _ => ⟨#[]⟩) (fun _ _ => Nat.zero_le _) (fokBA (α := ByteArray × Int × Int) (fun _ z => (fun x : ByteArray => .val false [.s x]) z.1) (fun a z => curU 5 a z.2.1 z.2.2) (post := fun a z => CurOk (rowsOf a) z.2.1 ∧ (fun (m : List SV) (x : ByteArray) => x.size ≤ 120) a.tail z.1) (env := envL [(44, (spBelow 5)), (77, (spPick 5 9)), (80, spItoa), (93, spD 5 (fun m => ∃ l : List (List D), (TR 8 l ∧ 1 ≤ l.length ∧ l.length ≤ 8) ∧ m = [argS 9 l, .val false [.i .i64 2]]) (fun x : EL => .val true [.i .i64 x.k, .i .i64 x.n, .s x.t, .sl false 126 x.l]) g93d2), (94, { pre := preE [.i .i64, .i .i64, .s, .l 126] 5, res := fun a => (fun x : ByteArray => .val false [.s x]) (g94 a) })]) (N := 64) tabT (envL_cons ok44 (envL_cons ok77 (envL_cons ok80 (envL_cons k93d2 (envL_cons k94 envL_nil))))) mixed Tryz.func78 rfl Tryz.call78 Tryz.ntmps78 ?_)
  rintro cs args ⟨rows, i, h0, more, ok, hp, he⟩ hwf
  obtain ⟨rfl, rfl⟩ : cs = curC 5 rows i h0 ∧ args = more := by simpa only [List.cons.injEq, SV.tup.injEq, Prod.mk.injEq, true_and, and_true] using he
  obtain rfl := hp
  refine ⟨by simp, ?_⟩
  clear he hwf
  rw [Tryz.results78]
  repeat' first
    | (refine And.intro ?_ ?_)
    | (intro h; simp only [reduceCtorEq] at h; done)
    | (intro h; rw [h])
    | (intro h)
  all_goals first
    | (show lowEdges _ = true; kernel_rfl) | (show logOk _ _ = true; kernel_rfl) | exact True.intro | exact Or.inr rfl | exact Or.inl rfl
    | (show Alive _ _; rfl)
    | (show List.length _ = _; rfl)
    | refine ⟨_, _, _, _, ?_, ⟨by decide, by decide⟩, rfl⟩
    | refine ⟨_, _, _, ?_, rfl⟩
    | refine ⟨_, _, _, _, ?_, ⟨_, ⟨((((TR.nil.add (by decide)).add (by decide)).add (by decide)).add (by decide)).add (by decide), by decide, by decide⟩, rfl⟩, rfl⟩
    | exact ⟨_, rfl⟩
    | exact ⟨_, (q93d2 _ _ _ _ (by repeat (first | exact ok | exact ok1 | exact ok2 | refine byteI_ok ?_ | refine (q93d2 _ _ _ _ ?_ ⟨_, ⟨((((TR.nil.add (by decide)).add (by decide)).add (by decide)).add (by decide)).add (by decide), by decide, by decide⟩, rfl⟩).1)) ⟨_, ⟨((((TR.nil.add (by decide)).add (by decide)).add (by decide)).add (by decide)).add (by decide), by decide, by decide⟩, rfl⟩).2, rfl⟩
    | ((with_reducible apply szT)
       · repeat (first | (with_reducible apply cat2) | exact pick_size (P := fun t => t.size ≤ 24) (Nat.zero_le _) (by intro r hr; simp only [rowsM, List.nil_append, List.cons_append, List.mem_cons, List.not_mem_nil, or_false] at hr; rcases hr with rfl | rfl | rfl | rfl | rfl <;> decide) _ | exact pick_size (P := fun t => t.size ≤ 32) (Nat.zero_le _) (by intro r hr; simp only [rowsM, List.nil_append, List.cons_append, List.mem_cons, List.not_mem_nil, or_false] at hr; rcases hr with rfl | rfl | rfl | rfl | rfl | rfl | rfl | rfl | rfl <;> decide) _ | exact itoa20 (small_in (belowR_lt ⟨by decide, by decide⟩)) | exact q94 _ | exact Nat.le_refl _)
       · repeat (first | (with_reducible apply cat2) | exact pick_size (P := fun t => t.size ≤ 24) (Nat.zero_le _) (by intro r hr; simp only [rowsM, List.nil_append, List.cons_append, List.mem_cons, List.not_mem_nil, or_false] at hr; rcases hr with rfl | rfl | rfl | rfl | rfl <;> decide) _ | exact pick_size (P := fun t => t.size ≤ 32) (Nat.zero_le _) (by intro r hr; simp only [rowsM, List.nil_append, List.cons_append, List.mem_cons, List.not_mem_nil, or_false] at hr; rcases hr with rfl | rfl | rfl | rfl | rfl | rfl | rfl | rfl | rfl <;> decide) _ | exact itoa20 (small_in (belowR_lt ⟨by decide, by decide⟩)) | exact q94 _ | exact Nat.le_refl _)
       · (try simp only [lit_size, List.size_toArray, List.length_cons, List.length_nil, maxLen, Nat.reduceAdd]); omega)
    | (refine ⟨(_, _, _), ⟨(by repeat (first | exact ok | exact ok1 | exact ok2 | refine byteI_ok ?_ | refine (q93d2 _ _ _ _ ?_ ⟨_, ⟨((((TR.nil.add (by decide)).add (by decide)).add (by decide)).add (by decide)).add (by decide), by decide, by decide⟩, rfl⟩).1)), ?_⟩, rfl, rfl, True.intro⟩
       first
         | decide
         | (exact le120 (by with_reducible assumption))
         | (apply szE
            · repeat (first | (with_reducible apply cat2) | exact pick_size (P := fun t => t.size ≤ 24) (Nat.zero_le _) (by intro r hr; simp only [rowsM, List.nil_append, List.cons_append, List.mem_cons, List.not_mem_nil, or_false] at hr; rcases hr with rfl | rfl | rfl | rfl | rfl <;> decide) _ | exact pick_size (P := fun t => t.size ≤ 32) (Nat.zero_le _) (by intro r hr; simp only [rowsM, List.nil_append, List.cons_append, List.mem_cons, List.not_mem_nil, or_false] at hr; rcases hr with rfl | rfl | rfl | rfl | rfl | rfl | rfl | rfl | rfl <;> decide) _ | exact itoa20 (small_in (belowR_lt ⟨by decide, by decide⟩)) | exact q94 _ | exact Nat.le_refl _)
            · (try simp only [lit_size, List.size_toArray, List.length_cons, List.length_nil, Nat.reduceAdd]); omega))
    | skip
  all_goals repeat (first | exact ok | exact ok1 | exact ok2 | refine byteI_ok ?_ | refine (q93d2 _ _ _ _ ?_ ⟨_, ⟨((((TR.nil.add (by decide)).add (by decide)).add (by decide)).add (by decide)).add (by decide), by decide, by decide⟩, rfl⟩).1)
theorem any63 : AnyD Tryz.prog T 63 5 (fun m => m = []) (fun x : ByteArray => .val false [.s x]) (fun (m : List SV) (x : ByteArray) => x.size ≤ 700) := by
  obtain ⟨g82, k82, q82⟩ := any82
  refine AnyD.of (fun _ => ⟨#[]⟩) (fun _ _ => Nat.zero_le _) (fokBA (α := ByteArray × Int × Int) (fun _ z => (fun x : ByteArray => .val false [.s x]) z.1) (fun a z => curU 5 a z.2.1 z.2.2) (post := fun a z => CurOk (rowsOf a) z.2.1 ∧ (fun (m : List SV) (x : ByteArray) => x.size ≤ 700) a.tail z.1) (env := envL [(77, (spPick 5 9)), (44, (spBelow 5)), (79, (spSplit true)), (80, spItoa), (81, spJoin), (45, (spOnce 5)), (82, spD 5 (fun m => ∃ (s : ByteArray) (l : List (List D)), (s.size ≤ 500000 ∧ smallN (l.length : Int) ∧ ∀ k, (((l.getD k []).getD 0 default).str).size ≤ 20) ∧ m = [.val false [.s s], argS 9 l]) (fun x : ByteArray => .val false [.s x]) g82)]) (N := 46) tabT (envL_cons ok77 (envL_cons ok44 (envL_cons ok79 (envL_cons ok80 (envL_cons ok81 (envL_cons ok45 (envL_cons k82 envL_nil))))))) mixed Tryz.func63 rfl Tryz.call63 Tryz.ntmps63 ?_)
  rintro cs args ⟨rows, i, h0, more, ok, hp, he⟩ hwf
  obtain ⟨rfl, rfl⟩ : cs = curC 5 rows i h0 ∧ args = more := by simpa only [List.cons.injEq, SV.tup.injEq, Prod.mk.injEq, true_and, and_true] using he
  obtain rfl := hp
  refine ⟨by simp, ?_⟩
  clear he hwf
  rw [Tryz.results63]
  repeat' first
    | (refine And.intro ?_ ?_)
    | (intro h; simp only [reduceCtorEq] at h; done)
    | (intro h; rw [h])
    | (intro h)
  all_goals first
    | (show lowEdges _ = true; kernel_rfl) | (show logOk _ _ = true; kernel_rfl) | exact True.intro | exact Or.inr rfl | exact Or.inl rfl
    | (show Alive _ _; rfl)
    | (show List.length _ = _; rfl)
    | refine ⟨_, _, _, _, ?_, ⟨by decide, by decide⟩, rfl⟩
    | refine ⟨_, _, _, ?_, rfl⟩
    | refine ⟨_, _, _, _, ?_, ⟨_, _, ⟨by omega, ⟨by decide, by decide⟩, fun k => pick_size (P := fun t => t.size ≤ 20) (Nat.zero_le _) (by intro r hr; simp only [rowsM, List.nil_append, List.cons_append, List.mem_cons, List.not_mem_nil, or_false] at hr; rcases hr with rfl | rfl | rfl | rfl | rfl <;> decide) _⟩, rfl⟩, rfl⟩
    | exact ⟨_, Nat.le_trans (pick_size (P := fun t => t.size ≤ 5) (Nat.zero_le _) (by intro r hr; simp only [rowsM, List.nil_append, List.cons_append, List.mem_cons, List.not_mem_nil, or_false] at hr; rcases hr with rfl | rfl | rfl | rfl | rfl | rfl <;> decide) _) (by decide), rfl⟩
    | skip
  all_goals try ((with_reducible show CurOk _ _); repeat (first | exact ok | exact ok1 | exact ok2 | refine byteI_ok ?_ | refine (q82 _ _ _ _ ?_ ⟨_, _, ⟨by omega, ⟨by decide, by decide⟩, fun k => pick_size (P := fun t => t.size ≤ 20) (Nat.zero_le _) (by intro r hr; simp only [rowsM, List.nil_append, List.cons_append, List.mem_cons, List.not_mem_nil, or_false] at hr; rcases hr with rfl | rfl | rfl | rfl | rfl <;> decide) _⟩, rfl⟩).1))
  refine awp_loop (Q := _) [0, 3, 4, 5, 6] [46] (fun q st => ∃ (s : ByteArray) (n m z I H : Int), st = ([.ptr 46 0 0, .val false [.s s], .val false [.i .i64 n], .val false [.i .i64 m], .val false [.i .i64 z]], [(0, [.val false [.sl false 5 rows], .val false [.i .i64 I], .val false [.i .i64 H]])]) ∧ (0 ≤ n ∧ n ≤ 3) ∧ (0 ≤ m ∧ m ≤ 6) ∧ s.size ≤ 5 + 200 * z.toNat ∧ CurOk rows I ∧ 0 ≤ z ∧ z ≤ n ∧ q = n.toNat - z.toNat) ?_ ?_
  · exact ⟨rfl, _, _, _, _, 0, _, _, rfl, ⟨(belowR_in (rows := rows) (i := _) (h := _) (n := 4) ⟨by decide, by decide⟩).1, Int.le_of_lt_add_one (belowR_in (rows := rows) (i := _) (h := _) (n := 4) ⟨by decide, by decide⟩).2⟩, wlen (pick_size (P := fun t => t.size ≤ 5) (Nat.zero_le _) (by intro r hr; simp only [rowsM, List.nil_append, List.cons_append, List.mem_cons, List.not_mem_nil, or_false] at hr; rcases hr with rfl | rfl | rfl | rfl | rfl | rfl <;> decide) _), (pick_size (P := fun t => t.size ≤ 5) (Nat.zero_le _) (by intro r hr; simp only [rowsM, List.nil_append, List.cons_append, List.mem_cons, List.not_mem_nil, or_false] at hr; rcases hr with rfl | rfl | rfl | rfl | rfl | rfl <;> decide) _), (by repeat (first | exact ok | exact ok1 | exact ok2 | refine byteI_ok ?_ | refine (q82 _ _ _ _ ?_ ⟨_, _, ⟨by omega, ⟨by decide, by decide⟩, fun k => pick_size (P := fun t => t.size ≤ 20) (Nat.zero_le _) (by intro r hr; simp only [rowsM, List.nil_append, List.cons_append, List.mem_cons, List.not_mem_nil, or_false] at hr; rcases hr with rfl | rfl | rfl | rfl | rfl <;> decide) _⟩, rfl⟩).1)), by decide, (belowR_in (rows := rows) (i := _) (h := _) (n := 4) ⟨by decide, by decide⟩).1, rfl⟩
  rintro q st ⟨s, n, m, z, I, H, rfl, hn, hm, hs, ok1, h1, h2, h3⟩
  repeat' first
    | (refine And.intro ?_ ?_)
    | (intro h; simp only [reduceCtorEq] at h; done)
    | (intro h; rw [h])
    | (intro h)
  all_goals first
    | (show lowEdges _ = true; kernel_rfl) | (show logOk _ _ = true; kernel_rfl) | exact True.intro | exact Or.inr rfl | exact Or.inl rfl
    | (show Alive _ _; rfl)
    | (show List.length _ = _; rfl)
    | exact ⟨_, _, _, _, (by repeat (first | exact ok | exact ok1 | exact ok2 | refine byteI_ok ?_ | refine (q82 _ _ _ _ ?_ ⟨_, _, ⟨by omega, ⟨by decide, by decide⟩, fun k => pick_size (P := fun t => t.size ≤ 20) (Nat.zero_le _) (by intro r hr; simp only [rowsM, List.nil_append, List.cons_append, List.mem_cons, List.not_mem_nil, or_false] at hr; rcases hr with rfl | rfl | rfl | rfl | rfl <;> decide) _⟩, rfl⟩).1)), ⟨by decide, by decide⟩, rfl⟩
    | exact ⟨_, _, _, _, (by repeat (first | exact ok | exact ok1 | exact ok2 | refine byteI_ok ?_ | refine (q82 _ _ _ _ ?_ ⟨_, _, ⟨by omega, ⟨by decide, by decide⟩, fun k => pick_size (P := fun t => t.size ≤ 20) (Nat.zero_le _) (by intro r hr; simp only [rowsM, List.nil_append, List.cons_append, List.mem_cons, List.not_mem_nil, or_false] at hr; rcases hr with rfl | rfl | rfl | rfl | rfl <;> decide) _⟩, rfl⟩).1)), ⟨_, _, ⟨by omega, ⟨by decide, by decide⟩, fun k => pick_size (P := fun t => t.size ≤ 20) (Nat.zero_le _) (by intro r hr; simp only [rowsM, List.nil_append, List.cons_append, List.mem_cons, List.not_mem_nil, or_false] at hr; rcases hr with rfl | rfl | rfl | rfl | rfl <;> decide) _⟩, rfl⟩, rfl⟩
    | (refine ⟨(_, _, _), ⟨(by repeat (first | exact ok | exact ok1 | exact ok2 | refine byteI_ok ?_ | refine (q82 _ _ _ _ ?_ ⟨_, _, ⟨by omega, ⟨by decide, by decide⟩, fun k => pick_size (P := fun t => t.size ≤ 20) (Nat.zero_le _) (by intro r hr; simp only [rowsM, List.nil_append, List.cons_append, List.mem_cons, List.not_mem_nil, or_false] at hr; rcases hr with rfl | rfl | rfl | rfl | rfl <;> decide) _⟩, rfl⟩).1)), ?_⟩, rfl, rfl, True.intro⟩
       first
         | (show s.size ≤ 700; omega)
         | exact Nat.le_trans (q82 _ _ _ _ (by repeat (first | exact ok | exact ok1 | exact ok2 | refine byteI_ok ?_ | refine (q82 _ _ _ _ ?_ ⟨_, _, ⟨by omega, ⟨by decide, by decide⟩, fun k => pick_size (P := fun t => t.size ≤ 20) (Nat.zero_le _) (by intro r hr; simp only [rowsM, List.nil_append, List.cons_append, List.mem_cons, List.not_mem_nil, or_false] at hr; rcases hr with rfl | rfl | rfl | rfl | rfl <;> decide) _⟩, rfl⟩).1)) ⟨_, _, ⟨by omega, ⟨by decide, by decide⟩, fun k => pick_size (P := fun t => t.size ≤ 20) (Nat.zero_le _) (by intro r hr; simp only [rowsM, List.nil_append, List.cons_append, List.mem_cons, List.not_mem_nil, or_false] at hr; rcases hr with rfl | rfl | rfl | rfl | rfl <;> decide) _⟩, rfl⟩).2 (show s.size + 20 ≤ 700 by omega))
    | skip
  have hz : z < n := of_decide_eq_true ‹decide (z < n) = true›
  refine awp_loop (Q := _) [0, 3, 4, 5, 6, 7, 8] [46] (fun q st => ∃ (r : List (List D)) (k I2 H2 : Int), st = ([.ptr 46 0 0, .val false [.s s], .val false [.i .i64 n], .val false [.i .i64 m], .val false [.i .i64 z], .val false [.sl true 9 r], .val false [.i .i64 k]], [(0, [.val false [.sl false 5 rows], .val false [.i .i64 I2], .val false [.i .i64 H2]])]) ∧ TR 11 r ∧ r.length = k.toNat ∧ CurOk rows I2 ∧ 0 ≤ k ∧ k ≤ m ∧ q = m.toNat - k.toNat) ?_ ?_
  · exact ⟨rfl, _, _, 0, _, _, rfl, TR.nil, rfl, ok1, by decide, hm.1, rfl⟩
  rintro q2 st2 ⟨r, k, I2, H2, rfl, hT, hrl, ok2, k1, k2, k3⟩
  repeat' first
    | (refine And.intro ?_ ?_)
    | (intro h; simp only [reduceCtorEq] at h; done)
    | (intro h; rw [h])
    | (intro h)
  all_goals first
    | (show lowEdges _ = true; kernel_rfl) | (show logOk _ _ = true; kernel_rfl) | exact True.intro | exact Or.inr rfl | exact Or.inl rfl
    | (show Alive _ _; rfl)
    | (show List.length _ = _; rfl)
    | exact ⟨_, _, _, _, (by repeat (first | exact ok | exact ok1 | exact ok2 | refine byteI_ok ?_ | refine (q82 _ _ _ _ ?_ ⟨_, _, ⟨by omega, ⟨by decide, by decide⟩, fun k => pick_size (P := fun t => t.size ≤ 20) (Nat.zero_le _) (by intro r hr; simp only [rowsM, List.nil_append, List.cons_append, List.mem_cons, List.not_mem_nil, or_false] at hr; rcases hr with rfl | rfl | rfl | rfl | rfl <;> decide) _⟩, rfl⟩).1)), ⟨by decide, by decide⟩, rfl⟩
    | exact ⟨_, rfl⟩
    | (show r.length + 1 ≤ maxLen; simp only [maxLen]; omega)
    | (show (r.length + 1) * 16 ≤ 140737488355328; omega)
    | (show s.size + 2 ≤ maxLen; simp only [maxLen]; omega)
    | exact ⟨_, _, by omega, Nat.le_trans (row_join hT) (by omega), rfl⟩
    | (show (s ++ _).size + _ ≤ maxLen; have := row_join hT; rw [ByteArray.size_append]; show s.size + 2 + _ ≤ maxLen; simp only [maxLen]; omega)
    | (have hk : k < m := of_decide_eq_true ‹decide (k < m) = true›
       refine ⟨m.toNat - (k + 1).toNat, by omega, _, k + 1, _, _, congrArg (fun x => (([.ptr 46 0 0, .val false [.s s], .val false [.i .i64 n], .val false [.i .i64 m], .val false [.i .i64 z], .val false [.sl true 9 _], .val false [.i .i64 x]], [(0, [.val false [.sl false 5 rows], .val false [.i .i64 _], .val false [.i .i64 _]])]) : Snap)) (wrap_i64_in (by omega) (by omega)), hT.add (itoaB_11 (small_inR (belowR_lt ⟨by decide, by decide⟩))), by rw [List.length_append, hrl]; show k.toNat + 1 = _; omega, (by repeat (first | exact ok | exact ok1 | exact ok2 | refine byteI_ok ?_ | refine (q82 _ _ _ _ ?_ ⟨_, _, ⟨by omega, ⟨by decide, by decide⟩, fun k => pick_size (P := fun t => t.size ≤ 20) (Nat.zero_le _) (by intro r hr; simp only [rowsM, List.nil_append, List.cons_append, List.mem_cons, List.not_mem_nil, or_false] at hr; rcases hr with rfl | rfl | rfl | rfl | rfl <;> decide) _⟩, rfl⟩).1)), by omega, by omega, rfl⟩)
    | (refine ⟨n.toNat - (z + 1).toNat, by omega, _, n, m, z + 1, _, _, congrArg (fun x => (([.ptr 46 0 0, .val false [.s _], .val false [.i .i64 n], .val false [.i .i64 m], .val false [.i .i64 x]], [(0, [.val false [.sl false 5 rows], .val false [.i .i64 _], .val false [.i .i64 _]])]) : Snap)) (wrap_i64_in (by omega) (by omega)), hn, hm, ?_, ok2, by omega, by omega, rfl⟩
       have := row_join hT
       rw [ByteArray.size_append, ByteArray.size_append]
       show s.size + 2 + _ ≤ _
       omega)
    | skip
theorem any61 : AnyD Tryz.prog T 61 5 (fun m => ∃ n : Int, m = [.val false [.i .i64 n]]) (fun x : CLs => .val true [.i .i64 x.id, .i .i64 x.ve, .i .i64 x.k, .s x.nm, .s x.cd, .i .i64 x.n]) (fun (m : List SV) (x : CLs) => x.id = nOfM m ∧ x.ok) := by
  obtain ⟨g46, k46, q46⟩ := any46
  obtain ⟨g78, k78, q78⟩ := any78
  obtain ⟨g63, k63, q63⟩ := any63
  refine AnyD.of (fun m => ⟨nOfM m, 0, 0, ⟨#[]⟩, ⟨#[]⟩, 0⟩) (fun m _ => ⟨rfl, ⟨Int.le_refl 0, (by decide : (0 : Int) ≤ 3)⟩, kk0, Nat.zero_le _, Nat.zero_le _, kk0⟩) (fokBA (α := CLs × Int × Int) (fun _ z => (fun x : CLs => .val true [.i .i64 x.id, .i .i64 x.ve, .i .i64 x.k, .s x.nm, .s x.cd, .i .i64 x.n]) z.1) (fun a z => curU 5 a z.2.1 z.2.2) (post := fun a z => CurOk (rowsOf a) z.2.1 ∧ (fun (m : List SV) (x : CLs) => x.id = nOfM m ∧ x.ok) a.tail z.1) (env := envL [(44, (spBelow 5)), (46, spD 5 (fun m => ∃ l : List (List D), smallN (l.length : Int) ∧ m = [argS 3 l]) (fun x : Int => .val false [.i .i64 x]) g46), (77, (spPick 5 9)), (78, spD 5 (fun m => m = []) (fun x : ByteArray => .val false [.s x]) g78), (63, spD 5 (fun m => m = []) (fun x : ByteArray => .val false [.s x]) g63)]) (N := 42) tabT (envL_cons ok44 (envL_cons k46 (envL_cons ok77 (envL_cons k78 (envL_cons k63 envL_nil))))) mixed Tryz.func61 rfl Tryz.call61 Tryz.ntmps61 ?_)
  rintro cs args ⟨rows, i, h0, more, ok, hp, he⟩ hwf
  obtain ⟨rfl, rfl⟩ : cs = curC 5 rows i h0 ∧ args = more := by simpa only [List.cons.injEq, SV.tup.injEq, Prod.mk.injEq, true_and, and_true] using he
  obtain ⟨n, rfl⟩ := hp
  refine ⟨by simp, ?_⟩
  clear he hwf
  rw [Tryz.results61]
  repeat' first
    | (refine And.intro ?_ ?_)
    | (intro h; simp only [reduceCtorEq] at h; done)
    | (intro h; rw [h])
    | (intro h)
  all_goals first
    | (show lowEdges _ = true; kernel_rfl) | (show logOk _ _ = true; kernel_rfl) | exact True.intro | exact Or.inr rfl | exact Or.inl rfl
    | (show Alive _ _; rfl)
    | (show List.length _ = _; rfl)
    | refine ⟨_, _, _, _, ?_, ⟨by decide, by decide⟩, rfl⟩
    | refine ⟨_, _, _, ?_, rfl⟩
    | refine ⟨_, _, _, _, ?_, ⟨_, ⟨by decide, by decide⟩, rfl⟩, rfl⟩
    | refine ⟨_, _, _, _, ?_, rfl, rfl⟩
    | refine ⟨_, _, _, _, ?_, rfl, rfl⟩
    | (refine ⟨(⟨_, _, _, _, _, _⟩, _, _), ⟨?_, ?_⟩, rfl, rfl, True.intro⟩; rotate_left; refine ⟨rfl, ve3, ?_, ?_, ?_, ?_⟩
       · exact ((q46 _ _ _ _ (by repeat (first | exact ok | exact ok1 | exact ok2 | refine byteI_ok ?_ | refine (q46 _ _ _ _ ?_ ⟨_, ⟨by decide, by decide⟩, rfl⟩).1 | refine (q78 _ _ _ _ ?_ rfl).1 | refine (q63 _ _ _ _ ?_ rfl).1)) ⟨_, ⟨by decide, by decide⟩, rfl⟩).2 (inK .i64) kk0 (by intro r hr; simp only [rowsM, List.nil_append, List.cons_append, List.mem_cons, List.not_mem_nil, or_false] at hr; rcases hr with rfl | rfl | rfl | rfl | rfl | rfl | rfl | rfl <;> exact ⟨by decide, by decide⟩))
       · first | exact pick_size (P := fun t => t.size ≤ 8) (Nat.zero_le _) (by intro r hr; simp only [rowsM, List.nil_append, List.cons_append, List.mem_cons, List.not_mem_nil, or_false] at hr; rcases hr with rfl | rfl | rfl | rfl | rfl <;> decide) _ | exact Nat.zero_le _ | decide
       · first | exact pick_size (P := fun t => t.size ≤ 700) (Nat.zero_le _) (by intro r hr; simp only [rowsM, List.nil_append, List.cons_append, List.mem_cons, List.not_mem_nil, or_false] at hr; rcases hr with rfl | rfl | rfl <;> decide) _ | exact Nat.le_trans (q78 _ _ _ _ (by repeat (first | exact ok | exact ok1 | exact ok2 | refine byteI_ok ?_ | refine (q46 _ _ _ _ ?_ ⟨_, ⟨by decide, by decide⟩, rfl⟩).1 | refine (q78 _ _ _ _ ?_ rfl).1 | refine (q63 _ _ _ _ ?_ rfl).1)) rfl).2 (by decide) | exact (q63 _ _ _ _ (by repeat (first | exact ok | exact ok1 | exact ok2 | refine byteI_ok ?_ | refine (q46 _ _ _ _ ?_ ⟨_, ⟨by decide, by decide⟩, rfl⟩).1 | refine (q78 _ _ _ _ ?_ rfl).1 | refine (q63 _ _ _ _ ?_ rfl).1)) rfl).2 | decide | exact Nat.zero_le _
       · first | exact kk0 | exact small_in (belowR_lt ⟨by decide, by decide⟩))
    | skip
  all_goals repeat (first | exact ok | exact ok1 | exact ok2 | refine byteI_ok ?_ | refine (q46 _ _ _ _ ?_ ⟨_, ⟨by decide, by decide⟩, rfl⟩).1 | refine (q78 _ _ _ _ ?_ rfl).1 | refine (q63 _ _ _ _ ?_ rfl).1)
end Go.Proofs.YtodddilaniojgaaGreat.Ab
