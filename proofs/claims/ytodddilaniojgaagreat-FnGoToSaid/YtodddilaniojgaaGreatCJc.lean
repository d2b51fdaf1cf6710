/- Whether expressions are valid: printed by a program of this claim. -/
import Derived.Test.YtodddilaniojgaaGreatCJb
import Derived.Test.YtodddilaniojgaaGreatCHd
import Derived.Test.YtodddilaniojgaaGreatCGt
namespace Go.Proofs.YtodddilaniojgaaGreat.Ab
open Go.RowKit
set_option linter.unusedVariables false
set_option linter.unusedSimpArgs false
set_option maxRecDepth 100000
set_option maxHeartbeats 2000000
theorem any123 : AnyX Tryz.prog T 123 (fun a => ∃ s : ByteArray, a = [.val false [.s s]]) (fun x : Int => .val false [.i .i64 x]) (fun x : Int => True) := by
  refine AnyX.of (0) (True.intro) (fokA (fun _ (x : Int) => .val false [.i .i64 x]) (post := fun _ (x : Int) => True) (env := envL []) (N := 26) tabT envL_nil mixed Tryz.func123 rfl Tryz.call123 Tryz.ntmps123 ?_)
  rintro args ⟨s, rfl⟩ hwf
  refine ⟨by simp, ?_⟩
  clear hwf
  rw [Tryz.results123]
  repeat' first
    | (refine And.intro ?_ ?_)
    | (intro h; simp only [reduceCtorEq] at h; done)
    | (intro h; rw [h])
    | (intro h)
  all_goals first
    | (show lowEdges _ = true; kernel_rfl) | (show logOk _ _ = true; kernel_rfl) | exact True.intro | exact Or.inr rfl | exact Or.inl rfl
    | exact ⟨_, True.intro, rfl, by decide, True.intro⟩
    | exact ⟨_, True.intro, rfl, True.intro⟩
    | skip
theorem any121 : AnyX Tryz.prog T 121 (fun a => ∃ r : List D, a = [argG [.i .i64, .i .i64, .s, .l 126] r]) (fun x : Bool => .val false [.b x]) (fun x : Bool => True) := by
  obtain ⟨g123, k123, q123⟩ := any123
  refine AnyX.of (false) (True.intro) (fokA (fun _ (x : Bool) => .val false [.b x]) (post := fun _ (x : Bool) => True) (env := envL [(54, spIn), (122, (spTB okTxt)), (84, (spTB nameOk)), (123, { pre := fun a => ∃ s : ByteArray, a = [.val false [.s s]], res := fun a => (fun x : Int => .val false [.i .i64 x]) (g123 a) })]) (N := 120) tabT (envL_cons xk54 (envL_cons xk122 (envL_cons xk84 (envL_cons k123 envL_nil)))) mixed Tryz.func121 rfl Tryz.call121 Tryz.ntmps121 ?_)
  rintro args ⟨r, rfl⟩ hwf
  refine ⟨by simp, ?_⟩
  clear hwf
  rw [Tryz.results121]
  repeat' first
    | (refine And.intro ?_ ?_)
    | (intro h; simp only [reduceCtorEq] at h; done)
    | (intro h; rw [h])
    | (intro h)
  all_goals first
    | (show lowEdges _ = true; kernel_rfl) | (show logOk _ _ = true; kernel_rfl) | exact True.intro | exact Or.inr rfl | exact Or.inl rfl
    | exact ⟨_, rfl⟩
    | exact ⟨_, _, _, rfl⟩
    | exact ⟨_, True.intro, rfl, True.intro⟩
    | skip
theorem any118 : AnyX Tryz.prog T 118 (fun a => ∃ r : List D, a = [argG [.i .i64, .i .i64, .s, .l 126] r]) (fun x : Int => .val false [.i .i64 x]) (fun x : Int => True) := by
  refine AnyX.of (0) (True.intro) (fokA (fun _ (x : Int) => .val false [.i .i64 x]) (post := fun _ (x : Int) => True) (env := envL []) (N := 21) tabT envL_nil mixed Tryz.func118 rfl Tryz.call118 Tryz.ntmps118 ?_)
  rintro args ⟨r, rfl⟩ hwf
  refine ⟨by simp, ?_⟩
  clear hwf
  rw [Tryz.results118]
  repeat' first
    | (refine And.intro ?_ ?_)
    | (intro h; simp only [reduceCtorEq] at h; done)
    | (intro h; rw [h])
    | (intro h)
  all_goals first
    | (show lowEdges _ = true; kernel_rfl) | (show logOk _ _ = true; kernel_rfl) | exact True.intro | exact Or.inr rfl | exact Or.inl rfl
    | exact ⟨_, True.intro, rfl, by decide, True.intro⟩
    | exact ⟨_, True.intro, rfl, True.intro⟩
    | skip
theorem any120 : AnyX Tryz.prog T 120 (fun a => ∃ n : Int, a = [.val false [.i .i64 n]]) (fun x : ByteArray => .val false [.s x]) (fun x : ByteArray => x.size ≤ 2) := by
  refine AnyX.of (⟨#[]⟩) (Nat.zero_le _) (fokA (fun _ (x : ByteArray) => .val false [.s x]) (post := fun _ (x : ByteArray) => x.size ≤ 2) (env := envL [(54, spIn)]) (N := 10) tabT (envL_cons xk54 envL_nil) mixed Tryz.func120 rfl Tryz.call120 Tryz.ntmps120 ?_)
  rintro args ⟨s, rfl⟩ hwf
  refine ⟨by simp, ?_⟩
  clear hwf
  rw [Tryz.results120]
  repeat' first
    | (refine And.intro ?_ ?_)
    | (intro h; simp only [reduceCtorEq] at h; done)
    | (intro h; rw [h])
    | (intro h)
  all_goals first
    | (show lowEdges _ = true; kernel_rfl) | (show logOk _ _ = true; kernel_rfl) | exact True.intro | exact Or.inr rfl | exact Or.inl rfl
    | exact ⟨_, _, _, rfl⟩
    | exact ⟨_, (by decide), rfl, True.intro⟩
    | (have := (inR_of (by assumption)).1; omega)
    | (have := inR_of (by assumption); show s < ((6 : Nat) : Int); omega)
    | (have := inR_of (by assumption); show s.toNat < 6; omega)
    | exact ⟨_, pick_size (P := fun t => t.size ≤ 2) (Nat.zero_le _) (by intro r hr; simp only [rowsM, List.nil_append, List.cons_append, List.mem_cons, List.not_mem_nil, or_false] at hr; rcases hr with rfl | rfl | rfl | rfl | rfl | rfl <;> decide) _, rfl, True.intro⟩
    | skip
theorem step116 (d : Nat) (hd : AnyX Tryz.prog T 116 (preE [.i .i64, .i .i64, .s, .l 126] d) (fun x : Bool => .val false [.b x]) (fun x : Bool => True)) : AnyX Tryz.prog T 116 (preE [.i .i64, .i .i64, .s, .l 126] (d + 1)) (fun x : Bool => .val false [.b x]) (fun x : Bool => True) := by
  obtain ⟨g116, k116, q116⟩ := hd
  obtain ⟨g121, k121, q121⟩ := any121
  refine AnyX.of (false) (True.intro) (fokA (fun _ (x : Bool) => .val false [.b x]) (post := fun _ (x : Bool) => True) (env := envL [(116, { pre := preE [.i .i64, .i .i64, .s, .l 126] d, res := fun a => (fun x : Bool => .val false [.b x]) (g116 a) }), (121, { pre := fun a => ∃ r : List D, a = [argG [.i .i64, .i .i64, .s, .l 126] r], res := fun a => (fun x : Bool => .val false [.b x]) (g121 a) })]) (N := 20) tabT (envL_cons k116 (envL_cons k121 envL_nil)) mixed Tryz.func116 rfl Tryz.call116 Tryz.ntmps116 ?_)
  rintro args ⟨r, hr, rfl⟩ hwf
  refine ⟨by simp, ?_⟩
  clear hwf
  obtain ⟨hl, hall, har, hts⟩ := hr.args
  have hlm : (r.getD 3 default).rows.length ≤ 1048576 := Nat.le_trans hl (by decide)
  rw [Tryz.results116]
  repeat' first
    | (refine And.intro ?_ ?_)
    | (intro h; simp only [reduceCtorEq] at h; done)
    | (intro h; rw [h])
    | (intro h)
  all_goals first
    | (show lowEdges _ = true; kernel_rfl) | (show logOk _ _ = true; kernel_rfl) | exact True.intro | exact Or.inr rfl | exact Or.inl rfl
    | skip
  refine awp_loop (Q := _) [1, 3] [1] (fun n st => ∃ (i : Nat), st = ([.ptr 1 1 0, .val false [.i .i64 (i : Int)]], [(1, (rowC [.i .i64, .i .i64, .s, .l 126] r).map fun c => .val false [c])]) ∧ i ≤ (r.getD 3 default).rows.length ∧ n = (r.getD 3 default).rows.length - i) ?_ ?_
  · exact ⟨rfl, (r.getD 3 default).rows.length, 0, rfl, Nat.zero_le _, rfl⟩
  rintro n st ⟨i, rfl, hle, rfl⟩
  repeat' first
    | (refine And.intro ?_ ?_)
    | (intro h; simp only [reduceCtorEq] at h; done)
    | (intro h; rw [h])
    | (intro h)
  all_goals first
    | (show lowEdges _ = true; kernel_rfl) | (show logOk _ _ = true; kernel_rfl) | exact True.intro | exact Or.inr rfl | exact Or.inl rfl
    | with_reducible exact Int.natCast_nonneg _
    | (have hi : i < (r.getD 3 default).rows.length := ltN' (by with_reducible assumption)
       first
         | with_reducible exact of_decide_eq_true (by with_reducible assumption)
         | (show (Int.toNat (i : Int)) < _; rw [Int.toNat_natCast]; exact hi)
         | (show (i : Int) < _; omega)
         | exact ⟨_, allAt hall (by omega), rfl⟩
         | exact ⟨_, rfl⟩
         | exact ⟨_, True.intro, rfl, True.intro⟩
         | (refine ⟨(r.getD 3 default).rows.length - (i + 1), by omega, i + 1, congrArg (fun z : Int => (([.ptr 1 1 0, .val false [.i .i64 z]], [(1, (rowC [.i .i64, .i .i64, .s, .l 126] r).map fun c => .val false [c])]) : Snap)) (wrapN' hi hlm), by omega, rfl⟩)
         | (show Alive _ _; exact rfl))
    | exact ⟨_, allAt hall (by omega), rfl⟩
    | exact ⟨_, rfl⟩
    | exact ⟨_, True.intro, rfl, True.intro⟩
    | (refine ⟨(r.getD 3 default).rows.length - (i + 1), by omega, i + 1, congrArg (fun z : Int => (([.ptr 1 1 0, .val false [.i .i64 z]], [(1, (rowC [.i .i64, .i .i64, .s, .l 126] r).map fun c => .val false [c])]) : Snap)) (wrapN' hi hlm), by omega, rfl⟩)
    | (show Alive _ _; exact rfl)
    | skip
theorem all116 (d : Nat) : AnyX Tryz.prog T 116 (preE [.i .i64, .i .i64, .s, .l 126] d) (fun x : Bool => .val false [.b x]) (fun x : Bool => True) := by
  induction d with
  | zero => exact AnyX.none (false) True.intro Tryz.call116 (by rintro a ⟨r, hr, _⟩; exact hr.elim)
  | succ d ih => exact step116 d ih
theorem step115 (d : Nat) (hd : AnyX Tryz.prog T 115 (preE [.i .i64, .i .i64, .s, .l 126] d) (fun x : Int => .val false [.i .i64 x]) (fun x : Int => True)) : AnyX Tryz.prog T 115 (preE [.i .i64, .i .i64, .s, .l 126] (d + 1)) (fun x : Int => .val false [.i .i64 x]) (fun x : Int => True) := by
  obtain ⟨g115, k115, q115⟩ := hd
  refine AnyX.of (0) (True.intro) (fokA (fun _ (x : Int) => .val false [.i .i64 x]) (post := fun _ (x : Int) => True) (env := envL [(115, { pre := preE [.i .i64, .i .i64, .s, .l 126] d, res := fun a => (fun x : Int => .val false [.i .i64 x]) (g115 a) }), (85, (spMx max))]) (N := 22) tabT (envL_cons k115 (envL_cons xk85 envL_nil)) mixed Tryz.func115 rfl Tryz.call115 Tryz.ntmps115 ?_)
  rintro args ⟨r, hr, rfl⟩ hwf
  refine ⟨by simp, ?_⟩
  clear hwf
  obtain ⟨hl, hall, har, hts⟩ := hr.args
  have hlm : (r.getD 3 default).rows.length ≤ 1048576 := Nat.le_trans hl (by decide)
  rw [Tryz.results115]
  repeat' first
    | (refine And.intro ?_ ?_)
    | (intro h; simp only [reduceCtorEq] at h; done)
    | (intro h; rw [h])
    | (intro h)
  all_goals first
    | (show lowEdges _ = true; kernel_rfl) | (show logOk _ _ = true; kernel_rfl) | exact True.intro | exact Or.inr rfl | exact Or.inl rfl
    | skip
  refine awp_loop (Q := _) [1, 3, 4] [1] (fun n st => ∃ (i : Nat) (m : Int), st = ([.ptr 1 1 0, .val false [.i .i64 m], .val false [.i .i64 (i : Int)]], [(1, (rowC [.i .i64, .i .i64, .s, .l 126] r).map fun c => .val false [c])]) ∧ i ≤ (r.getD 3 default).rows.length ∧ n = (r.getD 3 default).rows.length - i) ?_ ?_
  · exact ⟨rfl, (r.getD 3 default).rows.length, 0, 0, rfl, Nat.zero_le _, rfl⟩
  rintro n st ⟨i, m, rfl, hle, rfl⟩
  repeat' first
    | (refine And.intro ?_ ?_)
    | (intro h; simp only [reduceCtorEq] at h; done)
    | (intro h; rw [h])
    | (intro h)
  all_goals first
    | (show lowEdges _ = true; kernel_rfl) | (show logOk _ _ = true; kernel_rfl) | exact True.intro | exact Or.inr rfl | exact Or.inl rfl
    | with_reducible exact Int.natCast_nonneg _
    | (have hi : i < (r.getD 3 default).rows.length := ltN' (by with_reducible assumption)
       first
         | with_reducible exact of_decide_eq_true (by with_reducible assumption)
         | (show (Int.toNat (i : Int)) < _; rw [Int.toNat_natCast]; exact hi)
         | (show (i : Int) < _; omega)
         | exact ⟨_, allAt hall (by omega), rfl⟩
         | exact ⟨_, _, rfl⟩
         | exact ⟨_, True.intro, rfl, wrap_inK _ _, True.intro⟩
         | exact ⟨_, True.intro, rfl, True.intro⟩
         | (refine ⟨(r.getD 3 default).rows.length - (i + 1), by omega, i + 1, _, congrArg (fun z : Int => (([.ptr 1 1 0, .val false [.i .i64 _], .val false [.i .i64 z]], [(1, (rowC [.i .i64, .i .i64, .s, .l 126] r).map fun c => .val false [c])]) : Snap)) (wrapN' hi hlm), by omega, rfl⟩)
         | (show Alive _ _; exact rfl))
    | exact ⟨_, allAt hall (by omega), rfl⟩
    | exact ⟨_, _, rfl⟩
    | exact ⟨_, True.intro, rfl, wrap_inK _ _, True.intro⟩
    | exact ⟨_, True.intro, rfl, True.intro⟩
    | (refine ⟨(r.getD 3 default).rows.length - (i + 1), by omega, i + 1, _, congrArg (fun z : Int => (([.ptr 1 1 0, .val false [.i .i64 _], .val false [.i .i64 z]], [(1, (rowC [.i .i64, .i .i64, .s, .l 126] r).map fun c => .val false [c])]) : Snap)) (wrapN' hi hlm), by omega, rfl⟩)
    | (show Alive _ _; exact rfl)
    | skip
theorem all115 (d : Nat) : AnyX Tryz.prog T 115 (preE [.i .i64, .i .i64, .s, .l 126] d) (fun x : Int => .val false [.i .i64 x]) (fun x : Int => True) := by
  induction d with
  | zero => exact AnyX.none (0) True.intro Tryz.call115 (by rintro a ⟨r, hr, _⟩; exact hr.elim)
  | succ d ih => exact step115 d ih
theorem step114 (d : Nat) (hd : AnyX Tryz.prog T 114 (preEI [.i .i64, .i .i64, .s, .l 126] d) (fun x : Int => .val false [.i .i64 x]) (fun x : Int => True)) : AnyX Tryz.prog T 114 (preEI [.i .i64, .i .i64, .s, .l 126] (d + 1)) (fun x : Int => .val false [.i .i64 x]) (fun x : Int => True) := by
  obtain ⟨g114, k114, q114⟩ := hd
  refine AnyX.of (0) (True.intro) (fokA (fun _ (x : Int) => .val false [.i .i64 x]) (post := fun _ (x : Int) => True) (env := envL [(114, { pre := preEI [.i .i64, .i .i64, .s, .l 126] d, res := fun a => (fun x : Int => .val false [.i .i64 x]) (g114 a) })]) (N := 27) tabT (envL_cons k114 envL_nil) mixed Tryz.func114 rfl Tryz.call114 Tryz.ntmps114 ?_)
  rintro args ⟨r, n, hr, rfl⟩ hwf
  refine ⟨by simp, ?_⟩
  clear hwf
  obtain ⟨hl, hall, har, hts⟩ := hr.args
  have hlm : (r.getD 3 default).rows.length ≤ 1048576 := Nat.le_trans hl (by decide)
  rw [Tryz.results114]
  repeat' first
    | (refine And.intro ?_ ?_)
    | (intro h; simp only [reduceCtorEq] at h; done)
    | (intro h; rw [h])
    | (intro h)
  all_goals first
    | (show lowEdges _ = true; kernel_rfl) | (show logOk _ _ = true; kernel_rfl) | exact True.intro | exact Or.inr rfl | exact Or.inl rfl
    | skip
  refine awp_loop (Q := _) [1, 2, 5] [2] (fun n st => ∃ (i : Nat) (m : Int), st = ([.val false [.i .i64 m], .ptr 2 1 0, .val false [.i .i64 (i : Int)]], [(1, (rowC [.i .i64, .i .i64, .s, .l 126] r).map fun c => .val false [c])]) ∧ i ≤ (r.getD 3 default).rows.length ∧ n = (r.getD 3 default).rows.length - i) ?_ ?_
  · exact ⟨rfl, (r.getD 3 default).rows.length, 0, _, rfl, Nat.zero_le _, rfl⟩
  rintro n st ⟨i, m, rfl, hle, rfl⟩
  repeat' first
    | (refine And.intro ?_ ?_)
    | (intro h; simp only [reduceCtorEq] at h; done)
    | (intro h; rw [h])
    | (intro h)
  all_goals first
    | (show lowEdges _ = true; kernel_rfl) | (show logOk _ _ = true; kernel_rfl) | exact True.intro | exact Or.inr rfl | exact Or.inl rfl
    | with_reducible exact Int.natCast_nonneg _
    | (have hi : i < (r.getD 3 default).rows.length := ltN' (by with_reducible assumption)
       first
         | with_reducible exact of_decide_eq_true (by with_reducible assumption)
         | (show (Int.toNat (i : Int)) < _; rw [Int.toNat_natCast]; exact hi)
         | (show (i : Int) < _; omega)
         | exact ⟨_, _, allAt hall (by omega), rfl⟩
         | exact ⟨_, _, rfl⟩
         | exact ⟨_, True.intro, rfl, wrap_inK _ _, True.intro⟩
         | exact ⟨_, True.intro, rfl, True.intro⟩
         | (refine ⟨(r.getD 3 default).rows.length - (i + 1), by omega, i + 1, _, congrArg (fun z : Int => (([.val false [.i .i64 _], .ptr 2 1 0, .val false [.i .i64 z]], [(1, (rowC [.i .i64, .i .i64, .s, .l 126] r).map fun c => .val false [c])]) : Snap)) (wrapN' hi hlm), by omega, rfl⟩)
         | (show Alive _ _; exact rfl))
    | exact ⟨_, _, allAt hall (by omega), rfl⟩
    | exact ⟨_, _, rfl⟩
    | exact ⟨_, True.intro, rfl, wrap_inK _ _, True.intro⟩
    | exact ⟨_, True.intro, rfl, True.intro⟩
    | (refine ⟨(r.getD 3 default).rows.length - (i + 1), by omega, i + 1, _, congrArg (fun z : Int => (([.val false [.i .i64 _], .ptr 2 1 0, .val false [.i .i64 z]], [(1, (rowC [.i .i64, .i .i64, .s, .l 126] r).map fun c => .val false [c])]) : Snap)) (wrapN' hi hlm), by omega, rfl⟩)
    | (show Alive _ _; exact rfl)
    | skip
theorem all114 (d : Nat) : AnyX Tryz.prog T 114 (preEI [.i .i64, .i .i64, .s, .l 126] d) (fun x : Int => .val false [.i .i64 x]) (fun x : Int => True) := by
  induction d with
  | zero => exact AnyX.none (0) True.intro Tryz.call114 (by rintro a ⟨r, n, hr, _⟩; exact hr.elim)
  | succ d ih => exact step114 d ih
theorem any109 (d : Nat) : AnyX Tryz.prog T 109 (preE [.i .i64, .i .i64, .s, .l 126] d) (fun x : Bool => .val false [.b x]) (fun x : Bool => True) := by
  obtain ⟨g116, k116, q116⟩ := all116 d
  obtain ⟨g115, k115, q115⟩ := all115 d
  obtain ⟨g114, k114, q114⟩ := all114 d
  refine AnyX.of (false) (True.intro) (fokA (fun _ (x : Bool) => .val false [.b x]) (post := fun _ (x : Bool) => True) (env := envL [(114, { pre := preEI [.i .i64, .i .i64, .s, .l 126] d, res := fun a => (fun x : Int => .val false [.i .i64 x]) (g114 a) }), (115, { pre := preE [.i .i64, .i .i64, .s, .l 126] d, res := fun a => (fun x : Int => .val false [.i .i64 x]) (g115 a) }), (116, { pre := preE [.i .i64, .i .i64, .s, .l 126] d, res := fun a => (fun x : Bool => .val false [.b x]) (g116 a) })]) (N := 15) tabT (envL_cons k114 (envL_cons k115 (envL_cons k116 envL_nil))) mixed Tryz.func109 rfl Tryz.call109 Tryz.ntmps109 ?_)
  rintro args ⟨r, hr, rfl⟩ hwf
  refine ⟨by simp, ?_⟩
  clear hwf
  rw [Tryz.results109]
  repeat' first
    | (refine And.intro ?_ ?_)
    | (intro h; simp only [reduceCtorEq] at h; done)
    | (intro h; rw [h])
    | (intro h)
  all_goals first
    | (show lowEdges _ = true; kernel_rfl) | (show logOk _ _ = true; kernel_rfl) | exact True.intro | exact Or.inr rfl | exact Or.inl rfl
    | exact ⟨_, hr, rfl⟩
    | exact ⟨_, _, hr, rfl⟩
    | exact ⟨_, True.intro, rfl, True.intro⟩
    | skip
end Go.Proofs.YtodddilaniojgaaGreat.Ab
