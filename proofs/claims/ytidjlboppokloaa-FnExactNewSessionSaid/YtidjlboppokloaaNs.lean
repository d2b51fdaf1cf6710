/- NewSession of both, at their only input: printed by a program of this claim. -/
import Derived.Test.YtidjlboppokloaaMr0
namespace Go.Proofs.Ytidjlboppokloaa.Ab
open Go.RowKit
set_option linter.unusedVariables false
set_option linter.unusedSimpArgs false
set_option maxRecDepth 100000
set_option maxHeartbeats 2000000
def spW : FSpec where
  pre args := ∃ a b c : Int, args = [.val false [.i .i64 a], .val false [.i .i64 b], .val false [.i .i64 c]]
  res args := match args with
    | [.val _ [.i _ a], .val _ [.i _ b], .val _ [.i _ c]] => .val false [.b (decide (b ≤ a) && decide (a ≤ c))]
    | _ => .none
theorem spW_F1 {a b c : Int} (h : decide (b ≤ a) = false) : false = (decide (b ≤ a) && decide (a ≤ c)) := by rw [h]; rfl
theorem spW_T {a b c : Int} (h : decide (b ≤ a) = true) : decide (a ≤ c) = (decide (b ≤ a) && decide (a ≤ c)) := by rw [h]; rfl
/-- spec.l1In -/
theorem ns56 : FOk Try.prog Td 56 spW := by
  refine fok (env := envL []) (N := 15) tabTd envD_nil mixed Try.func56 rfl Try.call56 Try.ntmps56 ?_
  rintro args ⟨a, b, c, rfl⟩ hwf
  clear hwf
  refine ⟨by simp, ?_⟩
  rw [Try.results56]
  repeat' first
    | (refine And.intro ?_ ?_)
    | (intro h; simp only [reduceCtorEq] at h; done)
    | (intro h; rw [h])
    | (intro h)
  all_goals first
    | (show lowEdges _ = true; kernel_rfl) | (show logOk _ _ = true; kernel_rfl) | exact True.intro | exact Or.inr rfl | exact Or.inl rfl
    | exact rfl
    | exact congrArg (fun z => [CV.b z]) (spW_T (by with_reducible assumption))
    | exact congrArg (fun z => [CV.b z]) (spW_F1 (by with_reducible assumption))
    | skip
/-- impl.within -/
theorem ns61 : FOk Try.prog Td 61 spW := by
  refine fok (env := envL []) (N := 15) tabTd envD_nil mixed Try.func61 rfl Try.call61 Try.ntmps61 ?_
  rintro args ⟨a, b, c, rfl⟩ hwf
  clear hwf
  refine ⟨by simp, ?_⟩
  rw [Try.results61]
  repeat' first
    | (refine And.intro ?_ ?_)
    | (intro h; simp only [reduceCtorEq] at h; done)
    | (intro h; rw [h])
    | (intro h)
  all_goals first
    | (show lowEdges _ = true; kernel_rfl) | (show logOk _ _ = true; kernel_rfl) | exact True.intro | exact Or.inr rfl | exact Or.inl rfl
    | exact rfl
    | exact congrArg (fun z => [CV.b z]) (spW_T (by with_reducible assumption))
    | exact congrArg (fun z => [CV.b z]) (spW_F1 (by with_reducible assumption))
    | skip
/-- spec.l14Files -/
theorem ns87 : FOk Try.prog Td 87 (spC [.val false [.sl false 126 []]] (.val false [.b true])) := by
  refine fok (env := envL []) (N := 47) tabTd envD_nil mixed Try.func87 rfl Try.call87 Try.ntmps87 ?_
  rintro args rfl hwf
  clear hwf
  refine ⟨by simp, ?_⟩
  rw [Try.results87]
  repeat' first
    | (refine And.intro ?_ ?_)
    | (intro h; simp only [reduceCtorEq] at h; done)
    | (intro h; exact absurd h (by decide))
    | (intro h)
  all_goals first
    | (show lowEdges _ = true; kernel_rfl) | (show logOk _ _ = true; kernel_rfl) | exact True.intro | exact Or.inr rfl | exact Or.inl rfl
    | exact rfl
    | skip
  refine awp_loop (Q := _) [0, 3] [] (fun m st => st = ([.val false [.sl false 126 []], .val false [.i .i64 0]], []) ∧ m = 0) ?_ ?_
  · exact ⟨rfl, 0, rfl, rfl⟩
  rintro m st ⟨rfl, rfl⟩
  repeat' first
    | (refine And.intro ?_ ?_)
    | (intro h; simp only [reduceCtorEq] at h; done)
    | (intro h; exact absurd h (by decide))
    | (intro h)
  all_goals first
    | (show lowEdges _ = true; kernel_rfl) | (show logOk _ _ = true; kernel_rfl) | exact True.intro | exact Or.inr rfl | exact Or.inl rfl
    | exact rfl
    | exact ⟨_, _, _, rfl⟩
    | (rw [List.mem_singleton.1 h]; exact True.intro)
    | (show _ ≤ _; decide)
    | skip
/-- spec.IsValidWorld -/
theorem ns55 : FOk Try.prog Td 55 (spC [.val true (rowC [.i .i64, .i .i64, .l 126] [.i 0, .i 0, .l []])] (.val false [.b true])) := by
  refine fok (env := envL [(56, spW), (87, (spC [.val false [.sl false 126 []]] (.val false [.b true])))]) (N := 16) tabTd (envD_cons ns56 (envD_cons ns87 envD_nil)) mixed Try.func55 rfl Try.call55 Try.ntmps55 ?_
  rintro args rfl hwf
  clear hwf
  refine ⟨by simp, ?_⟩
  rw [Try.results55]
  repeat' first
    | (refine And.intro ?_ ?_)
    | (intro h; simp only [reduceCtorEq] at h; done)
    | (intro h; exact absurd h (by decide))
    | (intro h)
  all_goals first
    | (show lowEdges _ = true; kernel_rfl) | (show logOk _ _ = true; kernel_rfl) | exact True.intro | exact Or.inr rfl | exact Or.inl rfl
    | exact rfl
    | exact ⟨_, _, _, rfl⟩
    | (rw [List.mem_singleton.1 h]; exact True.intro)
    | (show _ ≤ _; decide)
    | skip
/-- impl.IsValidWorld -/
theorem ns60 : FOk Try.prog Td 60 (spC [.val true (rowC [.i .i64, .i .i64, .l 126] [.i 0, .i 0, .l []])] (.val false [.b true])) := by
  refine fok (env := envL [(61, spW)]) (N := 54) tabTd (envD_cons ns61 envD_nil) mixed Try.func60 rfl Try.call60 Try.ntmps60 ?_
  rintro args rfl hwf
  clear hwf
  refine ⟨by simp, ?_⟩
  rw [Try.results60]
  repeat' first
    | (refine And.intro ?_ ?_)
    | (intro h; simp only [reduceCtorEq] at h; done)
    | (intro h; exact absurd h (by decide))
    | (intro h)
  all_goals first
    | (show lowEdges _ = true; kernel_rfl) | (show logOk _ _ = true; kernel_rfl) | exact True.intro | exact Or.inr rfl | exact Or.inl rfl
    | exact rfl
    | skip
  refine awp_loop (Q := _) [1, 7, 8] [1] (fun m st => st = ([.ptr 1 1 0, .val false [.i .i64 0], .val false [.i .i64 0]], [(1, [.val false [.i .i64 0], .val false [.i .i64 0], .val false [.sl false 126 []]])]) ∧ m = 0) ?_ ?_
  · exact ⟨rfl, 0, rfl, rfl⟩
  rintro m st ⟨rfl, rfl⟩
  repeat' first
    | (refine And.intro ?_ ?_)
    | (intro h; simp only [reduceCtorEq] at h; done)
    | (intro h; exact absurd h (by decide))
    | (intro h)
  all_goals first
    | (show lowEdges _ = true; kernel_rfl) | (show logOk _ _ = true; kernel_rfl) | exact True.intro | exact Or.inr rfl | exact Or.inl rfl
    | exact rfl
    | exact ⟨_, _, _, rfl⟩
    | (rw [List.mem_singleton.1 h]; exact True.intro)
    | (show _ ≤ _; decide)
    | skip
/-- spec.l14Copy -/
theorem ns57 : FOk Try.prog Td 57 (spC [.val true (rowC [.i .i64, .i .i64, .l 126] [.i 0, .i 0, .l []])] (.val true (rowO [.i .i64, .i .i64, .l 126] [.i 0, .i 0, .l []]))) := by
  refine fok (env := envL []) (N := 9) tabTd envD_nil mixed Try.func57 rfl Try.call57 Try.ntmps57 ?_
  rintro args rfl hwf
  clear hwf
  refine ⟨by simp, ?_⟩
  rw [Try.results57]
  repeat' first
    | (refine And.intro ?_ ?_)
    | (intro h; simp only [reduceCtorEq] at h; done)
    | (intro h; exact absurd h (by decide))
    | (intro h)
  all_goals first
    | (show lowEdges _ = true; kernel_rfl) | (show logOk _ _ = true; kernel_rfl) | exact True.intro | exact Or.inr rfl | exact Or.inl rfl
    | exact rfl
    | exact ⟨_, _, _, rfl⟩
    | (rw [List.mem_singleton.1 h]; exact True.intro)
    | (show _ ≤ _; decide)
    | skip
/-- impl.copyWorld -/
theorem ns62 : FOk Try.prog Td 62 (spC [.val true (rowC [.i .i64, .i .i64, .l 126] [.i 0, .i 0, .l []])] (.val true (rowO [.i .i64, .i .i64, .l 126] [.i 0, .i 0, .l []]))) := by
  refine fok (env := envL []) (N := 9) tabTd envD_nil mixed Try.func62 rfl Try.call62 Try.ntmps62 ?_
  rintro args rfl hwf
  clear hwf
  refine ⟨by simp, ?_⟩
  rw [Try.results62]
  repeat' first
    | (refine And.intro ?_ ?_)
    | (intro h; simp only [reduceCtorEq] at h; done)
    | (intro h; exact absurd h (by decide))
    | (intro h)
  all_goals first
    | (show lowEdges _ = true; kernel_rfl) | (show logOk _ _ = true; kernel_rfl) | exact True.intro | exact Or.inr rfl | exact Or.inl rfl
    | exact rfl
    | exact ⟨_, _, _, rfl⟩
    | (rw [List.mem_singleton.1 h]; exact True.intro)
    | (show _ ≤ _; decide)
    | skip
/-- spec.IsValidNotebook -/
theorem ns58 : FOk Try.prog Td 58 (spC [.val true (rowC [.l 124] [.l []])] (.val false [.b true])) := by
  refine fok (env := envL []) (N := 34) tabTd envD_nil mixed Try.func58 rfl Try.call58 Try.ntmps58 ?_
  rintro args rfl hwf
  clear hwf
  refine ⟨by simp, ?_⟩
  rw [Try.results58]
  repeat' first
    | (refine And.intro ?_ ?_)
    | (intro h; simp only [reduceCtorEq] at h; done)
    | (intro h; exact absurd h (by decide))
    | (intro h)
  all_goals first
    | (show lowEdges _ = true; kernel_rfl) | (show logOk _ _ = true; kernel_rfl) | exact True.intro | exact Or.inr rfl | exact Or.inl rfl
    | exact rfl
    | skip
  refine awp_loop (Q := _) [1, 3] [1] (fun m st => st = ([.ptr 1 1 0, .val false [.i .i64 0]], [(1, [.val false [.sl false 124 []]])]) ∧ m = 0) ?_ ?_
  · exact ⟨rfl, 0, rfl, rfl⟩
  rintro m st ⟨rfl, rfl⟩
  repeat' first
    | (refine And.intro ?_ ?_)
    | (intro h; simp only [reduceCtorEq] at h; done)
    | (intro h; exact absurd h (by decide))
    | (intro h)
  all_goals first
    | (show lowEdges _ = true; kernel_rfl) | (show logOk _ _ = true; kernel_rfl) | exact True.intro | exact Or.inr rfl | exact Or.inl rfl
    | exact rfl
    | exact ⟨_, _, _, rfl⟩
    | (rw [List.mem_singleton.1 h]; exact True.intro)
    | (show _ ≤ _; decide)
    | skip
/-- impl.IsValidNotebook -/
theorem ns63 : FOk Try.prog Td 63 (spC [.val true (rowC [.l 124] [.l []])] (.val false [.b true])) := by
  refine fok (env := envL []) (N := 29) tabTd envD_nil mixed Try.func63 rfl Try.call63 Try.ntmps63 ?_
  rintro args rfl hwf
  clear hwf
  refine ⟨by simp, ?_⟩
  rw [Try.results63]
  repeat' first
    | (refine And.intro ?_ ?_)
    | (intro h; simp only [reduceCtorEq] at h; done)
    | (intro h; exact absurd h (by decide))
    | (intro h)
  all_goals first
    | (show lowEdges _ = true; kernel_rfl) | (show logOk _ _ = true; kernel_rfl) | exact True.intro | exact Or.inr rfl | exact Or.inl rfl
    | exact rfl
    | skip
  refine awp_loop (Q := _) [1, 7, 8] [1] (fun m st => st = ([.ptr 1 1 0, .val false [.i .i64 0], .val false [.i .i64 0]], [(1, [.val false [.sl false 124 []]])]) ∧ m = 0) ?_ ?_
  · exact ⟨rfl, 0, rfl, rfl⟩
  rintro m st ⟨rfl, rfl⟩
  repeat' first
    | (refine And.intro ?_ ?_)
    | (intro h; simp only [reduceCtorEq] at h; done)
    | (intro h; exact absurd h (by decide))
    | (intro h)
  all_goals first
    | (show lowEdges _ = true; kernel_rfl) | (show logOk _ _ = true; kernel_rfl) | exact True.intro | exact Or.inr rfl | exact Or.inl rfl
    | exact rfl
    | exact ⟨_, _, _, rfl⟩
    | (rw [List.mem_singleton.1 h]; exact True.intro)
    | (show _ ≤ _; decide)
    | skip
/-- spec.l17Copy -/
theorem ns59 : FOk Try.prog Td 59 (spC [.val true (rowC [.l 124] [.l []])] (.val true (rowO [.l 124] [.l []]))) := by
  refine fok (env := envL []) (N := 8) tabTd envD_nil mixed Try.func59 rfl Try.call59 Try.ntmps59 ?_
  rintro args rfl hwf
  clear hwf
  refine ⟨by simp, ?_⟩
  rw [Try.results59]
  repeat' first
    | (refine And.intro ?_ ?_)
    | (intro h; simp only [reduceCtorEq] at h; done)
    | (intro h; exact absurd h (by decide))
    | (intro h)
  all_goals first
    | (show lowEdges _ = true; kernel_rfl) | (show logOk _ _ = true; kernel_rfl) | exact True.intro | exact Or.inr rfl | exact Or.inl rfl
    | exact rfl
    | exact ⟨_, _, _, rfl⟩
    | (rw [List.mem_singleton.1 h]; exact True.intro)
    | (show _ ≤ _; decide)
    | skip
/-- impl.copyNotebook -/
theorem ns64 : FOk Try.prog Td 64 (spC [.val true (rowC [.l 124] [.l []])] (.val true (rowO [.l 124] [.l []]))) := by
  refine fok (env := envL []) (N := 8) tabTd envD_nil mixed Try.func64 rfl Try.call64 Try.ntmps64 ?_
  rintro args rfl hwf
  clear hwf
  refine ⟨by simp, ?_⟩
  rw [Try.results64]
  repeat' first
    | (refine And.intro ?_ ?_)
    | (intro h; simp only [reduceCtorEq] at h; done)
    | (intro h; exact absurd h (by decide))
    | (intro h)
  all_goals first
    | (show lowEdges _ = true; kernel_rfl) | (show logOk _ _ = true; kernel_rfl) | exact True.intro | exact Or.inr rfl | exact Or.inl rfl
    | exact rfl
    | exact ⟨_, _, _, rfl⟩
    | (rw [List.mem_singleton.1 h]; exact True.intro)
    | (show _ ≤ _; decide)
    | skip
/-- spec.NewEngine -/
theorem ns28 : FOk Try.prog Td 28 (spC [.val true (rowC [.i .i64, .i .i64, .l 126] [.i 0, .i 0, .l []]), .val false [.i .i64 200]] (.tup [(true, (rowO [.l 124, .i .i64, .i .i64, .l 126, .l 54, .l 133, .i .i64, .i .i64, .i .i64] [.l [], .i 0, .i 0, .l [], .l [], .l [], .i 1, .i 200, .i 0])), (false, [.b true])])) := by
  refine fok (env := envL [(55, (spC [.val true (rowC [.i .i64, .i .i64, .l 126] [.i 0, .i 0, .l []])] (.val false [.b true]))), (56, spW), (57, (spC [.val true (rowC [.i .i64, .i .i64, .l 126] [.i 0, .i 0, .l []])] (.val true (rowO [.i .i64, .i .i64, .l 126] [.i 0, .i 0, .l []]))))]) (N := 19) tabTd (envD_cons ns55 (envD_cons ns56 (envD_cons ns57 envD_nil))) mixed Try.func28 rfl Try.call28 Try.ntmps28 ?_
  rintro args rfl hwf
  clear hwf
  refine ⟨by simp, ?_⟩
  rw [Try.results28]
  repeat' first
    | (refine And.intro ?_ ?_)
    | (intro h; simp only [reduceCtorEq] at h; done)
    | (intro h; exact absurd h (by decide))
    | (intro h)
  all_goals first
    | (show lowEdges _ = true; kernel_rfl) | (show logOk _ _ = true; kernel_rfl) | exact True.intro | exact Or.inr rfl | exact Or.inl rfl
    | exact rfl
    | exact ⟨_, _, _, rfl⟩
    | (rw [List.mem_singleton.1 h]; exact True.intro)
    | (show _ ≤ _; decide)
    | skip
/-- impl.NewEngine -/
theorem ns30 : FOk Try.prog Td 30 (spC [.val true (rowC [.i .i64, .i .i64, .l 126] [.i 0, .i 0, .l []]), .val false [.i .i64 200]] (.tup [(true, (rowO [.l 124, .i .i64, .i .i64, .l 126, .l 54, .l 133, .i .i64, .i .i64, .i .i64] [.l [], .i 0, .i 0, .l [], .l [], .l [], .i 1, .i 200, .i 0])), (false, [.b true])])) := by
  refine fok (env := envL [(60, (spC [.val true (rowC [.i .i64, .i .i64, .l 126] [.i 0, .i 0, .l []])] (.val false [.b true]))), (61, spW), (62, (spC [.val true (rowC [.i .i64, .i .i64, .l 126] [.i 0, .i 0, .l []])] (.val true (rowO [.i .i64, .i .i64, .l 126] [.i 0, .i 0, .l []]))))]) (N := 19) tabTd (envD_cons ns60 (envD_cons ns61 (envD_cons ns62 envD_nil))) mixed Try.func30 rfl Try.call30 Try.ntmps30 ?_
  rintro args rfl hwf
  clear hwf
  refine ⟨by simp, ?_⟩
  rw [Try.results30]
  repeat' first
    | (refine And.intro ?_ ?_)
    | (intro h; simp only [reduceCtorEq] at h; done)
    | (intro h; exact absurd h (by decide))
    | (intro h)
  all_goals first
    | (show lowEdges _ = true; kernel_rfl) | (show logOk _ _ = true; kernel_rfl) | exact True.intro | exact Or.inr rfl | exact Or.inl rfl
    | exact rfl
    | exact ⟨_, _, _, rfl⟩
    | (rw [List.mem_singleton.1 h]; exact True.intro)
    | (show _ ≤ _; decide)
    | skip
/-- spec.NewHistory -/
theorem ns29 : FOk Try.prog Td 29 (spC [.val true (rowC [.l 124] [.l []])] (.tup [(true, (rowO [.l 124, .l 95, .i .i64] [.l [], .l [[.i (-1), .l [], .l []]], .i 0])), (false, [.b true])])) := by
  refine fok (env := envL [(58, (spC [.val true (rowC [.l 124] [.l []])] (.val false [.b true]))), (59, (spC [.val true (rowC [.l 124] [.l []])] (.val true (rowO [.l 124] [.l []]))))]) (N := 13) tabTd (envD_cons ns58 (envD_cons ns59 envD_nil)) mixed Try.func29 rfl Try.call29 Try.ntmps29 ?_
  rintro args rfl hwf
  clear hwf
  refine ⟨by simp, ?_⟩
  rw [Try.results29]
  repeat' first
    | (refine And.intro ?_ ?_)
    | (intro h; simp only [reduceCtorEq] at h; done)
    | (intro h; exact absurd h (by decide))
    | (intro h)
  all_goals first
    | (show lowEdges _ = true; kernel_rfl) | (show logOk _ _ = true; kernel_rfl) | exact True.intro | exact Or.inr rfl | exact Or.inl rfl
    | exact rfl
    | exact ⟨_, _, _, rfl⟩
    | (rw [List.mem_singleton.1 h]; exact True.intro)
    | (show _ ≤ _; decide)
    | skip
/-- impl.NewHistory -/
theorem ns31 : FOk Try.prog Td 31 (spC [.val true (rowC [.l 124] [.l []])] (.tup [(true, (rowO [.l 124, .l 95, .i .i64] [.l [], .l [[.i (-1), .l [], .l []]], .i 0])), (false, [.b true])])) := by
  refine fok (env := envL [(63, (spC [.val true (rowC [.l 124] [.l []])] (.val false [.b true]))), (64, (spC [.val true (rowC [.l 124] [.l []])] (.val true (rowO [.l 124] [.l []]))))]) (N := 13) tabTd (envD_cons ns63 (envD_cons ns64 envD_nil)) mixed Try.func31 rfl Try.call31 Try.ntmps31 ?_
  rintro args rfl hwf
  clear hwf
  refine ⟨by simp, ?_⟩
  rw [Try.results31]
  repeat' first
    | (refine And.intro ?_ ?_)
    | (intro h; simp only [reduceCtorEq] at h; done)
    | (intro h; exact absurd h (by decide))
    | (intro h)
  all_goals first
    | (show lowEdges _ = true; kernel_rfl) | (show logOk _ _ = true; kernel_rfl) | exact True.intro | exact Or.inr rfl | exact Or.inl rfl
    | exact rfl
    | exact ⟨_, _, _, rfl⟩
    | (rw [List.mem_singleton.1 h]; exact True.intro)
    | (show _ ≤ _; decide)
    | skip
/-- spec.NewSession -/
theorem ns12 : FOk Try.prog Td 12 (spC [] (.val true (rowO [.l 124, .i .i64, .i .i64, .l 126, .l 54, .l 133, .i .i64, .i .i64, .i .i64, .l 124, .l 95, .i .i64] [.l [], .i 0, .i 0, .l [], .l [], .l [], .i 1, .i 200, .i 0, .l [], .l [[.i (-1), .l [], .l []]], .i 0]))) := by
  refine fok (env := envL [(28, (spC [.val true (rowC [.i .i64, .i .i64, .l 126] [.i 0, .i 0, .l []]), .val false [.i .i64 200]] (.tup [(true, (rowO [.l 124, .i .i64, .i .i64, .l 126, .l 54, .l 133, .i .i64, .i .i64, .i .i64] [.l [], .i 0, .i 0, .l [], .l [], .l [], .i 1, .i 200, .i 0])), (false, [.b true])]))), (29, (spC [.val true (rowC [.l 124] [.l []])] (.tup [(true, (rowO [.l 124, .l 95, .i .i64] [.l [], .l [[.i (-1), .l [], .l []]], .i 0])), (false, [.b true])])))]) (N := 18) tabTd (envD_cons ns28 (envD_cons ns29 envD_nil)) mixed Try.func12 rfl Try.call12 Try.ntmps12 ?_
  rintro args rfl hwf
  clear hwf
  refine ⟨by simp, ?_⟩
  rw [Try.results12]
  repeat' first
    | (refine And.intro ?_ ?_)
    | (intro h; simp only [reduceCtorEq] at h; done)
    | (intro h; exact absurd h (by decide))
    | (intro h)
  all_goals first
    | (show lowEdges _ = true; kernel_rfl) | (show logOk _ _ = true; kernel_rfl) | exact True.intro | exact Or.inr rfl | exact Or.inl rfl
    | exact rfl
    | exact ⟨_, _, _, rfl⟩
    | (rw [List.mem_singleton.1 h]; exact True.intro)
    | (show _ ≤ _; decide)
    | skip
/-- impl.NewSession -/
theorem ns13 : FOk Try.prog Td 13 (spC [] (.val true (rowO [.l 124, .i .i64, .i .i64, .l 126, .l 54, .l 133, .i .i64, .i .i64, .i .i64, .l 124, .l 95, .i .i64] [.l [], .i 0, .i 0, .l [], .l [], .l [], .i 1, .i 200, .i 0, .l [], .l [[.i (-1), .l [], .l []]], .i 0]))) := by
  refine fok (env := envL [(30, (spC [.val true (rowC [.i .i64, .i .i64, .l 126] [.i 0, .i 0, .l []]), .val false [.i .i64 200]] (.tup [(true, (rowO [.l 124, .i .i64, .i .i64, .l 126, .l 54, .l 133, .i .i64, .i .i64, .i .i64] [.l [], .i 0, .i 0, .l [], .l [], .l [], .i 1, .i 200, .i 0])), (false, [.b true])]))), (31, (spC [.val true (rowC [.l 124] [.l []])] (.tup [(true, (rowO [.l 124, .l 95, .i .i64] [.l [], .l [[.i (-1), .l [], .l []]], .i 0])), (false, [.b true])])))]) (N := 18) tabTd (envD_cons ns30 (envD_cons ns31 envD_nil)) mixed Try.func13 rfl Try.call13 Try.ntmps13 ?_
  rintro args rfl hwf
  clear hwf
  refine ⟨by simp, ?_⟩
  rw [Try.results13]
  repeat' first
    | (refine And.intro ?_ ?_)
    | (intro h; simp only [reduceCtorEq] at h; done)
    | (intro h; exact absurd h (by decide))
    | (intro h)
  all_goals first
    | (show lowEdges _ = true; kernel_rfl) | (show logOk _ _ = true; kernel_rfl) | exact True.intro | exact Or.inr rfl | exact Or.inl rfl
    | exact rfl
    | exact ⟨_, _, _, rfl⟩
    | (rw [List.mem_singleton.1 h]; exact True.intro)
    | (show _ ≤ _; decide)
    | skip
end Go.Proofs.Ytidjlboppokloaa.Ab
