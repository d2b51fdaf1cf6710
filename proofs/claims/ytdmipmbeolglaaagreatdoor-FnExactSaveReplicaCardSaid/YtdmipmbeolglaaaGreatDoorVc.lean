/- Functions that call themselves, and tables: printed by a program of this claim. -/
import Derived.Test.YtdmipmbeolglaaaGreatDoorVb
namespace Go.Proofs.YtdmipmbeolglaaaGreatDoor.Ab
open Go.RowKit
set_option linter.unusedVariables false
set_option linter.unusedSimpArgs false
set_option maxRecDepth 100000
set_option maxHeartbeats 1000000
/-- spec.DepthOf -/
theorem anyS96 (n : Nat) (g96 : List SV → Int) (hn : FOk Tryz.prog T 96 { pre := fun args => ∃ a : List D, WfRow T [.i .i64, .i .i64, .i .i64, .s, .l 72, .l 9, .l 112] a ∧ SizeOf.sizeOf a < n ∧ args = [argG [.i .i64, .i .i64, .i .i64, .s, .l 72, .l 9, .l 112] a], res := fun args => .val false [.i .i64 (g96 args)] }) : ∃ g : List SV → Int, FOk Tryz.prog T 96 { pre := fun args => ∃ a : List D, WfRow T [.i .i64, .i .i64, .i .i64, .s, .l 72, .l 9, .l 112] a ∧ SizeOf.sizeOf a < n + 1 ∧ args = [argG [.i .i64, .i .i64, .i .i64, .s, .l 72, .l 9, .l 112] a], res := fun args => .val false [.i .i64 (g args)] } ∧ ∀ args, (fun args => ∃ a : List D, WfRow T [.i .i64, .i .i64, .i .i64, .s, .l 72, .l 9, .l 112] a ∧ SizeOf.sizeOf a < n + 1 ∧ args = [argG [.i .i64, .i .i64, .i .i64, .s, .l 72, .l 9, .l 112] a]) args → (∀ a ∈ args, WfSV T a) → (fun _ _ => True) args (g args) := by
  refine fokA (fun _ x => .val false [.i .i64 x]) (post := fun _ _ => True) (env := envL [(96, { pre := fun args => ∃ a : List D, WfRow T [.i .i64, .i .i64, .i .i64, .s, .l 72, .l 9, .l 112] a ∧ SizeOf.sizeOf a < n ∧ args = [argG [.i .i64, .i .i64, .i .i64, .s, .l 72, .l 9, .l 112] a], res := fun args => .val false [.i .i64 (g96 args)] }), (114, sp114)]) (N := 22) tabT (envL_cons hn (envL_cons ok114 envL_nil)) mixed Tryz.func96 rfl Tryz.call96 Tryz.ntmps96 ?_
  rintro args ⟨a, wa, hs, rfl⟩ hwf
  refine ⟨by simp, ?_⟩
  rw [Tryz.results96]
  have wA : WfD T (.l 72) (.l (a.getD 4 default).rows) := wa.rows (j := 4) rfl
  have la := wA.len
  repeat' first
    | (refine And.intro ?_ ?_)
    | (intro h; cases h)
    | (intro h; rw [h])
    | (intro h)
  all_goals first
    | (show lowEdges _ = true; kernel_rfl) | (show logOk _ _ = true; kernel_rfl) | exact True.intro | exact rfl | exact Or.inr rfl | exact Or.inl rfl
    | exact ⟨_, trivial, rfl, trivial⟩
    | exact ⟨_, rfl⟩
    | exact ⟨_, _, rfl⟩
    | exact ⟨_, _, _, rfl⟩
    | exact ⟨_, wa, rfl⟩
    | skip
  refine awp_loop (Q := _) [1, 3, 4] [1] (fun n q => ∃ (i z : Int), q = ([.ptr 1 1 0, .val false [.i .i64 z], .val false [.i .i64 i]], [(1, (rowC [.i .i64, .i .i64, .i .i64, .s, .l 72, .l 9, .l 112] a).map fun c => .val false [c])]) ∧ 0 ≤ i ∧ i ≤ (a.getD 4 default).rows.length ∧ n = (a.getD 4 default).rows.length - i.toNat) ?_ ?_
  · exact ⟨rfl, (a.getD 4 default).rows.length - 0, 0, 0, rfl, by omega, by omega, rfl⟩
  rintro n q ⟨i, z, rfl, h1, h2, h3⟩
  repeat' first
    | (refine And.intro ?_ ?_)
    | (intro h; cases h)
    | (intro h; rw [h])
    | (intro h)
  all_goals first
    | (show lowEdges _ = true; kernel_rfl) | (show logOk _ _ = true; kernel_rfl) | exact True.intro | exact rfl | exact Or.inr rfl | exact Or.inl rfl
    | exact ⟨_, trivial, rfl, trivial⟩
    | exact ⟨_, rfl⟩
    | exact ⟨_, _, rfl⟩
    | exact ⟨_, _, _, rfl⟩
    | exact ⟨_, wa, rfl⟩
    | omega
    | exact of_decide_eq_true ‹_›
    | (have hi : i < ((a.getD 4 default).rows.length : Int) := of_decide_eq_true ‹decide (i < ((a.getD 4 default).rows.length : Int)) = true›
       exact ⟨(a.getD 4 default).rows.length - (i + 1).toNat, by omega, i + 1, _, snapN (fun z j => (([.ptr 1 1 0, .val false [.i .i64 z], .val false [.i .i64 j]], [(1, (rowC [.i .i64, .i .i64, .i .i64, .s, .l 72, .l 9, .l 112] a).map fun c => .val false [c])]))) _ h1 hi la, by omega, by omega, rfl⟩)
    | (have hi : i < ((a.getD 4 default).rows.length : Int) := of_decide_eq_true ‹decide (i < ((a.getD 4 default).rows.length : Int)) = true›
       have wr : WfRow T [.i .i64, .i .i64, .i .i64, .s, .l 72, .l 9, .l 112] ((a.getD 4 default).rows.getD i.toNat []) := wA.row rfl (by omega)
       first
         | exact ⟨_, wr, rfl⟩
         | exact ⟨_, wr, Nat.lt_of_lt_of_le (Nat.lt_trans (size_row (by omega)) (size_cell (by rw [wa.1]; decide))) (Nat.le_of_lt_succ hs), rfl⟩)
theorem anyZ96 : ∃ g : List SV → Int, FOk Tryz.prog T 96 { pre := fun args => ∃ a : List D, WfRow T [.i .i64, .i .i64, .i .i64, .s, .l 72, .l 9, .l 112] a ∧ SizeOf.sizeOf a < 0 ∧ args = [argG [.i .i64, .i .i64, .i .i64, .s, .l 72, .l 9, .l 112] a], res := fun args => .val false [.i .i64 (g args)] } := by
  refine ⟨fun _ => default, fok (env := envL []) (N := 22) tabT envL_nil mixed Tryz.func96 rfl Tryz.call96 Tryz.ntmps96 ?_⟩
  rintro args ⟨a, wa, hs, rfl⟩ _
  exact absurd hs (Nat.not_lt_zero _)
theorem any96 : ∃ g : List SV → Int, FOk Tryz.prog T 96 { pre := fun args => ∃ a : List D, WfRow T [.i .i64, .i .i64, .i .i64, .s, .l 72, .l 9, .l 112] a ∧ args = [argG [.i .i64, .i .i64, .i .i64, .s, .l 72, .l 9, .l 112] a], res := fun args => .val false [.i .i64 (g args)] } ∧ ∀ args, (fun args => ∃ a : List D, WfRow T [.i .i64, .i .i64, .i .i64, .s, .l 72, .l 9, .l 112] a ∧ args = [argG [.i .i64, .i .i64, .i .i64, .s, .l 72, .l 9, .l 112] a]) args → (∀ a ∈ args, WfSV T a) → True := by
  refine liftA (fun _ x => .val false [.i .i64 x]) (post := fun _ _ => True) (pre := fun n args => ∃ a : List D, WfRow T [.i .i64, .i .i64, .i .i64, .s, .l 72, .l 9, .l 112] a ∧ SizeOf.sizeOf a < n ∧ args = [argG [.i .i64, .i .i64, .i .i64, .s, .l 72, .l 9, .l 112] a]) (fun n => ?_) (fun args ⟨a, wa, h⟩ => ⟨SizeOf.sizeOf a + 1, a, wa, Nat.lt_succ_self _, h⟩)
  induction n with
  | zero =>
    obtain ⟨g, hg⟩ := anyZ96
    exact ⟨g, hg, fun _ _ _ => trivial⟩
  | succ n ih =>
    obtain ⟨g, hg, _⟩ := ih
    exact anyS96 n g hg
noncomputable def g96 : List SV → Int := any96.choose
noncomputable def sp96 : FSpec := { pre := fun args => ∃ a : List D, WfRow T [.i .i64, .i .i64, .i .i64, .s, .l 72, .l 9, .l 112] a ∧ args = [argG [.i .i64, .i .i64, .i .i64, .s, .l 72, .l 9, .l 112] a], res := fun args => .val false [.i .i64 (g96 args)] }
theorem ok96 : FOk Tryz.prog T 96 sp96 := any96.choose_spec.1
/-- spec.l3Table -/
theorem any79 : ∃ g : List SV → Bool, FOk Tryz.prog T 79 { pre := fun args => ∃ a : List D, WfRow T [.i .i64, .i .i64, .i .i64, .s, .l 72, .l 9, .l 112] a ∧ args = [argG [.i .i64, .i .i64, .i .i64, .s, .l 72, .l 9, .l 112] a], res := fun args => .val false [.b (g args)] } ∧ ∀ args, (fun args => ∃ a : List D, WfRow T [.i .i64, .i .i64, .i .i64, .s, .l 72, .l 9, .l 112] a ∧ args = [argG [.i .i64, .i .i64, .i .i64, .s, .l 72, .l 9, .l 112] a]) args → (∀ a ∈ args, WfSV T a) → True := by
  refine fokA (fun _ x => .val false [.b x]) (post := fun _ _ => True) (env := envL [(97, sp97), (98, sp98), (58, spNum)]) (N := 55) tabT (envL_cons ok97 (envL_cons ok98 (envL_cons ok58 envL_nil))) mixed Tryz.func79 rfl Tryz.call79 Tryz.ntmps79 ?_
  rintro args ⟨a, wa, rfl⟩ hwf
  have wA : WfD T (.l 112) (.l (a.getD 6 default).rows) := wa.rows (j := 6) rfl
  have la := wA.len
  refine ⟨by simp, ?_⟩
  rw [Tryz.results79]
  repeat' first
    | (refine And.intro ?_ ?_)
    | (intro h; cases h)
    | (intro h; rw [h])
    | (intro h)
  all_goals first
    | (show lowEdges _ = true; kernel_rfl) | (show logOk _ _ = true; kernel_rfl) | exact True.intro | exact rfl | exact Or.inr rfl | exact Or.inl rfl
    | exact ⟨_, trivial, rfl, trivial⟩
    | exact ⟨_, rfl⟩
    | skip
  refine awp_loop (Q := _) [1, 3] [1] (fun n q => ∃ i : Int, q = ([.ptr 1 1 0, .val false [.i .i64 i]], [(1, (rowC [.i .i64, .i .i64, .i .i64, .s, .l 72, .l 9, .l 112] a).map fun c => .val false [c])]) ∧ 0 ≤ i ∧ i ≤ (a.getD 6 default).rows.length ∧ n = (a.getD 6 default).rows.length - i.toNat) ?_ ?_
  · exact ⟨rfl, (a.getD 6 default).rows.length - 0, 0, rfl, by omega, by omega, rfl⟩
  rintro n q ⟨i, rfl, h1, h2, h3⟩
  repeat' first
    | (refine And.intro ?_ ?_)
    | (intro h; cases h)
    | (intro h; rw [h])
    | (intro h)
  all_goals first
    | (show lowEdges _ = true; kernel_rfl) | (show logOk _ _ = true; kernel_rfl) | exact True.intro | exact rfl | exact Or.inr rfl | exact Or.inl rfl
    | exact ⟨_, trivial, rfl, trivial⟩
    | omega
    | exact of_decide_eq_true ‹_›
    | exact ⟨_, rfl⟩
    | skip
  have hi : i < ((a.getD 6 default).rows.length : Int) := of_decide_eq_true ‹decide (i < ((a.getD 6 default).rows.length : Int)) = true›
  have wr : WfRow T [.l 3, .l 125] ((a.getD 6 default).rows.getD i.toNat []) := wA.row rfl (by omega)
  have wB : WfD T (.l 3) (.l (((a.getD 6 default).rows.getD i.toNat []).getD 0 default).rows) := wr.rows (j := 0) rfl
  have lb := wB.len
  refine awp_loop (Q := _) [1, 3, 4, 5] [1, 4] (fun n q => ∃ k : Int, q = ([.ptr 1 1 0, .val false [.i .i64 i], .ptr 4 1 0, .val false [.i .i64 k]], [(1, (rowC [.i .i64, .i .i64, .i .i64, .s, .l 72, .l 9, .l 112] a).map fun c => .val false [c]), (1, (rowC [.l 3, .l 125] ((a.getD 6 default).rows.getD i.toNat [])).map fun c => .val false [c])]) ∧ 0 ≤ k ∧ k ≤ (((a.getD 6 default).rows.getD i.toNat []).getD 0 default).rows.length ∧ n = (((a.getD 6 default).rows.getD i.toNat []).getD 0 default).rows.length - k.toNat) ?_ ?_
  · exact ⟨rfl, (((a.getD 6 default).rows.getD i.toNat []).getD 0 default).rows.length - 0, 0, rfl, by omega, by omega, rfl⟩
  rintro m q ⟨k, rfl, k1, k2, k3⟩
  repeat' first
    | (refine And.intro ?_ ?_)
    | (intro h; cases h)
    | (intro h; rw [h])
    | (intro h)
  all_goals first
    | (show lowEdges _ = true; kernel_rfl) | (show logOk _ _ = true; kernel_rfl) | exact True.intro | exact rfl | exact Or.inr rfl | exact Or.inl rfl
    | exact ⟨_, trivial, rfl, trivial⟩
    | omega
    | exact of_decide_eq_true ‹_›
    | exact ⟨_, rfl⟩
    | exact ⟨(a.getD 6 default).rows.length - (i + 1).toNat, by omega, i + 1, congrArg (fun z : Int => (([.ptr 1 1 0, .val false [.i .i64 z]], [(1, (rowC [.i .i64, .i .i64, .i .i64, .s, .l 72, .l 9, .l 112] a).map fun c => .val false [c])]) : Snap)) (wrap_next h1 hi la), by omega, by omega, rfl⟩
    | (have hk : k < ((((a.getD 6 default).rows.getD i.toNat []).getD 0 default).rows.length : Int) := of_decide_eq_true ‹decide (k < ((((a.getD 6 default).rows.getD i.toNat []).getD 0 default).rows.length : Int)) = true›
       exact ⟨(((a.getD 6 default).rows.getD i.toNat []).getD 0 default).rows.length - (k + 1).toNat, by omega, k + 1, congrArg (fun z : Int => (([.ptr 1 1 0, .val false [.i .i64 i], .ptr 4 1 0, .val false [.i .i64 z]], [(1, (rowC [.i .i64, .i .i64, .i .i64, .s, .l 72, .l 9, .l 112] a).map fun c => .val false [c]), (1, (rowC [.l 3, .l 125] ((a.getD 6 default).rows.getD i.toNat [])).map fun c => .val false [c])]) : Snap)) (wrap_next k1 hk lb), by omega, by omega, rfl⟩)
noncomputable def g79 : List SV → Bool := any79.choose
noncomputable def sp79 : FSpec := { pre := fun args => ∃ a : List D, WfRow T [.i .i64, .i .i64, .i .i64, .s, .l 72, .l 9, .l 112] a ∧ args = [argG [.i .i64, .i .i64, .i .i64, .s, .l 72, .l 9, .l 112] a], res := fun args => .val false [.b (g79 args)] }
theorem ok79 : FOk Tryz.prog T 79 sp79 := any79.choose_spec.1
end Go.Proofs.YtdmipmbeolglaaaGreatDoor.Ab
