/- Functions that call themselves, and tables: printed by a program of this claim. -/
import Derived.Test.YtdmipmbeolglaaaGreatDoorVc
namespace Go.Proofs.YtdmipmbeolglaaaGreatDoor.Ab
open Go.RowKit
set_option linter.unusedVariables false
set_option linter.unusedSimpArgs false
set_option maxRecDepth 100000
set_option maxHeartbeats 1000000
/-- spec.l3List -/
theorem anyS78 (n : Nat) (g57 : List SV → Bool) (hn : FOk Tryz.prog T 57 { pre := fun args => ∃ a : List D, WfRow T [.i .i64, .i .i64, .i .i64, .s, .l 72, .l 9, .l 112] a ∧ SizeOf.sizeOf a < n ∧ args = [argG [.i .i64, .i .i64, .i .i64, .s, .l 72, .l 9, .l 112] a], res := fun args => .val false [.b (g57 args)] }) : ∃ g : List SV → Bool, FOk Tryz.prog T 78 { pre := fun args => ∃ a : List D, WfRow T [.i .i64, .i .i64, .i .i64, .s, .l 72, .l 9, .l 112] a ∧ SizeOf.sizeOf a < n + 1 ∧ args = [argG [.i .i64, .i .i64, .i .i64, .s, .l 72, .l 9, .l 112] a], res := fun args => .val false [.b (g args)] } ∧ ∀ args, (fun args => ∃ a : List D, WfRow T [.i .i64, .i .i64, .i .i64, .s, .l 72, .l 9, .l 112] a ∧ SizeOf.sizeOf a < n + 1 ∧ args = [argG [.i .i64, .i .i64, .i .i64, .s, .l 72, .l 9, .l 112] a]) args → (∀ a ∈ args, WfSV T a) → (fun _ _ => True) args (g args) := by
  refine fokA (fun _ x => .val false [.b x]) (post := fun _ _ => True) (env := envL [(95, sp95), (57, { pre := fun args => ∃ a : List D, WfRow T [.i .i64, .i .i64, .i .i64, .s, .l 72, .l 9, .l 112] a ∧ SizeOf.sizeOf a < n ∧ args = [argG [.i .i64, .i .i64, .i .i64, .s, .l 72, .l 9, .l 112] a], res := fun args => .val false [.b (g57 args)] }), (96, sp96)]) (N := 36) tabT (envL_cons ok95 (envL_cons hn (envL_cons ok96 envL_nil))) mixed Tryz.func78 rfl Tryz.call78 Tryz.ntmps78 ?_
  rintro args ⟨a, wa, hs, rfl⟩ hwf
  refine ⟨by simp, ?_⟩
  rw [Tryz.results78]
  have wA : WfD T (.l 72) (.l (a.getD 4 default).rows) := wa.rows (j := 4) rfl
  have la := wA.len
  repeat' first
    | (refine And.intro ?_ ?_)
    | (intro h; cases h)
    | (intro h; rw [h])
    | (intro h)
  all_goals first
    | (show lowEdges _ = true; kernel_rfl) | (show logOk _ _ = true; kernel_rfl) | exact True.intro | exact rfl | exact Or.inr rfl | exact Or.inl rfl
    | exact ⟨_, trivial, rfl, trivial⟩
    | exact ⟨_, rfl⟩
    | exact ⟨_, _, rfl⟩
    | exact ⟨_, _, _, rfl⟩
    | exact ⟨_, wa, rfl⟩
    | skip
  refine awp_loop (Q := _) [1, 3] [1] (fun n q => ∃ i : Int, q = ([.ptr 1 1 0, .val false [.i .i64 i]], [(1, (rowC [.i .i64, .i .i64, .i .i64, .s, .l 72, .l 9, .l 112] a).map fun c => .val false [c])]) ∧ 0 ≤ i ∧ i ≤ (a.getD 4 default).rows.length ∧ n = (a.getD 4 default).rows.length - i.toNat) ?_ ?_
  · exact ⟨rfl, (a.getD 4 default).rows.length - 0, 0, rfl, by omega, by omega, rfl⟩
  rintro n q ⟨i, rfl, h1, h2, h3⟩
  repeat' first
    | (refine And.intro ?_ ?_)
    | (intro h; cases h)
    | (intro h; rw [h])
    | (intro h)
  all_goals first
    | (show lowEdges _ = true; kernel_rfl) | (show logOk _ _ = true; kernel_rfl) | exact True.intro | exact rfl | exact Or.inr rfl | exact Or.inl rfl
    | exact ⟨_, trivial, rfl, trivial⟩
    | exact ⟨_, rfl⟩
    | exact ⟨_, _, rfl⟩
    | exact ⟨_, _, _, rfl⟩
    | exact ⟨_, wa, rfl⟩
    | omega
    | exact of_decide_eq_true ‹_›
    | (have hi : i < ((a.getD 4 default).rows.length : Int) := of_decide_eq_true ‹decide (i < ((a.getD 4 default).rows.length : Int)) = true›
       exact ⟨(a.getD 4 default).rows.length - (i + 1).toNat, by omega, i + 1, congrArg (fun z : Int => ((([.ptr 1 1 0, .val false [.i .i64 z]], [(1, (rowC [.i .i64, .i .i64, .i .i64, .s, .l 72, .l 9, .l 112] a).map fun c => .val false [c])])) : Snap)) (wrap_next h1 hi la), by omega, by omega, rfl⟩)
    | (have hi : i < ((a.getD 4 default).rows.length : Int) := of_decide_eq_true ‹decide (i < ((a.getD 4 default).rows.length : Int)) = true›
       have wr : WfRow T [.i .i64, .i .i64, .i .i64, .s, .l 72, .l 9, .l 112] ((a.getD 4 default).rows.getD i.toNat []) := wA.row rfl (by omega)
       first
         | exact ⟨_, wr, rfl⟩
         | exact ⟨_, wr, Nat.lt_of_lt_of_le (Nat.lt_trans (size_row (by omega)) (size_cell (by rw [wa.1]; decide))) (Nat.le_of_lt_succ hs), rfl⟩)
theorem anyS57 (n : Nat) (g78 : List SV → Bool) (hn : FOk Tryz.prog T 78 { pre := fun args => ∃ a : List D, WfRow T [.i .i64, .i .i64, .i .i64, .s, .l 72, .l 9, .l 112] a ∧ SizeOf.sizeOf a < n + 1 ∧ args = [argG [.i .i64, .i .i64, .i .i64, .s, .l 72, .l 9, .l 112] a], res := fun args => .val false [.b (g78 args)] }) : ∃ g : List SV → Bool, FOk Tryz.prog T 57 { pre := fun args => ∃ a : List D, WfRow T [.i .i64, .i .i64, .i .i64, .s, .l 72, .l 9, .l 112] a ∧ SizeOf.sizeOf a < n + 1 ∧ args = [argG [.i .i64, .i .i64, .i .i64, .s, .l 72, .l 9, .l 112] a], res := fun args => .val false [.b (g args)] } ∧ ∀ args, (∃ a : List D, WfRow T [.i .i64, .i .i64, .i .i64, .s, .l 72, .l 9, .l 112] a ∧ SizeOf.sizeOf a < n + 1 ∧ args = [argG [.i .i64, .i .i64, .i .i64, .s, .l 72, .l 9, .l 112] a]) → (∀ a ∈ args, WfSV T a) → True := by
  have hE : EnvOk Tryz.prog T (envL [(58, spNum), (77, sp77), (78, { pre := fun args => ∃ a : List D, WfRow T [.i .i64, .i .i64, .i .i64, .s, .l 72, .l 9, .l 112] a ∧ SizeOf.sizeOf a < n + 1 ∧ args = [argG [.i .i64, .i .i64, .i .i64, .s, .l 72, .l 9, .l 112] a], res := fun args => .val false [.b (g78 args)] }), (79, sp79), (75, spIn)]) := (envL_cons ok58 (envL_cons ok77 (envL_cons hn (envL_cons ok79 (envL_cons ok75 envL_nil)))))
  refine fokSA (N := 95) (fun _ x => .val false [.b x]) (post := fun _ _ => True) tabT Tryz.func57 rfl Tryz.call57 Tryz.ntmps57 ?_
  rintro args ⟨a, wa, hs, rfl⟩ hwf
  refine ⟨by simp, ?_⟩
  rw [Tryz.results57]
  clear hwf
  refine Snd.seq tabT hE mixed ?_
  repeat' first
    | (refine And.intro ?_ ?_)
    | (intro h; cases h)
    | (intro h; rw [h])
    | (intro h)
  all_goals first
    | exact ⟨_, trivial, rfl, trivial⟩
    | (show lowEdges _ = true; kernel_rfl) | (show logOk _ _ = true; kernel_rfl) | exact True.intro | exact rfl | exact Or.inr rfl | exact Or.inl rfl
    | rfl
    | exact ⟨_, rfl⟩
    | exact ⟨_, _, rfl⟩
    | exact ⟨_, _, _, rfl⟩
    | exact ⟨_, wa, hs, rfl⟩
    | exact ⟨_, wa, rfl⟩
    | skip
  refine Snd.cut2 tabT hE mixed [1, 2] [1] (fun q => q = ([.ptr 1 1 0, .val false [.b false]], [(1, (rowC [.i .i64, .i .i64, .i .i64, .s, .l 72, .l 9, .l 112] a).map fun c => .val false [c])])) ?_ ?_
  · repeat' first
      | (refine And.intro ?_ ?_)
      | (intro h; cases h)
      | (intro h; rw [h])
      | (intro h)
    all_goals first
      | exact ⟨_, trivial, rfl, trivial⟩
      | (show lowEdges _ = true; kernel_rfl) | (show logOk _ _ = true; kernel_rfl) | exact True.intro | exact rfl | exact Or.inr rfl | exact Or.inl rfl
      | rfl
      | exact ⟨_, rfl⟩
      | exact ⟨_, _, rfl⟩
      | exact ⟨_, _, _, rfl⟩
      | exact ⟨_, wa, hs, rfl⟩
      | exact ⟨_, wa, rfl⟩
  rintro q rfl
  refine Snd.cut2 tabT hE mixed [1, 2] [1] (fun q => q = ([.ptr 1 1 0, .val false [.b false]], [(1, (rowC [.i .i64, .i .i64, .i .i64, .s, .l 72, .l 9, .l 112] a).map fun c => .val false [c])])) ?_ ?_
  · repeat' first
      | (refine And.intro ?_ ?_)
      | (intro h; cases h)
      | (intro h; rw [h])
      | (intro h)
    all_goals first
      | exact ⟨_, trivial, rfl, trivial⟩
      | (show lowEdges _ = true; kernel_rfl) | (show logOk _ _ = true; kernel_rfl) | exact True.intro | exact rfl | exact Or.inr rfl | exact Or.inl rfl
      | rfl
      | exact ⟨_, rfl⟩
      | exact ⟨_, _, rfl⟩
      | exact ⟨_, _, _, rfl⟩
      | exact ⟨_, wa, hs, rfl⟩
      | exact ⟨_, wa, rfl⟩
  rintro q rfl
  refine Snd.of_awp tabT hE mixed ?_
  repeat' first
    | (refine And.intro ?_ ?_)
    | (intro h; cases h)
    | (intro h; rw [h])
    | (intro h)
  all_goals first
    | exact ⟨_, trivial, rfl, trivial⟩
    | (show lowEdges _ = true; kernel_rfl) | (show logOk _ _ = true; kernel_rfl) | exact True.intro | exact rfl | exact Or.inr rfl | exact Or.inl rfl
    | rfl
    | exact ⟨_, rfl⟩
    | exact ⟨_, _, rfl⟩
    | exact ⟨_, _, _, rfl⟩
    | exact ⟨_, wa, hs, rfl⟩
    | exact ⟨_, wa, rfl⟩
theorem anyZ57 : ∃ g : List SV → Bool, FOk Tryz.prog T 57 { pre := fun args => ∃ a : List D, WfRow T [.i .i64, .i .i64, .i .i64, .s, .l 72, .l 9, .l 112] a ∧ SizeOf.sizeOf a < 0 ∧ args = [argG [.i .i64, .i .i64, .i .i64, .s, .l 72, .l 9, .l 112] a], res := fun args => .val false [.b (g args)] } := by
  refine ⟨fun _ => default, fok (env := envL []) (N := 95) tabT envL_nil mixed Tryz.func57 rfl Tryz.call57 Tryz.ntmps57 ?_⟩
  rintro args ⟨a, wa, hs, rfl⟩ _
  exact absurd hs (Nat.not_lt_zero _)
noncomputable def svOk : List SV → Bool
  | [.val _ cs] => okVal (csD cs)
  | _ => false
theorem okF78 : FOk Tryz.prog T 78 { pre := fun _ => False, res := fun _ => .none } := by
  refine fok (env := envL []) (N := 36) tabT envL_nil mixed Tryz.func78 rfl Tryz.call78 Tryz.ntmps78 ?_
  exact fun args h => h.elim
theorem okF77 : FOk Tryz.prog T 77 { pre := fun _ => False, res := fun _ => .none } := by
  refine fok (env := envL []) (N := 29) tabT envL_nil mixed Tryz.func77 rfl Tryz.call77 Tryz.ntmps77 ?_
  exact fun args h => h.elim
theorem okF79 : FOk Tryz.prog T 79 { pre := fun _ => False, res := fun _ => .none } := by
  refine fok (env := envL []) (N := 55) tabT envL_nil mixed Tryz.func79 rfl Tryz.call79 Tryz.ntmps79 ?_
  exact fun args h => h.elim
theorem exact57 : FOk Tryz.prog T 57 { pre := fun args => ∃ a : List D, WfRow T [.i .i64, .i .i64, .i .i64, .s, .l 72, .l 9, .l 112] a ∧ (a.getD 5 default).rows.length + (a.getD 6 default).rows.length ≤ 4611686018427387904 ∧ ((a.getD 0 default).int = 1 ∨ (a.getD 0 default).int = 6) ∧ args = [argG [.i .i64, .i .i64, .i .i64, .s, .l 72, .l 9, .l 112] a], res := fun args => .val false [.b (svOk args)] } := by
  refine fok (env := envL [(58, spNum), (77, { pre := fun _ => False, res := fun _ => .none }), (78, { pre := fun _ => False, res := fun _ => .none }), (79, { pre := fun _ => False, res := fun _ => .none }), (75, spIn)]) (N := 95) tabT (envL_cons ok58 (envL_cons okF77 (envL_cons okF78 (envL_cons okF79 (envL_cons ok75 envL_nil))))) mixed Tryz.func57 rfl Tryz.call57 Tryz.ntmps57 ?_
  rintro args ⟨a, wa, hl, hk, rfl⟩ hwf
  refine ⟨by simp, ?_⟩
  rw [Tryz.results57]
  clear hwf
  obtain ⟨d0, r0, rfl, w0, wa⟩ := wa.cons'
  obtain ⟨d1, r1, rfl, w1, wa⟩ := wa.cons'
  obtain ⟨d2, r2, rfl, w2, wa⟩ := wa.cons'
  obtain ⟨d3, r3, rfl, w3, wa⟩ := wa.cons'
  obtain ⟨d4, r4, rfl, w4, wa⟩ := wa.cons'
  obtain ⟨d5, r5, rfl, w5, wa⟩ := wa.cons'
  obtain ⟨d6, r6, rfl, w6, wa⟩ := wa.cons'
  obtain rfl := wa.nil'
  obtain ⟨n0, rfl, _⟩ := w0.int'
  obtain ⟨n1, rfl, _⟩ := w1.int'
  obtain ⟨n2, rfl, _⟩ := w2.int'
  obtain ⟨s3, rfl, _⟩ := w3.str'
  obtain ⟨l4, rfl, _⟩ := w4.sl'
  obtain ⟨l5, rfl, _⟩ := w5.sl'
  obtain ⟨l6, rfl, _⟩ := w6.sl'
  clear w0 w1 w2 w3 w4 w5 w6
  have hl : l5.length + l6.length ≤ 4611686018427387904 := hl
  have hk : n0 = 1 ∨ n0 = 6 := hk
  rcases hk with rfl | rfl
  all_goals
    repeat' first
      | (refine And.intro ?_ ?_)
      | (intro h; cases h)
      | (intro h; rw [h])
      | (intro h)
  all_goals first
    | (show lowEdges _ = true; kernel_rfl) | (show logOk _ _ = true; kernel_rfl) | exact True.intro | exact rfl | exact Or.inr rfl | exact Or.inl rfl
    | exact ⟨_, rfl⟩
    | exact ⟨_, _, _, rfl⟩
    | (refine resB ?_; show _ = okVal [_, _, _, _, _, _, _]; simp_all [okVal, inR, CV.d, ofD, IntKind.wrap_i64, List.getD_cons_succ, List.getD_cons_zero, D.int, D.rows, D.str]; done)
    | (refine resB ?_; show _ = okVal [_, _, _, _, _, _, _]; simp_all [okVal, inR, CV.d, ofD, IntKind.wrap_i64, List.getD_cons_succ, List.getD_cons_zero, D.int, D.rows, D.str]; simp only [← List.length_eq_zero_iff] at *; intros; omega)
    | (refine resB ?_; show _ = okVal [_, _, _, _, _, _, _]; simp_all [okVal, inR, CV.d, ofD, IntKind.wrap_i64, List.getD_cons_succ, List.getD_cons_zero, D.int, D.rows, D.str]; done)
theorem any57 : ∃ g : List SV → Bool, FOk Tryz.prog T 57 { pre := fun args => ∃ a : List D, WfRow T [.i .i64, .i .i64, .i .i64, .s, .l 72, .l 9, .l 112] a ∧ args = [argG [.i .i64, .i .i64, .i .i64, .s, .l 72, .l 9, .l 112] a], res := fun args => .val false [.b (g args)] } ∧ ∀ args, (fun args => ∃ a : List D, WfRow T [.i .i64, .i .i64, .i .i64, .s, .l 72, .l 9, .l 112] a ∧ args = [argG [.i .i64, .i .i64, .i .i64, .s, .l 72, .l 9, .l 112] a]) args → (∀ a ∈ args, WfSV T a) → True := by
  refine liftA (fun _ x => .val false [.b x]) (post := fun _ _ => True) (pre := fun n args => ∃ a : List D, WfRow T [.i .i64, .i .i64, .i .i64, .s, .l 72, .l 9, .l 112] a ∧ SizeOf.sizeOf a < n ∧ args = [argG [.i .i64, .i .i64, .i .i64, .s, .l 72, .l 9, .l 112] a]) (fun n => ?_) (fun args ⟨a, wa, h⟩ => ⟨SizeOf.sizeOf a + 1, a, wa, Nat.lt_succ_self _, h⟩)
  induction n with
  | zero =>
    obtain ⟨g, hg⟩ := anyZ57
    exact ⟨g, hg, fun _ _ _ => trivial⟩
  | succ n ih =>
    obtain ⟨g, hg, _⟩ := ih
    obtain ⟨g2, hg2, _⟩ := anyS78 n g hg
    exact anyS57 n g2 hg2
theorem both57 : ∃ g : List SV → Bool, FOk Tryz.prog T 57 { pre := fun args => ∃ a : List D, WfRow T [.i .i64, .i .i64, .i .i64, .s, .l 72, .l 9, .l 112] a ∧ args = [argG [.i .i64, .i .i64, .i .i64, .s, .l 72, .l 9, .l 112] a], res := fun args => .val false [.b (g args)] } ∧ ∀ args, (fun args => ∃ a : List D, WfRow T [.i .i64, .i .i64, .i .i64, .s, .l 72, .l 9, .l 112] a ∧ (a.getD 5 default).rows.length + (a.getD 6 default).rows.length ≤ 4611686018427387904 ∧ ((a.getD 0 default).int = 1 ∨ (a.getD 0 default).int = 6) ∧ args = [argG [.i .i64, .i .i64, .i .i64, .s, .l 72, .l 9, .l 112] a]) args → g args = svOk args := joinB (by obtain ⟨g, hg, _⟩ := any57; exact ⟨g, hg⟩) exact57
noncomputable def g57 : List SV → Bool := both57.choose
noncomputable def sp57 : FSpec := { pre := fun args => ∃ a : List D, WfRow T [.i .i64, .i .i64, .i .i64, .s, .l 72, .l 9, .l 112] a ∧ args = [argG [.i .i64, .i .i64, .i .i64, .s, .l 72, .l 9, .l 112] a], res := fun args => .val false [.b (g57 args)] }
theorem ok57 : FOk Tryz.prog T 57 sp57 := both57.choose_spec.1
theorem val57 : ∀ args, (fun args => ∃ a : List D, WfRow T [.i .i64, .i .i64, .i .i64, .s, .l 72, .l 9, .l 112] a ∧ (a.getD 5 default).rows.length + (a.getD 6 default).rows.length ≤ 4611686018427387904 ∧ ((a.getD 0 default).int = 1 ∨ (a.getD 0 default).int = 6) ∧ args = [argG [.i .i64, .i .i64, .i .i64, .s, .l 72, .l 9, .l 112] a]) args → g57 args = svOk args := both57.choose_spec.2
end Go.Proofs.YtdmipmbeolglaaaGreatDoor.Ab
