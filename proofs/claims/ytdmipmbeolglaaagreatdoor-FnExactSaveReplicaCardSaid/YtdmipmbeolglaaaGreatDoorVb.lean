/- Functions that return some bool or number, and small exact ones: printed by a program of this claim. -/
import Derived.Test.YtdmipmbeolglaaaGreatDoorVd
namespace Go.Proofs.YtdmipmbeolglaaaGreatDoor.Ab
open Go.RowKit
set_option linter.unusedVariables false
set_option linter.unusedSimpArgs false
set_option maxRecDepth 100000
set_option maxHeartbeats 1000000
/-- spec.l1In -/
theorem ok75 : FOk Tryz.prog T 75 spIn := by
  refine fok (env := envL []) (N := 15) tabT envL_nil mixed Tryz.func75 rfl Tryz.call75 Tryz.ntmps75 ?_
  rintro args ⟨x, lo, hi, rfl⟩ hwf
  refine ⟨by simp, ?_⟩
  rw [Tryz.results75]
  repeat' first
    | (refine And.intro ?_ ?_)
    | (intro h; cases h)
    | (intro h; rw [h])
    | (intro h)
  all_goals first
    | (show lowEdges _ = true; kernel_rfl) | (show logOk _ _ = true; kernel_rfl) | exact True.intro | exact rfl | exact Or.inr rfl | exact Or.inl rfl
    | exact ⟨_, rfl⟩
    | exact ⟨_, _, _, rfl⟩
    | (refine resB ?_; simp_all [inR]; done)
    | (refine resB ?_; simp_all [inR]; omega)
/-- spec.l3Number -/
theorem ok58 : FOk Tryz.prog T 58 spNum := by
  refine fok (env := envL [(75, spIn)]) (N := 5) tabT (envL_cons ok75 envL_nil) mixed Tryz.func58 rfl Tryz.call58 Tryz.ntmps58 ?_
  rintro args ⟨x, rfl⟩ hwf
  refine ⟨by simp, ?_⟩
  rw [Tryz.results58]
  repeat' first
    | (refine And.intro ?_ ?_)
    | (intro h; cases h)
    | (intro h; rw [h])
    | (intro h)
  all_goals first
    | (show lowEdges _ = true; kernel_rfl) | (show logOk _ _ = true; kernel_rfl) | exact True.intro | exact rfl | exact Or.inr rfl | exact Or.inl rfl
    | exact ⟨_, rfl⟩
    | exact ⟨_, _, _, rfl⟩
    | rfl
/-- impl.within -/
theorem ok63 : FOk Tryz.prog T 63 spIn := by
  refine fok (env := envL []) (N := 15) tabT envL_nil mixed Tryz.func63 rfl Tryz.call63 Tryz.ntmps63 ?_
  rintro args ⟨x, lo, hi, rfl⟩ hwf
  refine ⟨by simp, ?_⟩
  rw [Tryz.results63]
  repeat' first
    | (refine And.intro ?_ ?_)
    | (intro h; cases h)
    | (intro h; rw [h])
    | (intro h)
  all_goals first
    | (show lowEdges _ = true; kernel_rfl) | (show logOk _ _ = true; kernel_rfl) | exact True.intro | exact rfl | exact Or.inr rfl | exact Or.inl rfl
    | exact ⟨_, rfl⟩
    | exact ⟨_, _, _, rfl⟩
    | (refine resB ?_; simp_all [inR]; done)
    | (refine resB ?_; simp_all [inR]; omega)
/-- impl.isNumber -/
theorem ok64 : FOk Tryz.prog T 64 spNum := by
  refine fok (env := envL [(63, spIn)]) (N := 5) tabT (envL_cons ok63 envL_nil) mixed Tryz.func64 rfl Tryz.call64 Tryz.ntmps64 ?_
  rintro args ⟨x, rfl⟩ hwf
  refine ⟨by simp, ?_⟩
  rw [Tryz.results64]
  repeat' first
    | (refine And.intro ?_ ?_)
    | (intro h; cases h)
    | (intro h; rw [h])
    | (intro h)
  all_goals first
    | (show lowEdges _ = true; kernel_rfl) | (show logOk _ _ = true; kernel_rfl) | exact True.intro | exact rfl | exact Or.inr rfl | exact Or.inl rfl
    | exact ⟨_, rfl⟩
    | exact ⟨_, _, _, rfl⟩
    | rfl
/-- spec.l3Element -/
theorem any95 : ∃ g : List SV → Bool, FOk Tryz.prog T 95 { pre := fun args => ∃ a : List D, WfRow T [.i .i64, .i .i64, .i .i64, .s, .l 72, .l 9, .l 112] a ∧ args = [argG [.i .i64, .i .i64, .i .i64, .s, .l 72, .l 9, .l 112] a], res := fun args => .val false [.b (g args)] } ∧ ∀ args, (fun args => ∃ a : List D, WfRow T [.i .i64, .i .i64, .i .i64, .s, .l 72, .l 9, .l 112] a ∧ args = [argG [.i .i64, .i .i64, .i .i64, .s, .l 72, .l 9, .l 112] a]) args → (∀ a ∈ args, WfSV T a) → (fun _ _ => True) args (g args) := by
  refine fokA (fun _ x => .val false [.b x]) (post := fun _ _ => True) (env := envL []) (N := 16) tabT envL_nil mixed Tryz.func95 rfl Tryz.call95 Tryz.ntmps95 ?_
  rintro args ⟨a, wa, rfl⟩ hwf
  refine ⟨by simp, ?_⟩
  rw [Tryz.results95]
  repeat' first
    | (refine And.intro ?_ ?_)
    | (intro h; cases h)
    | (intro h; rw [h])
    | (intro h)
  all_goals first
    | (show lowEdges _ = true; kernel_rfl) | (show logOk _ _ = true; kernel_rfl) | exact True.intro | exact rfl | exact Or.inr rfl | exact Or.inl rfl
    | exact ⟨_, trivial, rfl, trivial⟩
    | exact ⟨_, rfl⟩
    | exact ⟨_, _, rfl⟩
    | exact ⟨_, _, _, rfl⟩
    | exact ⟨_, wa, rfl⟩
noncomputable def g95 : List SV → Bool := any95.choose
noncomputable def sp95 : FSpec := { pre := fun args => ∃ a : List D, WfRow T [.i .i64, .i .i64, .i .i64, .s, .l 72, .l 9, .l 112] a ∧ args = [argG [.i .i64, .i .i64, .i .i64, .s, .l 72, .l 9, .l 112] a], res := fun args => .val false [.b (g95 args)] }
theorem ok95 : FOk Tryz.prog T 95 sp95 := any95.choose_spec.1
/-- spec.l1Max -/
theorem any114 : ∃ g : List SV → Int, FOk Tryz.prog T 114 { pre := fun args => ∃ x y : Int, args = [.val false [.i .i64 x], .val false [.i .i64 y]], res := fun args => .val false [.i .i64 (g args)] } ∧ ∀ args, (fun args => ∃ x y : Int, args = [.val false [.i .i64 x], .val false [.i .i64 y]]) args → (∀ a ∈ args, WfSV T a) → (fun _ _ => True) args (g args) := by
  refine fokA (fun _ x => .val false [.i .i64 x]) (post := fun _ _ => True) (env := envL []) (N := 10) tabT envL_nil mixed Tryz.func114 rfl Tryz.call114 Tryz.ntmps114 ?_
  rintro args ⟨x, y, rfl⟩ hwf
  refine ⟨by simp, ?_⟩
  rw [Tryz.results114]
  repeat' first
    | (refine And.intro ?_ ?_)
    | (intro h; cases h)
    | (intro h; rw [h])
    | (intro h)
  all_goals first
    | (show lowEdges _ = true; kernel_rfl) | (show logOk _ _ = true; kernel_rfl) | exact True.intro | exact rfl | exact Or.inr rfl | exact Or.inl rfl
    | exact ⟨_, trivial, rfl, trivial⟩
    | exact ⟨_, rfl⟩
    | exact ⟨_, _, rfl⟩
    | exact ⟨_, _, _, rfl⟩
noncomputable def g114 : List SV → Int := any114.choose
noncomputable def sp114 : FSpec := { pre := fun args => ∃ x y : Int, args = [.val false [.i .i64 x], .val false [.i .i64 y]], res := fun args => .val false [.i .i64 (g114 args)] }
theorem ok114 : FOk Tryz.prog T 114 sp114 := any114.choose_spec.1
/-- spec.IsValidText -/
theorem any77 : ∃ g : List SV → Bool, FOk Tryz.prog T 77 { pre := fun args => ∃ s : ByteArray, args = [.val false [.s s]], res := fun args => .val false [.b (g args)] } ∧ ∀ args, (fun args => ∃ s : ByteArray, args = [.val false [.s s]]) args → (∀ a ∈ args, WfSV T a) → (fun _ _ => True) args (g args) := by
  refine fokA (fun _ x => .val false [.b x]) (post := fun _ _ => True) (env := envL []) (N := 29) tabT envL_nil mixed Tryz.func77 rfl Tryz.call77 Tryz.ntmps77 ?_
  rintro args ⟨s, rfl⟩ hwf
  have la : s.size ≤ maxLen := arg0 hwf (List.mem_singleton_self _)
  refine ⟨by simp, ?_⟩
  rw [Tryz.results77]
  repeat' first
    | (refine And.intro ?_ ?_)
    | (intro h; cases h)
    | (intro h; rw [h])
    | (intro h)
  all_goals first
    | (show lowEdges _ = true; kernel_rfl) | (show logOk _ _ = true; kernel_rfl) | exact True.intro | exact rfl | exact Or.inr rfl | exact Or.inl rfl
    | exact ⟨_, trivial, rfl, trivial⟩
    | exact ⟨_, rfl⟩
    | exact ⟨_, _, rfl⟩
    | exact ⟨_, _, _, rfl⟩
    | skip
  refine awp_loop (Q := _) [0, 3] [] (fun n q => ∃ i : Int, q = ([.val false [.s s], .val false [.i .i64 i]], []) ∧ 0 ≤ i ∧ i ≤ s.size ∧ n = s.size - i.toNat) ?_ ?_
  · exact ⟨rfl, s.size - 0, 0, rfl, by omega, by omega, rfl⟩
  rintro n q ⟨i, rfl, h1, h2, h3⟩
  repeat' first
    | (refine And.intro ?_ ?_)
    | (intro h; cases h)
    | (intro h; rw [h])
    | (intro h)
  all_goals first
    | (show lowEdges _ = true; kernel_rfl) | (show logOk _ _ = true; kernel_rfl) | exact True.intro | exact rfl | exact Or.inr rfl | exact Or.inl rfl
    | exact ⟨_, trivial, rfl, trivial⟩
    | exact ⟨_, rfl⟩
    | exact ⟨_, _, rfl⟩
    | exact ⟨_, _, _, rfl⟩
    | omega
    | exact of_decide_eq_true ‹_›
    | (have hi : i < (s.size : Int) := of_decide_eq_true ‹decide (i < (s.size : Int)) = true›
       exact ⟨s.size - (i + 1).toNat, by omega, i + 1, congrArg (fun z : Int => ((([.val false [.s s], .val false [.i .i64 z]], [])) : Snap)) (wrap_next h1 hi la), by omega, by omega, rfl⟩)
noncomputable def g77 : List SV → Bool := any77.choose
noncomputable def sp77 : FSpec := { pre := fun args => ∃ s : ByteArray, args = [.val false [.s s]], res := fun args => .val false [.b (g77 args)] }
theorem ok77 : FOk Tryz.prog T 77 sp77 := any77.choose_spec.1
/-- spec.l2Shape -/
theorem any130 : ∃ g : List SV → Bool, FOk Tryz.prog T 130 { pre := fun args => ∃ s : ByteArray, args = [.val false [.s s]], res := fun args => .val false [.b (g args)] } ∧ ∀ args, (fun args => ∃ s : ByteArray, args = [.val false [.s s]]) args → (∀ a ∈ args, WfSV T a) → (fun _ _ => True) args (g args) := by
  refine fokA (fun _ x => .val false [.b x]) (post := fun _ _ => True) (env := envL []) (N := 45) tabT envL_nil mixed Tryz.func130 rfl Tryz.call130 Tryz.ntmps130 ?_
  rintro args ⟨s, rfl⟩ hwf
  have la : s.size ≤ maxLen := arg0 hwf (List.mem_singleton_self _)
  refine ⟨by simp, ?_⟩
  rw [Tryz.results130]
  repeat' first
    | (refine And.intro ?_ ?_)
    | (intro h; cases h)
    | (intro h; rw [h])
    | (intro h)
  all_goals first
    | (show lowEdges _ = true; kernel_rfl) | (show logOk _ _ = true; kernel_rfl) | exact True.intro | exact rfl | exact Or.inr rfl | exact Or.inl rfl
    | exact ⟨_, trivial, rfl, trivial⟩
    | exact ⟨_, rfl⟩
    | exact ⟨_, _, rfl⟩
    | exact ⟨_, _, _, rfl⟩
    | skip
  refine awp_loop (Q := _) [0, 3] [] (fun n q => ∃ i : Int, q = ([.val false [.s s], .val false [.i .i64 i]], []) ∧ 0 ≤ i ∧ i ≤ s.size ∧ n = s.size - i.toNat) ?_ ?_
  · exact ⟨rfl, s.size - 0, 0, rfl, by omega, by omega, rfl⟩
  rintro n q ⟨i, rfl, h1, h2, h3⟩
  repeat' first
    | (refine And.intro ?_ ?_)
    | (intro h; cases h)
    | (intro h; rw [h])
    | (intro h)
  all_goals first
    | (show lowEdges _ = true; kernel_rfl) | (show logOk _ _ = true; kernel_rfl) | exact True.intro | exact rfl | exact Or.inr rfl | exact Or.inl rfl
    | exact ⟨_, trivial, rfl, trivial⟩
    | exact ⟨_, rfl⟩
    | exact ⟨_, _, rfl⟩
    | exact ⟨_, _, _, rfl⟩
    | omega
    | exact of_decide_eq_true ‹_›
    | (have hi : i < (s.size : Int) := of_decide_eq_true ‹decide (i < (s.size : Int)) = true›
       exact ⟨s.size - (i + 1).toNat, by omega, i + 1, congrArg (fun z : Int => ((([.val false [.s s], .val false [.i .i64 z]], [])) : Snap)) (wrap_next h1 hi la), by omega, by omega, rfl⟩)
noncomputable def g130 : List SV → Bool := any130.choose
noncomputable def sp130 : FSpec := { pre := fun args => ∃ s : ByteArray, args = [.val false [.s s]], res := fun args => .val false [.b (g130 args)] }
theorem ok130 : FOk Tryz.prog T 130 sp130 := any130.choose_spec.1
/-- spec.l1Has -/
theorem any132 : ∃ g : List SV → Bool, FOk Tryz.prog T 132 { pre := fun args => ∃ (a : List (List D)) (s : ByteArray), args = [argS 9 a, .val false [.s s]], res := fun args => .val false [.b (g args)] } ∧ ∀ args, (fun args => ∃ (a : List (List D)) (s : ByteArray), args = [argS 9 a, .val false [.s s]]) args → (∀ a ∈ args, WfSV T a) → (fun _ _ => True) args (g args) := by
  refine fokA (fun _ x => .val false [.b x]) (post := fun _ _ => True) (env := envL []) (N := 18) tabT envL_nil mixed Tryz.func132 rfl Tryz.call132 Tryz.ntmps132 ?_
  rintro args ⟨a, s, rfl⟩ hwf
  have wa : WfD T (.l 9) (.l a) := arg0 hwf (List.mem_singleton_self _)
  have la := wa.len
  refine ⟨by simp, ?_⟩
  rw [Tryz.results132]
  repeat' first
    | (refine And.intro ?_ ?_)
    | (intro h; cases h)
    | (intro h; rw [h])
    | (intro h)
  all_goals first
    | (show lowEdges _ = true; kernel_rfl) | (show logOk _ _ = true; kernel_rfl) | exact True.intro | exact rfl | exact Or.inr rfl | exact Or.inl rfl
    | exact ⟨_, trivial, rfl, trivial⟩
    | exact ⟨_, rfl⟩
    | exact ⟨_, _, rfl⟩
    | exact ⟨_, _, _, rfl⟩
    | skip
  refine awp_loop (Q := _) [0, 1, 5] [] (fun n q => ∃ i : Int, q = ([argS 9 a, .val false [.s s], .val false [.i .i64 i]], []) ∧ 0 ≤ i ∧ i ≤ a.length ∧ n = a.length - i.toNat) ?_ ?_
  · exact ⟨rfl, a.length - 0, 0, rfl, by omega, by omega, rfl⟩
  rintro n q ⟨i, rfl, h1, h2, h3⟩
  repeat' first
    | (refine And.intro ?_ ?_)
    | (intro h; cases h)
    | (intro h; rw [h])
    | (intro h)
  all_goals first
    | (show lowEdges _ = true; kernel_rfl) | (show logOk _ _ = true; kernel_rfl) | exact True.intro | exact rfl | exact Or.inr rfl | exact Or.inl rfl
    | exact ⟨_, trivial, rfl, trivial⟩
    | exact ⟨_, rfl⟩
    | exact ⟨_, _, rfl⟩
    | exact ⟨_, _, _, rfl⟩
    | omega
    | exact of_decide_eq_true ‹_›
    | (have hi : i < (a.length : Int) := of_decide_eq_true ‹decide (i < (a.length : Int)) = true›
       exact ⟨a.length - (i + 1).toNat, by omega, i + 1, congrArg (fun z : Int => ((([argS 9 a, .val false [.s s], .val false [.i .i64 z]], [])) : Snap)) (wrap_next h1 hi la), by omega, by omega, rfl⟩)
noncomputable def g132 : List SV → Bool := any132.choose
noncomputable def sp132 : FSpec := { pre := fun args => ∃ (a : List (List D)) (s : ByteArray), args = [argS 9 a, .val false [.s s]], res := fun args => .val false [.b (g132 args)] }
theorem ok132 : FOk Tryz.prog T 132 sp132 := any132.choose_spec.1
/-- spec.l2Reserved -/
theorem any141 : ∃ h : List SV → List (List D), FOk Tryz.prog T 141 { pre := fun args => args = [], res := fun args => argS 9 (h args) } ∧ ∀ args, args = [] → (∀ a ∈ args, WfSV T a) → True := by
  refine fokA (fun _ x => argS 9 x) (post := fun _ _ => True) (env := envL []) (N := 2) tabT envL_nil mixed Tryz.func141 rfl Tryz.call141 Tryz.ntmps141 ?_
  rintro args rfl hwf
  refine ⟨by simp, ?_⟩
  rw [Tryz.results141]
  repeat' first
    | (refine And.intro ?_ ?_)
    | (intro h; cases h)
    | (intro h; rw [h])
    | (intro h)
  all_goals first
    | (show lowEdges _ = true; kernel_rfl) | (show logOk _ _ = true; kernel_rfl) | exact True.intro | exact rfl | exact Or.inr rfl | exact Or.inl rfl
    | omega
    | decide
    | exact ⟨_, trivial, rfl, trivial⟩
noncomputable def g141 : List SV → List (List D) := any141.choose
noncomputable def sp141 : FSpec := { pre := fun args => args = [], res := fun args => argS 9 (g141 args) }
theorem ok141 : FOk Tryz.prog T 141 sp141 := any141.choose_spec.1
/-- spec.IsReserved -/
theorem any131 : ∃ g : List SV → Bool, FOk Tryz.prog T 131 { pre := fun args => ∃ s : ByteArray, args = [.val false [.s s]], res := fun args => .val false [.b (g args)] } ∧ ∀ args, (fun args => ∃ s : ByteArray, args = [.val false [.s s]]) args → (∀ a ∈ args, WfSV T a) → (fun _ _ => True) args (g args) := by
  refine fokA (fun _ x => .val false [.b x]) (post := fun _ _ => True) (env := envL [(141, sp141), (132, sp132)]) (N := 6) tabT (envL_cons ok141 (envL_cons ok132 envL_nil)) mixed Tryz.func131 rfl Tryz.call131 Tryz.ntmps131 ?_
  rintro args ⟨s, rfl⟩ hwf
  have la : s.size ≤ maxLen := arg0 hwf (List.mem_singleton_self _)
  refine ⟨by simp, ?_⟩
  rw [Tryz.results131]
  repeat' first
    | (refine And.intro ?_ ?_)
    | (intro h; cases h)
    | (intro h; rw [h])
    | (intro h)
  all_goals first
    | (show lowEdges _ = true; kernel_rfl) | (show logOk _ _ = true; kernel_rfl) | exact True.intro | exact rfl | exact Or.inr rfl | exact Or.inl rfl
    | rfl
    | exact ⟨_, trivial, rfl, trivial⟩
    | exact ⟨_, rfl⟩
    | exact ⟨_, _, rfl⟩
    | exact ⟨_, _, _, rfl⟩
noncomputable def g131 : List SV → Bool := any131.choose
noncomputable def sp131 : FSpec := { pre := fun args => ∃ s : ByteArray, args = [.val false [.s s]], res := fun args => .val false [.b (g131 args)] }
theorem ok131 : FOk Tryz.prog T 131 sp131 := any131.choose_spec.1
/-- spec.IsValidName -/
theorem any115 : ∃ g : List SV → Bool, FOk Tryz.prog T 115 { pre := fun args => ∃ s : ByteArray, args = [.val false [.s s]], res := fun args => .val false [.b (g args)] } ∧ ∀ args, (fun args => ∃ s : ByteArray, args = [.val false [.s s]]) args → (∀ a ∈ args, WfSV T a) → (fun _ _ => True) args (g args) := by
  refine fokA (fun _ x => .val false [.b x]) (post := fun _ _ => True) (env := envL [(130, sp130), (131, sp131)]) (N := 15) tabT (envL_cons ok130 (envL_cons ok131 envL_nil)) mixed Tryz.func115 rfl Tryz.call115 Tryz.ntmps115 ?_
  rintro args ⟨s, rfl⟩ hwf
  have la : s.size ≤ maxLen := arg0 hwf (List.mem_singleton_self _)
  refine ⟨by simp, ?_⟩
  rw [Tryz.results115]
  repeat' first
    | (refine And.intro ?_ ?_)
    | (intro h; cases h)
    | (intro h; rw [h])
    | (intro h)
  all_goals first
    | (show lowEdges _ = true; kernel_rfl) | (show logOk _ _ = true; kernel_rfl) | exact True.intro | exact rfl | exact Or.inr rfl | exact Or.inl rfl
    | exact ⟨_, trivial, rfl, trivial⟩
    | exact ⟨_, rfl⟩
    | exact ⟨_, _, rfl⟩
    | exact ⟨_, _, _, rfl⟩
noncomputable def g115 : List SV → Bool := any115.choose
noncomputable def sp115 : FSpec := { pre := fun args => ∃ s : ByteArray, args = [.val false [.s s]], res := fun args => .val false [.b (g115 args)] }
theorem ok115 : FOk Tryz.prog T 115 sp115 := any115.choose_spec.1
/-- spec.AllDistinct -/
theorem any116 : ∃ g : List SV → Bool, FOk Tryz.prog T 116 { pre := fun args => ∃ a : List (List D), args = [argS 9 a], res := fun args => .val false [.b (g args)] } ∧ ∀ args, (fun args => ∃ a : List (List D), args = [argS 9 a]) args → (∀ a ∈ args, WfSV T a) → (fun _ _ => True) args (g args) := by
  refine fokA (fun _ x => .val false [.b x]) (post := fun _ _ => True) (env := envL [(132, sp132)]) (N := 18) tabT (envL_cons ok132 envL_nil) mixed Tryz.func116 rfl Tryz.call116 Tryz.ntmps116 ?_
  rintro args ⟨a, rfl⟩ hwf
  have wa : WfD T (.l 9) (.l a) := arg0 hwf (List.mem_singleton_self _)
  have la := wa.len
  refine ⟨by simp, ?_⟩
  rw [Tryz.results116]
  repeat' first
    | (refine And.intro ?_ ?_)
    | (intro h; cases h)
    | (intro h; rw [h])
    | (intro h)
  all_goals first
    | (show lowEdges _ = true; kernel_rfl) | (show logOk _ _ = true; kernel_rfl) | exact True.intro | exact rfl | exact Or.inr rfl | exact Or.inl rfl
    | exact ⟨_, trivial, rfl, trivial⟩
    | exact ⟨_, rfl⟩
    | exact ⟨_, _, rfl⟩
    | exact ⟨_, _, _, rfl⟩
    | skip
  refine awp_loop (Q := _) [0, 3] [] (fun n q => ∃ i : Int, q = ([argS 9 a, .val false [.i .i64 i]], []) ∧ 0 ≤ i ∧ i ≤ a.length ∧ n = a.length - i.toNat) ?_ ?_
  · exact ⟨rfl, a.length - 0, 0, rfl, by omega, by omega, rfl⟩
  rintro n q ⟨i, rfl, h1, h2, h3⟩
  repeat' first
    | (refine And.intro ?_ ?_)
    | (intro h; cases h)
    | (intro h; rw [h])
    | (intro h)
  all_goals first
    | (show lowEdges _ = true; kernel_rfl) | (show logOk _ _ = true; kernel_rfl) | exact True.intro | exact rfl | exact Or.inr rfl | exact Or.inl rfl
    | exact ⟨_, trivial, rfl, trivial⟩
    | exact ⟨_, rfl⟩
    | exact ⟨_, _, rfl⟩
    | exact ⟨_, _, _, rfl⟩
    | omega
    | exact of_decide_eq_true ‹_›
    | (have hi : i < (a.length : Int) := of_decide_eq_true ‹decide (i < (a.length : Int)) = true›
       exact ⟨a.length - (i + 1).toNat, by omega, i + 1, congrArg (fun z : Int => ((([argS 9 a, .val false [.i .i64 z]], [])) : Snap)) (wrap_next h1 hi la), by omega, by omega, rfl⟩)
noncomputable def g116 : List SV → Bool := any116.choose
noncomputable def sp116 : FSpec := { pre := fun args => ∃ a : List (List D), args = [argS 9 a], res := fun args => .val false [.b (g116 args)] }
theorem ok116 : FOk Tryz.prog T 116 sp116 := any116.choose_spec.1
/-- spec.l3Columns -/
theorem any97 : ∃ g : List SV → Bool, FOk Tryz.prog T 97 { pre := fun args => ∃ a : List (List D), args = [argS 9 a], res := fun args => .val false [.b (g args)] } ∧ ∀ args, (fun args => ∃ a : List (List D), args = [argS 9 a]) args → (∀ a ∈ args, WfSV T a) → (fun _ _ => True) args (g args) := by
  refine fokA (fun _ x => .val false [.b x]) (post := fun _ _ => True) (env := envL [(115, sp115), (75, spIn), (116, sp116)]) (N := 23) tabT (envL_cons ok115 (envL_cons ok75 (envL_cons ok116 envL_nil))) mixed Tryz.func97 rfl Tryz.call97 Tryz.ntmps97 ?_
  rintro args ⟨a, rfl⟩ hwf
  have wa : WfD T (.l 9) (.l a) := arg0 hwf (List.mem_singleton_self _)
  have la := wa.len
  refine ⟨by simp, ?_⟩
  rw [Tryz.results97]
  repeat' first
    | (refine And.intro ?_ ?_)
    | (intro h; cases h)
    | (intro h; rw [h])
    | (intro h)
  all_goals first
    | (show lowEdges _ = true; kernel_rfl) | (show logOk _ _ = true; kernel_rfl) | exact True.intro | exact rfl | exact Or.inr rfl | exact Or.inl rfl
    | exact ⟨_, trivial, rfl, trivial⟩
    | exact ⟨_, rfl⟩
    | exact ⟨_, _, rfl⟩
    | exact ⟨_, _, _, rfl⟩
    | skip
  refine awp_loop (Q := _) [0, 3] [] (fun n q => ∃ i : Int, q = ([argS 9 a, .val false [.i .i64 i]], []) ∧ 0 ≤ i ∧ i ≤ a.length ∧ n = a.length - i.toNat) ?_ ?_
  · exact ⟨rfl, a.length - 0, 0, rfl, by omega, by omega, rfl⟩
  rintro n q ⟨i, rfl, h1, h2, h3⟩
  repeat' first
    | (refine And.intro ?_ ?_)
    | (intro h; cases h)
    | (intro h; rw [h])
    | (intro h)
  all_goals first
    | (show lowEdges _ = true; kernel_rfl) | (show logOk _ _ = true; kernel_rfl) | exact True.intro | exact rfl | exact Or.inr rfl | exact Or.inl rfl
    | exact ⟨_, trivial, rfl, trivial⟩
    | exact ⟨_, rfl⟩
    | exact ⟨_, _, rfl⟩
    | exact ⟨_, _, _, rfl⟩
    | omega
    | exact of_decide_eq_true ‹_›
    | (have hi : i < (a.length : Int) := of_decide_eq_true ‹decide (i < (a.length : Int)) = true›
       exact ⟨a.length - (i + 1).toNat, by omega, i + 1, congrArg (fun z : Int => ((([argS 9 a, .val false [.i .i64 z]], [])) : Snap)) (wrap_next h1 hi la), by omega, by omega, rfl⟩)
noncomputable def g97 : List SV → Bool := any97.choose
noncomputable def sp97 : FSpec := { pre := fun args => ∃ a : List (List D), args = [argS 9 a], res := fun args => .val false [.b (g97 args)] }
theorem ok97 : FOk Tryz.prog T 97 sp97 := any97.choose_spec.1
/-- spec.l3Before -/
theorem any117 : ∃ g : List SV → Bool, FOk Tryz.prog T 117 { pre := fun args => ∃ a b : List D, WfRow T [.i .i64, .i .i64] a ∧ WfRow T [.i .i64, .i .i64] b ∧ args = [argG [.i .i64, .i .i64] a, argG [.i .i64, .i .i64] b], res := fun args => .val false [.b (g args)] } ∧ ∀ args, (fun args => ∃ a b : List D, WfRow T [.i .i64, .i .i64] a ∧ WfRow T [.i .i64, .i .i64] b ∧ args = [argG [.i .i64, .i .i64] a, argG [.i .i64, .i .i64] b]) args → (∀ a ∈ args, WfSV T a) → (fun _ _ => True) args (g args) := by
  refine fokA (fun _ x => .val false [.b x]) (post := fun _ _ => True) (env := envL []) (N := 24) tabT envL_nil mixed Tryz.func117 rfl Tryz.call117 Tryz.ntmps117 ?_
  rintro args ⟨a, b, wa, wb, rfl⟩ hwf
  refine ⟨by simp, ?_⟩
  rw [Tryz.results117]
  repeat' first
    | (refine And.intro ?_ ?_)
    | (intro h; cases h)
    | (intro h; rw [h])
    | (intro h)
  all_goals first
    | (show lowEdges _ = true; kernel_rfl) | (show logOk _ _ = true; kernel_rfl) | exact True.intro | exact rfl | exact Or.inr rfl | exact Or.inl rfl
    | exact ⟨_, trivial, rfl, trivial⟩
    | exact ⟨_, rfl⟩
    | exact ⟨_, _, rfl⟩
    | exact ⟨_, _, _, rfl⟩
    | exact ⟨_, _, wa, wb, rfl⟩
noncomputable def g117 : List SV → Bool := any117.choose
noncomputable def sp117 : FSpec := { pre := fun args => ∃ a b : List D, WfRow T [.i .i64, .i .i64] a ∧ WfRow T [.i .i64, .i .i64] b ∧ args = [argG [.i .i64, .i .i64] a, argG [.i .i64, .i .i64] b], res := fun args => .val false [.b (g117 args)] }
theorem ok117 : FOk Tryz.prog T 117 sp117 := any117.choose_spec.1
/-- spec.l3Ascending -/
theorem any98 : ∃ g : List SV → Bool, FOk Tryz.prog T 98 { pre := fun args => ∃ a : List (List D), args = [argS 125 a], res := fun args => .val false [.b (g args)] } ∧ ∀ args, (fun args => ∃ a : List (List D), args = [argS 125 a]) args → (∀ a ∈ args, WfSV T a) → (fun _ _ => True) args (g args) := by
  refine fokA (fun _ x => .val false [.b x]) (post := fun _ _ => True) (env := envL [(117, sp117)]) (N := 41) tabT (envL_cons ok117 envL_nil) mixed Tryz.func98 rfl Tryz.call98 Tryz.ntmps98 ?_
  rintro args ⟨a, rfl⟩ hwf
  have wa : WfD T (.l 125) (.l a) := arg0 hwf (List.mem_singleton_self _)
  have la := wa.len
  refine ⟨by simp, ?_⟩
  rw [Tryz.results98]
  repeat' first
    | (refine And.intro ?_ ?_)
    | (intro h; cases h)
    | (intro h; rw [h])
    | (intro h)
  all_goals first
    | (show lowEdges _ = true; kernel_rfl) | (show logOk _ _ = true; kernel_rfl) | exact True.intro | exact rfl | exact Or.inr rfl | exact Or.inl rfl
    | exact ⟨_, trivial, rfl, trivial⟩
    | exact ⟨_, rfl⟩
    | exact ⟨_, _, rfl⟩
    | exact ⟨_, _, _, rfl⟩
    | skip
  refine awp_loop (Q := _) [0, 3] [] (fun n q => ∃ i : Int, q = ([argS 125 a, .val false [.i .i64 i]], []) ∧ 0 ≤ i ∧ i ≤ a.length ∧ n = a.length - i.toNat) ?_ ?_
  · exact ⟨rfl, a.length - 0, 0, rfl, by omega, by omega, rfl⟩
  rintro n q ⟨i, rfl, h1, h2, h3⟩
  repeat' first
    | (refine And.intro ?_ ?_)
    | (intro h; cases h)
    | (intro h; rw [h])
    | (intro h)
  all_goals first
    | (show lowEdges _ = true; kernel_rfl) | (show logOk _ _ = true; kernel_rfl) | exact True.intro | exact rfl | exact Or.inr rfl | exact Or.inl rfl
    | exact ⟨_, trivial, rfl, trivial⟩
    | exact ⟨_, rfl⟩
    | exact ⟨_, _, rfl⟩
    | exact ⟨_, _, _, rfl⟩
    | omega
    | exact of_decide_eq_true ‹_›
    | (have hi : i < (a.length : Int) := of_decide_eq_true ‹decide (i < (a.length : Int)) = true›
       exact ⟨a.length - (i + 1).toNat, by omega, i + 1, congrArg (fun z : Int => ((([argS 125 a, .val false [.i .i64 z]], [])) : Snap)) (wrap_next h1 hi la), by omega, by omega, rfl⟩)
    | (have hi : i < (a.length : Int) := of_decide_eq_true ‹decide (i < (a.length : Int)) = true›
       have h0 : i > 0 := of_decide_eq_true ‹decide (i > 0) = true›
       have hw : IntKind.i64.wrap (i - 1) = i - 1 := by rw [IntKind.wrap_i64]; simp only [maxLen] at la; omega
       have wr : WfRow T [.i .i64, .i .i64] (a.getD i.toNat []) := wa.row rfl (by omega)
       have wq : WfRow T [.i .i64, .i .i64] (a.getD (IntKind.i64.wrap (i - 1)).toNat []) := wa.row rfl (by rw [hw]; omega)
       first
         | (rw [hw]; omega)
         | exact ⟨_, _, wq, wr, rfl⟩)
noncomputable def g98 : List SV → Bool := any98.choose
noncomputable def sp98 : FSpec := { pre := fun args => ∃ a : List (List D), args = [argS 125 a], res := fun args => .val false [.b (g98 args)] }
theorem ok98 : FOk Tryz.prog T 98 sp98 := any98.choose_spec.1
end Go.Proofs.YtdmipmbeolglaaaGreatDoor.Ab
