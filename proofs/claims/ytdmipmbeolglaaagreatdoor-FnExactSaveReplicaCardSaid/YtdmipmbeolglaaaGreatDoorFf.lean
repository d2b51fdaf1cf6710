/- Values of a number's and of an error's kind, written: printed by a program of this claim. -/
import Derived.Test.YtdmipmbeolglaaaGreatDoorFe
namespace Go.Proofs.YtdmipmbeolglaaaGreatDoor.Ab
open Go.RowKit
set_option linter.unusedVariables false
set_option linter.unusedSimpArgs false
set_option maxRecDepth 100000
set_option maxHeartbeats 1000000
/-- spec.l4Errors -/
theorem ok99 : FOk Tryz.prog T 99 spErrs := by
  refine fok (env := envL []) (N := 2) tabT envL_nil mixed Tryz.func99 rfl Tryz.call99 Tryz.ntmps99 ?_
  rintro args rfl hwf
  refine ⟨by simp, ?_⟩
  rw [Tryz.results99]
  repeat' first
    | (refine And.intro ?_ ?_)
    | (intro h; cases h)
    | (intro h; rw [h])
    | (intro h)
  all_goals first
    | (show lowEdges _ = true; kernel_rfl) | (show logOk _ _ = true; kernel_rfl) | exact True.intro | exact rfl | exact Or.inr rfl | exact Or.inl rfl
    | omega
    | decide
    | rfl
/-- spec.ErrorName -/
theorem ok82 : FOk Tryz.prog T 82 spErr := by
  refine fok (env := envL [(75, spIn), (99, spErrs)]) (N := 10) tabT (envL_cons ok75 (envL_cons ok99 envL_nil)) mixed Tryz.func82 rfl Tryz.call82 Tryz.ntmps82 ?_
  rintro args ⟨x, h0, h1, rfl⟩ hwf
  refine ⟨by simp, ?_⟩
  rw [Tryz.results82]
  repeat' first
    | (refine And.intro ?_ ?_)
    | (intro h; cases h)
    | (intro h; rw [h])
    | (intro h)
  all_goals first
    | (show lowEdges _ = true; kernel_rfl) | (show logOk _ _ = true; kernel_rfl) | exact True.intro | exact rfl | exact Or.inr rfl | exact Or.inl rfl
    | exact rfl
    | exact ⟨_, _, _, rfl⟩
    | (exfalso; simp_all [inR]; done)
    | (exfalso; simp_all [inR]; omega)
    | exact resS (errs_at h0 h1)
    | omega
    | (show x < 9; omega)
    | (show (x.toNat : Nat) < 9; omega)
/-- impl.ErrorName -/
theorem ok69 : FOk Tryz.prog T 69 spErr := by
  refine fok (env := envL [(63, spIn)]) (N := 11) tabT (envL_cons ok63 envL_nil) mixed Tryz.func69 rfl Tryz.call69 Tryz.ntmps69 ?_
  rintro args ⟨x, h0, h1, rfl⟩ hwf
  refine ⟨by simp, ?_⟩
  rw [Tryz.results69]
  repeat' first
    | (refine And.intro ?_ ?_)
    | (intro h; cases h)
    | (intro h; rw [h])
    | (intro h)
  all_goals first
    | (show lowEdges _ = true; kernel_rfl) | (show logOk _ _ = true; kernel_rfl) | exact True.intro | exact rfl | exact Or.inr rfl | exact Or.inl rfl
    | exact ⟨_, _, _, rfl⟩
    | (exfalso; simp_all [inR]; done)
    | (exfalso; simp_all [inR]; omega)
    | exact resS (errs_at' h0 h1)
    | (rw [IntKind.wrap_i64]; omega)
    | (show IntKind.i64.wrap (x - 1) < 8; rw [IntKind.wrap_i64]; omega)
    | (show (IntKind.i64.wrap (x - 1)).toNat < 8; rw [IntKind.wrap_i64]; omega)
theorem okF66 : FOk Tryz.prog T 66 { pre := fun _ => False, res := fun _ => .none } := by
  refine fok (env := envL []) (N := 29) tabT envL_nil mixed Tryz.func66 rfl Tryz.call66 Tryz.ntmps66 ?_
  exact fun args h => h.elim
theorem okF67 : FOk Tryz.prog T 67 { pre := fun _ => False, res := fun _ => .none } := by
  refine fok (env := envL []) (N := 77) tabT envL_nil mixed Tryz.func67 rfl Tryz.call67 Tryz.ntmps67 ?_
  exact fun args h => h.elim
theorem okF39 : FOk Tryz.prog T 39 { pre := fun _ => False, res := fun _ => .none } := by
  refine fok (env := envL []) (N := 185) tabT envL_nil mixed Tryz.func39 rfl Tryz.call39 Tryz.ntmps39 ?_
  exact fun args h => h.elim
theorem okF68 : FOk Tryz.prog T 68 { pre := fun _ => False, res := fun _ => .none } := by
  refine fok (env := envL []) (N := 20) tabT envL_nil mixed Tryz.func68 rfl Tryz.call68 Tryz.ntmps68 ?_
  exact fun args h => h.elim
noncomputable def sp39 : FSpec := { pre := fun args => ∃ a : List D, WfRow T [.i .i64, .i .i64, .i .i64, .s, .l 72, .l 9, .l 112] a ∧ (a.getD 5 default).rows.length + (a.getD 6 default).rows.length ≤ 4611686018427387904 ∧ ((a.getD 0 default).int = 1 ∨ (a.getD 0 default).int = 6) ∧ args = [argG [.i .i64, .i .i64, .i .i64, .s, .l 72, .l 9, .l 112] a], res := fun args => .val false [.b (svOk args)] }
theorem ok39 : FOk Tryz.prog T 39 sp39 := by
  refine fok (env := envL [(64, spNum), (66, { pre := fun _ => False, res := fun _ => .none }), (63, spIn), (67, { pre := fun _ => False, res := fun _ => .none }), (39, { pre := fun _ => False, res := fun _ => .none }), (68, { pre := fun _ => False, res := fun _ => .none })]) (N := 185) tabT (envL_cons ok64 (envL_cons okF66 (envL_cons ok63 (envL_cons okF67 (envL_cons okF39 (envL_cons okF68 envL_nil)))))) mixed Tryz.func39 rfl Tryz.call39 Tryz.ntmps39 ?_
  rintro args ⟨a, wa, hl, hk, rfl⟩ hwf
  refine ⟨by simp, ?_⟩
  rw [Tryz.results39]
  clear hwf
  obtain ⟨d0, r0, rfl, w0, wa⟩ := wa.cons'
  obtain ⟨d1, r1, rfl, w1, wa⟩ := wa.cons'
  obtain ⟨d2, r2, rfl, w2, wa⟩ := wa.cons'
  obtain ⟨d3, r3, rfl, w3, wa⟩ := wa.cons'
  obtain ⟨d4, r4, rfl, w4, wa⟩ := wa.cons'
  obtain ⟨d5, r5, rfl, w5, wa⟩ := wa.cons'
  obtain ⟨d6, r6, rfl, w6, wa⟩ := wa.cons'
  obtain rfl := wa.nil'
  obtain ⟨n0, rfl, _⟩ := w0.int'
  obtain ⟨n1, rfl, _⟩ := w1.int'
  obtain ⟨n2, rfl, _⟩ := w2.int'
  obtain ⟨s3, rfl, _⟩ := w3.str'
  obtain ⟨l4, rfl, _⟩ := w4.sl'
  obtain ⟨l5, rfl, _⟩ := w5.sl'
  obtain ⟨l6, rfl, _⟩ := w6.sl'
  clear w0 w1 w2 w3 w4 w5 w6
  have hl : l5.length + l6.length ≤ 4611686018427387904 := hl
  have hk : n0 = 1 ∨ n0 = 6 := hk
  rcases hk with rfl | rfl
  all_goals
    repeat' first
      | (refine And.intro ?_ ?_)
      | (intro h; cases h)
      | (intro h; rw [h])
      | (intro h)
  all_goals first
    | (show lowEdges _ = true; kernel_rfl) | (show logOk _ _ = true; kernel_rfl) | exact True.intro | exact rfl | exact Or.inr rfl | exact Or.inl rfl
    | exact ⟨_, rfl⟩
    | exact ⟨_, _, _, rfl⟩
    | (refine resB ?_; show _ = okVal [_, _, _, _, _, _, _]; simp_all [okVal, inR, CV.d, ofD, IntKind.wrap_i64, List.getD_cons_succ, List.getD_cons_zero, D.int, D.rows, D.str]; done)
    | (refine resB ?_; show _ = okVal [_, _, _, _, _, _, _]; simp_all [okVal, inR, CV.d, ofD, IntKind.wrap_i64, List.getD_cons_succ, List.getD_cons_zero, D.int, D.rows, D.str]; simp only [← List.length_eq_zero_iff] at *; intros; omega)
theorem okF81 : FOk Tryz.prog T 81 { pre := fun _ => False, res := fun _ => .none } := by
  refine fok (env := envL []) (N := 48) tabT envL_nil mixed Tryz.func81 rfl Tryz.call81 Tryz.ntmps81 ?_
  exact fun args h => h.elim
theorem okF60 : FOk Tryz.prog T 60 { pre := fun _ => False, res := fun _ => .none } := by
  refine fok (env := envL []) (N := 69) tabT envL_nil mixed Tryz.func60 rfl Tryz.call60 Tryz.ntmps60 ?_
  exact fun args h => h.elim
/-- spec.l4Text -/
theorem ok60 : FOk Tryz.prog T 60 (spText T [.i .i64, .i .i64, .i .i64, .s, .l 72, .l 9, .l 112]) := by
  refine fok (env := envL [(29, spItoa), (32, spJoin), (81, { pre := fun _ => False, res := fun _ => .none }), (82, spErr), (60, { pre := fun _ => False, res := fun _ => .none })]) (N := 69) tabT (envL_cons ok29 (envL_cons ok32 (envL_cons okF81 (envL_cons ok82 (envL_cons okF60 envL_nil))))) mixed Tryz.func60 rfl Tryz.call60 Tryz.ntmps60 ?_
  rintro args ⟨a, wa, hg, rfl⟩ hwf
  refine ⟨by simp, ?_⟩
  rw [Tryz.results60]
  clear hwf
  have hgk := hg.2.1
  obtain ⟨d0, r0, rfl, w0, wa⟩ := wa.cons'
  obtain ⟨d1, r1, rfl, w1, wa⟩ := wa.cons'
  obtain ⟨d2, r2, rfl, w2, wa⟩ := wa.cons'
  obtain ⟨d3, r3, rfl, w3, wa⟩ := wa.cons'
  obtain ⟨d4, r4, rfl, w4, wa⟩ := wa.cons'
  obtain ⟨d5, r5, rfl, w5, wa⟩ := wa.cons'
  obtain ⟨d6, r6, rfl, w6, wa⟩ := wa.cons'
  obtain rfl := wa.nil'
  obtain ⟨n0, rfl, _⟩ := w0.int'
  obtain ⟨n1, rfl, _⟩ := w1.int'
  obtain ⟨n2, rfl, _⟩ := w2.int'
  obtain ⟨s3, rfl, _⟩ := w3.str'
  obtain ⟨l4, rfl, _⟩ := w4.sl'
  obtain ⟨l5, rfl, _⟩ := w5.sl'
  obtain ⟨l6, rfl, _⟩ := w6.sl'
  clear w0 w1 w2 w3 w4 w5 w6
  have hk : n0 = 1 ∨ n0 = 6 := hgk
  rcases hk with rfl | rfl
  · repeat' first
      | (refine And.intro ?_ ?_)
      | (intro h; cases h)
      | (intro h; rw [h])
      | (intro h)
    all_goals first
      | (show lowEdges _ = true; kernel_rfl) | (show logOk _ _ = true; kernel_rfl) | exact True.intro | exact rfl | exact Or.inr rfl | exact Or.inl rfl
      | exact ⟨_, rfl⟩
      | exact resS (fmt_num (a := [.i 1, .i n1, .i n2, .s s3, .l l4, .l l5, .l l6]) rfl).symm
  · obtain ⟨e0, e1⟩ := hg.err rfl
    have hz := errB_size n1
    repeat' first
      | (refine And.intro ?_ ?_)
      | (intro h; cases h)
      | (intro h; rw [h])
      | (intro h)
    all_goals first
      | (show lowEdges _ = true; kernel_rfl) | (show logOk _ _ = true; kernel_rfl) | exact True.intro | exact rfl | exact Or.inr rfl | exact Or.inl rfl
      | exact ⟨_, e0, e1, rfl⟩
      | exact resS (fmt_err (a := [.i 6, .i n1, .i n2, .s s3, .l l4, .l l5, .l l6]) rfl).symm
      | (show 6 + (errB n1).size ≤ maxLen; simp only [maxLen]; omega)
/-- spec.FormatValue -/
theorem ok31 : FOk Tryz.prog T 31 (spText T [.i .i64, .i .i64, .i .i64, .s, .l 72, .l 9, .l 112]) := by
  refine fok (env := envL [(57, sp57), (60, (spText T [.i .i64, .i .i64, .i .i64, .s, .l 72, .l 9, .l 112]))]) (N := 8) tabT (envL_cons ok57 (envL_cons ok60 envL_nil)) mixed Tryz.func31 rfl Tryz.call31 Tryz.ntmps31 ?_
  rintro args ⟨a, wa, hg, rfl⟩ hwf
  have hv : g57 [argG [.i .i64, .i .i64, .i .i64, .s, .l 72, .l 9, .l 112] a] = true := (val57 _ ⟨a, wa, hg.1, hg.2.1, rfl⟩).trans ((congrArg okVal (csD_rowC wa)).trans hg.2.2)
  refine ⟨by simp, ?_⟩
  rw [Tryz.results31]
  clear hwf
  repeat' first
    | (refine And.intro ?_ ?_)
    | (intro h; cases h)
    | (intro h; rw [h])
    | (intro h)
  all_goals first
    | (show lowEdges _ = true; kernel_rfl) | (show logOk _ _ = true; kernel_rfl) | exact True.intro | exact rfl | exact Or.inr rfl | exact Or.inl rfl
    | exact ⟨_, wa, rfl⟩
    | exact ⟨_, wa, hg, rfl⟩
    | rfl
    | exact absurd (show (!(g57 [argG [.i .i64, .i .i64, .i .i64, .s, .l 72, .l 9, .l 112] a])) = true from ‹_›) (by rw [hv]; decide)
theorem okF40 : FOk Tryz.prog T 40 { pre := fun _ => False, res := fun _ => .none } := by
  refine fok (env := envL []) (N := 100) tabT envL_nil mixed Tryz.func40 rfl Tryz.call40 Tryz.ntmps40 ?_
  exact fun args h => h.elim
theorem okF70 : FOk Tryz.prog T 70 { pre := fun _ => False, res := fun _ => .none } := by
  refine fok (env := envL []) (N := 7) tabT envL_nil mixed Tryz.func70 rfl Tryz.call70 Tryz.ntmps70 ?_
  exact fun args h => h.elim
/-- impl.FormatValue -/
theorem ok40 : FOk Tryz.prog T 40 (spText T [.i .i64, .i .i64, .i .i64, .s, .l 72, .l 9, .l 112]) := by
  refine fok (env := envL [(39, sp39), (46, spItoa), (69, spErr), (40, { pre := fun _ => False, res := fun _ => .none }), (70, { pre := fun _ => False, res := fun _ => .none }), (41, spJoin)]) (N := 100) tabT (envL_cons ok39 (envL_cons ok46 (envL_cons ok69 (envL_cons okF40 (envL_cons okF70 (envL_cons ok41 envL_nil)))))) mixed Tryz.func40 rfl Tryz.call40 Tryz.ntmps40 ?_
  rintro args ⟨a, wa, hg, rfl⟩ hwf
  refine ⟨by simp, ?_⟩
  rw [Tryz.results40]
  clear hwf
  have hgk := hg.2.1
  have wr := wa
  obtain ⟨d0, r0, rfl, w0, wa⟩ := wa.cons'
  obtain ⟨d1, r1, rfl, w1, wa⟩ := wa.cons'
  obtain ⟨d2, r2, rfl, w2, wa⟩ := wa.cons'
  obtain ⟨d3, r3, rfl, w3, wa⟩ := wa.cons'
  obtain ⟨d4, r4, rfl, w4, wa⟩ := wa.cons'
  obtain ⟨d5, r5, rfl, w5, wa⟩ := wa.cons'
  obtain ⟨d6, r6, rfl, w6, wa⟩ := wa.cons'
  obtain rfl := wa.nil'
  obtain ⟨n0, rfl, _⟩ := w0.int'
  obtain ⟨n1, rfl, _⟩ := w1.int'
  obtain ⟨n2, rfl, _⟩ := w2.int'
  obtain ⟨s3, rfl, _⟩ := w3.str'
  obtain ⟨l4, rfl, _⟩ := w4.sl'
  obtain ⟨l5, rfl, _⟩ := w5.sl'
  obtain ⟨l6, rfl, _⟩ := w6.sl'
  clear w0 w1 w2 w3 w4 w5 w6
  have hv : svOk [argG [.i .i64, .i .i64, .i .i64, .s, .l 72, .l 9, .l 112] [.i n0, .i n1, .i n2, .s s3, .l l4, .l l5, .l l6]] = true := (congrArg okVal (csD_rowC wr)).trans hg.2.2
  have hk : n0 = 1 ∨ n0 = 6 := hgk
  rcases hk with rfl | rfl
  · repeat' first
      | (refine And.intro ?_ ?_)
      | (intro h; cases h)
      | (intro h; rw [h])
      | (intro h)
    all_goals first
      | (show lowEdges _ = true; kernel_rfl) | (show logOk _ _ = true; kernel_rfl) | exact True.intro | exact rfl | exact Or.inr rfl | exact Or.inl rfl
      | exact ⟨_, wr, hg.1, hg.2.1, rfl⟩
      | exact ⟨_, rfl⟩
      | exact resS (fmt_num (a := [.i 1, .i n1, .i n2, .s s3, .l l4, .l l5, .l l6]) rfl).symm
      | exact absurd (show (!(svOk [argG [.i .i64, .i .i64, .i .i64, .s, .l 72, .l 9, .l 112] [.i 1, .i n1, .i n2, .s s3, .l l4, .l l5, .l l6]])) = true from ‹_›) (by rw [hv]; decide)
  · obtain ⟨e0, e1⟩ := hg.err rfl
    have hz := errB_size n1
    repeat' first
      | (refine And.intro ?_ ?_)
      | (intro h; cases h)
      | (intro h; rw [h])
      | (intro h)
    all_goals first
      | (show lowEdges _ = true; kernel_rfl) | (show logOk _ _ = true; kernel_rfl) | exact True.intro | exact rfl | exact Or.inr rfl | exact Or.inl rfl
      | exact ⟨_, wr, hg.1, hg.2.1, rfl⟩
      | exact ⟨_, e0, e1, rfl⟩
      | exact resS (fmt_err (a := [.i 6, .i n1, .i n2, .s s3, .l l4, .l l5, .l l6]) rfl).symm
      | (show 6 + (errB n1).size ≤ maxLen; simp only [maxLen]; omega)
      | exact absurd (show (!(svOk [argG [.i .i64, .i .i64, .i .i64, .s, .l 72, .l 9, .l 112] [.i 6, .i n1, .i n2, .s s3, .l l4, .l l5, .l l6]])) = true from ‹_›) (by rw [hv]; decide)
end Go.Proofs.YtdmipmbeolglaaaGreatDoor.Ab
