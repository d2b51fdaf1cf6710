/- A slice built of parts that are shared: a new block, shared itself. No program in sight. -/
import Derived.Test.YtidjlboppokloaaK5
namespace Go.Proofs.Ytidjlboppokloaa.Ab
open Go.RowKit
set_option linter.unusedVariables false
variable {P : Program} {T : Tab} {W : Base} {N : Nat}
def stepSliceF (T : Tab) (N : Nat) (o : Oper) (t : TypeId) (len : Nat) (parts : List (Nat × Operand)) : Pg :=
  match elemT T t with
  | some (e, te) => if parts.length = len ∧ len * te.cts.length ≤ 16777216 ∧ 0 < te.cts.length then rowsGo te.cts (fun rows => resSet N o (.val false [.sl false e rows])) parts 0 [] else .fail
  | none => .fail
theorem buildSliceF_ok (hT : TabOk P T) {o : Oper} {t : TypeId} {len : Nat} {parts : Array (Nat × Operand)} (ho : o.op = .buildSlice t len parts) : OpOk P T W N o (stepSliceF T N o t len parts.toList) := by
  intro E Q K Qx h hw hK
  unfold stepSliceF at hw
  split at hw
  case h_2 => exact hw.elim
  rename_i e te ht
  obtain ⟨hu, hte, hTe⟩ := elemT_spec hT ht
  split at hw
  case isFalse => exact hw.elim
  rename_i hlen
  obtain ⟨hpl, hcap, hpos⟩ := hlen
  obtain ⟨z, hz1, hz2, _⟩ := zeroCells_eq hte
  obtain ⟨inf, i1, i2, _⟩ := hte.info
  let us0 : List Value := ((Array.range (len * te.cts.length)).map ((if len * te.cts.length = 0 then #[] else z.cells)[· % (if len * te.cts.length = 0 then #[] else z.cells).size]!)).toList
  have hus0 : us0.length = len * te.cts.length := by simp [us0]
  obtain ⟨E', rows, us', r1, s1, l1, l2, q1, e1, w1⟩ := rowsGo_sound (cts := te.cts) (acc := []) (i := 0) (parts := parts.toList) (us := us0) h rfl ⟨fun k row hk => by simp at hk, fun k j ct d row hk => by simp at hk⟩ (by rw [hus0, Nat.zero_add, hpl]; exact Nat.le_refl _) hw
  have hrl : rows.length = len := by omega
  refine s1.run ?_
  have hx : (execOp E'.a.eval o).run P E'.w = .ok (.value (.slice (some ⟨E'.w.heap.size, 0, none⟩) len len)) (E'.w.alloc (.cells us'.toArray e)) := by
    rw [s1.a, s1.w]
    have hn : ¬ (len * te.cts.length > 2 ^ 24) := by omega
    have e1' : Instr.fill (fun i => some (i * te.cts.length, te.cts.length)) ((Array.range (len * te.cts.length)).map ((if len * te.cts.length = 0 then #[] else z.cells)[· % (if len * te.cts.length = 0 then #[] else z.cells).size]!)) (parts.map fun (i, x) => (i, E.a.eval x)).toList = some us'.toArray := by
      rw [Array.toList_map]
      have : us0.toArray = (Array.range (len * te.cts.length)).map ((if len * te.cts.length = 0 then #[] else z.cells)[· % (if len * te.cts.length = 0 then #[] else z.cells).size]!) := Array.toArray_toList
      rw [← this]; exact e1
    have hrun : (Instr.buildSlice t len (parts.map fun (i, x) => (i, E.a.eval x))).run P E.w = .ok (.slice (some ⟨E.w.heap.size, 0, none⟩) len len) (E.w.alloc (.cells us'.toArray e)) := by
      simp only [Instr.buildSlice, Sem.run_bind, run_underlying hu, Result.andThen_ok, sizeOf, typeInfo]
      simp only [Sem.run, program, i1, i2, Sem.run_pure, Result.andThen_ok, if_neg hn]
      by_cases hz0 : len * te.cts.length = 0
      · simp only [if_pos hz0] at e1' ⊢
        simp only [Sem.run_bind, Sem.run_pure, Result.andThen_ok]
        rw [e1']
        rfl
      · simp only [if_neg hz0] at e1' ⊢
        simp only [Sem.run_bind, hz1, Sem.run_pure, Result.andThen_ok]
        rw [e1']
        rfl
    simp only [execOp, ho, Sem.run_bind, hrun, Result.andThen_ok]
    rfl
  unfold Oper.wp
  rw [hx, Oper.upon_value]
  have hb : Below E'.w.heap.size E'.w (E'.w.alloc (.cells us'.toArray e)) := (Below.refl _ _).alloc (Nat.le_refl _) _
  unfold resSet at w1
  split at w1
  case h_2 => exact w1.elim
  rename_i d hd
  rw [Pg.setF_eq] at w1
  rw [hd]
  refine hK (E'.called N d (.slice (some ⟨E'.w.heap.size, 0, none⟩) len len) (.val false [.sl false e rows]) (E'.w.alloc (.cells us'.toArray e)) fun _ => noB) (r1.called (Pg.lt_wp w1).1 hb (fun j b h => by cases h) (fun j j' b h => by cases h) fun s => ⟨_, rfl, ?_⟩) (Pg.lt_wp w1).2
  show RdR T (E'.w.alloc (.cells us'.toArray e)) (E'.called N d (.slice (some ⟨E'.w.heap.size, 0, none⟩) len len) (.val false [.sl false e rows]) (E'.w.alloc (.cells us'.toArray e)) fun _ => noB).X (.l e) _ (.l rows)
  have hml : len ≤ maxLen := by
    have : len ≤ len * te.cts.length := Nat.le_mul_of_pos_right _ hpos
    simp only [maxLen]; omega
  have hnew : (E'.w.alloc (.cells us'.toArray e)).heap[E'.w.heap.size]? = some (.cells us'.toArray e) := heap_alloc_new _ _
  rw [← hrl] at hml ⊢
  refine .sl e te E'.w.heap.size 0 rows.length rows (fun k j => us'.getD (k * te.cts.length + j) undef) hTe (Nat.le_refl _) hml (fun hx => ?_) (by simp) (fun k j hk hj => ?_) q1.1 (fun k j ct dd row hk hct hdd => ?_)
  · rcases hx with hx | ⟨t, ht, hx⟩ | ⟨l, j, hl⟩
    · have := W.x0lt _ (r1.x0 ▸ hx)
      have := r1.base.size
      omega
    · have hat : E'.alive t := by
        obtain ⟨m, hm⟩ := ht
        refine ⟨m, ?_⟩
        rw [← hm]
        show _ = (upd _ _ _ _).2
        rw [upd_other (by simp)]
      have := (r1.bxlo t hat).2
      have hx' : E'.w.heap.size = E'.β t := hx
      omega
    · simp only [Env.called] at hl
      split at hl
      · cases hl
      · split at hl
        · cases hl
        · have := (r1.owlo _ _ _ hl).2
          omega
  · rw [cell_of_row _ _ _ us'.toArray e _ hnew, Nat.zero_add]
    have hi : k * te.cts.length + j < us'.length := by
      rw [l2, hus0, ← hrl]
      have : (k + 1) * te.cts.length ≤ rows.length * te.cts.length := Nat.mul_le_mul_right _ hk
      rw [Nat.succ_mul] at this
      omega
    simp [List.getD_eq_getElem?_getD, List.getElem?_eq_getElem hi]
  · obtain ⟨u, hu', hr⟩ := q1.2 k j ct dd row hk hct hdd
    rw [List.getD_eq_getElem?_getD, hu']
    exact hr.move s.keep s.less
def shC : CV → Bool
  | .sl false _ _ => true
  | _ => false
def shV : SV → Bool
  | .val _ cs => cs.any shC
  | _ => false
/-- A slice of one part: of its own, or shared if the part leads into what is shared. -/
def stepSlice2 (T : Tab) (N : Nat) (o : Oper) (t : TypeId) (len : Nat) (parts : List (Nat × Operand)) : Pg :=
  match T.dp, parts with
  | true, [(_, x)] => rdv x fun sv => match shV sv with
    | true => stepSliceF T N o t len parts
    | false => stepSlice0 T N o t len parts
  | _, _ => stepSlice0 T N o t len parts
theorem buildSlice2_ok (hT : TabOk P T) {o : Oper} {t : TypeId} {len : Nat} {parts : Array (Nat × Operand)} (ho : o.op = .buildSlice t len parts) : OpOk P T W N o (stepSlice2 T N o t len parts.toList) := by
  intro E Q K Qx h hw hK
  have h1 := buildSlice_ok (W := W) (N := N) hT ho
  have h2 := buildSliceF_ok (W := W) (N := N) hT ho
  generalize parts.toList = ps at *
  unfold stepSlice2 at hw
  split at hw
  · obtain ⟨sv, _, _, h3⟩ := rdv_sound h hw (.slot N)
    split at h3
    · exact h2 E Q K Qx h h3 hK
    · exact h1 E Q K Qx h h3 hK
  · exact h1 E Q K Qx h hw hK
end Go.Proofs.Ytidjlboppokloaa.Ab
