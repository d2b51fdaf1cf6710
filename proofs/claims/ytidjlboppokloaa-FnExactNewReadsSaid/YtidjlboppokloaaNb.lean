/- For the law FnExactNewSession: results, marks behind other calls. No program in sight. -/
import Derived.Test.YtidjlboppokloaaMx
namespace Go.Proofs.Ytidjlboppokloaa.Ab
open Go.RowKit
set_option linter.unusedVariables false
/-- What a call handed back, cell by cell: one structure. -/
theorem DeepRow.of_agg {w : World} {X : Nat → Prop} {bk : Nat → Nat → Prop} {v : Value} {cts : List CT} {row : List D} (h : ResR Td w X bk v (.val true (rowO cts row))) (hw : WfRow T cts row)
    (hlt : ∀ j b, bk j b → b < w.heap.size) (hinj : ∀ j j' b, bk j b → bk j' b → j = j') : ∃ us : List Value, v = .agg us.toArray ∧ DeepRow T w bk cts us row := by
  obtain ⟨us, rfl, hl, hc⟩ := h
  have hl' : us.length = cts.length := by rw [← hl]; simp [rowO]
  have cell : ∀ (i : Nat) ct u d, cts[i]? = some ct → us[i]? = some u → row[i]? = some d → ResC Td w X bk i u (ofO ct d) := fun i ct u d a b c => by
    refine hc i (ofO ct d) u ?_ b
    show (rowO cts row)[i]? = _
    unfold rowO
    rw [List.getElem?_map, List.getElem?_zipIdx, a, Nat.zero_add]
    simp [List.getD_eq_getElem?_getD, c]
  refine ⟨us, rfl, hl', hw.1, fun i b hb => hlt _ b hb, fun i k b h1 h2 => hinj _ _ b h1 h2, fun i ct u d a b c hne => ?_, fun i e u rows a b c => ?_, fun i e d a c => ?_⟩
  · have h1 := cell i ct u d a b c
    have h2 := hw.2 i ct d a c
    cases h2 with
    | int k n hn => obtain ⟨rfl, _⟩ : u = .int k n ∧ inK k n := h1; exact .int k n hn
    | bool x => obtain rfl : u = .bool x := h1; exact .bool x
    | str x hx => obtain ⟨rfl, _⟩ : u = .string x ∧ x.size ≤ maxLen := h1; exact .str x hx
    | nil e => exact absurd rfl (hne e)
    | sl e => exact absurd rfl (hne e)
  · have h1 : OwnF Td w X (bk i) e u rows := cell i _ u _ a b c
    exact DeepV.off (b := true) (OwnF.toDeep h1 rfl)
  · have h2 := hw.2 i _ d a c
    cases h2 with
    | nil e => exact ⟨_, rfl⟩
    | sl e => exact ⟨_, rfl⟩
theorem DeepV.empty {T : Tab} {w : World} {F : Nat → Prop} {e : TypeId} {u : Value} (h : DeepV T w F (.l e) u (.l [])) : ∃ A c, u = .slice A 0 c := h.slice
/-- Marks behind what changes nothing that was. -/
theorem MkEnd.after {T : Tab} {w w1 w2 : World} {F : Nat → Prop} {e : TypeId} {v : Value} {rows : List (List D)} (hb : Below w.heap.size w w1) (h : MkEnd T w1 w2 F e v rows) : MkEnd T w w2 F e v rows :=
  ⟨h.os.trans hb.os, h.tape.trans hb.tape, h.output.trans hb.output, Nat.le_trans hb.size h.size, fun b h1 h2 => (h.block b (Nat.lt_of_lt_of_le h1 hb.size) h2).trans (hb.block b h1), h.deep⟩
theorem BoxAt.markV {T : Tab} {w w' : World} {b : Nat} {cs : Array Value} {F : Nat → Prop} {e : TypeId} {v : Value} {rows : List (List D)} (h : BoxAt w b cs) (hm : MkEnd T w w' F e v rows) (hF : ¬ F b) : BoxAt w' b cs := ⟨Nat.lt_of_lt_of_le h.1 hm.size, fun i u hu => (World.cell?_of_block (hm.block b h.1 hF)).trans (h.2 i u hu)⟩
theorem MkEnd.belowV {T : Tab} {w w' : World} {F : Nat → Prop} {e : TypeId} {v : Value} {rows : List (List D)} (h : MkEnd T w w' F e v rows) {B : Nat} (hF : ∀ b, F b → B ≤ b) (hB : B ≤ w.heap.size) : Below B w w' :=
  ⟨h.os, h.tape, h.output, h.size, fun b hb => h.block b (Nat.lt_of_lt_of_le hb hB) fun hi => Nat.not_le_of_lt hb (hF b hi)⟩
theorem RdR.belV {T : Tab} {w w' : World} {ct : CT} {u : Value} {d : D} (h : RdR T w (fun _ => False) ct u d) (hb : Below w.heap.size w w') : RdR T w' (fun _ => False) ct u d := h.move ⟨hb.size, fun b hb' _ => hb.block b hb'⟩ fun _ _ hx => hx
theorem DeepV.belV {T : Tab} {w w' : World} {F : Nat → Prop} {ct : CT} {u : Value} {d : D} (h : DeepV T w F ct u d) (hb : Below w.heap.size w w') : DeepV T w' F ct u d := h.move fun b hF => hb.block b (h.lt b hF)
end Go.Proofs.Ytidjlboppokloaa.Ab
