/- Marks of a structure's slices. No program in sight. -/
import Derived.Test.YtidjlboppokloaaMo
namespace Go.Proofs.Ytidjlboppokloaa.Ab
open Go.RowKit
set_option linter.unusedVariables false
variable {mt : Int → ByteArray}
theorem DeepRow.wf {T : Tab} {w : World} {F : Nat → Nat → Prop} {cts : List CT} {us : List Value} {row : List D} (h : DeepRow T w F cts us row) : WfRow T cts row := by
  refine ⟨h.rlen, fun j ct d a b => ?_⟩
  have hj : j < us.length := by rw [h.len]; exact (List.getElem?_eq_some_iff.1 a).1
  cases ct with
  | l e =>
    obtain ⟨rows, rfl⟩ := h.kind j e d a b
    exact (h.sl j e _ rows a (List.getElem?_eq_getElem hj) b).wf
  | i k => exact (h.flat j _ _ d a (List.getElem?_eq_getElem hj) b (fun e he => by cases he)).wf
  | b => exact (h.flat j _ _ d a (List.getElem?_eq_getElem hj) b (fun e he => by cases he)).wf
  | s => exact (h.flat j _ _ d a (List.getElem?_eq_getElem hj) b (fun e he => by cases he)).wf
/-- What holds when the slices of a structure have been marked. -/
structure MkREnd (T : Tab) (w w' : World) (F : Nat → Nat → Prop) (cts : List CT) (us : List Value) (row : List D) : Prop where
  os : w'.os = w.os
  tape : w'.tape = w.tape
  output : w'.output = w.output
  size : w.heap.size ≤ w'.heap.size
  block : ∀ b, b < w.heap.size → (∀ i, ¬ F i b) → w'.heap[b]? = w.heap[b]?
  deep : DeepRow T w' F cts us row
section
variable {T : Tab} {w w0 w1 w2 : World} {F : Nat → Nat → Prop} {cts : List CT} {us : List Value} {row row' : List D}
theorem MkREnd.start (h : DeepRow T w F cts us row) (hb : Below w.heap.size w w0) : MkREnd T w w0 F cts us row :=
  ⟨hb.os, hb.tape, hb.output, hb.size, fun b h1 _ => hb.block b h1, h.move hb.size fun i b hF => hb.block b (h.lt i b hF)⟩
theorem MkREnd.step (h : MkREnd T w w1 F cts us row) {i : Nat} {e : TypeId} {u : Value} {rows : List (List D)} (hct : cts[i]? = some (.l e)) (hu : us[i]? = some u) (hm : MkEnd T w1 w2 (F i) e u rows) : MkREnd T w w2 F cts us (row.set i (.l rows)) :=
  ⟨hm.os.trans h.os, hm.tape.trans h.tape, hm.output.trans h.output, Nat.le_trans h.size hm.size, fun b h1 h2 => (hm.block b (Nat.lt_of_lt_of_le h1 h.size) (h2 i)).trans (h.block b h1 h2), h.deep.set hct hu hm.size hm.block hm.deep⟩
theorem MkREnd.gl (h : MkREnd T w w1 F cts us row) (hg : GlR T w (fun b => ∃ i, F i b)) (i : Nat) : GlR T w1 (F i) := (hg.move ⟨h.size, fun b h1 h2 => h.block b h1 fun i hF => h2 ⟨i, hF⟩⟩ fun b _ hb => ⟨i, hb⟩)
theorem MkREnd.cell (h : MkREnd T w w1 F cts us row) {b o : Nat} {u : Value} (hb : ∀ i, ¬ F i b) (hl : b < w.heap.size) (hc : w.cell? ⟨b, o, none⟩ = some u) : w1.cell? ⟨b, o, none⟩ = some u := (World.cell?_of_block (h.block b hl hb)).trans hc
theorem MkEnd.cell {G : Nat → Prop} {e : TypeId} {v : Value} {rows : List (List D)} (h : MkEnd T w w1 G e v rows) {b o : Nat} {u : Value} (hb : ¬ G b) (hl : b < w.heap.size) (hc : w.cell? ⟨b, o, none⟩ = some u) : w1.cell? ⟨b, o, none⟩ = some u := (World.cell?_of_block (h.block b hl hb)).trans hc
end
theorem box_cell (w : World) (cs : Array Value) (t : TypeId) (i : Nat) (u : Value) (h : cs[i]? = some u) : (w.alloc (.cells cs t)).cell? ⟨w.heap.size, i, none⟩ = some u := by
  have e : (w.alloc (.cells cs t)).heap[w.heap.size]? = some (.cells cs t (0, 0)) := heap_alloc_new w _
  unfold World.cell?
  rw [e]
  exact h
end Go.Proofs.Ytidjlboppokloaa.Ab
