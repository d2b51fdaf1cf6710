/- Structures that own all that they lead to, cell by cell. No program in sight. Marks of a structure's slices. No program in sight. Structures read, and what calls hand back, for raw walks of laws. No program in sight. For the law FnExactNewSession: results, marks behind other calls. No program in sight. -/
import Derived.Test.YtaecbmjmcpdgdaaGreatCMk
import Derived.Test.YtaecbmjmcpdgdaaGreatCMt
namespace Go.Proofs.YtaecbmjmcpdgdaaGreat.Ab
open Go.RowKit
set_option linter.unusedVariables false
variable {mt : Int → ByteArray}
structure DeepRow (T : Tab) (w : World) (F : Nat → Nat → Prop) (cts : List CT) (us : List Value) (row : List D) : Prop where
  len : us.length = cts.length
  rlen : row.length = cts.length
  lt : ∀ (i b : Nat), F i b → b < w.heap.size
  inj : ∀ (i j b : Nat), F i b → F j b → i = j
  flat : ∀ (i : Nat) ct u d, cts[i]? = some ct → us[i]? = some u → row[i]? = some d → (∀ e, ct ≠ .l e) → RdR T w (fun _ => False) ct u d
  sl : ∀ (i : Nat) e u rows, cts[i]? = some (.l e) → us[i]? = some u → row[i]? = some (.l rows) → DeepV T w (F i) (.l e) u (.l rows)
  kind : ∀ (i : Nat) e d, cts[i]? = some (.l e) → row[i]? = some d → ∃ rows, d = .l rows
theorem DeepRow.move {T : Tab} {w w' : World} {F : Nat → Nat → Prop} {cts : List CT} {us : List Value} {row : List D} (h : DeepRow T w F cts us row) (hs : w.heap.size ≤ w'.heap.size) (hb : ∀ i b, F i b → w'.heap[b]? = w.heap[b]?) : DeepRow T w' F cts us row :=
  ⟨h.len, h.rlen, fun i b hF => Nat.lt_of_lt_of_le (h.lt i b hF) hs, h.inj, fun i ct u d a b c hc => (h.flat i ct u d a b c hc).plain hc, fun i e u rows a b c => (h.sl i e u rows a b c).move fun b hF => hb i b hF, h.kind⟩
theorem DeepRow.arg {T : Tab} {w : World} {F : Nat → Nat → Prop} {cts : List CT} {us : List Value} {row : List D} (h : DeepRow T w F cts us row) : ArgR T w (fun _ => False) (.agg us.toArray) (argG cts row) := by
  refine ⟨us, rfl, by simp [rowC, h.len], fun i c u hc hu => ?_⟩
  have hi : i < cts.length := by rw [← h.len]; exact (List.getElem?_eq_some_iff.1 hu).1
  have hct : cts[i]? = some cts[i] := List.getElem?_eq_getElem hi
  have hd : row[i]? = some (row.getD i default) := by
    have : i < row.length := by rw [h.rlen]; exact hi
    simp [List.getD_eq_getElem?_getD, List.getElem?_eq_getElem this]
  have hc' : c = ofD cts[i] (row.getD i default) := by
    unfold rowC at hc
    rw [List.getElem?_map, List.getElem?_zipIdx, hct] at hc
    have := Option.some.inj hc
    rw [← this, Nat.zero_add]
  subst hc'
  cases hk : cts[i] with
  | l e =>
    rw [hk] at hct
    obtain ⟨rows, hr⟩ := h.kind i e _ hct hd
    rw [hr] at hd ⊢
    exact (h.sl i e u rows hct hu hd).shared fun _ _ hx => hx
  | i k =>
    rw [hk] at hct
    have := h.flat i _ u _ hct hu hd (fun e he => by cases he)
    generalize row.getD i default = d at this ⊢
    cases this with
    | int _ n hn => exact ⟨rfl, hn⟩
  | b =>
    rw [hk] at hct
    have := h.flat i _ u _ hct hu hd (fun e he => by cases he)
    generalize row.getD i default = d at this ⊢
    cases this with
    | bool x => rfl
  | s =>
    rw [hk] at hct
    have := h.flat i _ u _ hct hu hd (fun e he => by cases he)
    generalize row.getD i default = d at this ⊢
    cases this with
    | str x hx => exact ⟨rfl, hx⟩
theorem DeepRow.set {T : Tab} {w w' : World} {F : Nat → Nat → Prop} {cts : List CT} {us : List Value} {row : List D} (h : DeepRow T w F cts us row) {i : Nat} {e : TypeId} {u : Value} {rows : List (List D)} (hct : cts[i]? = some (.l e)) (hu : us[i]? = some u)
    (hs : w.heap.size ≤ w'.heap.size) (hb : ∀ b, b < w.heap.size → ¬ F i b → w'.heap[b]? = w.heap[b]?) (hd : DeepV T w' (F i) (.l e) u (.l rows)) : DeepRow T w' F cts us (row.set i (.l rows)) := by
  have hi : i < row.length := by rw [h.rlen]; exact (List.getElem?_eq_some_iff.1 hct).1
  refine ⟨h.len, by rw [List.length_set]; exact h.rlen, fun j b hF => Nat.lt_of_lt_of_le (h.lt j b hF) hs, h.inj, fun j ct u' d a b c hc => ?_, fun j e' u' rows' a b c => ?_, fun j e' d a c => ?_⟩
  · by_cases ej : j = i
    · subst ej
      exact absurd (Option.some.inj (a.symm.trans hct)) (hc e)
    · rw [List.getElem?_set_ne (Ne.symm ej)] at c
      exact (h.flat j ct u' d a b c hc).plain hc
  · by_cases ej : j = i
    · subst ej
      rw [List.getElem?_set_self hi] at c
      cases Option.some.inj c
      cases Option.some.inj (a.symm.trans hct)
      cases Option.some.inj (b.symm.trans hu)
      exact hd
    · rw [List.getElem?_set_ne (Ne.symm ej)] at c
      exact (h.sl j e' u' rows' a b c).move fun x hx => hb x (h.lt j x hx) fun hx' => ej (h.inj j i x hx hx')
  · by_cases ej : j = i
    · subst ej
      rw [List.getElem?_set_self hi] at c
      exact ⟨rows, (Option.some.inj c).symm⟩
    · rw [List.getElem?_set_ne (Ne.symm ej)] at c
      exact h.kind j e' d a c
end Go.Proofs.YtaecbmjmcpdgdaaGreat.Ab
namespace Go.Proofs.YtaecbmjmcpdgdaaGreat.Ab
open Go.RowKit
set_option linter.unusedVariables false
variable {mt : Int → ByteArray}
theorem DeepRow.wf {T : Tab} {w : World} {F : Nat → Nat → Prop} {cts : List CT} {us : List Value} {row : List D} (h : DeepRow T w F cts us row) : WfRow T cts row := by
  refine ⟨h.rlen, fun j ct d a b => ?_⟩
  have hj : j < us.length := by rw [h.len]; exact (List.getElem?_eq_some_iff.1 a).1
  cases ct with
  | l e =>
    obtain ⟨rows, rfl⟩ := h.kind j e d a b
    exact (h.sl j e _ rows a (List.getElem?_eq_getElem hj) b).wf
  | i k => exact (h.flat j _ _ d a (List.getElem?_eq_getElem hj) b (fun e he => by cases he)).wf
  | b => exact (h.flat j _ _ d a (List.getElem?_eq_getElem hj) b (fun e he => by cases he)).wf
  | s => exact (h.flat j _ _ d a (List.getElem?_eq_getElem hj) b (fun e he => by cases he)).wf
structure MkREnd (T : Tab) (w w' : World) (F : Nat → Nat → Prop) (cts : List CT) (us : List Value) (row : List D) : Prop where
  os : w'.os = w.os
  tape : w'.tape = w.tape
  output : w'.output = w.output
  size : w.heap.size ≤ w'.heap.size
  block : ∀ b, b < w.heap.size → (∀ i, ¬ F i b) → w'.heap[b]? = w.heap[b]?
  deep : DeepRow T w' F cts us row
section
variable {T : Tab} {w w0 w1 w2 : World} {F : Nat → Nat → Prop} {cts : List CT} {us : List Value} {row row' : List D}
theorem MkREnd.start (h : DeepRow T w F cts us row) (hb : Below w.heap.size w w0) : MkREnd T w w0 F cts us row :=
  ⟨hb.os, hb.tape, hb.output, hb.size, fun b h1 _ => hb.block b h1, h.move hb.size fun i b hF => hb.block b (h.lt i b hF)⟩
theorem MkREnd.step (h : MkREnd T w w1 F cts us row) {i : Nat} {e : TypeId} {u : Value} {rows : List (List D)} (hct : cts[i]? = some (.l e)) (hu : us[i]? = some u) (hm : MkEnd T w1 w2 (F i) e u rows) : MkREnd T w w2 F cts us (row.set i (.l rows)) :=
  ⟨hm.os.trans h.os, hm.tape.trans h.tape, hm.output.trans h.output, Nat.le_trans h.size hm.size, fun b h1 h2 => (hm.block b (Nat.lt_of_lt_of_le h1 h.size) (h2 i)).trans (h.block b h1 h2), h.deep.set hct hu hm.size hm.block hm.deep⟩
theorem MkREnd.gl (h : MkREnd T w w1 F cts us row) (hg : GlR T w (fun b => ∃ i, F i b)) (i : Nat) : GlR T w1 (F i) := (hg.move ⟨h.size, fun b h1 h2 => h.block b h1 fun i hF => h2 ⟨i, hF⟩⟩ fun b _ hb => ⟨i, hb⟩)
theorem MkREnd.cell (h : MkREnd T w w1 F cts us row) {b o : Nat} {u : Value} (hb : ∀ i, ¬ F i b) (hl : b < w.heap.size) (hc : w.cell? ⟨b, o, none⟩ = some u) : w1.cell? ⟨b, o, none⟩ = some u := (World.cell?_of_block (h.block b hl hb)).trans hc
theorem MkEnd.cell {G : Nat → Prop} {e : TypeId} {v : Value} {rows : List (List D)} (h : MkEnd T w w1 G e v rows) {b o : Nat} {u : Value} (hb : ¬ G b) (hl : b < w.heap.size) (hc : w.cell? ⟨b, o, none⟩ = some u) : w1.cell? ⟨b, o, none⟩ = some u := (World.cell?_of_block (h.block b hl hb)).trans hc
end
end Go.Proofs.YtaecbmjmcpdgdaaGreat.Ab
namespace Go.Proofs.YtaecbmjmcpdgdaaGreat.Ab
open Go.RowKit
set_option linter.unusedVariables false
variable {T : Tab} {w w' : World} {cts : List CT} {us : List Value} {row : List D}
structure ReadRow (T : Tab) (w : World) (cts : List CT) (us : List Value) (row : List D) : Prop where
  len : us.length = cts.length
  rlen : row.length = cts.length
  cell : ∀ (i : Nat) ct u d, cts[i]? = some ct → us[i]? = some u → row[i]? = some d → RdR T w (fun _ => False) ct u d
theorem ReadRow.grow (h : ReadRow T w cts us row) (hs : w.heap.size ≤ w'.heap.size) (hb : ∀ b, b < w.heap.size → w'.heap[b]? = w.heap[b]?) : ReadRow T w' cts us row := by
  refine ⟨h.len, h.rlen, fun i ct u d a b c => ?_⟩
  exact (h.cell i ct u d a b c).move ⟨hs, fun x hx _ => hb x hx⟩ fun _ _ hx => hx
theorem ReadRow.arg (h : ReadRow T w cts us row) : ArgR T w (fun _ => False) (.agg us.toArray) (argG cts row) := by
  refine ⟨us, rfl, by simp [rowC, h.len], fun i c u hc hu => ?_⟩
  have hi : i < cts.length := by rw [← h.len]; exact (List.getElem?_eq_some_iff.1 hu).1
  have hct : cts[i]? = some cts[i] := List.getElem?_eq_getElem hi
  have hd : row[i]? = some (row.getD i default) := by
    have : i < row.length := by rw [h.rlen]; exact hi
    simp [List.getD_eq_getElem?_getD, List.getElem?_eq_getElem this]
  have hc' : c = ofD cts[i] (row.getD i default) := by
    unfold rowC at hc
    rw [List.getElem?_map, List.getElem?_zipIdx, hct] at hc
    have := Option.some.inj hc
    rw [← this, Nat.zero_add]
  subst hc'
  have hr := h.cell i _ u _ hct hu hd
  generalize row.getD i default = d at hr ⊢
  generalize cts[i] = ct at hr ⊢
  cases hr with
  | int _ n hn => exact ⟨rfl, hn⟩
  | bool x => rfl
  | str x hx => exact ⟨rfl, hx⟩
  | nil e A c hc => exact .nil e A c hc
  | sl e ty b o c rows vs h1 h2 h3 h4 h5 h6 h7 h8 => exact .sl e ty b o c rows vs h1 h2 h3 h4 h5 h6 h7 h8
theorem DeepRow.reads {F : Nat → Nat → Prop} (h : DeepRow T w F cts us row) : ReadRow T w cts us row := by
  refine ⟨h.len, h.rlen, fun i ct u d a b c => ?_⟩
  cases ct with
  | l e =>
    obtain ⟨rows, rfl⟩ := h.kind i e d a c
    exact (h.sl i e u rows a b c).shared fun _ _ hx => hx
  | i k => exact h.flat i _ u d a b c (fun e he => by cases he)
  | b => exact h.flat i _ u d a b c (fun e he => by cases he)
  | s => exact h.flat i _ u d a b c (fun e he => by cases he)
theorem RdR.slice {X : Nat → Prop} {e : TypeId} {u : Value} {d : D} (h : RdR T w X (.l e) u d) : ∃ A n c, u = .slice A n c := by
  cases h with
  | nil e A c hc => exact ⟨_, _, _, rfl⟩
  | sl e ty b o c rows vs => exact ⟨_, _, _, rfl⟩
theorem ReadRow.at_ (h : ReadRow T w cts us row) (i : Nat) {ct : CT} {u : Value} (a : cts[i]? = some ct) (b : us[i]? = some u) : RdR T w (fun _ => False) ct u (row.getD i default) := by
  refine h.cell i ct u _ a b ?_
  have : i < row.length := by rw [h.rlen]; exact (List.getElem?_eq_some_iff.1 a).1
  simp [List.getD_eq_getElem?_getD, List.getElem?_eq_getElem this]
theorem GlR.bel {X : Nat → Prop} (h : GlR T w X) (hb : Below w.heap.size w w') : GlR T w' X := h.move ⟨hb.size, fun b hb' _ => hb.block b hb'⟩ fun _ _ h => h
theorem ReadRow.bel (h : ReadRow T w cts us row) (hb : Below w.heap.size w w') : ReadRow T w' cts us row := h.grow hb.size fun b h => hb.block b h
theorem DeepRow.bel {F : Nat → Nat → Prop} (h : DeepRow T w F cts us row) (hb : Below w.heap.size w w') : DeepRow T w' F cts us row := h.move hb.size fun i b hF => hb.block b (h.lt i b hF)
theorem one_bool {X : Nat → Prop} {bk : Nat → Nat → Prop} {v : Value} {b : Bool} (h : ResR T w X bk v (.val false [.b b])) : v = .bool b := by
  obtain ⟨c, hc, hv⟩ := h
  obtain rfl : CV.b b = c := by simpa using hc
  exact hv
theorem one_int {X : Nat → Prop} {bk : Nat → Nat → Prop} {v : Value} {n : Int} (h : ResR T w X bk v (.val false [.i .i64 n])) : v = .int .i64 n := by
  obtain ⟨c, hc, hv⟩ := h
  obtain rfl : CV.i .i64 n = c := by simpa using hc
  exact hv.1
def BoxAt (w : World) (b : Nat) (cs : Array Value) : Prop := b < w.heap.size ∧ ∀ (i : Nat) u, cs[i]? = some u → w.cell? ⟨b, i, none⟩ = some u
theorem BoxAt.bel {b : Nat} {cs : Array Value} (h : BoxAt w b cs) (hb : Below w.heap.size w w') : BoxAt w' b cs := ⟨Nat.lt_of_lt_of_le h.1 hb.size, fun i u hu => (hb.cell (p := ⟨b, i, none⟩) h.1).trans (h.2 i u hu)⟩
theorem BoxAt.mark {b : Nat} {cs : Array Value} {F : Nat → Nat → Prop} {row' : List D} (h : BoxAt w b cs) (hm : MkREnd T w w' F cts us row') (hF : ∀ i, ¬ F i b) : BoxAt w' b cs := ⟨Nat.lt_of_lt_of_le h.1 hm.size, fun i u hu => hm.cell hF h.1 (h.2 i u hu)⟩
theorem MkREnd.below {F : Nat → Nat → Prop} {row' : List D} (h : MkREnd T w w' F cts us row') {B : Nat} (hF : ∀ i b, F i b → B ≤ b) (hB : B ≤ w.heap.size) : Below B w w' :=
  ⟨h.os, h.tape, h.output, h.size, fun b hb => h.block b (Nat.lt_of_lt_of_le hb hB) fun i hi => Nat.not_le_of_lt hb (hF i b hi)⟩
theorem MkREnd.glF {F : Nat → Nat → Prop} {row' : List D} (h : MkREnd T w w' F cts us row') (hg : GlR T w (fun b => ∃ i, F i b)) : GlR T w' (fun _ => False) :=
  hg.move ⟨h.size, fun b h1 h2 => h.block b h1 fun i hF => h2 ⟨i, hF⟩⟩ fun _ _ hx => hx.elim
end Go.Proofs.YtaecbmjmcpdgdaaGreat.Ab
namespace Go.Proofs.YtaecbmjmcpdgdaaGreat.Ab
open Go.RowKit
set_option linter.unusedVariables false
theorem DeepV.empty {T : Tab} {w : World} {F : Nat → Prop} {e : TypeId} {u : Value} (h : DeepV T w F (.l e) u (.l [])) : ∃ A c, u = .slice A 0 c := h.slice
theorem MkEnd.after {T : Tab} {w w1 w2 : World} {F : Nat → Prop} {e : TypeId} {v : Value} {rows : List (List D)} (hb : Below w.heap.size w w1) (h : MkEnd T w1 w2 F e v rows) : MkEnd T w w2 F e v rows :=
  ⟨h.os.trans hb.os, h.tape.trans hb.tape, h.output.trans hb.output, Nat.le_trans hb.size h.size, fun b h1 h2 => (h.block b (Nat.lt_of_lt_of_le h1 hb.size) h2).trans (hb.block b h1), h.deep⟩
theorem MkEnd.belowV {T : Tab} {w w' : World} {F : Nat → Prop} {e : TypeId} {v : Value} {rows : List (List D)} (h : MkEnd T w w' F e v rows) {B : Nat} (hF : ∀ b, F b → B ≤ b) (hB : B ≤ w.heap.size) : Below B w w' :=
  ⟨h.os, h.tape, h.output, h.size, fun b hb => h.block b (Nat.lt_of_lt_of_le hb hB) fun hi => Nat.not_le_of_lt hb (hF b hi)⟩
theorem RdR.belV {T : Tab} {w w' : World} {ct : CT} {u : Value} {d : D} (h : RdR T w (fun _ => False) ct u d) (hb : Below w.heap.size w w') : RdR T w' (fun _ => False) ct u d := h.move ⟨hb.size, fun b hb' _ => hb.block b hb'⟩ fun _ _ hx => hx
theorem DeepV.belV {T : Tab} {w w' : World} {F : Nat → Prop} {ct : CT} {u : Value} {d : D} (h : DeepV T w F ct u d) (hb : Below w.heap.size w w') : DeepV T w' F ct u d := h.move fun b hF => hb.block b (h.lt b hF)
end Go.Proofs.YtaecbmjmcpdgdaaGreat.Ab
