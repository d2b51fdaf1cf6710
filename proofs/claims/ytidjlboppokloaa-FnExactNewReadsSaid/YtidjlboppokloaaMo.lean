/- Structures that own all that they lead to, cell by cell. No program in sight. -/
import Derived.Test.YtidjlboppokloaaMp
import Derived.Test.YtidjlboppokloaaMr0
namespace Go.Proofs.Ytidjlboppokloaa.Ab
open Go.RowKit
set_option linter.unusedVariables false
variable {mt : Int → ByteArray}
/-- Cells of a structure: each reads as data; slices lie in blocks of their own, none met twice. -/
structure DeepRow (T : Tab) (w : World) (F : Nat → Nat → Prop) (cts : List CT) (us : List Value) (row : List D) : Prop where
  len : us.length = cts.length
  rlen : row.length = cts.length
  lt : ∀ (i b : Nat), F i b → b < w.heap.size
  inj : ∀ (i j b : Nat), F i b → F j b → i = j
  flat : ∀ (i : Nat) ct u d, cts[i]? = some ct → us[i]? = some u → row[i]? = some d → (∀ e, ct ≠ .l e) → RdR T w (fun _ => False) ct u d
  sl : ∀ (i : Nat) e u rows, cts[i]? = some (.l e) → us[i]? = some u → row[i]? = some (.l rows) → DeepV T w (F i) (.l e) u (.l rows)
  kind : ∀ (i : Nat) e d, cts[i]? = some (.l e) → row[i]? = some d → ∃ rows, d = .l rows
theorem DeepRow.move {T : Tab} {w w' : World} {F : Nat → Nat → Prop} {cts : List CT} {us : List Value} {row : List D} (h : DeepRow T w F cts us row) (hs : w.heap.size ≤ w'.heap.size) (hb : ∀ i b, F i b → w'.heap[b]? = w.heap[b]?) : DeepRow T w' F cts us row :=
  ⟨h.len, h.rlen, fun i b hF => Nat.lt_of_lt_of_le (h.lt i b hF) hs, h.inj, fun i ct u d a b c hc => (h.flat i ct u d a b c hc).plain hc, fun i e u rows a b c => (h.sl i e u rows a b c).move fun b hF => hb i b hF, h.kind⟩
/-- It may be handed to a function that reads. -/
theorem DeepRow.arg {T : Tab} {w : World} {F : Nat → Nat → Prop} {cts : List CT} {us : List Value} {row : List D} (h : DeepRow T w F cts us row) : ArgR T w (fun _ => False) (.agg us.toArray) (argG cts row) := by
  refine ⟨us, rfl, by simp [rowC, h.len], fun i c u hc hu => ?_⟩
  have hi : i < cts.length := by rw [← h.len]; exact (List.getElem?_eq_some_iff.1 hu).1
  have hct : cts[i]? = some cts[i] := List.getElem?_eq_getElem hi
  have hd : row[i]? = some (row.getD i default) := by
    have : i < row.length := by rw [h.rlen]; exact hi
    simp [List.getD_eq_getElem?_getD, List.getElem?_eq_getElem this]
  have hc' : c = ofD cts[i] (row.getD i default) := by
    unfold rowC at hc
    rw [List.getElem?_map, List.getElem?_zipIdx, hct] at hc
    have := Option.some.inj hc
    rw [← this, Nat.zero_add]
  subst hc'
  cases hk : cts[i] with
  | l e =>
    rw [hk] at hct
    obtain ⟨rows, hr⟩ := h.kind i e _ hct hd
    rw [hr] at hd ⊢
    exact (h.sl i e u rows hct hu hd).shared fun _ _ hx => hx
  | i k =>
    rw [hk] at hct
    have := h.flat i _ u _ hct hu hd (fun e he => by cases he)
    generalize row.getD i default = d at this ⊢
    cases this with
    | int _ n hn => exact ⟨rfl, hn⟩
  | b =>
    rw [hk] at hct
    have := h.flat i _ u _ hct hu hd (fun e he => by cases he)
    generalize row.getD i default = d at this ⊢
    cases this with
    | bool x => rfl
  | s =>
    rw [hk] at hct
    have := h.flat i _ u _ hct hu hd (fun e he => by cases he)
    generalize row.getD i default = d at this ⊢
    cases this with
    | str x hx => exact ⟨rfl, hx⟩
/-- A slice of it takes other data. -/
theorem DeepRow.set {T : Tab} {w w' : World} {F : Nat → Nat → Prop} {cts : List CT} {us : List Value} {row : List D} (h : DeepRow T w F cts us row) {i : Nat} {e : TypeId} {u : Value} {rows : List (List D)} (hct : cts[i]? = some (.l e)) (hu : us[i]? = some u)
    (hs : w.heap.size ≤ w'.heap.size) (hb : ∀ b, b < w.heap.size → ¬ F i b → w'.heap[b]? = w.heap[b]?) (hd : DeepV T w' (F i) (.l e) u (.l rows)) : DeepRow T w' F cts us (row.set i (.l rows)) := by
  have hi : i < row.length := by rw [h.rlen]; exact (List.getElem?_eq_some_iff.1 hct).1
  refine ⟨h.len, by rw [List.length_set]; exact h.rlen, fun j b hF => Nat.lt_of_lt_of_le (h.lt j b hF) hs, h.inj, fun j ct u' d a b c hc => ?_, fun j e' u' rows' a b c => ?_, fun j e' d a c => ?_⟩
  · by_cases ej : j = i
    · subst ej
      exact absurd (Option.some.inj (a.symm.trans hct)) (hc e)
    · rw [List.getElem?_set_ne (Ne.symm ej)] at c
      exact (h.flat j ct u' d a b c hc).plain hc
  · by_cases ej : j = i
    · subst ej
      rw [List.getElem?_set_self hi] at c
      cases Option.some.inj c
      cases Option.some.inj (a.symm.trans hct)
      cases Option.some.inj (b.symm.trans hu)
      exact hd
    · rw [List.getElem?_set_ne (Ne.symm ej)] at c
      exact (h.sl j e' u' rows' a b c).move fun x hx => hb x (h.lt j x hx) fun hx' => ej (h.inj j i x hx hx')
  · by_cases ej : j = i
    · subst ej
      rw [List.getElem?_set_self hi] at c
      exact ⟨rows, (Option.some.inj c).symm⟩
    · rw [List.getElem?_set_ne (Ne.symm ej)] at c
      exact h.kind j e' d a c
/-- What a call handed back, cell by cell. -/
theorem DeepRow.of_tup {w : World} {X : Nat → Prop} {bk : Nat → Nat → Prop} {j : Nat} {v : Value} {cts : List CT} {row : List D} (h : TupR Td w X bk j v (true, rowO cts row)) (hw : WfRow T cts row)
    (hlt : ∀ j b, bk j b → b < w.heap.size) (hinj : ∀ j j' b, bk j b → bk j' b → j = j') : ∃ us : List Value, v = .agg us.toArray ∧ DeepRow T w (fun i => bk (tix j i)) cts us row := by
  obtain ⟨us, rfl, hl, hc⟩ := h.1 rfl
  have hl' : us.length = cts.length := by rw [← hl]; simp [rowO]
  have cell : ∀ (i : Nat) ct u d, cts[i]? = some ct → us[i]? = some u → row[i]? = some d → ResC Td w X bk (tix j i) u (ofO ct d) := fun i ct u d a b c => by
    refine (hc i (ofO ct d) u ?_ b).2
    show (rowO cts row)[i]? = _
    unfold rowO
    rw [List.getElem?_map, List.getElem?_zipIdx, a, Nat.zero_add]
    simp [List.getD_eq_getElem?_getD, c]
  refine ⟨us, rfl, hl', hw.1, fun i b hb => hlt _ b hb, fun i k b h1 h2 => ?_, fun i ct u d a b c hne => ?_, fun i e u rows a b c => ?_, fun i e d a c => ?_⟩
  · have := hinj _ _ b h1 h2
    unfold tix at this
    omega
  · have h1 := cell i ct u d a b c
    have h2 := hw.2 i ct d a c
    cases h2 with
    | int k n hn => obtain ⟨rfl, _⟩ : u = .int k n ∧ inK k n := h1; exact .int k n hn
    | bool x => obtain rfl : u = .bool x := h1; exact .bool x
    | str x hx => obtain ⟨rfl, _⟩ : u = .string x ∧ x.size ≤ maxLen := h1; exact .str x hx
    | nil e => exact absurd rfl (hne e)
    | sl e => exact absurd rfl (hne e)
  · have h1 : OwnF Td w X (bk (tix j i)) e u rows := cell i _ u _ a b c
    exact DeepV.off (b := true) (OwnF.toDeep h1 rfl)
  · have h2 := hw.2 i _ d a c
    cases h2 with
    | nil e => exact ⟨_, rfl⟩
    | sl e => exact ⟨_, rfl⟩
/-! Marks of a structure's slices -/
def cSl : List D → Nat
  | [] => 0
  | .l r :: ds => cRows r + cSl ds
  | _ :: ds => cSl ds
def mkSl (mt : Int → ByteArray) : Int → List D → List D
  | _, [] => []
  | k, .l r :: ds => .l (mkRows mt k r) :: mkSl mt (k + cRows r) ds
  | k, d :: ds => d :: mkSl mt k ds
end Go.Proofs.Ytidjlboppokloaa.Ab
