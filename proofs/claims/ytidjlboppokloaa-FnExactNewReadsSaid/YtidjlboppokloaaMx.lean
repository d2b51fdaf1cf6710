/- Structures read, and what calls hand back, for raw walks of laws. No program in sight. -/
import Derived.Test.YtidjlboppokloaaMn
namespace Go.Proofs.Ytidjlboppokloaa.Ab
open Go.RowKit
set_option linter.unusedVariables false
variable {T : Tab} {w w' : World} {cts : List CT} {us : List Value} {row : List D}
/-- Cells of a structure read as data. -/
structure ReadRow (T : Tab) (w : World) (cts : List CT) (us : List Value) (row : List D) : Prop where
  len : us.length = cts.length
  rlen : row.length = cts.length
  cell : ∀ (i : Nat) ct u d, cts[i]? = some ct → us[i]? = some u → row[i]? = some d → RdR T w (fun _ => False) ct u d
theorem ReadRow.grow (h : ReadRow T w cts us row) (hs : w.heap.size ≤ w'.heap.size) (hb : ∀ b, b < w.heap.size → w'.heap[b]? = w.heap[b]?) : ReadRow T w' cts us row := by
  refine ⟨h.len, h.rlen, fun i ct u d a b c => ?_⟩
  exact (h.cell i ct u d a b c).move ⟨hs, fun x hx _ => hb x hx⟩ fun _ _ hx => hx
theorem ReadRow.arg (h : ReadRow T w cts us row) : ArgR T w (fun _ => False) (.agg us.toArray) (argG cts row) := by
  refine ⟨us, rfl, by simp [rowC, h.len], fun i c u hc hu => ?_⟩
  have hi : i < cts.length := by rw [← h.len]; exact (List.getElem?_eq_some_iff.1 hu).1
  have hct : cts[i]? = some cts[i] := List.getElem?_eq_getElem hi
  have hd : row[i]? = some (row.getD i default) := by
    have : i < row.length := by rw [h.rlen]; exact hi
    simp [List.getD_eq_getElem?_getD, List.getElem?_eq_getElem this]
  have hc' : c = ofD cts[i] (row.getD i default) := by
    unfold rowC at hc
    rw [List.getElem?_map, List.getElem?_zipIdx, hct] at hc
    have := Option.some.inj hc
    rw [← this, Nat.zero_add]
  subst hc'
  have hr := h.cell i _ u _ hct hu hd
  generalize row.getD i default = d at hr ⊢
  generalize cts[i] = ct at hr ⊢
  cases hr with
  | int _ n hn => exact ⟨rfl, hn⟩
  | bool x => rfl
  | str x hx => exact ⟨rfl, hx⟩
  | nil e A c hc => exact .nil e A c hc
  | sl e ty b o c rows vs h1 h2 h3 h4 h5 h6 h7 h8 => exact .sl e ty b o c rows vs h1 h2 h3 h4 h5 h6 h7 h8
theorem DeepRow.reads {F : Nat → Nat → Prop} (h : DeepRow T w F cts us row) : ReadRow T w cts us row := by
  refine ⟨h.len, h.rlen, fun i ct u d a b c => ?_⟩
  cases ct with
  | l e =>
    obtain ⟨rows, rfl⟩ := h.kind i e d a c
    exact (h.sl i e u rows a b c).shared fun _ _ hx => hx
  | i k => exact h.flat i _ u d a b c (fun e he => by cases he)
  | b => exact h.flat i _ u d a b c (fun e he => by cases he)
  | s => exact h.flat i _ u d a b c (fun e he => by cases he)
theorem ReadRow.of_tup {X : Nat → Prop} {bk : Nat → Nat → Prop} {j : Nat} {v : Value} (h : TupR T w X bk j v (true, rowC cts row)) (hw : WfRow T cts row) : ∃ us : List Value, v = .agg us.toArray ∧ ReadRow T w cts us row := by
  obtain ⟨us, rfl, hl, hc⟩ := h.1 rfl
  have hl' : us.length = cts.length := by rw [← hl]; simp [rowC]
  refine ⟨us, rfl, hl', hw.1, fun i ct u d a b c => ?_⟩
  have cell : ResC T w X bk (tix j i) u (ofD ct d) := by
    refine (hc i (ofD ct d) u ?_ b).2
    show (rowC cts row)[i]? = _
    unfold rowC
    rw [List.getElem?_map, List.getElem?_zipIdx, a, Nat.zero_add]
    simp [List.getD_eq_getElem?_getD, c]
  have h2 := hw.2 i ct d a c
  cases h2 with
  | int k n hn => obtain ⟨rfl, _⟩ : u = .int k n ∧ inK k n := cell; exact .int k n hn
  | bool x => obtain rfl : u = .bool x := cell; exact .bool x
  | str x hx => obtain ⟨rfl, _⟩ : u = .string x ∧ x.size ≤ maxLen := cell; exact .str x hx
  | nil e => exact RdR.move (X := X) cell ⟨Nat.le_refl _, fun _ _ _ => rfl⟩ fun _ _ h => h.elim
  | sl e ty rows => exact RdR.move (X := X) cell ⟨Nat.le_refl _, fun _ _ _ => rfl⟩ fun _ _ h => h.elim
theorem RdR.slice {X : Nat → Prop} {e : TypeId} {u : Value} {d : D} (h : RdR T w X (.l e) u d) : ∃ A n c, u = .slice A n c := by
  cases h with
  | nil e A c hc => exact ⟨_, _, _, rfl⟩
  | sl e ty b o c rows vs => exact ⟨_, _, _, rfl⟩
/-- Two results of a call: a structure and a bool. -/
theorem two_tup {X : Nat → Prop} {bk : Nat → Nat → Prop} {v : Value} {cs : List CV} {b : Bool} (h : ResR T w X bk v (.tup [(true, cs), (false, [.b b])])) : ∃ x, v = .tuple #[x, .bool b] ∧ TupR T w X bk 0 x (true, cs) := by
  obtain ⟨arr, rfl, hl, hc⟩ := h
  match arr, hl with
  | [x, y], _ =>
    have h0 := hc 0 _ x rfl rfl
    obtain ⟨c, h1, h2, h3⟩ := (hc 1 _ y rfl rfl).2 rfl
    obtain rfl : CV.b b = c := by simpa using h1
    obtain rfl : y = .bool b := h3
    exact ⟨x, rfl, h0⟩
theorem cSl_mk {mt : Int → ByteArray} : ∀ (r : List D) (k : Int), cSl (mkSl mt k r) = cSl r
  | [], k => rfl
  | .l x :: r, k => by simp only [mkSl, cSl, cRows_mk, cSl_mk r]
  | .i x :: r, k => by simp only [mkSl, cSl, cSl_mk r]
  | .b x :: r, k => by simp only [mkSl, cSl, cSl_mk r]
  | .s x :: r, k => by simp only [mkSl, cSl, cSl_mk r]
theorem RdR.int_inv {X : Nat → Prop} {k : IntKind} {u : Value} {d : D} (h : RdR T w X (.i k) u d) : ∃ n, u = .int k n := by
  cases h with
  | int k n hn => exact ⟨n, rfl⟩
theorem RdR.str_inv {X : Nat → Prop} {u : Value} {d : D} (h : RdR T w X .s u d) : ∃ x, u = .string x := by
  cases h with
  | str x hx => exact ⟨x, rfl⟩
theorem ReadRow.at_ (h : ReadRow T w cts us row) (i : Nat) {ct : CT} {u : Value} (a : cts[i]? = some ct) (b : us[i]? = some u) : RdR T w (fun _ => False) ct u (row.getD i default) := by
  refine h.cell i ct u _ a b ?_
  have : i < row.length := by rw [h.rlen]; exact (List.getElem?_eq_some_iff.1 a).1
  simp [List.getD_eq_getElem?_getD, List.getElem?_eq_getElem this]
theorem GlR.bel {X : Nat → Prop} (h : GlR T w X) (hb : Below w.heap.size w w') : GlR T w' X := h.move ⟨hb.size, fun b hb' _ => hb.block b hb'⟩ fun _ _ h => h
theorem ReadRow.bel (h : ReadRow T w cts us row) (hb : Below w.heap.size w w') : ReadRow T w' cts us row := h.grow hb.size fun b h => hb.block b h
theorem DeepRow.bel {F : Nat → Nat → Prop} (h : DeepRow T w F cts us row) (hb : Below w.heap.size w w') : DeepRow T w' F cts us row := h.move hb.size fun i b hF => hb.block b (h.lt i b hF)
theorem one_bool {X : Nat → Prop} {bk : Nat → Nat → Prop} {v : Value} {b : Bool} (h : ResR T w X bk v (.val false [.b b])) : v = .bool b := by
  obtain ⟨c, hc, hv⟩ := h
  obtain rfl : CV.b b = c := by simpa using hc
  exact hv
theorem one_int {X : Nat → Prop} {bk : Nat → Nat → Prop} {v : Value} {n : Int} (h : ResR T w X bk v (.val false [.i .i64 n])) : v = .int .i64 n := by
  obtain ⟨c, hc, hv⟩ := h
  obtain rfl : CV.i .i64 n = c := by simpa using hc
  exact hv.1
/-- A variable's cells. -/
def BoxAt (w : World) (b : Nat) (cs : Array Value) : Prop := b < w.heap.size ∧ ∀ (i : Nat) u, cs[i]? = some u → w.cell? ⟨b, i, none⟩ = some u
theorem BoxAt.new (w : World) (cs : Array Value) (t : TypeId) : BoxAt (w.alloc (.cells cs t)) w.heap.size cs := ⟨by simp, fun i u h => box_cell w cs t i u h⟩
theorem BoxAt.bel {b : Nat} {cs : Array Value} (h : BoxAt w b cs) (hb : Below w.heap.size w w') : BoxAt w' b cs := ⟨Nat.lt_of_lt_of_le h.1 hb.size, fun i u hu => (hb.cell (p := ⟨b, i, none⟩) h.1).trans (h.2 i u hu)⟩
theorem BoxAt.mark {b : Nat} {cs : Array Value} {F : Nat → Nat → Prop} {row' : List D} (h : BoxAt w b cs) (hm : MkREnd T w w' F cts us row') (hF : ∀ i, ¬ F i b) : BoxAt w' b cs := ⟨Nat.lt_of_lt_of_le h.1 hm.size, fun i u hu => hm.cell hF h.1 (h.2 i u hu)⟩
theorem MkREnd.below {F : Nat → Nat → Prop} {row' : List D} (h : MkREnd T w w' F cts us row') {B : Nat} (hF : ∀ i b, F i b → B ≤ b) (hB : B ≤ w.heap.size) : Below B w w' :=
  ⟨h.os, h.tape, h.output, h.size, fun b hb => h.block b (Nat.lt_of_lt_of_le hb hB) fun i hi => Nat.not_le_of_lt hb (hF i b hi)⟩
theorem MkREnd.glF {F : Nat → Nat → Prop} {row' : List D} (h : MkREnd T w w' F cts us row') (hg : GlR T w (fun b => ∃ i, F i b)) : GlR T w' (fun _ => False) :=
  hg.move ⟨h.size, fun b h1 h2 => h.block b h1 fun i hF => h2 ⟨i, hF⟩⟩ fun _ _ hx => hx.elim
theorem GlR.far {W : World} {F : Nat → Nat → Prop} (h : GlR T W (fun _ => False)) (hb : Below W.heap.size W w) (hF : ∀ i b, F i b → W.heap.size ≤ b) : GlR T w (fun b => ∃ i, F i b) :=
  h.move ⟨hb.size, fun b hb' _ => hb.block b hb'⟩ fun b hb' ⟨i, hi⟩ => Nat.not_le_of_lt hb' (hF i b hi)
end Go.Proofs.Ytidjlboppokloaa.Ab
