/- Marks: every cell of what is owned takes its own number, or the text of it. No program in sight. -/
import Derived.Test.YtidjlboppokloaaMd
import Derived.Test.YtidjlboppokloaaEs
namespace Go.Proofs.Ytidjlboppokloaa.Ab
open Go.RowKit
set_option linter.unusedVariables false
mutual
def cD : D → Nat
  | .i _ => 1
  | .s _ => 1
  | .b _ => 0
  | .l rows => cRows rows
def cRow : List D → Nat
  | [] => 0
  | d :: r => cD d + cRow r
def cRows : List (List D) → Nat
  | [] => 0
  | r :: rs => cRow r + cRows rs
end
mutual
def mkD (mt : Int → ByteArray) : Int → D → D
  | k, .i _ => .i k
  | k, .s _ => .s (mt k)
  | k, .b x => .b x
  | k, .l rows => .l (mkRows mt k rows)
def mkRow (mt : Int → ByteArray) : Int → List D → List D
  | k, [] => []
  | k, d :: r => mkD mt k d :: mkRow mt (k + cD d) r
def mkRows (mt : Int → ByteArray) : Int → List (List D) → List (List D)
  | k, [] => []
  | k, r :: rs => mkRow mt k r :: mkRows mt (k + cRow r) rs
end
variable {mt : Int → ByteArray}
theorem cRows_append : ∀ a b : List (List D), cRows (a ++ b) = cRows a + cRows b
  | [], b => by simp [cRows]
  | r :: rs, b => by simp only [List.cons_append, cRows, cRows_append rs b]; omega
theorem mkRows_append : ∀ (a b : List (List D)) (k : Int), mkRows mt k (a ++ b) = mkRows mt k a ++ mkRows mt (k + cRows a) b
  | [], b, k => by simp [mkRows, cRows]
  | r :: rs, b, k => by
    simp only [List.cons_append, mkRows, cRows, mkRows_append rs b]
    rw [show k + (cRow r : Int) + (cRows rs : Int) = k + ((cRow r + cRows rs : Nat) : Int) by omega]
theorem mkRows_length : ∀ (a : List (List D)) (k : Int), (mkRows mt k a).length = a.length
  | [], k => by simp [mkRows]
  | r :: rs, k => by simp [mkRows, mkRows_length rs]
mutual
theorem cD_mk : ∀ (d : D) (k : Int), cD (mkD mt k d) = cD d
  | .i _, k => by simp [mkD, cD]
  | .s _, k => by simp [mkD, cD]
  | .b _, k => by simp [mkD, cD]
  | .l rows, k => by simp only [mkD, cD]; exact cRows_mk rows k
theorem cRow_mk : ∀ (d : List D) (k : Int), cRow (mkRow mt k d) = cRow d
  | [], k => by simp [mkRow]
  | d :: r, k => by simp only [mkRow, cRow, cD_mk d k, cRow_mk r]
theorem cRows_mk : ∀ (d : List (List D)) (k : Int), cRows (mkRows mt k d) = cRows d
  | [], k => by simp [mkRows]
  | r :: rs, k => by simp only [mkRows, cRows, cRow_mk r k, cRows_mk rs]
end
/-- The part of the data that is marked, ahead of what is not. -/
theorem cRows_next {a : List (List D)} {i : Nat} (hi : i < a.length) : cRows (a.take (i + 1)) = cRows (a.take i) + cRow (a.getD i []) := by
  rw [List.take_add_one, List.getElem?_eq_getElem hi, cRows_append]
  simp [cRows, List.getD_eq_getElem?_getD, List.getElem?_eq_getElem hi]
theorem cRows_le (a : List (List D)) (i : Nat) : cRows (a.take i) ≤ cRows a := by
  have := cRows_append (a.take i) (a.drop i)
  rw [List.take_append_drop] at this
  omega
def mkAt (mt : Int → ByteArray) (k : Int) (a : List (List D)) (i : Nat) : List (List D) := mkRows mt k (a.take i) ++ a.drop i
theorem mkAt_zero (k : Int) (a : List (List D)) : mkAt mt k a 0 = a := by simp [mkAt, mkRows]
theorem mkAt_all {k : Int} {a : List (List D)} {i : Nat} (h : a.length ≤ i) : mkAt mt k a i = mkRows mt k a := by
  unfold mkAt; rw [List.take_of_length_le h, List.drop_eq_nil_of_le h, List.append_nil]
theorem mkAt_length (k : Int) (a : List (List D)) (i : Nat) : (mkAt mt k a i).length = a.length := by
  unfold mkAt; rw [List.length_append, mkRows_length, ← List.length_append, List.take_append_drop]
theorem mkAt_row {k : Int} {a : List (List D)} {i : Nat} (hi : i < a.length) : (mkAt mt k a i).getD i [] = a.getD i [] := by
  unfold mkAt
  rw [List.getD_eq_getElem?_getD, List.getElem?_append_right (by rw [mkRows_length, List.length_take]; omega), mkRows_length, List.length_take, Nat.min_eq_left (by omega), Nat.sub_self, List.getElem?_drop, Nat.add_zero, ← List.getD_eq_getElem?_getD]
theorem mkAt_next {k : Int} {a : List (List D)} {i : Nat} (hi : i < a.length) {r : List D} (hr : r = mkRow mt (k + cRows (a.take i)) (a.getD i [])) : (mkAt mt k a i).set i r = mkAt mt k a (i + 1) := by
  subst hr
  unfold mkAt
  have hl : (mkRows mt k (a.take i)).length = i := by rw [mkRows_length, List.length_take]; omega
  have h2 : a.getD i [] = a[i] := by simp [List.getD_eq_getElem?_getD, List.getElem?_eq_getElem hi]
  have h1 : a.drop i = a[i] :: a.drop (i + 1) := List.drop_eq_getElem_cons hi
  rw [List.set_append_right _ _ (by omega), hl, Nat.sub_self, h1, List.set_cons_zero, List.take_add_one, List.getElem?_eq_getElem hi, mkRows_append, h2]
  simp [mkRows]
theorem setD_set {rows : List (List D)} {k j : Nat} {d : D} {r : List D} (hk : k < rows.length) : setD (rows.set k r) k j d = rows.set k (r.set j d) := by
  unfold setD
  rw [List.getD_eq_getElem?_getD, List.getElem?_set_self hk, Option.getD_some, List.set_set]
theorem setD_one {rows : List (List D)} {k j : Nat} {d : D} {r : List D} (hr : rows.getD k [] = r) : setD rows k j d = rows.set k (r.set j d) := by
  unfold setD; rw [hr]
theorem mkRows_row {k : Int} {a : List (List D)} {i : Nat} (hi : i < a.length) : (mkRows mt k a).getD i [] = mkRow mt (k + cRows (a.take i)) (a.getD i []) := by
  have h := mkRows_append (mt := mt) (a.take i) (a.drop i) k
  rw [List.take_append_drop] at h
  rw [h, List.getD_eq_getElem?_getD, List.getElem?_append_right (by rw [mkRows_length, List.length_take]; omega), mkRows_length, List.length_take, Nat.min_eq_left (by omega), Nat.sub_self, List.drop_eq_getElem_cons hi]
  simp [mkRows, List.getD_eq_getElem?_getD, List.getElem?_eq_getElem hi]
/-- No more cells than a measure of the data tells. -/
theorem wD_part {rows : List (List D)} {k j : Nat} {rows2 : List (List D)} (hk : k < rows.length) (hj : (rows.getD k [])[j]? = some (.l rows2)) : wD (.l rows2) < wD (.l rows) := by
  have h1 : wRow (rows.getD k []) ≤ wRows rows := by
    have a := wRows_next (a := rows) (i := (k : Int)) (Int.natCast_nonneg _) (by omega)
    have b := wRows_le rows ((k : Int) + 1).toNat
    rw [Int.toNat_natCast] at a
    omega
  have h2 : ∀ (r : List D) (j : Nat), r[j]? = some (.l rows2) → wD (.l rows2) ≤ wRow r := by
    intro r
    induction r with
    | nil => intro j h; simp at h
    | cons d r ih =>
      intro j h
      cases j with
      | zero => obtain rfl := Option.some.inj h; simp only [wRow]; omega
      | succ j => have := ih j (by simpa using h); simp only [wRow]; omega
  have h3 := h2 _ _ hj
  have h4 : wD (.l rows) = rows.length + wRows rows := by simp [wD]
  omega
/-- What holds when a part of the memory has been marked. -/
structure MkEnd (T : Tab) (w w' : World) (F : Nat → Prop) (e : TypeId) (v : Value) (rows : List (List D)) : Prop where
  os : w'.os = w.os
  tape : w'.tape = w.tape
  output : w'.output = w.output
  size : w.heap.size ≤ w'.heap.size
  block : ∀ b, b < w.heap.size → ¬ F b → w'.heap[b]? = w.heap[b]?
  deep : DeepV T w' F (.l e) v (.l rows)
/-- A function that marks slices of this element type. -/
def MkOk (P : Program) (T : Tab) (mt : Int → ByteArray) (f : FuncId) (e : TypeId) (n : Nat) : Prop :=
  ∀ (w : World) (F : Nat → Prop) (v : Value) (rows : List (List D)) (k : Int), 1 ≤ k → k + cRows rows ≤ 4611686018427387904 → wD (.l rows) < n → GlR T w F → DeepV T w F (.l e) v (.l rows) →
    Calls P f #[v, .int .i64 k] w fun x w' => x = .returned (.int .i64 (k + cRows rows)) ∧ MkEnd T w w' F e v (mkRows mt k rows)
theorem DeepV.wf {T : Tab} {w : World} {F : Nat → Prop} {ct : CT} {v : Value} {d : D} (h : DeepV T w F ct v d) : WfD T ct d := by
  induction h with
  | flat F ct v d h1 h2 h3 => exact h3.wf
  | sl F e ty v rows xs G h1 h2 h3 h4 h5 h6 _ ih =>
    refine .sl e ty rows h1 ?_ h3 ih
    rcases h2.2 with ⟨_, hn⟩ | ⟨g, cap, cur, _, _, _, e4, e5, _⟩
    · omega
    · exact Nat.le_trans e4 e5
theorem DeepV.row {T : Tab} {w : World} {F : Nat → Prop} {e : TypeId} {v : Value} {rows : List (List D)} {ty : Ty} (h : DeepV T w F (.l e) v (.l rows)) (he : T e = Option.some ty) {k : Nat} (hk : k < rows.length) : WfRow T ty.cts (rows.getD k []) := by
  obtain ⟨ty', xs, G, h1, h2, h3, h4, h5, h6, h7⟩ := h.inv
  obtain rfl : ty = ty' := Option.some.inj (he.symm.trans h1)
  have hrow : rows[k]? = Option.some (rows.getD k []) := by simp [List.getD_eq_getElem?_getD, List.getElem?_eq_getElem hk]
  exact ⟨h3 k _ hrow, fun j ct d hc hd => (h7 k j ct d _ hrow hc hd).wf⟩
section
variable {T : Tab} {ct : CT} {cts : List CT} {r : List D} {d : D}
theorem WfRow.cut (h : WfRow T (ct :: cts) r) : ∃ d r', r = d :: r' ∧ WfD T ct d ∧ WfRow T cts r' := by
  match r, h with
  | d :: r', h => exact ⟨d, r', rfl, h.2 0 ct d rfl rfl, by simpa using h.1, fun j ct' d' a b => h.2 (j + 1) ct' d' (by simpa using a) (by simpa using b)⟩
  | [], h => have := h.1; simp at this
theorem WfRow.end_ (h : WfRow T [] r) : r = [] := List.length_eq_zero_iff.1 h.1
theorem WfRow.int_ {k : IntKind} (h : WfRow T (.i k :: cts) r) : ∃ n r', r = .i n :: r' ∧ WfRow T cts r' := by
  obtain ⟨d, r', rfl, hd, hr⟩ := h.cut
  cases hd; exact ⟨_, _, rfl, hr⟩
theorem WfRow.str_ (h : WfRow T (.s :: cts) r) : ∃ x r', r = .s x :: r' ∧ WfRow T cts r' := by
  obtain ⟨d, r', rfl, hd, hr⟩ := h.cut
  cases hd; exact ⟨_, _, rfl, hr⟩
theorem WfRow.sl_ {e : TypeId} (h : WfRow T (.l e :: cts) r) : ∃ x r', r = .l x :: r' ∧ WfRow T cts r' := by
  obtain ⟨d, r', rfl, hd, hr⟩ := h.cut
  cases hd with
  | nil => exact ⟨_, _, rfl, hr⟩
  | sl => exact ⟨_, _, rfl, hr⟩
end
section
variable {T : Tab} {w w1 w2 : World} {F G : Nat → Prop} {e e2 : TypeId} {v u : Value} {rows rows1 rows2 : List (List D)}
theorem MkEnd.refl (h : DeepV T w F (.l e) v (.l rows)) : MkEnd T w w F e v rows := ⟨rfl, rfl, rfl, Nat.le_refl _, fun _ _ _ => rfl, h⟩
theorem MkEnd.store (h : MkEnd T w w1 F e v rows1) {g o : Nat} {x : Value} (hF : F g) (hd : DeepV T (w1.setCell ⟨g, o, none⟩ x) F (.l e) v (.l rows2)) : MkEnd T w (w1.setCell ⟨g, o, none⟩ x) F e v rows2 := by
  refine ⟨h.os, h.tape, h.output, by simpa [World.setCell] using h.size, fun b hb hn => ?_, hd⟩
  have hne : g ≠ b := fun e => hn (e ▸ hF)
  rw [← h.block b hb hn]
  simp [World.setCell, Array.getElem?_modify, hne]
theorem MkEnd.below (h : MkEnd T w w1 F e v rows1) (hb : Below w1.heap.size w1 w2) : MkEnd T w w2 F e v rows1 :=
  ⟨hb.os.trans h.os, hb.tape.trans h.tape, hb.output.trans h.output, Nat.le_trans h.size hb.size, fun b h1 h2 => (hb.block b (Nat.lt_of_lt_of_le h1 h.size)).trans (h.block b h1 h2), h.deep.move fun b hF => hb.block b (h.deep.lt b hF)⟩
theorem MkEnd.call (h : MkEnd T w w1 F e v rows1) (h2 : MkEnd T w1 w2 G e2 u rows2) (hG : ∀ b, G b → F b) {rows3 : List (List D)} (hd : DeepV T w2 F (.l e) v (.l rows3)) : MkEnd T w w2 F e v rows3 :=
  ⟨h2.os.trans h.os, h2.tape.trans h.tape, h2.output.trans h.output, Nat.le_trans h.size h2.size, fun b a c => (h2.block b (Nat.lt_of_lt_of_le a h.size) fun hg => c (hG b hg)).trans (h.block b a c), hd⟩
theorem MkEnd.gl (h : MkEnd T w w1 F e v rows1) (hg : GlR T w F) : GlR T w1 F := hg.move ⟨h.size, h.block⟩ fun _ _ h => h
theorem GlR.less (hg : GlR T w F) (h : ∀ b, G b → F b) : GlR T w G := hg.move ⟨Nat.le_refl _, fun _ _ _ => rfl⟩ fun b _ hb => h b hb
end
theorem inK_pos {k : Int} (h1 : 1 ≤ k) (h2 : k ≤ 4611686018427387904) : inK .i64 k := by
  have e1 : IntKind.i64.min = -9223372036854775808 := by decide
  have e2 : IntKind.i64.max = 9223372036854775807 := by decide
  rw [inK, e1, e2]; omega
/-- The text of a number that a mark writes. -/
def spMT (mt : Int → ByteArray) : FSpec where
  pre args := ∃ k : Int, 1 ≤ k ∧ k ≤ 4611686018427387904 ∧ args = [.val false [.i .i64 k]]
  res args := match args with
    | [.val _ [.i _ k]] => .val false [.s (mt k)]
    | _ => .none
theorem FOk.mark {P : Program} {T : Tab} {f : FuncId} {mt : Int → ByteArray} (h : FOk P T f (spMT mt)) {w : World} {F : Nat → Prop} (hF : ∀ b, F b → b < w.heap.size) (hgl : GlR T w F) {k : Int} (h1 : 1 ≤ k) (h2 : k ≤ 4611686018427387904) :
    Calls P f #[.int .i64 k] w fun e w' => e = .returned (.string (mt k)) ∧ (mt k).size ≤ maxLen ∧ Below w.heap.size w w' := by
  have hk : inK .i64 k := by
    have e1 : IntKind.i64.min = -9223372036854775808 := by decide
    have e2 : IntKind.i64.max = 9223372036854775807 := by decide
    rw [inK, e1, e2]; omega
  refine (h.ok rfl w F [.val false [.i .i64 k]] [.int .i64 k] hF (ArgsR.cons ⟨_, rfl, rfl, hk⟩ ArgsR.nil) hgl ⟨k, h1, h2, rfl⟩).mono ?_
  rintro e w' ⟨v, bk, he, hb, ⟨c, hc, hv⟩, _⟩
  obtain rfl : CV.s (mt k) = c := by simpa using hc
  obtain ⟨rfl, hs⟩ := hv
  exact ⟨he, hs, hb⟩
theorem getD_setk {X : List (List D)} {k : Nat} {r : List D} (hk : k < X.length) : (X.set k r).getD k [] = r := by
  rw [List.getD_eq_getElem?_getD, List.getElem?_set_self hk]; rfl
theorem cell_set {X : List (List D)} {k c : Nat} {r : List D} {d d' : D} (hk : k < X.length) (h : ((X.set k r).getD k [])[c]? = some d) (h2 : r[c]? = some d') : d' = d := by
  rw [getD_setk hk, h2] at h; exact Option.some.inj h
theorem cell_one {X : List (List D)} {k c : Nat} {r : List D} {d d' : D} (hr : X.getD k [] = r) (h : (X.getD k [])[c]? = some d) (h2 : r[c]? = some d') : d' = d := by
  rw [hr, h2] at h; exact Option.some.inj h
end Go.Proofs.Ytidjlboppokloaa.Ab
