/- Descriptions of functions on data: comparisons, weights, copies. No program in sight but for the table of types. Sizes of data: what the laws' measures say. No program in sight but for the table of types. Descriptions of copies from type to type, and of types whose data are alike. No program in sight. Weights of parts of data. No program in sight. Small functions of ranges, exactly. -/
import Derived.Test.YtaecbmjmcpdgdaaGreatCTa
namespace Go.Proofs.YtaecbmjmcpdgdaaGreat.Ab
open Go.RowKit
set_option linter.unusedVariables false
noncomputable instance : DecidableEq D := fun a b => Classical.propDecidable (a = b)
abbrev argS (e : TypeId) (rows : List (List D)) : SV := .val false [.sl false e rows]
def rowC (cts : List CT) (row : List D) : List CV := cts.zipIdx.map fun (ct, j) => ofD ct (row.getD j default)
abbrev argG (cts : List CT) (row : List D) : SV := .val true (rowC cts row)
def CV.d : CV → D
  | .i _ n => .i n
  | .b x => .b x
  | .s x => .s x
  | .sl _ _ rows => .l rows
  | _ => .i 0
def csD (cs : List CV) : List D := cs.map CV.d
def WfRow (T : Tab) (cts : List CT) (row : List D) : Prop := row.length = cts.length ∧ ∀ (j : Nat) ct d, cts[j]? = some ct → row[j]? = some d → WfD T ct d
theorem WfD.row {e : TypeId} {te : Ty} {rows : List (List D)} (h : WfD T (.l e) (.l rows)) (he : T e = some te) {k : Nat} (hk : k < rows.length) : WfRow T te.cts (rows.getD k []) := by
  have hr : rows[k]? = some (rows.getD k []) := by simp [List.getD_eq_getElem?_getD, List.getElem?_eq_getElem hk]
  cases h with
  | nil => simp at hk
  | sl _ ty _ h1 h2 h3 h4 =>
    rw [he] at h1
    obtain rfl := Option.some.inj h1
    exact ⟨h3 k _ hr, fun j ct d a b => h4 k j ct d _ hr a b⟩
theorem WfD.len {e : TypeId} {rows : List (List D)} (h : WfD T (.l e) (.l rows)) : rows.length ≤ maxLen := by
  cases h with
  | nil => exact Nat.zero_le _
  | sl _ ty _ h1 h2 h3 h4 => exact h2
theorem WfD.str' {d : D} (h : WfD T .s d) : ∃ x, d = .s x ∧ x.size ≤ maxLen := by cases h with | str x h => exact ⟨x, rfl, h⟩
theorem WfD.sl' {e : TypeId} {d : D} (h : WfD T (.l e) d) : ∃ rows, d = .l rows ∧ WfD T (.l e) (.l rows) := by
  cases h with
  | nil => exact ⟨[], rfl, .nil e⟩
  | sl _ ty rows h1 h2 h3 h4 => exact ⟨rows, rfl, .sl e ty rows h1 h2 h3 h4⟩
noncomputable def eqS (e : TypeId) : FSpec where
  pre args := ∃ a b : List (List D), args = [argS e a, argS e b]
  res args := match args with
    | [.val false [.sl _ _ a], .val false [.sl _ _ b]] => .val false [.b (decide (a = b))]
    | _ => .none
noncomputable def eqG (cts : List CT) : FSpec where
  pre args := ∃ a b : List D, WfRow T cts a ∧ WfRow T cts b ∧ args = [argG cts a, argG cts b]
  res args := match args with
    | [.val true a, .val true b] => .val false [.b (decide (csD a = csD b))]
    | _ => .none
theorem ne_len {a b : List (List D)} (h : ((a.length : Int) != (b.length : Int)) = true) : a ≠ b := by
  intro he; subst he; simp at h
theorem eq_len {a b : List (List D)} (h : ((a.length : Int) != (b.length : Int)) = false) : a.length = b.length := by
  have h' : (a.length : Int) = (b.length : Int) := by simpa using h
  omega
theorem eq_of_takes {a b : List (List D)} {i : Int} (hl : a.length = b.length) (h0 : 0 ≤ i) (hi : i ≤ a.length) (hn : decide (i < (a.length : Int)) = false) (h : a.take i.toNat = b.take i.toNat) : a = b := by
  have hn' : ¬ i < (a.length : Int) := by simpa using hn
  have : i.toNat = a.length := by omega
  rw [this, List.take_length, hl, List.take_length] at h
  exact h
theorem row_at {a : List (List D)} {i : Int} (h0 : 0 ≤ i) (hi : i < a.length) : a[i.toNat]? = some (a.getD i.toNat []) := by
  have : i.toNat < a.length := by omega
  simp [List.getD_eq_getElem?_getD, List.getElem?_eq_getElem this]
theorem takes_next {a b : List (List D)} {i : Int} (h0 : 0 ≤ i) (hi : i < a.length) (hl : a.length = b.length) (h : a.take i.toNat = b.take i.toNat) (he : a.getD i.toNat [] = b.getD i.toNat []) : a.take (i + 1).toNat = b.take (i + 1).toNat := by
  have e : (i + 1).toNat = i.toNat + 1 := by omega
  rw [e, List.take_add_one, List.take_add_one, h, row_at h0 hi, row_at h0 (by omega), he]
theorem wrap_next {i : Int} {n : Nat} (h0 : 0 ≤ i) (hi : i < n) (hn : n ≤ maxLen) : IntKind.i64.wrap (i + 1) = i + 1 := by
  simp only [maxLen] at hn
  rw [IntKind.wrap_i64]; omega
theorem res_no {P : Prop} [Decidable P] (h : ¬ P) : [CV.b false] = [CV.b (decide P)] := by rw [decide_eq_false h]
theorem res_yes {P : Prop} [Decidable P] (h : P) : [CV.b true] = [CV.b (decide P)] := by rw [decide_eq_true h]
theorem WfRow.rows {cts : List CT} {r : List D} (h : WfRow T cts r) {j : Nat} {e : TypeId} (hj : cts[j]? = some (.l e)) : WfD T (.l e) (.l (r.getD j default).rows) := by
  have hl : j < r.length := by rw [h.1]; exact (List.getElem?_eq_some_iff.1 hj).1
  have e1 : r[j]? = some (r.getD j default) := by simp [List.getD_eq_getElem?_getD, List.getElem?_eq_getElem hl]
  obtain ⟨rows, h1, h2⟩ := (h.2 j _ _ hj e1).sl'
  rw [h1]
  exact h2
def sub (r : List D) (k n : Nat) : List D := (List.range n).map fun j => r.getD (k + j) default
theorem WfRow.sub {cts : List CT} {r : List D} (h : WfRow T cts r) (k n : Nat) (hk : k + n ≤ cts.length) : WfRow T ((cts.drop k).take n) (sub r k n) := by
  refine ⟨by simp [Ab.sub]; omega, fun j ct d h1 h2 => ?_⟩
  rw [List.getElem?_take, List.getElem?_drop] at h1
  split at h1
  · rename_i hj
    have e : (Ab.sub r k n)[j]? = some (r.getD (k + j) default) := by simp [Ab.sub, hj]
    rw [e] at h2
    have hl : k + j < r.length := by rw [h.1]; omega
    refine h.2 (k + j) ct d h1 ?_
    rw [← Option.some.inj h2]
    simp [List.getD_eq_getElem?_getD, List.getElem?_eq_getElem hl]
  · cases h1
theorem d_ofD {ct : CT} {d : D} (h : WfD T ct d) : (ofD ct d).d = d := by cases h <;> rfl
theorem csD_rowC {cts : List CT} {r : List D} (h : WfRow T cts r) : csD (rowC cts r) = r := by
  refine List.ext_getElem (by simp [csD, rowC, h.1]) fun j h1 h2 => ?_
  have hj : j < cts.length := by rw [← h.1]; exact h2
  have := d_ofD (h.2 j cts[j] r[j] (List.getElem?_eq_getElem hj) (List.getElem?_eq_getElem h2))
  simp [csD, rowC, List.getD_eq_getElem?_getD, List.getElem?_eq_getElem h2, this]
theorem row_eq {cts : List CT} {r s : List D} (hr : WfRow T cts r) (hs : WfRow T cts s) (h : csD (rowC cts r) = csD (rowC cts s)) : r = s := by rwa [csD_rowC hr, csD_rowC hs] at h
theorem str_inj (x y : ByteArray) : (x.toList = y.toList) = (x = y) := by
  refine propext ⟨fun h => ?_, fun h => by rw [h]⟩
  rw [ByteArray.toList_eq, ByteArray.toList_eq] at h
  exact ByteArray.ext (Array.toList_inj.1 h)
noncomputable def eqSn (e : TypeId) (n : Nat) : FSpec where
  pre args := ∃ a b : List (List D), SizeOf.sizeOf a < n ∧ args = [argS e a, argS e b]
  res := (eqS e).res
noncomputable def eqGn (cts : List CT) (n : Nat) : FSpec where
  pre args := ∃ a b : List D, WfRow T cts a ∧ WfRow T cts b ∧ SizeOf.sizeOf a < n ∧ args = [argG cts a, argG cts b]
  res := (eqG cts).res
theorem FOk.lift {P : Program} {f : FuncId} {s : Nat → FSpec} {s' : FSpec} (h : ∀ n, FOk P T f (s n)) (hs : ∀ args, s'.pre args → ∃ n, (s n).pre args) (hr : ∀ n, (s n).res = s'.res)
    (hb : ∀ n, (s n).bx = s'.bx := by intro n; rfl) (hu : ∀ n, (s n).upd = s'.upd := by intro n; rfl) (hq : ∀ n, (s n).nb = s'.nb := by intro n; rfl) : FOk P T f s' := by
  refine ⟨(h 0).1, fun hbx hnb w X b ob cs args vals h1 h2 h3 h4 h5 h6 h7 hgl hpre => ?_, fun hbx w X args vals hX hargs hgl hpre => ?_, fun hbx hnb w X args vals hX hargs hpre => ?_⟩
  · obtain ⟨n, hn⟩ := hs _ hpre
    have := (h n).okb ((hb n).trans hbx) ((hq n).trans hnb) w X b ob cs args vals h1 h2 h3 h4 h5 h6 h7 hgl hn
    rwa [hr n, hu n] at this
  · obtain ⟨n, hn⟩ := hs args hpre
    have := (h n).ok ((hb n).trans hbx) w X args vals hX hargs hgl hn
    rwa [hr n] at this
  · obtain ⟨n, hn⟩ := hs args hpre
    have := (h n).okn ((hb n).trans hbx) ((hq n).trans hnb) w X args vals hX hargs hn
    rwa [hu n] at this
theorem size_cell {r : List D} {j : Nat} (h : j < r.length) : SizeOf.sizeOf (r.getD j default).rows < SizeOf.sizeOf r := by
  have h1 : r.getD j default ∈ r := by simp [List.getD_eq_getElem?_getD, List.getElem?_eq_getElem h]
  have h2 := List.sizeOf_lt_of_mem h1
  have h3 : SizeOf.sizeOf (r.getD j default).rows ≤ SizeOf.sizeOf (r.getD j default) := by
    cases r.getD j default <;> simp [D.rows]
  omega
theorem size_row {a : List (List D)} {k : Nat} (h : k < a.length) : SizeOf.sizeOf (a.getD k []) < SizeOf.sizeOf a := by
  have h1 : a.getD k [] ∈ a := by simp [List.getD_eq_getElem?_getD, List.getElem?_eq_getElem h]
  exact List.sizeOf_lt_of_mem h1
def envL : List (FuncId × FSpec) → FuncId → Option FSpec
  | [], _ => none
  | (g, s) :: l, f => if f = g then some s else envL l f
theorem envL_nil {P : Program} : EnvOk P T (envL []) := fun f s h => by cases h
theorem envL_cons {P : Program} {g : FuncId} {s : FSpec} {l : List (FuncId × FSpec)} (h : FOk P T g s) (hl : EnvOk P T (envL l)) : EnvOk P T (envL ((g, s) :: l)) := fun f s' hf => by
  simp only [envL] at hf
  split at hf
  · rename_i e; subst e; obtain rfl := Option.some.inj hf; exact h
  · exact hl f s' hf
theorem arg0 {ag : Bool} {cs : List CV} {l : List SV} (h : ∀ a ∈ SV.val ag cs :: l, WfSV T a) {c : CV} (h2 : c ∈ cs) : WfC T c := h _ (List.mem_cons_self ..) c h2
theorem arg1 {x : SV} {ag : Bool} {cs : List CV} {l : List SV} (h : ∀ a ∈ x :: SV.val ag cs :: l, WfSV T a) {c : CV} (h2 : c ∈ cs) : WfC T c := h _ (List.mem_cons_of_mem _ (List.mem_cons_self ..)) c h2
end Go.Proofs.YtaecbmjmcpdgdaaGreat.Ab
namespace Go.Proofs.YtaecbmjmcpdgdaaGreat.Ab
open Go.RowKit
set_option linter.unusedVariables false
mutual
def wD : D → Nat
  | .s x => x.size
  | .l rows => rows.length + wRows rows
  | .i _ => 0
  | .b _ => 0
def wRow : List D → Nat
  | [] => 0
  | d :: r => wD d + wRow r
def wRows : List (List D) → Nat
  | [] => 0
  | r :: rs => wRow r + wRows rs
end
theorem wRows_append : ∀ (a b : List (List D)), wRows (a ++ b) = wRows a + wRows b
  | [], b => by simp [wRows]
  | r :: rs, b => by simp only [List.cons_append, wRows, wRows_append rs b]; omega
theorem wRows_next {a : List (List D)} {i : Int} (h0 : 0 ≤ i) (hi : i < a.length) : wRows (a.take (i + 1).toNat) = wRows (a.take i.toNat) + wRow (a.getD i.toNat []) := by
  have e : (i + 1).toNat = i.toNat + 1 := by omega
  rw [e, List.take_add_one, row_at h0 hi, wRows_append]
  simp [wRows]
theorem wRows_le (a : List (List D)) (k : Nat) : wRows (a.take k) ≤ wRows a := by
  have := wRows_append (a.take k) (a.drop k)
  rw [List.take_append_drop] at this
  omega
theorem wRows_all {a : List (List D)} {i : Int} (h0 : 0 ≤ i) (hi : i ≤ a.length) (hn : decide (i < (a.length : Int)) = false) : wRows (a.take i.toNat) = wRows a := by
  have hn' : ¬ i < (a.length : Int) := by simpa using hn
  have : i.toNat = a.length := by omega
  rw [this, List.take_length]
def szR (l : Int) (w : Nat) : Int := if l < w then -1 else l - w
theorem szR_no {l : Int} {w : Nat} (h : decide (szR l w < 0) = true) (hl : 0 ≤ l) : l < w := by
  have h' := of_decide_eq_true h
  unfold szR at h'
  split at h'
  · assumption
  · omega
theorem szR_yes {l : Int} {w : Nat} (h : decide (szR l w < 0) = false) : (w : Int) ≤ l ∧ szR l w = l - w := by
  have h' : ¬ szR l w < 0 := by simpa using h
  unfold szR at h' ⊢
  split at h'
  · omega
  · rename_i hh; rw [if_neg hh]; exact ⟨by omega, rfl⟩
theorem szR_lt {l : Int} {w : Nat} (h : l < w) : szR l w = -1 := if_pos h
theorem szR_ge {l : Int} {w : Nat} (h : (w : Int) ≤ l) : szR l w = l - w := if_neg (by omega)
theorem sub_no {l : Int} {w : Nat} (h : decide (IntKind.i64.wrap (l - w) < 0) = true) (h0 : 0 ≤ l) (h1 : l ≤ 1048576) (hw : w ≤ maxLen) : l < w := by
  have h' := of_decide_eq_true h
  simp only [maxLen] at hw
  rw [IntKind.wrap_i64] at h'
  omega
theorem sub_yes {l : Int} {w : Nat} (h : decide (IntKind.i64.wrap (l - w) < 0) = false) (h0 : 0 ≤ l) (h1 : l ≤ 1048576) (hw : w ≤ maxLen) : (w : Int) ≤ l ∧ IntKind.i64.wrap (l - w) = l - w := by
  have h' : ¬ IntKind.i64.wrap (l - w) < 0 := by simpa using h
  simp only [maxLen] at hw
  rw [IntKind.wrap_i64] at h' ⊢
  omega
theorem WfRow.str {cts : List CT} {r : List D} (h : WfRow T cts r) {j : Nat} (hj : cts[j]? = some .s) : (r.getD j default).str.size ≤ maxLen := by
  have hl : j < r.length := by rw [h.1]; exact (List.getElem?_eq_some_iff.1 hj).1
  have e1 : r[j]? = some (r.getD j default) := by simp [List.getD_eq_getElem?_getD, List.getElem?_eq_getElem hl]
  obtain ⟨x, h1, h2⟩ := (h.2 j _ _ hj e1).str'
  rw [h1]
  exact h2
def szS (e : TypeId) : FSpec where
  pre args := ∃ (a : List (List D)) (l : Int), 0 ≤ l ∧ l ≤ 1048576 ∧ args = [argS e a, .val false [.i .i64 l]]
  res args := match args with
    | [.val _ cs, .val _ [.i _ l]] => .val false [.i .i64 (szR l (wRow (csD cs)))]
    | _ => .none
def szG (cts : List CT) : FSpec where
  pre args := ∃ (a : List D) (l : Int), WfRow T cts a ∧ 0 ≤ l ∧ l ≤ 1048576 ∧ args = [argG cts a, .val false [.i .i64 l]]
  res := (szS 0).res
def szSn (e : TypeId) (n : Nat) : FSpec where
  pre args := ∃ (a : List (List D)) (l : Int), SizeOf.sizeOf a < n ∧ 0 ≤ l ∧ l ≤ 1048576 ∧ args = [argS e a, .val false [.i .i64 l]]
  res := (szS 0).res
def szGn (cts : List CT) (n : Nat) : FSpec where
  pre args := ∃ (a : List D) (l : Int), WfRow T cts a ∧ SizeOf.sizeOf a < n ∧ 0 ≤ l ∧ l ≤ 1048576 ∧ args = [argG cts a, .val false [.i .i64 l]]
  res := (szS 0).res
theorem wRow_rowC {cts : List CT} {r : List D} (h : WfRow T cts r) : wRow (csD (rowC cts r)) = wRow r := by rw [csD_rowC h]
theorem wRow_sl (o : Bool) (e : TypeId) (a : List (List D)) : wRow (csD [.sl o e a]) = a.length + wRows a := by simp [csD, CV.d, wRow, wD]
theorem wRows_zero {cts : List CT} : ∀ {a : List (List D)}, (∀ k, k < a.length → WfRow T cts (a.getD k [])) → (∀ r, WfRow T cts r → wRow r = 0) → wRows a = 0
  | [], _, _ => by simp [wRows]
  | r :: rs, h, hz => by
    have h0 := hz r (h 0 (by simp))
    have h1 := wRows_zero (a := rs) (fun k hk => h (k + 1) (by simpa using hk)) hz
    simp [wRows, h0, h1]
theorem resI {x y : Int} (h : x = y) : [CV.i .i64 x] = [CV.i .i64 y] := by rw [h]
end Go.Proofs.YtaecbmjmcpdgdaaGreat.Ab
namespace Go.Proofs.YtaecbmjmcpdgdaaGreat.Ab
open Go.RowKit
set_option linter.unusedVariables false
variable {T : Tab}
theorem wRow_le {a : List (List D)} {k : Nat} (hk : k < a.length) : wRow (a.getD k []) ≤ wRows a := by
  have h1 := wRows_next (a := a) (i := (k : Int)) (by omega) (by omega)
  have h2 := wRows_le a ((k : Int) + 1).toNat
  simp only [Int.toNat_natCast] at h1
  omega
def fill (a : List (List D)) (z : List D) (k : Nat) : List (List D) := a.take k ++ List.replicate (a.length - k) z
theorem fill_zero (a : List (List D)) (z : List D) : fill a z 0 = List.replicate a.length z := by simp [fill]
theorem fill_all {a : List (List D)} {z : List D} {i : Int} (h0 : 0 ≤ i) (hi : i ≤ a.length) (hn : decide (i < (a.length : Int)) = false) : fill a z i.toNat = a := by
  have hn' : ¬ i < (a.length : Int) := by simpa using hn
  have : i.toNat = a.length := by omega
  simp [fill, this]
theorem fill_length {a : List (List D)} {z : List D} {k : Nat} (hk : k ≤ a.length) : (fill a z k).length = a.length := by simp [fill]; omega
theorem overlay_all : ∀ (z ds : List D), z.length = ds.length → overlay z 0 ds = ds := by
  intro z ds h
  simp [overlay, ← h]
theorem fill_next {a : List (List D)} {z ds : List D} {i : Int} (h0 : 0 ≤ i) (hi : i < a.length) (hz : z.length = ds.length) (hd : ds = a.getD i.toNat []) : pokeRow (fill a z i.toNat) i.toNat 0 ds = fill a z (i + 1).toNat := by
  have e : (i + 1).toNat = i.toNat + 1 := by omega
  have hk : i.toNat < a.length := by omega
  generalize i.toNat = k at *
  rw [e]
  unfold pokeRow fill
  have h1 : (a.take k ++ List.replicate (a.length - k) z).getD k [] = z := by
    rw [List.getD_eq_getElem?_getD, List.getElem?_append_right (by simp; omega), List.getElem?_replicate]
    have : k - (List.take k a).length < a.length - k := by simp; omega
    rw [if_pos this]; rfl
  rw [h1, overlay_all _ _ hz, List.take_add_one]
  have h2 : a.length - k = (a.length - (k + 1)) + 1 := by omega
  rw [h2, List.replicate_succ, List.set_append_right _ _ (by simp; omega)]
  have h3 : a[k]? = some ds := by rw [hd]; simp [List.getD_eq_getElem?_getD, List.getElem?_eq_getElem hk]
  rw [h3]
  have h4 : min k a.length = k := by omega
  simp [h4]
end Go.Proofs.YtaecbmjmcpdgdaaGreat.Ab
namespace Go.Proofs.YtaecbmjmcpdgdaaGreat.Ab
open Go.RowKit
set_option linter.unusedVariables false
theorem wD_default : wD default = 0 := by rfl
theorem wCell_le : ∀ (a : List D) (j : Nat), wD (a.getD j default) ≤ wRow a
  | [], j => by rw [List.getD_nil, wD_default]; exact Nat.zero_le _
  | d :: r, 0 => by rw [List.getD_cons_zero]; simp only [wRow]; omega
  | d :: r, j + 1 => by rw [List.getD_cons_succ]; have := wCell_le r j; simp only [wRow]; omega
theorem wD_rows (d : D) : d.rows.length + wRows d.rows ≤ wD d := by
  cases d <;> simp [D.rows, wD, wRows]
theorem wRows_cell (a : List D) (j : Nat) : (a.getD j default).rows.length + wRows (a.getD j default).rows ≤ wRow a := Nat.le_trans (wD_rows _) (wCell_le a j)
theorem wRow_append : ∀ (a b : List D), wRow (a ++ b) = wRow a + wRow b
  | [], b => by simp [wRow]
  | d :: r, b => by simp only [List.cons_append, wRow, wRow_append r b]; omega
theorem wSub_eq : ∀ (n k : Nat) (a : List D), k + n ≤ a.length → sub a k n = (a.drop k).take n := by
  intro n k a h
  refine List.ext_getElem? fun i => ?_
  unfold sub
  rw [List.getElem?_map]
  by_cases hi : i < n
  · rw [List.getElem?_range hi, List.getElem?_take, if_pos hi, List.getElem?_drop, Option.map_some, List.getD_eq_getElem?_getD, List.getElem?_eq_getElem (by omega)]
    rfl
  · rw [List.getElem?_eq_none (by simp; omega), List.getElem?_eq_none (by simp; omega)]
    rfl
theorem wSub_le {a : List D} {k n : Nat} (h : k + n ≤ a.length) : wRow (sub a k n) ≤ wRow a := by
  rw [wSub_eq n k a h]
  have h1 := wRow_append (a.take k) (a.drop k)
  have h2 := wRow_append ((a.drop k).take n) ((a.drop k).drop n)
  rw [List.take_append_drop] at h1 h2
  omega
theorem wSubC_le {cts : List CT} {a : List D} (k n : Nat) (wa : WfRow T cts a) (hk : k + n ≤ cts.length) (hw : wRow (csD (rowC cts a)) ≤ 1048576) : wRow (csD (rowC ((cts.drop k).take n) (sub a k n))) ≤ 1048576 := by
  rw [wRow_rowC (wa.sub k n hk)]
  rw [wRow_rowC wa] at hw
  exact Nat.le_trans (wSub_le (by rw [wa.1]; exact hk)) hw
theorem wCellC_le {cts : List CT} {a : List D} (wa : WfRow T cts a) (hw : wRow (csD (rowC cts a)) ≤ 1048576) (j : Nat) : (a.getD j default).rows.length + wRows (a.getD j default).rows ≤ 1048576 := by
  rw [wRow_rowC wa] at hw
  exact Nat.le_trans (wRows_cell a j) hw
end Go.Proofs.YtaecbmjmcpdgdaaGreat.Ab
namespace Go.Proofs.YtaecbmjmcpdgdaaGreat.Ab
open Go.RowKit
set_option linter.unusedVariables false
set_option linter.unusedSimpArgs false
set_option maxRecDepth 100000
def inR (x lo hi : Int) : Bool := decide (lo ≤ x) && decide (x ≤ hi)
def spIn : FSpec where
  pre args := ∃ x lo hi : Int, args = [.val false [.i .i64 x], .val false [.i .i64 lo], .val false [.i .i64 hi]]
  res args := match args with
    | [.val _ [.i _ x], .val _ [.i _ lo], .val _ [.i _ hi]] => .val false [.b (inR x lo hi)]
    | _ => .none
theorem resB {x y : Bool} (h : x = y) : [CV.b x] = [CV.b y] := by rw [h]
end Go.Proofs.YtaecbmjmcpdgdaaGreat.Ab
