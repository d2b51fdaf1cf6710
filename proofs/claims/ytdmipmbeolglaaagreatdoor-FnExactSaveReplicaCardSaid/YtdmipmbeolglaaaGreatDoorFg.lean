/- Loops of formats, in plain Lean: a number's digits from the right; bytes two digits each; words joined. -/
import Derived.Test.YtdmipmbeolglaaaGreatDoorFd
namespace Go.Proofs.YtdmipmbeolglaaaGreatDoor.Ab
open Go.RowKit
set_option linter.unusedVariables false
/-! Numbers -/
def pre10 (u : Nat) : List UInt8 := if u = 0 then [] else Lib.decDigits u
theorem pre10_step {u : Nat} (h : u ≠ 0) : pre10 u = pre10 (u / 10) ++ [UInt8.ofNat (48 + u % 10)] := by
  unfold pre10
  rw [if_neg h, Lib.decDigits]
  split
  · rename_i hu
    rw [if_pos (by omega), Nat.mod_eq_of_lt hu]
    rfl
  · rename_i hu
    rw [if_neg (by omega)]
theorem tdiv10 (y : Int) : (y.tdiv 10).natAbs = y.natAbs / 10 := by rw [Int.natAbs_tdiv]; rfl
theorem tmod10 (y : Int) : (y.tmod 10).natAbs = y.natAbs % 10 := by rw [Int.natAbs_tmod]; rfl
theorem tdiv10_sign (y : Int) : (0 ≤ y → 0 ≤ y.tdiv 10) ∧ (y ≤ 0 → y.tdiv 10 ≤ 0) := by
  refine ⟨fun h => Int.tdiv_nonneg h (by decide), fun h => ?_⟩
  have := Int.tdiv_nonneg (a := -y) (b := 10) (by omega) (by decide)
  rw [Int.neg_tdiv] at this
  omega
theorem tmod10_sign (y : Int) : (0 ≤ y → 0 ≤ y.tmod 10) ∧ (y ≤ 0 → y.tmod 10 ≤ 0) := by
  refine ⟨fun h => Int.tmod_nonneg 10 h, fun h => ?_⟩
  have := Int.tmod_nonneg (a := -y) 10 (by omega)
  rw [Int.neg_tmod] at this
  omega
/-- What stands between two rounds. -/
def FI (x y : Int) (o : ByteArray) : Prop := pre10 y.natAbs ++ o.data.toList = Lib.decDigits x.natAbs ∧ (x < 0 → y ≤ 0) ∧ (0 ≤ x → 0 ≤ y) ∧ y.natAbs ≤ x.natAbs
theorem FI.first {x : Int} (h : x ≠ 0) : FI x x ⟨#[]⟩ := by
  refine ⟨?_, fun h => by omega, fun h => h, Nat.le_refl _⟩
  unfold pre10
  rw [if_neg (by omega)]
  simp
theorem FI.size {x y : Int} {o : ByteArray} (h : FI x y o) (hx : inK .i64 x) : o.size ≤ 4611686018427387906 := by
  have h1 : IntKind.i64.min = -9223372036854775808 := by decide
  have h2 : IntKind.i64.max = 9223372036854775807 := by decide
  rw [inK, h1, h2] at hx
  have h3 := decDigits_len x.natAbs
  have h4 := congrArg List.length h.1
  rw [List.length_append] at h4
  have h5 : o.data.toList.length = o.data.size := Array.length_toList
  show o.data.size ≤ _
  omega
theorem FI.inK {x y : Int} {o : ByteArray} (h : FI x y o) (hx : Ab.inK .i64 x) : Ab.inK .i64 y := by
  have h1 : IntKind.i64.min = -9223372036854775808 := by decide
  have h2 : IntKind.i64.max = 9223372036854775807 := by decide
  have h3 := h.2.2.2
  have h4 := h.2.1
  have h5 := h.2.2.1
  rw [Ab.inK, h1, h2] at hx ⊢
  omega
theorem FI.next {x y n : Int} {o : ByteArray} (h : FI x y o) (hy : y ≠ 0) (hn : n = 48 + (y.tmod 10).natAbs) : FI x (y.tdiv 10) (bytesOf [[.i n]] ++ o) := by
  refine ⟨?_, fun hx => (tdiv10_sign y).2 (h.2.1 hx), fun hx => (tdiv10_sign y).1 (h.2.2.1 hx), by rw [tdiv10]; have := h.2.2.2; omega⟩
  have e : (bytesOf [[D.i n]] ++ o).data.toList = [UInt8.ofNat n.toNat] ++ o.data.toList := by
    simp [bytesOf, D.int]
  rw [e, tdiv10, ← List.append_assoc, ← h.1, pre10_step (u := y.natAbs) (by omega), hn, tmod10]
  congr 3
theorem FI.last {x y : Int} {o : ByteArray} (h : FI x y o) (hy : y = 0) : o.data.toList = Lib.decDigits x.natAbs := by
  have := h.1
  subst hy
  simpa [pre10] using this
theorem FI.neg {x y : Int} {o : ByteArray} (h : FI x y o) (hy : y = 0) (hx : x < 0) : (⟨#[45]⟩ : ByteArray) ++ o = itoaB x := by
  have h1 := h.last hy
  unfold itoaB Lib.itoa
  rw [if_pos hx, ← h1]
  apply ByteArray.ext
  apply Array.ext'
  simp
theorem FI.pos {x y : Int} {o : ByteArray} (h : FI x y o) (hy : y = 0) (hx : ¬ x < 0) : o = itoaB x := by
  have h1 := h.last hy
  have e : x.toNat = x.natAbs := by omega
  unfold itoaB Lib.itoa
  rw [if_neg hx, e, ← h1]
theorem itoa_zero : (⟨#[48]⟩ : ByteArray) = itoaB 0 := by
  unfold itoaB Lib.itoa
  rw [if_neg (by decide), show (0 : Int).toNat = 0 from rfl, Lib.decDigits]
  rfl
theorem FI.dig1 {x y : Int} {o : ByteArray} (h : FI x y o) (hd : ¬ y.tmod 10 < 0) : IntKind.u8.wrap (IntKind.i64.wrap (48 + y.tmod 10)) = 48 + (y.tmod 10).natAbs := by
  have := tmod10 y
  rw [IntKind.wrap_i64, IntKind.wrap_u8]
  omega
theorem FI.dig2 {x y : Int} {o : ByteArray} (h : FI x y o) (hd : y.tmod 10 < 0) : IntKind.u8.wrap (IntKind.i64.wrap (48 + IntKind.i64.wrap (0 - y.tmod 10))) = 48 + (y.tmod 10).natAbs := by
  have := tmod10 y
  rw [IntKind.wrap_i64, IntKind.wrap_i64, IntKind.wrap_u8]
  omega
theorem FI.quo {x y : Int} {o : ByteArray} (h : FI x y o) (hx : Ab.inK .i64 x) : IntKind.i64.wrap (y.tdiv 10) = y.tdiv 10 := by
  have h1 : IntKind.i64.min = -9223372036854775808 := by decide
  have h2 : IntKind.i64.max = 9223372036854775807 := by decide
  have h3 := h.inK hx
  have := tdiv10 y
  rw [Ab.inK, h1, h2] at h3
  rw [IntKind.wrap_i64]
  omega
theorem size_le {a o : ByteArray} (h : a.size = 1) (ho : o.size ≤ 4611686018427387906) : a.size + o.size ≤ maxLen := by simp only [maxLen]; omega
theorem snapS (f : Int → ByteArray → Snap) (s : ByteArray) {a b : Int} (h : a = b) : f a s = f b s := congrArg (fun z => f z s) h
theorem tmod10_inK (y : Int) : inK .i64 (y.tmod 10) := by
  have h1 : IntKind.i64.min = -9223372036854775808 := by decide
  have h2 : IntKind.i64.max = 9223372036854775807 := by decide
  have := tmod10 y
  rw [inK, h1, h2]
  omega
/-! Bytes, two digits each -/
abbrev DIG : ByteArray := ⟨#[48, 49, 50, 51, 52, 53, 54, 55, 56, 57, 97, 98, 99, 100, 101, 102]⟩
def encRows (s : ByteArray) (k : Nat) : List (List D) := (s.data.toList.take k).flatMap fun b => [[.i ((Lib.Hx.digit (b.toNat / 16)).toNat : Int)], [.i ((Lib.Hx.digit (b.toNat % 16)).toNat : Int)]]
theorem dig_at : ∀ n < 16, (DIG.data.getD n 0).toNat = (Lib.Hx.digit n).toNat := by decide +kernel
theorem enc_at {s : ByteArray} {k : Nat} (hk : k < s.size) : s.data.toList[k]? = some (s.data.getD k 0) := by
  have : k < s.data.size := hk
  rw [Array.getElem?_toList, Array.getElem?_eq_getElem this, Array.getD_eq_getD_getElem?, Array.getElem?_eq_getElem this]
  rfl
theorem encRows_length (s : ByteArray) (k : Nat) : (encRows s k).length ≤ 2 * k := by
  have : ∀ (l : List UInt8), (l.flatMap fun b => [[D.i ((Lib.Hx.digit (b.toNat / 16)).toNat : Int)], [D.i ((Lib.Hx.digit (b.toNat % 16)).toNat : Int)]]).length = 2 * l.length := by
    intro l
    induction l with
    | nil => rfl
    | cons a r ih => simp only [List.flatMap_cons, List.length_append, ih, List.length_cons, List.length_nil]; omega
  unfold encRows
  rw [this, List.length_take]
  omega
def hiD (b : UInt8) : Int := IntKind.i64.wrap ((IntKind.i64.wrap (b.toNat : Int)).tdiv 16)
def loD (b : UInt8) : Int := (IntKind.i64.wrap (b.toNat : Int)).tmod 16
theorem hiD_eq (b : UInt8) : hiD b = ((b.toNat / 16 : Nat) : Int) := by
  have hlt : b.toNat < 256 := UInt8.toNat_lt _
  unfold hiD
  rw [IntKind.wrap_i64 (b.toNat : Int), show ((b.toNat : Int) + 9223372036854775808) % 18446744073709551616 - 9223372036854775808 = (b.toNat : Int) by omega, Int.tdiv_eq_ediv_of_nonneg (by omega), IntKind.wrap_i64]
  omega
theorem loD_eq (b : UInt8) : loD b = ((b.toNat % 16 : Nat) : Int) := by
  have hlt : b.toNat < 256 := UInt8.toNat_lt _
  unfold loD
  rw [IntKind.wrap_i64 (b.toNat : Int), show ((b.toNat : Int) + 9223372036854775808) % 18446744073709551616 - 9223372036854775808 = (b.toNat : Int) by omega, Int.tmod_eq_emod_of_nonneg (by omega)]
  omega
theorem dig_hi (b : UInt8) : ((DIG.data.getD (hiD b).toNat 0).toNat : Int) = ((Lib.Hx.digit (b.toNat / 16)).toNat : Int) := by
  have hlt : b.toNat < 256 := UInt8.toNat_lt _
  rw [hiD_eq, Int.toNat_natCast, dig_at _ (by omega)]
theorem dig_lo (b : UInt8) : ((DIG.data.getD (loD b).toNat 0).toNat : Int) = ((Lib.Hx.digit (b.toNat % 16)).toNat : Int) := by
  have hlt : b.toNat < 256 := UInt8.toNat_lt _
  rw [loD_eq, Int.toNat_natCast, dig_at _ (by omega)]
theorem hiD_range (b : UInt8) : 0 ≤ hiD b ∧ hiD b < 16 := by
  have hlt : b.toNat < 256 := UInt8.toNat_lt _
  rw [hiD_eq]; omega
theorem loD_range (b : UInt8) : 0 ≤ loD b ∧ loD b < 16 := by
  rw [loD_eq]; omega
theorem encRows_next {s : ByteArray} {k : Nat} (hk : k < s.size) : encRows s k ++ [[.i ((DIG.data.getD (hiD (s.data.getD k 0)).toNat 0).toNat : Int)], [.i ((DIG.data.getD (loD (s.data.getD k 0)).toNat 0).toNat : Int)]] = encRows s (k + 1) := by
  rw [dig_hi, dig_lo]
  unfold encRows
  rw [List.take_add_one, enc_at hk, List.flatMap_append]
  rfl
theorem encRows_all {s : ByteArray} {k : Nat} (hk : k = s.size) (hs : s.data.toList ≠ []) : bytesOf (encRows s k) = encB s := by
  rw [encB_yes hs]
  unfold bytesOf encRows
  rw [List.take_of_length_le (by rw [hk, Array.length_toList]; exact Nat.le_refl _)]
  have : ∀ (l : List UInt8), ((l.flatMap fun b => [[D.i ((Lib.Hx.digit (b.toNat / 16)).toNat : Int)], [D.i ((Lib.Hx.digit (b.toNat % 16)).toNat : Int)]]).map fun r => UInt8.ofNat (r.getD 0 default).int.toNat) = Lib.Hx.encode l := by
    intro l
    induction l with
    | nil => rfl
    | cons a r ih =>
      rw [List.flatMap_cons, List.map_append, ih, Lib.Hx.encode_cons]
      simp [D.int]
  rw [this]
/-! Words joined -/
theorem joinTail_snoc (sep : List UInt8) (r : List (List UInt8)) (x : List UInt8) : Lib.joinTail sep (r ++ [x]) = Lib.joinTail sep r ++ (sep ++ x) := by simp [Lib.joinTail]
theorem join_snoc (xs : List (List UInt8)) (x sep : List UInt8) : Lib.join (xs ++ [x]) sep = if xs = [] then x else Lib.join xs sep ++ (sep ++ x) := by
  cases xs with
  | nil => rw [if_pos rfl]; exact Lib.join_one x sep
  | cons y r =>
    rw [if_neg (by simp), List.cons_append, Lib.join_cons, Lib.join_cons, joinTail_snoc, List.append_assoc]
/-- What has been joined of the first k words. -/
def jn (rows : List (List D)) (sep : ByteArray) (k : Nat) : List UInt8 := Lib.join (((strsOf rows).take k).map (·.data.toList)) sep.data.toList
def byteRows (l : List UInt8) : List (List D) := l.map fun b => [.i (b.toNat : Int)]
theorem strs_at {rows : List (List D)} {k : Nat} (hk : k < rows.length) : (strsOf rows)[k]? = some ((rows.getD k []).getD 0 default).str := by
  simp [strsOf, List.getD_eq_getElem?_getD, List.getElem?_eq_getElem hk]
theorem jn_next {rows : List (List D)} {sep : ByteArray} {k : Nat} (hk : k < rows.length) : jn rows sep (k + 1) = if k = 0 then ((rows.getD k []).getD 0 default).str.data.toList else jn rows sep k ++ (sep.data.toList ++ ((rows.getD k []).getD 0 default).str.data.toList) := by
  unfold jn
  rw [List.take_add_one, strs_at hk, Option.toList_some, List.map_append, List.map_singleton, join_snoc]
  have : (((strsOf rows).take k).map (·.data.toList) = []) ↔ k = 0 := by
    rw [List.map_eq_nil_iff, List.take_eq_nil_iff]
    constructor
    · rintro (h | h)
      · exact h
      · have : rows.length = 0 := by simpa [strsOf] using congrArg List.length h
        omega
    · exact .inl
  simp only [this]
theorem jn_mono {rows : List (List D)} {sep : ByteArray} {k : Nat} (hk : k < rows.length) : (jn rows sep k).length ≤ (jn rows sep (k + 1)).length := by
  rw [jn_next hk]
  split
  · rename_i h
    subst h
    simp [jn, Lib.join_nil]
  · rw [List.length_append]; omega
theorem jn_le {rows : List (List D)} {sep : ByteArray} : ∀ {j k : Nat}, j + k = rows.length → (jn rows sep j).length ≤ (jn rows sep rows.length).length
  | j, 0, h => by rw [show j = rows.length by omega]; exact Nat.le_refl _
  | j, k + 1, h => Nat.le_trans (jn_mono (by omega)) (jn_le (j := j + 1) (k := k) (by omega))
theorem jn_all (rows : List (List D)) (sep : ByteArray) : (⟨(jn rows sep rows.length).toArray⟩ : ByteArray) = joinT (strsOf rows) sep := by
  unfold jn joinT
  rw [List.take_of_length_le (by simp [strsOf])]
theorem bytesOf_byteRows (l : List UInt8) : bytesOf (byteRows l) = ⟨l.toArray⟩ := by
  have : ((byteRows l).map fun r => UInt8.ofNat (r.getD 0 default).int.toNat) = l := by simp [byteRows, D.int, Function.comp_def]
  unfold bytesOf
  rw [this]
theorem byteRows_append (a b : List UInt8) : byteRows (a ++ b) = byteRows a ++ byteRows b := List.map_append
theorem byteRows_length (a : List UInt8) : (byteRows a).length = a.length := List.length_map _
theorem bytesD_eq (s : ByteArray) : bytesD s = byteRows s.data.toList := rfl
theorem snapR (f : List (List D) → Int → Snap) {r r' : List (List D)} {a b : Int} (h : r = r') (h2 : a = b) : f r a = f r' b := by rw [h, h2]
theorem loD_inK (b : UInt8) : inK .i64 (loD b) := by
  have h1 : IntKind.i64.min = -9223372036854775808 := by decide
  have h2 : IntKind.i64.max = 9223372036854775807 := by decide
  have := loD_range b
  rw [inK, h1, h2]
  omega
/-! Values of a number's and of an error's kind -/
def errs : List ByteArray := [⟨#[]⟩, ⟨#[109, 105, 115, 115, 105, 110, 103]⟩, ⟨#[100, 117, 112, 108, 105, 99, 97, 116, 101]⟩, ⟨#[99, 121, 99, 108, 101]⟩, ⟨#[116, 121, 112, 101]⟩, ⟨#[114, 97, 110, 103, 101]⟩, ⟨#[108, 105, 109, 105, 116]⟩, ⟨#[99, 111, 108, 117, 109, 110]⟩, ⟨#[115, 121, 110, 116, 97, 120]⟩]
def errB (c : Int) : ByteArray := errs.getD c.toNat ⟨#[]⟩
/-- A number's or an error's text. Cells: kind, number, .. -/
def fmtVal (a : List D) : ByteArray := if (a.getD 0 default).int = 1 then itoaB (a.getD 1 default).int else ⟨#[101, 114, 114, 111, 114, 32]⟩ ++ errB (a.getD 1 default).int
theorem errB_size (c : Int) : (errB c).size ≤ 9 := by
  unfold errB
  by_cases h : c.toNat < 9
  · have : ∀ n < 9, (errs.getD n ⟨#[]⟩).size ≤ 9 := by decide
    exact this _ h
  · rw [List.getD_eq_getElem?_getD, List.getElem?_eq_none (by simp [errs]; omega)]
    decide
theorem errs_at {x : Int} (h0 : 1 ≤ x) (h1 : x ≤ 8) : (((strRows errs).getD x.toNat []).getD 0 default).str = errB x := by
  have : ∀ n < 9, (((strRows errs).getD n []).getD 0 default).str = errs.getD n ⟨#[]⟩ := by
    intro n hn
    match n, hn with
    | 0, _ => rfl
    | 1, _ => rfl
    | 2, _ => rfl
    | 3, _ => rfl
    | 4, _ => rfl
    | 5, _ => rfl
    | 6, _ => rfl
    | 7, _ => rfl
    | 8, _ => rfl
  exact this _ (by omega)
theorem errs_at' {x : Int} (h0 : 1 ≤ x) (h1 : x ≤ 8) : (((strRows errs.tail).getD (IntKind.i64.wrap (x - 1)).toNat []).getD 0 default).str = errB x := by
  have : ∀ n < 8, (((strRows errs.tail).getD n []).getD 0 default).str = errs.getD (n + 1) ⟨#[]⟩ := by
    intro n hn
    match n, hn with
    | 0, _ => rfl
    | 1, _ => rfl
    | 2, _ => rfl
    | 3, _ => rfl
    | 4, _ => rfl
    | 5, _ => rfl
    | 6, _ => rfl
    | 7, _ => rfl
  rw [show (IntKind.i64.wrap (x - 1)).toNat = x.toNat - 1 by rw [IntKind.wrap_i64]; omega, this _ (by omega)]
  unfold errB
  rw [show x.toNat - 1 + 1 = x.toNat by omega]
def spErr : FSpec where
  pre args := ∃ x : Int, 1 ≤ x ∧ x ≤ 8 ∧ args = [.val false [.i .i64 x]]
  res args := match args with
    | [.val _ [.i _ x]] => .val false [.s (errB x)]
    | _ => .none
def spErrs : FSpec where
  pre args := args = []
  res _ := argS 9 (strRows errs)
/-- What is asked of a value that is to be written. -/
def GoodV (a : List D) : Prop := (a.getD 5 default).rows.length + (a.getD 6 default).rows.length ≤ 4611686018427387904 ∧ ((a.getD 0 default).int = 1 ∨ (a.getD 0 default).int = 6) ∧ okVal a = true
def spText (T : Tab) (cts : List CT) : FSpec where
  pre args := ∃ a : List D, WfRow T cts a ∧ GoodV a ∧ args = [argG cts a]
  res args := match args with
    | [.val _ cs] => .val false [.s (fmtVal (csD cs))]
    | _ => .none
theorem GoodV.err {a : List D} (h : GoodV a) (h6 : (a.getD 0 default).int = 6) : 1 ≤ (a.getD 1 default).int ∧ (a.getD 1 default).int ≤ 8 := by
  have := h.2.2
  unfold okVal at this
  rw [if_neg (by rw [h6]; decide)] at this
  simp only [Bool.and_eq_true, inR, decide_eq_true_eq] at this
  exact this.2
theorem fmt_num {a : List D} (h : (a.getD 0 default).int = 1) : fmtVal a = itoaB (a.getD 1 default).int := if_pos h
theorem fmt_err {a : List D} (h : (a.getD 0 default).int = 6) : fmtVal a = ⟨#[101, 114, 114, 111, 114, 32]⟩ ++ errB (a.getD 1 default).int := if_neg (by rw [h]; decide)
end Go.Proofs.YtdmipmbeolglaaaGreatDoor.Ab
