/- Texts of numbers, of bytes, of words: descriptions of functions of formats, and the library's contracts as such. Loops of formats, in plain Lean: a number's digits from the right; bytes two digits each; words joined. Operations, in plain Lean: when they are valid; their numbers; their words. The words of operations, in plain Lean: which they are, how many and how long. -/
import Derived.Test.YtodddilaniojgaaGreatCPb
import Derived.Lib.ItoaNum
import Derived.Lib.HexFns
import Derived.Lib.Join
import Derived.Lib.LaidTab
import Derived.Lib.AppendIntMem
namespace Go.Proofs.YtodddilaniojgaaGreat.Ab
open Go.RowKit
set_option linter.unusedVariables false
def itoaB (n : Int) : ByteArray := ⟨(Lib.itoa n).toArray⟩
def joinT (xs : List ByteArray) (sep : ByteArray) : ByteArray := ⟨(Lib.join (xs.map (·.data.toList)) sep.data.toList).toArray⟩
def strsOf (rows : List (List D)) : List ByteArray := rows.map fun r => (r.getD 0 default).str
def strRows (xs : List ByteArray) : List (List D) := xs.map fun x => [.s x]
def spItoa : FSpec where
  pre args := ∃ x : Int, args = [.val false [.i .i64 x]]
  res args := match args with
    | [.val _ [.i _ x]] => .val false [.s (itoaB x)]
    | _ => .none
def spJoin : FSpec where
  pre args := ∃ (rows : List (List D)) (sep : ByteArray), rows.length ≤ 140737488355328 ∧ (joinT (strsOf rows) sep).size ≤ 140737488355328 ∧ args = [argS 9 rows, .val false [.s sep]]
  res args := match args with
    | [.val _ [.sl _ _ rows], .val _ [.s sep]] => .val false [.s (joinT (strsOf rows) sep)]
    | _ => .none
theorem decDigits_len (u : Nat) : (Lib.decDigits u).length ≤ u / 2 + 1 := by
  induction u using Nat.strongRecOn with
  | _ u ih =>
    rw [Lib.decDigits]
    split
    · simp
    · have := ih (u / 10) (by omega)
      rw [List.length_append, List.length_singleton]
      omega
theorem resS {x y : ByteArray} (h : x = y) : [CV.s x] = [CV.s y] := by rw [h]
section
variable {P : Program} {T : Tab} {f : FuncId}
end
end Go.Proofs.YtodddilaniojgaaGreat.Ab
namespace Go.Proofs.YtodddilaniojgaaGreat.Ab
open Go.RowKit
set_option linter.unusedVariables false
def pre10 (u : Nat) : List UInt8 := if u = 0 then [] else Lib.decDigits u
theorem pre10_step {u : Nat} (h : u ≠ 0) : pre10 u = pre10 (u / 10) ++ [UInt8.ofNat (48 + u % 10)] := by
  unfold pre10
  rw [if_neg h, Lib.decDigits]
  split
  · rename_i hu
    rw [if_pos (by omega), Nat.mod_eq_of_lt hu]
    rfl
  · rename_i hu
    rw [if_neg (by omega)]
theorem tdiv10 (y : Int) : (y.tdiv 10).natAbs = y.natAbs / 10 := by rw [Int.natAbs_tdiv]; rfl
theorem tmod10 (y : Int) : (y.tmod 10).natAbs = y.natAbs % 10 := by rw [Int.natAbs_tmod]; rfl
theorem tdiv10_sign (y : Int) : (0 ≤ y → 0 ≤ y.tdiv 10) ∧ (y ≤ 0 → y.tdiv 10 ≤ 0) := by
  refine ⟨fun h => Int.tdiv_nonneg h (by decide), fun h => ?_⟩
  have := Int.tdiv_nonneg (a := -y) (b := 10) (by omega) (by decide)
  rw [Int.neg_tdiv] at this
  omega
def FI (x y : Int) (o : ByteArray) : Prop := pre10 y.natAbs ++ o.data.toList = Lib.decDigits x.natAbs ∧ (x < 0 → y ≤ 0) ∧ (0 ≤ x → 0 ≤ y) ∧ y.natAbs ≤ x.natAbs
theorem FI.first {x : Int} (h : x ≠ 0) : FI x x ⟨#[]⟩ := by
  refine ⟨?_, fun h => by omega, fun h => h, Nat.le_refl _⟩
  unfold pre10
  rw [if_neg (by omega)]
  simp
theorem FI.size {x y : Int} {o : ByteArray} (h : FI x y o) (hx : inK .i64 x) : o.size ≤ 4611686018427387906 := by
  have h1 : IntKind.i64.min = -9223372036854775808 := by decide
  have h2 : IntKind.i64.max = 9223372036854775807 := by decide
  rw [inK, h1, h2] at hx
  have h3 := decDigits_len x.natAbs
  have h4 := congrArg List.length h.1
  rw [List.length_append] at h4
  have h5 : o.data.toList.length = o.data.size := Array.length_toList
  show o.data.size ≤ _
  omega
theorem FI.inK {x y : Int} {o : ByteArray} (h : FI x y o) (hx : Ab.inK .i64 x) : Ab.inK .i64 y := by
  have h1 : IntKind.i64.min = -9223372036854775808 := by decide
  have h2 : IntKind.i64.max = 9223372036854775807 := by decide
  have h3 := h.2.2.2
  have h4 := h.2.1
  have h5 := h.2.2.1
  rw [Ab.inK, h1, h2] at hx ⊢
  omega
theorem FI.next {x y n : Int} {o : ByteArray} (h : FI x y o) (hy : y ≠ 0) (hn : n = 48 + (y.tmod 10).natAbs) : FI x (y.tdiv 10) (bytesOf [[.i n]] ++ o) := by
  refine ⟨?_, fun hx => (tdiv10_sign y).2 (h.2.1 hx), fun hx => (tdiv10_sign y).1 (h.2.2.1 hx), by rw [tdiv10]; have := h.2.2.2; omega⟩
  have e : (bytesOf [[D.i n]] ++ o).data.toList = [UInt8.ofNat n.toNat] ++ o.data.toList := by
    simp [bytesOf, D.int]
  rw [e, tdiv10, ← List.append_assoc, ← h.1, pre10_step (u := y.natAbs) (by omega), hn, tmod10]
  congr 3
theorem FI.last {x y : Int} {o : ByteArray} (h : FI x y o) (hy : y = 0) : o.data.toList = Lib.decDigits x.natAbs := by
  have := h.1
  subst hy
  simpa [pre10] using this
theorem FI.neg {x y : Int} {o : ByteArray} (h : FI x y o) (hy : y = 0) (hx : x < 0) : (⟨#[45]⟩ : ByteArray) ++ o = itoaB x := by
  have h1 := h.last hy
  unfold itoaB Lib.itoa
  rw [if_pos hx, ← h1]
  apply ByteArray.ext
  apply Array.ext'
  simp
theorem FI.pos {x y : Int} {o : ByteArray} (h : FI x y o) (hy : y = 0) (hx : ¬ x < 0) : o = itoaB x := by
  have h1 := h.last hy
  have e : x.toNat = x.natAbs := by omega
  unfold itoaB Lib.itoa
  rw [if_neg hx, e, ← h1]
theorem itoa_zero : (⟨#[48]⟩ : ByteArray) = itoaB 0 := by
  unfold itoaB Lib.itoa
  rw [if_neg (by decide), show (0 : Int).toNat = 0 from rfl, Lib.decDigits]
  rfl
theorem FI.dig1 {x y : Int} {o : ByteArray} (h : FI x y o) (hd : ¬ y.tmod 10 < 0) : IntKind.u8.wrap (IntKind.i64.wrap (48 + y.tmod 10)) = 48 + (y.tmod 10).natAbs := by
  have := tmod10 y
  rw [IntKind.wrap_i64, IntKind.wrap_u8]
  omega
theorem FI.dig2 {x y : Int} {o : ByteArray} (h : FI x y o) (hd : y.tmod 10 < 0) : IntKind.u8.wrap (IntKind.i64.wrap (48 + IntKind.i64.wrap (0 - y.tmod 10))) = 48 + (y.tmod 10).natAbs := by
  have := tmod10 y
  rw [IntKind.wrap_i64, IntKind.wrap_i64, IntKind.wrap_u8]
  omega
theorem FI.quo {x y : Int} {o : ByteArray} (h : FI x y o) (hx : Ab.inK .i64 x) : IntKind.i64.wrap (y.tdiv 10) = y.tdiv 10 := by
  have h1 : IntKind.i64.min = -9223372036854775808 := by decide
  have h2 : IntKind.i64.max = 9223372036854775807 := by decide
  have h3 := h.inK hx
  have := tdiv10 y
  rw [Ab.inK, h1, h2] at h3
  rw [IntKind.wrap_i64]
  omega
theorem size_le {a o : ByteArray} (h : a.size = 1) (ho : o.size ≤ 4611686018427387906) : a.size + o.size ≤ maxLen := by simp only [maxLen]; omega
theorem snapS (f : Int → ByteArray → Snap) (s : ByteArray) {a b : Int} (h : a = b) : f a s = f b s := congrArg (fun z => f z s) h
theorem tmod10_inK (y : Int) : inK .i64 (y.tmod 10) := by
  have h1 : IntKind.i64.min = -9223372036854775808 := by decide
  have h2 : IntKind.i64.max = 9223372036854775807 := by decide
  have := tmod10 y
  rw [inK, h1, h2]
  omega
theorem joinTail_snoc (sep : List UInt8) (r : List (List UInt8)) (x : List UInt8) : Lib.joinTail sep (r ++ [x]) = Lib.joinTail sep r ++ (sep ++ x) := by simp [Lib.joinTail]
theorem join_snoc (xs : List (List UInt8)) (x sep : List UInt8) : Lib.join (xs ++ [x]) sep = if xs = [] then x else Lib.join xs sep ++ (sep ++ x) := by
  cases xs with
  | nil => rw [if_pos rfl]; exact Lib.join_one x sep
  | cons y r =>
    rw [if_neg (by simp), List.cons_append, Lib.join_cons, Lib.join_cons, joinTail_snoc, List.append_assoc]
def jn (rows : List (List D)) (sep : ByteArray) (k : Nat) : List UInt8 := Lib.join (((strsOf rows).take k).map (·.data.toList)) sep.data.toList
def byteRows (l : List UInt8) : List (List D) := l.map fun b => [.i (b.toNat : Int)]
theorem strs_at {rows : List (List D)} {k : Nat} (hk : k < rows.length) : (strsOf rows)[k]? = some ((rows.getD k []).getD 0 default).str := by
  simp [strsOf, List.getD_eq_getElem?_getD, List.getElem?_eq_getElem hk]
theorem jn_next {rows : List (List D)} {sep : ByteArray} {k : Nat} (hk : k < rows.length) : jn rows sep (k + 1) = if k = 0 then ((rows.getD k []).getD 0 default).str.data.toList else jn rows sep k ++ (sep.data.toList ++ ((rows.getD k []).getD 0 default).str.data.toList) := by
  unfold jn
  rw [List.take_add_one, strs_at hk, Option.toList_some, List.map_append, List.map_singleton, join_snoc]
  have : (((strsOf rows).take k).map (·.data.toList) = []) ↔ k = 0 := by
    rw [List.map_eq_nil_iff, List.take_eq_nil_iff]
    constructor
    · rintro (h | h)
      · exact h
      · have : rows.length = 0 := by simpa [strsOf] using congrArg List.length h
        omega
    · exact .inl
  simp only [this]
theorem jn_mono {rows : List (List D)} {sep : ByteArray} {k : Nat} (hk : k < rows.length) : (jn rows sep k).length ≤ (jn rows sep (k + 1)).length := by
  rw [jn_next hk]
  split
  · rename_i h
    subst h
    simp [jn, Lib.join_nil]
  · rw [List.length_append]; omega
theorem jn_le {rows : List (List D)} {sep : ByteArray} : ∀ {j k : Nat}, j + k = rows.length → (jn rows sep j).length ≤ (jn rows sep rows.length).length
  | j, 0, h => by rw [show j = rows.length by omega]; exact Nat.le_refl _
  | j, k + 1, h => Nat.le_trans (jn_mono (by omega)) (jn_le (j := j + 1) (k := k) (by omega))
theorem jn_all (rows : List (List D)) (sep : ByteArray) : (⟨(jn rows sep rows.length).toArray⟩ : ByteArray) = joinT (strsOf rows) sep := by
  unfold jn joinT
  rw [List.take_of_length_le (by simp [strsOf])]
theorem bytesOf_byteRows (l : List UInt8) : bytesOf (byteRows l) = ⟨l.toArray⟩ := by
  have : ((byteRows l).map fun r => UInt8.ofNat (r.getD 0 default).int.toNat) = l := by simp [byteRows, D.int, Function.comp_def]
  unfold bytesOf
  rw [this]
theorem byteRows_append (a b : List UInt8) : byteRows (a ++ b) = byteRows a ++ byteRows b := List.map_append
theorem byteRows_length (a : List UInt8) : (byteRows a).length = a.length := List.length_map _
theorem bytesD_eq (s : ByteArray) : bytesD s = byteRows s.data.toList := rfl
theorem snapR (f : List (List D) → Int → Snap) {r r' : List (List D)} {a b : Int} (h : r = r') (h2 : a = b) : f r a = f r' b := by rw [h, h2]
end Go.Proofs.YtodddilaniojgaaGreat.Ab
namespace Go.Proofs.YtodddilaniojgaaGreat.Ab
open Go.RowKit
set_option linter.unusedVariables false
def intOf (r : List D) : Int := (r.getD 0 default).int
end Go.Proofs.YtodddilaniojgaaGreat.Ab
namespace Go.Proofs.YtodddilaniojgaaGreat.Ab
open Go.RowKit
set_option linter.unusedVariables false
theorem decDigits_le : ∀ (k u : Nat), u < 10 ^ (k + 1) → (Lib.decDigits u).length ≤ k + 1
  | 0, u, h => by
    rw [Lib.decDigits, dif_pos (by simpa using h)]
    simp
  | k + 1, u, h => by
    rw [Lib.decDigits]
    split
    · simp
    · have := decDigits_le k (u / 10) (by rw [Nat.div_lt_iff_lt_mul (by decide)]; rw [Nat.pow_succ] at h; exact h)
      rw [List.length_append, List.length_singleton]
      omega
theorem joinTail_len (sep : List UInt8) (M : Nat) : ∀ (xs : List (List UInt8)), (∀ x ∈ xs, x.length ≤ M) → (Lib.joinTail sep xs).length ≤ xs.length * (M + sep.length)
  | [], _ => Nat.zero_le _
  | x :: xs, h => by
    have ih := joinTail_len sep M xs (fun y hy => h y (List.mem_cons_of_mem _ hy))
    have hx := h x (List.mem_cons_self ..)
    have : Lib.joinTail sep (x :: xs) = sep ++ x ++ Lib.joinTail sep xs := by simp [Lib.joinTail]
    rw [this, List.length_append, List.length_append, List.length_cons, Nat.add_mul, Nat.one_mul]
    omega
theorem joinT_len {xs : List ByteArray} {sep : ByteArray} {M : Nat} (h : ∀ x ∈ xs, x.size ≤ M) : (joinT xs sep).size ≤ xs.length * (M + sep.size) := by
  show (Lib.join (xs.map (·.data.toList)) sep.data.toList).toArray.size ≤ _
  rw [List.size_toArray]
  have hs : sep.data.toList.length = sep.size := by rw [Array.length_toList]; rfl
  cases xs with
  | nil => exact Nat.zero_le _
  | cons x xs =>
    have hx : x.data.toList.length ≤ M := by rw [Array.length_toList]; exact h x (List.mem_cons_self ..)
    have := joinTail_len sep.data.toList M (xs.map (·.data.toList)) (fun y hy => by
      obtain ⟨z, hz, rfl⟩ := List.mem_map.1 hy
      rw [Array.length_toList]; exact h z (List.mem_cons_of_mem _ hz))
    rw [hs, List.length_map] at this
    have hj : Lib.join ((x :: xs).map (·.data.toList)) sep.data.toList = x.data.toList ++ Lib.joinTail sep.data.toList (xs.map (·.data.toList)) := Lib.join_cons _ _ _
    rw [hj, List.length_append, List.length_cons, Nat.add_mul, Nat.one_mul]
    omega
end Go.Proofs.YtodddilaniojgaaGreat.Ab
