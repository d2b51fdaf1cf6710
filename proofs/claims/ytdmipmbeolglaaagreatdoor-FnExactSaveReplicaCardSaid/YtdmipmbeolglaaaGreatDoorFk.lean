/- The words of operations, in plain Lean: which they are, how many and how long. -/
import Derived.Test.YtdmipmbeolglaaaGreatDoorFh
namespace Go.Proofs.YtdmipmbeolglaaaGreatDoor.Ab
open Go.RowKit
set_option linter.unusedVariables false
def numRow (r : List D) : Bool := inR (intOf r) (-1000000000) 1000000000
abbrev numI (x : Int) : List D := [.i x]
abbrev numW (x : Int) : List D := [.s (itoaB x)]
abbrev encW (x : ByteArray) : List D := [.s (encB x)]
abbrev ints (a : List D) (js : List Nat) : List (List D) := js.map fun j => numI (a.getD j default).int
def opNums (a : List D) : List (List D) := ints a [0, 1, 2] ++ (a.getD 3 default).rows ++ ints a [4, 5, 6, 7, 8, 11]
def rdNums (r : List D) : List (List D) := ints r [0, 1, 2]
abbrev rds (a : List D) : List (List D) := (a.getD 16 default).rows
def opNumsTo (a : List D) (i : Nat) : List (List D) := opNums a ++ ints a [14, 15] ++ ((rds a).take i).flatMap rdNums
def goodRd (r : List D) : Bool := ((r.getD 4 default).int == 1 || (r.getD 4 default).int == 6) && okVal (sub r 4 7)
def goodOp (a : List D) : Bool := (rds a).all goodRd && ((opNumsTo a (rds a).length).all numRow && okOp a)
def rowW (r : List D) : List D := numW (intOf r)
def rdWords (r : List D) : List (List D) := [numW (r.getD 0 default).int, numW (r.getD 1 default).int, numW (r.getD 2 default).int, encW (r.getD 3 default).str, encW (fmtVal (sub r 4 7))]
def opWords1 (a : List D) : List (List D) := (opNums a).map rowW ++ [encW (a.getD 9 default).str, encW (a.getD 10 default).str, encW (a.getD 12 default).str, encW (a.getD 13 default).str]
def opWords2 (a : List D) : List (List D) := opWords1 a ++ [numW (a.getD 14 default).int, numW (a.getD 15 default).int, numW ((rds a).length : Int)]
def opWordsTo (a : List D) (i : Nat) : List (List D) := opWords2 a ++ ((rds a).take i).flatMap rdWords
def opText (a : List D) : ByteArray := if goodOp a then joinT (strsOf (opWordsTo a (rds a).length)) ⟨#[32]⟩ else ⟨#[]⟩
/-- Operations that are not too large. -/
def SmO (a : List D) : Prop := (a.getD 3 default).rows.length ≤ 1048576 ∧ (rds a).length ≤ 1048576 ∧ ((a.getD 9 default).str.size ≤ 1048576 ∧ (a.getD 10 default).str.size ≤ 1048576 ∧ (a.getD 12 default).str.size ≤ 1048576 ∧ (a.getD 13 default).str.size ≤ 1048576) ∧
  ∀ i, i < (rds a).length → (((rds a).getD i []).getD 3 default).str.size ≤ 1048576 ∧ (((rds a).getD i []).getD 9 default).rows.length + (((rds a).getD i []).getD 10 default).rows.length ≤ 2097152
theorem opNums_length (a : List D) : (opNums a).length = (a.getD 3 default).rows.length + 9 := by simp [opNums, ints]
theorem flat_len (f : List D → List (List D)) (k : Nat) (h : ∀ r, (f r).length = k) (l : List (List D)) : (l.flatMap f).length = k * l.length := by
  induction l with
  | nil => rfl
  | cons r l ih => rw [List.flatMap_cons, List.length_append, ih, h, List.length_cons, Nat.mul_add, Nat.mul_one, Nat.add_comm]
theorem opNumsTo_length {a : List D} {i : Nat} (hi : i ≤ (rds a).length) : (opNumsTo a i).length = (a.getD 3 default).rows.length + 11 + 3 * i := by
  simp only [opNumsTo, List.length_append, opNums_length, flat_len rdNums 3 (fun _ => rfl), List.length_take, ints, List.length_map, List.length_cons, List.length_nil, Nat.min_eq_left hi]
theorem opWords1_length (a : List D) : (opWords1 a).length = (a.getD 3 default).rows.length + 13 := by simp [opWords1, opNums_length]
theorem opWords2_length (a : List D) : (opWords2 a).length = (a.getD 3 default).rows.length + 16 := by simp [opWords2, opWords1_length]
theorem opWordsTo_length {a : List D} {i : Nat} (hi : i ≤ (rds a).length) : (opWordsTo a i).length = (a.getD 3 default).rows.length + 16 + 5 * i := by
  simp only [opWordsTo, List.length_append, opWords2_length, flat_len rdWords 5 (fun _ => rfl), List.length_take, Nat.min_eq_left hi]
theorem flat_next {f : List D → List (List D)} {rows : List (List D)} {i : Int} (h0 : 0 ≤ i) (hi : i < rows.length) : (rows.take (i + 1).toNat).flatMap f = (rows.take i.toNat).flatMap f ++ f (rows.getD i.toNat []) := by
  have e : (i + 1).toNat = i.toNat + 1 := by omega
  rw [e, List.take_add_one, row_at h0 hi, List.flatMap_append]
  simp
theorem map_next {f : List D → List D} {rows : List (List D)} {i : Int} (h0 : 0 ≤ i) (hi : i < rows.length) : (rows.take (i + 1).toNat).map f = (rows.take i.toNat).map f ++ [f (rows.getD i.toNat [])] := by
  have e : (i + 1).toNat = i.toNat + 1 := by omega
  rw [e, List.take_add_one, row_at h0 hi, List.map_append]
  simp
theorem opNumsTo_next {a : List D} {i : Int} (h0 : 0 ≤ i) (hi : i < (rds a).length) : opNumsTo a i.toNat ++ rdNums ((rds a).getD i.toNat []) = opNumsTo a (i + 1).toNat := by
  rw [opNumsTo, opNumsTo, flat_next h0 hi, List.append_assoc]
theorem opWordsTo_next {a : List D} {i : Int} (h0 : 0 ≤ i) (hi : i < (rds a).length) : opWordsTo a i.toNat ++ rdWords ((rds a).getD i.toNat []) = opWordsTo a (i + 1).toNat := by
  rw [opWordsTo, opWordsTo, flat_next h0 hi, List.append_assoc]
/-! Sizes -/
theorem decDigits_le : ∀ (k u : Nat), u < 10 ^ (k + 1) → (Lib.decDigits u).length ≤ k + 1
  | 0, u, h => by
    rw [Lib.decDigits, dif_pos (by simpa using h)]
    simp
  | k + 1, u, h => by
    rw [Lib.decDigits]
    split
    · simp
    · have := decDigits_le k (u / 10) (by rw [Nat.div_lt_iff_lt_mul (by decide)]; rw [Nat.pow_succ] at h; exact h)
      rw [List.length_append, List.length_singleton]
      omega
theorem itoaB_small {n : Int} (h : inR n (-1000000000) 1000000000 = true) : (itoaB n).size ≤ 11 := by
  simp only [inR, Bool.and_eq_true, decide_eq_true_eq] at h
  show (Lib.itoa n).toArray.size ≤ _
  rw [List.size_toArray]
  unfold Lib.itoa
  split
  · have := decDigits_le 9 n.natAbs (by simp only [Nat.reduceAdd, Nat.reducePow]; omega)
    rw [List.length_cons]
    omega
  · have := decDigits_le 9 n.toNat (by simp only [Nat.reduceAdd, Nat.reducePow]; omega)
    omega
theorem joinTail_len (sep : List UInt8) (M : Nat) : ∀ (xs : List (List UInt8)), (∀ x ∈ xs, x.length ≤ M) → (Lib.joinTail sep xs).length ≤ xs.length * (M + sep.length)
  | [], _ => Nat.zero_le _
  | x :: xs, h => by
    have ih := joinTail_len sep M xs (fun y hy => h y (List.mem_cons_of_mem _ hy))
    have hx := h x (List.mem_cons_self ..)
    have : Lib.joinTail sep (x :: xs) = sep ++ x ++ Lib.joinTail sep xs := by simp [Lib.joinTail]
    rw [this, List.length_append, List.length_append, List.length_cons, Nat.add_mul, Nat.one_mul]
    omega
theorem joinT_len {xs : List ByteArray} {sep : ByteArray} {M : Nat} (h : ∀ x ∈ xs, x.size ≤ M) : (joinT xs sep).size ≤ xs.length * (M + sep.size) := by
  show (Lib.join (xs.map (·.data.toList)) sep.data.toList).toArray.size ≤ _
  rw [List.size_toArray]
  have hs : sep.data.toList.length = sep.size := by rw [Array.length_toList]; rfl
  cases xs with
  | nil => exact Nat.zero_le _
  | cons x xs =>
    have hx : x.data.toList.length ≤ M := by rw [Array.length_toList]; exact h x (List.mem_cons_self ..)
    have := joinTail_len sep.data.toList M (xs.map (·.data.toList)) (fun y hy => by
      obtain ⟨z, hz, rfl⟩ := List.mem_map.1 hy
      rw [Array.length_toList]; exact h z (List.mem_cons_of_mem _ hz))
    rw [hs, List.length_map] at this
    have hj : Lib.join ((x :: xs).map (·.data.toList)) sep.data.toList = x.data.toList ++ Lib.joinTail sep.data.toList (xs.map (·.data.toList)) := Lib.join_cons _ _ _
    rw [hj, List.length_append, List.length_cons, Nat.add_mul, Nat.one_mul]
    omega
def wordOk (M : Nat) (r : List D) : Prop := (r.getD 0 default).str.size ≤ M
theorem fmtVal_size {a : List D} (h : okVal a = true) (hk : (a.getD 0 default).int = 1 ∨ (a.getD 0 default).int = 6) : (fmtVal a).size ≤ 15 := by
  rcases hk with h1 | h6
  · rw [fmt_num h1]
    simp only [okVal, h1, if_true, Bool.and_eq_true] at h
    have hn : inR (a.getD 1 default).int (-1000000000) 1000000000 = true := by simp_all
    have := itoaB_small hn
    omega
  · rw [fmt_err h6, ByteArray.size_append]
    have := errB_size (a.getD 1 default).int
    show 6 + _ ≤ _
    omega
theorem goodRd_kind {r : List D} (h : goodRd r = true) : ((sub r 4 7).getD 0 default).int = 1 ∨ ((sub r 4 7).getD 0 default).int = 6 := by
  simp only [goodRd, Bool.and_eq_true, Bool.or_eq_true, beq_iff_eq] at h
  exact h.1
theorem goodRd_val {r : List D} (h : goodRd r = true) : okVal (sub r 4 7) = true := by
  simp only [goodRd, Bool.and_eq_true] at h
  exact h.2
theorem opText_size {a : List D} (hs : SmO a) (hg : goodOp a = true) : (joinT (strsOf (opWordsTo a (rds a).length)) ⟨#[32]⟩).size ≤ 140737488355328 := by
  have hl : (strsOf (opWordsTo a (rds a).length)).length = (a.getD 3 default).rows.length + 16 + 5 * (rds a).length := by rw [strsOf, List.length_map, opWordsTo_length (Nat.le_refl _)]
  simp only [goodOp, Bool.and_eq_true] at hg
  have hw : ∀ r ∈ opWordsTo a (rds a).length, wordOk 2097153 r := by
    have nums : ∀ r ∈ opNumsTo a (rds a).length, (itoaB (intOf r)).size ≤ 2097153 := fun r hr => Nat.le_trans (itoaB_small (List.all_eq_true.1 hg.2.1 r hr)) (by decide)
    have enc : ∀ s : ByteArray, s.size ≤ 1048576 → (encB s).size ≤ 2097153 := fun s h => by have := encB_size s; omega
    have n14 : (itoaB (a.getD 14 default).int).size ≤ 2097153 := nums (numI (a.getD 14 default).int) (by simp [opNumsTo, ints])
    have n15 : (itoaB (a.getD 15 default).int).size ≤ 2097153 := nums (numI (a.getD 15 default).int) (by simp [opNumsTo, ints])
    have nl : (itoaB ((rds a).length : Int)).size ≤ 2097153 := Nat.le_trans (itoaB_small (by have := hs.2.1; simp only [inR, Bool.and_eq_true, decide_eq_true_eq]; omega)) (by decide)
    intro r hr
    unfold opWordsTo opWords2 opWords1 at hr
    rcases List.mem_append.1 hr with hr | hr
    · rcases List.mem_append.1 hr with hr | hr
      · rcases List.mem_append.1 hr with hr | hr
        · obtain ⟨x, hx, rfl⟩ := List.mem_map.1 hr
          exact nums x (by unfold opNumsTo; exact List.mem_append_left _ (List.mem_append_left _ hx))
        · simp only [List.mem_cons, List.not_mem_nil, or_false] at hr
          rcases hr with rfl | rfl | rfl | rfl
          · exact enc _ hs.2.2.1.1
          · exact enc _ hs.2.2.1.2.1
          · exact enc _ hs.2.2.1.2.2.1
          · exact enc _ hs.2.2.1.2.2.2
      · simp only [List.mem_cons, List.not_mem_nil, or_false] at hr
        rcases hr with rfl | rfl | rfl
        · exact n14
        · exact n15
        · exact nl
    · rw [List.take_length] at hr
      obtain ⟨x, hx, hr⟩ := List.mem_flatMap.1 hr
      have hgx := List.all_eq_true.1 hg.1 x hx
      obtain ⟨i, hi, he⟩ := List.mem_iff_getElem.1 hx
      have hb := hs.2.2.2 i hi
      rw [show (rds a).getD i [] = x by rw [List.getD_eq_getElem?_getD, List.getElem?_eq_getElem hi, he]; rfl] at hb
      have hin : ∀ j, j = 0 ∨ j = 1 ∨ j = 2 → (itoaB (x.getD j default).int).size ≤ 2097153 := fun j hj => nums (numI (x.getD j default).int) (by
        unfold opNumsTo
        refine List.mem_append_right _ ?_
        rw [List.take_length]
        refine List.mem_flatMap.2 ⟨x, hx, ?_⟩
        rcases hj with rfl | rfl | rfl <;> simp [rdNums, ints])
      simp only [rdWords, List.mem_cons, List.not_mem_nil, or_false] at hr
      rcases hr with rfl | rfl | rfl | rfl | rfl
      · exact hin 0 (.inl rfl)
      · exact hin 1 (.inr (.inl rfl))
      · exact hin 2 (.inr (.inr rfl))
      · exact enc _ hb.1
      · exact enc _ (Nat.le_trans (fmtVal_size (goodRd_val hgx) (goodRd_kind hgx)) (by decide))
  have := joinT_len (xs := strsOf (opWordsTo a (rds a).length)) (sep := ⟨#[32]⟩) (M := 2097153) (fun x hx => by
    obtain ⟨r, hr, rfl⟩ := List.mem_map.1 hx
    exact hw r hr)
  have h1 := hs.1
  have h2 := hs.2.1
  rw [hl] at this
  refine Nat.le_trans this (Nat.le_trans (Nat.mul_le_mul (show _ ≤ 1048576 + 16 + 5 * 1048576 by omega) (Nat.le_refl _)) (by decide))
/-! Flags -/
theorem flag_app {p : List D → Bool} {xs ys : List (List D)} : (!(xs.all p) || !(ys.all p)) = !((xs ++ ys).all p) := by rw [List.all_append, Bool.not_and]
def numFl (a : List D) (i : Nat) : Bool := !((opNumsTo a i).all numRow)
theorem numFl_zero {a : List D} (h : (rds a).length ≤ 1048576) : (!((opNums a).all numRow) || !(([numI (a.getD 14 default).int, numI (a.getD 15 default).int, numI ((rds a).length : Int)] : List (List D)).all numRow)) = numFl a 0 := by
  have hn : numRow (numI ((rds a).length : Int)) = true := by
    show inR ((rds a).length : Int) (-1000000000) 1000000000 = true
    simp only [inR, Bool.and_eq_true, decide_eq_true_eq]
    omega
  rw [flag_app, numFl, opNumsTo, List.take_zero, List.flatMap_nil, List.append_nil, List.all_append, List.all_append]
  simp only [List.all_cons, List.all_nil, hn, ints, List.map_cons, List.map_nil, Bool.and_true]
theorem numFl_next {a : List D} {i : Int} (h0 : 0 ≤ i) (hi : i < (rds a).length) : (numFl a i.toNat || !((rdNums ((rds a).getD i.toNat [])).all numRow)) = numFl a (i + 1).toNat := by
  rw [numFl, flag_app, opNumsTo_next h0 hi]
  rfl
theorem opWords1_eq (a : List D) : opWords1 a = (ints a [0, 1, 2]).map rowW ++ (a.getD 3 default).rows.map rowW ++ (ints a [4, 5, 6, 7, 8, 11]).map rowW ++ [encW (a.getD 9 default).str, encW (a.getD 10 default).str, encW (a.getD 12 default).str, encW (a.getD 13 default).str] := by
  rw [opWords1, opNums, List.map_append, List.map_append]
theorem txt4 {a b c d : ByteArray} {M : Nat} (ha : a.size ≤ M) (hb : b.size ≤ M) (hc : c.size ≤ M) (hd : d.size ≤ M) : ∀ i, i < ([[.s a], [.s b], [.s c], [.s d]] : List (List D)).length → ((([[.s a], [.s b], [.s c], [.s d]] : List (List D)).getD i []).getD 0 default).str.size ≤ M
  | 0, _ => ha
  | 1, _ => hb
  | 2, _ => hc
  | 3, _ => hd
  | i + 4, h => absurd h (by simp)
theorem txt2 {a b : ByteArray} {M : Nat} (ha : a.size ≤ M) (hb : b.size ≤ M) : ∀ i, i < ([[.s a], [.s b]] : List (List D)).length → ((([[.s a], [.s b]] : List (List D)).getD i []).getD 0 default).str.size ≤ M
  | 0, _ => ha
  | 1, _ => hb
  | i + 2, h => absurd h (by simp)
/-! Descriptions -/
def spNums (T : Tab) (cts : List CT) : FSpec where
  pre args := ∃ a : List D, WfRow T cts a ∧ SmO a ∧ args = [argG cts a]
  res args := match args with
    | [.val _ cs] => .val false [.sl true 3 (opNums (csD cs))]
    | _ => .none
def spGood (T : Tab) (cts : List CT) : FSpec where
  pre args := ∃ a : List D, WfRow T cts a ∧ SmO a ∧ args = [argG cts a]
  res args := match args with
    | [.val _ cs] => .val false [.b (goodOp (csD cs))]
    | _ => .none
def spOpT (T : Tab) (cts : List CT) : FSpec where
  pre args := ∃ a : List D, WfRow T cts a ∧ SmO a ∧ args = [argG cts a]
  res args := match args with
    | [.val _ cs] => .val false [.s (opText (csD cs))]
    | _ => .none
/-- The writer: words so far, and whether a number was none. -/
def spWNum (e : TypeId) : FSpec where
  pre args := ∃ (ws nums : List (List D)) (b : Bool), (ws.length + nums.length) * 16 ≤ 140737488355328 ∧ args = [.tup [(true, [.sl true e ws, .b b])], argS 3 nums]
  bx := true
  res _ := .tup []
  upd args := match args with
    | [.tup [(_, [.sl _ e ws, .b b])], .val _ [.sl _ _ nums]] => [.sl true e (ws ++ nums.map rowW), .b (b || !nums.all numRow)]
    | _ => []
def rowE (r : List D) : List D := encW (r.getD 0 default).str
def spWText (e : TypeId) : FSpec where
  pre args := ∃ (ws txts : List (List D)) (b : Bool), (ws.length + txts.length) * 16 ≤ 140737488355328 ∧ (∀ i, i < txts.length → ((txts.getD i []).getD 0 default).str.size ≤ 70368744177664) ∧ args = [.tup [(true, [.sl true e ws, .b b])], argS 9 txts]
  bx := true
  res _ := .tup []
  upd args := match args with
    | [.tup [(_, [.sl _ e ws, .b b])], .val _ [.sl _ _ txts]] => [.sl true e (ws ++ txts.map rowE), .b b]
    | _ => []
end Go.Proofs.YtdmipmbeolglaaaGreatDoor.Ab
