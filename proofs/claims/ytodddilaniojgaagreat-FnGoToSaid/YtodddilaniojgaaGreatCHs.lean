/- Descriptions of functions over cells, notebooks and edits. No program in sight. -/
import Derived.Test.YtodddilaniojgaaGreatCHa
namespace Go.Proofs.YtodddilaniojgaaGreat.Ab
open Go.RowKit
set_option linter.unusedVariables false
def okC6 (id ve k : Int) (nm cd : ByteArray) (n : Int) : Bool := inR id 1 999 && (inR ve 1 999 && (prOk cd && (if (k == 1) = true then noT nm && n == 0 else if (k == 2) = true then nameOk nm && n == 0 else if (k == 4) = true then nameOk nm && n == 0 else if (k == 3) = true then nameOk nm && (noT cd && inR n 0 100) else false)))
theorem okC6_eq (r : List D) : okC6 (iAt r 0) (iAt r 1) (iAt r 2) (sAt r 3) (sAt r 4) (iAt r 5) = okCell r := by
  unfold okC6 okCell restOk
  cases (iAt r 2 == 2) <;> cases (iAt r 2 == 4) <;> rfl
abbrev nbA (o : Bool) (e : TypeId) (l : List (List D)) : SV := .val true [.sl o e l]
def spOkC (cts : List CT) : FSpec where
  pre args := ∃ a : List D, args = [argG cts a]
  res args := match args with
    | [.val _ cs] => .val false [.b (okCell (csD cs))]
    | _ => .none
def spIdx (e : TypeId) : FSpec where
  pre args := ∃ (l : List (List D)) (id : Int), args = [nbA false e l, .val false [.i .i64 id]]
  res args := match args with
    | [.val _ [.sl _ _ l], .val _ [.i _ id]] => .val false [.i .i64 (idxC l id)]
    | _ => .none
def spOkN (e : TypeId) : FSpec where
  pre args := ∃ l : List (List D), args = [nbA false e l]
  res args := match args with
    | [.val _ [.sl _ _ l]] => .val false [.b (okNb l)]
    | _ => .none
def spCpN (e : TypeId) : FSpec where
  pre args := ∃ l : List (List D), l.length ≤ 1048576 ∧ args = [nbA false e l]
  res args := match args with
    | [.val _ [.sl _ _ l]] => nbA true e l
    | _ => .none
def eqC (a b : List D) : Bool := eqDs [.i .i64, .i .i64, .i .i64, .s, .s, .i .i64] (mkC (iAt a 0) (iAt a 1) (iAt a 2) (sAt a 3) (sAt a 4) (iAt a 5)) (mkC (iAt b 0) (iAt b 1) (iAt b 2) (sAt b 3) (sAt b 4) (iAt b 5))
def eqNb (l m : List (List D)) : Bool := (l.length == m.length) && allB l.length fun i => eqC (rAt l i) (rAt m i)
theorem eqNb_no {l m : List (List D)} (h : ((l.length : Int) != (m.length : Int)) = true) : false = eqNb l m := by
  have : (l.length == m.length) = false := by
    rw [beq_eq_false_iff_ne]; intro e; rw [e] at h; simp at h
  unfold eqNb; rw [this]; rfl
theorem eqNb_len {l m : List (List D)} (h : ((l.length : Int) != (m.length : Int)) = false) : l.length = m.length := by
  have : ((l.length : Int) == (m.length : Int)) = true := by simpa [bne] using h
  exact Int.ofNat_inj.1 (eq_of_beq this)
theorem eqNb_lt {l m : List (List D)} {i : Nat} (h : ((l.length : Int) != (m.length : Int)) = false) (hi : i < l.length) : (i : Int) < (m.length : Int) := by
  have := eqNb_len h; omega
theorem eqNb_at {l m : List (List D)} {i : Nat} (hi : i < l.length) (h : (!eqC (rAt l i) (rAt m i)) = true) : false = eqNb l m := by
  unfold eqNb; rw [allB_stop hi (of_notT h), Bool.and_false]
theorem eqNb_yes {l m : List (List D)} {i : Nat} (h : ((l.length : Int) != (m.length : Int)) = false) (hI : ∀ j, j < i → eqC (rAt l j) (rAt m j) = true) (hi : ¬ i < l.length) : true = eqNb l m := by
  unfold eqNb; rw [allB_end hI hi, eqNb_len h]; simp
def stripR (r : List D) : List D := overlay r 1 [.i 0]
def stripN (k : Nat) (l : List (List D)) : List (List D) := (l.take k).map stripR ++ l.drop k
def strip (l : List (List D)) : List (List D) := l.map stripR
theorem stripN_len (k : Nat) (l : List (List D)) : (stripN k l).length = l.length := by
  unfold stripN
  rw [List.length_append, List.length_map, ← List.length_append, List.take_append_drop]
theorem stripN_next {k : Nat} {l : List (List D)} (hk : k < l.length) : pokeRow (stripN k l) k 1 [.i 0] = stripN (k + 1) l := by
  have e1 : (stripN k l).getD k [] = l[k] := by
    unfold stripN
    rw [List.getD_eq_getElem?_getD, List.getElem?_append_right (by simp; omega)]
    simp [Nat.min_eq_left (Nat.le_of_lt hk), List.getElem?_eq_getElem hk]
  unfold pokeRow
  rw [e1]
  unfold stripN
  rw [List.set_append_right _ _ (by simp; omega), List.length_map, List.length_take, Nat.min_eq_left (Nat.le_of_lt hk), Nat.sub_self, List.drop_eq_getElem_cons hk, List.set_cons_zero, List.take_succ_eq_append_getElem hk, List.map_append]
  simp [stripR]
theorem stripN_all {k : Nat} {l : List (List D)} (hk : l.length ≤ k) : stripN k l = strip l := by
  unfold stripN strip
  rw [List.take_of_length_le hk, List.drop_eq_nil_of_le hk, List.append_nil]
theorem ltS {i k : Nat} {l : List (List D)} (h : decide ((i : Int) < ((stripN k l).length : Int)) = true) : i < l.length := by
  rw [stripN_len] at h; exact ltN h
theorem nltS {i k : Nat} {l : List (List D)} (h : decide ((i : Int) < ((stripN k l).length : Int)) = false) : ¬ i < l.length := by
  rw [stripN_len] at h; exact nltN h
def spEqC (e : TypeId) : FSpec where
  pre args := ∃ l m : List (List D), l.length ≤ 1048576 ∧ m.length ≤ 1048576 ∧ args = [nbA false e l, nbA false e m]
  res args := match args with
    | [.val _ [.sl _ _ l], .val _ [.sl _ _ m]] => .val false [.b (eqNb (strip l) (strip m))]
    | _ => .none
def spEqN (e : TypeId) : FSpec where
  pre args := ∃ l m : List (List D), args = [nbA false e l, nbA false e m]
  res args := match args with
    | [.val _ [.sl _ _ l], .val _ [.sl _ _ m]] => .val false [.b (eqNb l m)]
    | _ => .none
theorem nbNo1 {r : List D} {b : Bool} (h : (!okCell r) = true) : (okCell r && b) = false := by rw [of_notT h]; rfl
theorem nbNo2 {r : List D} {x y : Int} (h : (x != y) = true) : (okCell r && (x == y)) = false := by
  have : (x == y) = false := by simpa [bne] using h
  rw [this, Bool.and_false]
theorem nbYes {r : List D} {x y : Int} (h1 : (!okCell r) = false) (h2 : (x != y) = false) : (okCell r && (x == y)) = true := by
  have : (x == y) = true := by simpa [bne] using h2
  rw [of_notF h1, this]; rfl
end Go.Proofs.YtodddilaniojgaaGreat.Ab
