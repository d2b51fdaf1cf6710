/- Descriptions of checks of texts, lists and values. No program in sight. -/
import Derived.Test.YtodddilaniojgaaGreatCYa
import Derived.Test.YtodddilaniojgaaGreatCQa
namespace Go.Proofs.YtodddilaniojgaaGreat.Ab
open Go.RowKit
set_option linter.unusedVariables false
variable {T : Tab}
def spTB (p : ByteArray → Bool) : FSpec where
  pre args := ∃ s : ByteArray, args = [sArg s]
  res args := match args with
    | [.val _ [.s s]] => .val false [.b (p s)]
    | _ => .none
def spSTB (p : List (List D) → ByteArray → Bool) : FSpec where
  pre args := ∃ (a : List (List D)) (s : ByteArray), args = [argS 9 a, sArg s]
  res args := match args with
    | [.val _ [.sl _ _ a], .val _ [.s s]] => .val false [.b (p a s)]
    | _ => .none
def spWords (xs : List ByteArray) : FSpec where
  pre args := args = []
  res _ := argS 9 (strRows xs)
theorem wrapN {i n : Nat} (hi : i < n) (hn : n ≤ maxLen) : IntKind.i64.wrap ((i : Int) + 1) = ((i + 1 : Nat) : Int) := by
  simp only [maxLen] at hn
  rw [IntKind.wrap_i64]; omega
theorem ltN {i n : Nat} (h : decide ((i : Int) < (n : Int)) = true) : i < n := by have := of_decide_eq_true h; omega
theorem nltN {i n : Nat} (h : decide ((i : Int) < (n : Int)) = false) : ¬ i < n := by have := of_decide_eq_false h; omega
theorem nolt (P : Nat → Prop) : ∀ j, j < 0 → P j := fun j h => absurd h (Nat.not_lt_zero j)
theorem resBs {n i : Nat} {P : Nat → Bool} {q : Bool} (hi : i < n) (h : P i = false) : [CV.b false] = [CV.b (allB n P && q)] := by rw [allB_stop hi h]; rfl
theorem resBe {n i : Nat} {P : Nat → Bool} {q r : Bool} (h : ∀ j, j < i → P j = true) (hi : ¬ i < n) (hq : r = q) : [CV.b r] = [CV.b (allB n P && q)] := by rw [allB_end h hi, hq]; rfl
theorem resBn {n i : Nat} {P : Nat → Bool} (hi : i < n) (h : P i = false) : [CV.b true] = [CV.b (!allB n P)] := by rw [allB_stop hi h]; rfl
theorem resBm {n i : Nat} {P : Nat → Bool} (h : ∀ j, j < i → P j = true) (hi : ¬ i < n) : [CV.b false] = [CV.b (!allB n P)] := by rw [allB_end h hi]; rfl
theorem resIh {n i : Nat} {P : Nat → Bool} (hi : i < n) (h : P i = true) (hb : ∀ j, j < i → (!P j) = true) : [CV.i .i64 (i : Int)] = [CV.i .i64 (firstB n P)] := by rw [firstB_hit hi h hb]
theorem resIn {n i : Nat} {P : Nat → Bool} (hb : ∀ j, j < i → (!P j) = true) (hi : ¬ i < n) : [CV.i .i64 (-1)] = [CV.i .i64 (firstB n P)] := by rw [firstB_none fun j hj => hb j (by omega)]
theorem notT {b : Bool} (h : b = true) : (!b) = false := by rw [h]; rfl
theorem notF {b : Bool} (h : b = false) : (!b) = true := by rw [h]; rfl
theorem of_notT {b : Bool} (h : (!b) = true) : b = false := by simpa using h
theorem of_notF {b : Bool} (h : (!b) = false) : b = true := by simpa using h
theorem lt48 (x : Int) : decide (x < 48) = !decide (x ≥ 48) := by rw [← decide_not]; exact decide_eq_decide.2 (by omega)
theorem gt57 (x : Int) : decide (x > 57) = !decide (x ≤ 57) := by rw [← decide_not]; exact decide_eq_decide.2 (by omega)
def nameIm (s : ByteArray) : Bool := allB s.size (wordB s) && inR s.size 1 8
theorem nameIm_eq (s : ByteArray) : (nameIm s && !isResv s) = nameOk s := by
  unfold nameIm nameOk nameSh inR
  have : decide ((1 : Int) ≤ (s.size : Int)) = decide ((s.size : Int) > 0) := decide_eq_decide.2 (by omega)
  rw [this]
  cases allB s.size (wordB s) <;> cases decide ((s.size : Int) > 0) <;> cases decide ((s.size : Int) ≤ 8) <;> cases isResv s <;> rfl
theorem hasT_any (xs : List ByteArray) (s : ByteArray) : hasT (strRows xs) s = xs.any fun x => s.toList == x.toList := by
  have h1 : ∀ k (hk : k < xs.length), tAt (strRows xs) k = xs[k] := by
    intro k hk
    simp [tAt, strRows, List.getD_eq_getElem?_getD, List.getElem?_eq_getElem hk, D.str]
  rw [Bool.eq_iff_iff]
  unfold hasT
  rw [Bool.not_eq_true', ← Bool.not_eq_true, allB_iff, List.any_eq_true]
  have hl : (strRows xs).length = xs.length := List.length_map _
  rw [hl]
  constructor
  · intro h
    refine Classical.byContradiction fun hn => h fun i hi => ?_
    have : (xs[i].toList == s.toList) = false := by
      rw [beq_eq_false_iff_ne]
      intro he
      exact hn ⟨xs[i], List.getElem_mem hi, by rw [he]; exact beq_self_eq_true _⟩
    simp only [isAt, h1 i hi, this, Bool.not_false]
  · rintro ⟨x, hx, he⟩ h
    obtain ⟨i, hi, rfl⟩ := List.mem_iff_getElem.1 hx
    have := h i hi
    simp only [isAt, h1 i hi] at this
    rw [eq_of_beq he] at this
    simp at this
theorem hasT_resv (s : ByteArray) : hasT (strRows resvB) s = isResv s := hasT_any resvB s
def argC (s : ByteArray) : Int :=
  if (s.toList == (⟨#[99, 108, 111, 99, 107]⟩ : ByteArray).toList) = true then 0 else
  if ((s.toList == (⟨#[108, 101, 110]⟩ : ByteArray).toList) || ((s.toList == (⟨#[115, 117, 109]⟩ : ByteArray).toList) || ((s.toList == (⟨#[114, 111, 119, 115]⟩ : ByteArray).toList) || ((s.toList == (⟨#[99, 104, 97, 110, 99, 101]⟩ : ByteArray).toList) || (s.toList == (⟨#[102, 105, 108, 101]⟩ : ByteArray).toList))))) = true then 1 else
  if ((s.toList == (⟨#[116, 97, 107, 101]⟩ : ByteArray).toList) || ((s.toList == (⟨#[115, 107, 105, 112]⟩ : ByteArray).toList) || ((s.toList == (⟨#[114, 97, 110, 103, 101]⟩ : ByteArray).toList) || ((s.toList == (⟨#[110, 116, 104]⟩ : ByteArray).toList) || ((s.toList == (⟨#[107, 101, 101, 112]⟩ : ByteArray).toList) || ((s.toList == (⟨#[99, 111, 108, 117, 109, 110]⟩ : ByteArray).toList) || (s.toList == (⟨#[116, 97, 98, 108, 101]⟩ : ByteArray).toList))))))) = true then 2 else
  if ((s.toList == (⟨#[119, 104, 101, 114, 101]⟩ : ByteArray).toList) || ((s.toList == (⟨#[103, 114, 111, 117, 112]⟩ : ByteArray).toList) || (s.toList == (⟨#[106, 111, 105, 110]⟩ : ByteArray).toList))) = true then 3 else
  if (s.toList == (⟨#[97, 100, 100]⟩ : ByteArray).toList) = true then 4 else -1
def spArgC : FSpec where
  pre args := ∃ s : ByteArray, args = [sArg s]
  res args := match args with
    | [.val _ [.s s]] => .val false [.i .i64 (argC s)]
    | _ => .none
def resvI (s : ByteArray) : Bool :=
  ((s.toList == (⟨#[108, 101, 116]⟩ : ByteArray).toList) || ((s.toList == (⟨#[105, 110]⟩ : ByteArray).toList) || ((s.toList == (⟨#[105, 102]⟩ : ByteArray).toList) || ((s.toList == (⟨#[116, 104, 101, 110]⟩ : ByteArray).toList) || ((s.toList == (⟨#[101, 108, 115, 101]⟩ : ByteArray).toList) || ((s.toList == (⟨#[102, 111, 114]⟩ : ByteArray).toList) || (s.toList == (⟨#[100, 111]⟩ : ByteArray).toList))))))) || decide (argC s ≥ 0)
theorem ite_ge {b : Bool} {c x : Int} (hc : c ≥ 0) : decide ((if b = true then c else x) ≥ 0) = (b || decide (x ≥ 0)) := by
  cases b
  · rfl
  · simp [hc]
theorem resvI_eq (s : ByteArray) : resvI s = isResv s := by
  unfold resvI argC isResv resvB
  rw [ite_ge (by decide), ite_ge (by decide), ite_ge (by decide), ite_ge (by decide), ite_ge (by decide)]
  simp only [List.any_cons, List.any_nil, show decide ((-1 : Int) ≥ 0) = false from rfl, Bool.or_false]
  ac_rfl
theorem wrapP {i : Nat} {n : Nat} (h : (i : Int) > 0) (hi : i < n) (hn : n ≤ maxLen) : IntKind.i64.wrap ((i : Int) - 1) = ((i - 1 : Nat) : Int) := by
  simp only [maxLen] at hn
  rw [IntKind.wrap_i64]; omega
end Go.Proofs.YtodddilaniojgaaGreat.Ab
