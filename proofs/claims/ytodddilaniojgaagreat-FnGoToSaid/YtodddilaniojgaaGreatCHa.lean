/- Edits of a notebook over data: what they do, and that they are undone. No program in sight. -/
import Derived.Test.YtodddilaniojgaaGreatCYs
namespace Go.Proofs.YtodddilaniojgaaGreat.Ab
open Go.RowKit
set_option linter.unusedVariables false
abbrev sAt (r : List D) (j : Nat) : ByteArray := (r.getD j default).str
abbrev lAt (r : List D) (j : Nat) : List (List D) := (r.getD j default).rows
def prByte (b : Int) : Bool := !(decide (b < 32) || decide (b > 126))
def prOk (s : ByteArray) : Bool := allB s.size (fun i => prByte (bAt s i)) && decide ((s.size : Int) ≤ 120)
abbrev noT (s : ByteArray) : Bool := s.toList == (⟨#[]⟩ : ByteArray).toList
def restOk (k : Int) (nm cd : ByteArray) (n : Int) : Bool :=
  if (k == 1) = true then noT nm && n == 0 else if (k == 2 || k == 4) = true then nameOk nm && n == 0 else if (k == 3) = true then nameOk nm && (noT cd && inR n 0 100) else false
def okCell (r : List D) : Bool := inR (iAt r 0) 1 999 && (inR (iAt r 1) 1 999 && (prOk (sAt r 4) && restOk (iAt r 2) (sAt r 3) (sAt r 4) (iAt r 5)))
def idxC (l : List (List D)) (id : Int) : Int := firstB l.length fun i => iAt (rAt l i) 0 == id
def okNb (l : List (List D)) : Bool := allB l.length (fun i => okCell (rAt l i) && (idxC l (iAt (rAt l i) 0) == (i : Int))) && decide ((l.length : Int) ≤ 8)
abbrev mkC (id ve k : Int) (nm cd : ByteArray) (n : Int) : List D := [.i id, .i ve, .i k, .s nm, .s cd, .i n]
def clampI (x : Int) (n : Nat) : Int := max 0 (min x n)
def putC (l : List (List D)) (x : Int) (c : List D) : List (List D) := l.take (clampI x l.length).toNat ++ [c] ++ l.drop (clampI x l.length).toNat
def dropC (l : List (List D)) (k : Int) : List (List D) := l.take k.toNat ++ l.drop (k + 1).toNat
def finE (r : List D) : List D × Int := if okCell r = true then (r, 0) else (r, 1)
def cellE (r e : List D) : List D × Int :=
  if (iAt e 0 == 4) = true then
    if (iAt r 2 == 3) = true then (r, 5) else
    if (iAt r 1 == 999) = true then (mkC (iAt r 0) (iAt r 1) (iAt r 2) (sAt e 5) (sAt e 6) (iAt r 5), 6) else finE (mkC (iAt r 0) (iAt r 1 + 1) (iAt r 2) (sAt e 5) (sAt e 6) (iAt r 5))
  else if (iAt e 0 == 5) = true then
    if (iAt r 2 == 3) = true then finE (mkC (iAt r 0) (iAt r 1) (iAt r 2) (sAt r 3) (sAt r 4) (iAt e 7)) else (r, 5)
  else if (iAt r 2 == 2) = true then
    if (iAt r 1 == 999) = true then (r, 6) else finE (mkC (iAt r 0) (iAt r 1 + 1) (iAt r 2) (sAt r 3) (sAt r 4) (iAt r 5))
  else (r, 5)
abbrev cellOf (e : List D) : List D := mkC (iAt e 2) (iAt e 3) (iAt e 4) (sAt e 5) (sAt e 6) (iAt e 7)
def chE (l : List (List D)) (e : List D) : List (List D) × Int :=
  if (iAt e 0 == 1) = true then
    if okCell (cellOf e) = true then
      if decide (idxC l (iAt e 2) ≥ 0) = true then (l, 3) else if ((l.length : Int) == 8) = true then (l, 4) else (putC l (iAt e 1) (cellOf e), 0)
    else (l, 1)
  else if decide (idxC l (iAt e 2) < 0) = true then (l, 2) else
  if (iAt e 0 == 2) = true then (dropC l (idxC l (iAt e 2)), 0) else
  if (iAt e 0 == 3) = true then (putC (dropC l (idxC l (iAt e 2))) (iAt e 1) (l.getD (idxC l (iAt e 2)).toNat []), 0) else
  if ((cellE (l.getD (idxC l (iAt e 2)).toNat []) e).2 == 0) = true then (l.set (idxC l (iAt e 2)).toNat (cellE (l.getD (idxC l (iAt e 2)).toNat []) e).1, 0) else (l, (cellE (l.getD (idxC l (iAt e 2)).toNat []) e).2)
def apE (l : List (List D)) (e : List D) : List (List D) × Int := if okNb l = true then (if inR (iAt e 0) 1 6 = true then chE l e else (l, 1)) else (l, 1)
abbrev mkE (k at_ : Int) (c : List D) : List D := .i k :: .i at_ :: c
abbrev noC : List D := mkC 0 0 0 ⟨#[]⟩ ⟨#[]⟩ 0
def invX (l : List (List D)) (e : List D) : List D :=
  if (iAt e 0 == 1) = true then mkE 2 0 (mkC (iAt e 2) 0 0 ⟨#[]⟩ ⟨#[]⟩ 0) else
  if (iAt e 0 == 2) = true then mkE 1 (idxC l (iAt e 2)) (l.getD (idxC l (iAt e 2)).toNat []) else
  if (iAt e 0 == 3) = true then mkE 3 (idxC l (iAt e 2)) (mkC (iAt e 2) 0 0 ⟨#[]⟩ ⟨#[]⟩ 0) else
  if (iAt e 0 == 4) = true then mkE 4 0 (mkC (iAt e 2) 0 0 (sAt (l.getD (idxC l (iAt e 2)).toNat []) 3) (sAt (l.getD (idxC l (iAt e 2)).toNat []) 4) 0) else
  if (iAt e 0 == 5) = true then mkE 5 0 (mkC (iAt e 2) 0 0 ⟨#[]⟩ ⟨#[]⟩ (iAt (l.getD (idxC l (iAt e 2)).toNat []) 5)) else
  mkE 6 0 (mkC (iAt e 2) 0 0 ⟨#[]⟩ ⟨#[]⟩ 0)
def invE (l : List (List D)) (e : List D) : List D × Bool := if ((apE l e).2 == 0) = true then (invX l e, true) else (mkE 0 0 noC, false)
def batF (l0 : List (List D)) : List (List D) → List (List D) → Int → List (List D) × Int
  | l, [], _ => (l, -1)
  | l, e :: es, i => if ((apE l e).2 == 0) = true then batF l0 (apE l e).1 es (i + 1) else (l0, i)
def apB (l es : List (List D)) : List (List D) × Int := batF l l es 0
def ivtF : List (List D) → List (List D) → List (List D) → List (List D) × Bool
  | _, [], acc => (acc, true)
  | l, e :: es, acc => if (invE l e).2 = true then ivtF (apE l e).1 es ((invE l e).1 :: acc) else ([], false)
def ivB (l es : List (List D)) : List (List D) × Bool := ivtF l es []
theorem idxC_none {l : List (List D)} {id : Int} (h : ∀ x ∈ l, iAt x 0 ≠ id) : idxC l id = -1 := by
  unfold idxC
  refine firstB_none fun j hj => ?_
  have : rAt l j ∈ l := by
    simp only [rAt, Int.toNat_natCast, List.getD_eq_getElem?_getD, List.getElem?_eq_getElem hj, Option.getD_some]
    exact List.getElem_mem hj
  rw [Bool.not_eq_true', beq_eq_false_iff_ne]
  exact h _ this
theorem idxC_at {A B : List (List D)} {r : List D} {id : Int} (h : iAt r 0 = id) (hA : ∀ x ∈ A, iAt x 0 ≠ id) : idxC (A ++ r :: B) id = (A.length : Int) := by
  unfold idxC
  refine firstB_hit (by simp) ?_ fun j hj => ?_
  · simp [rAt, List.getD_eq_getElem?_getD, h]
  · have e : rAt (A ++ r :: B) j = A[j] := by
      simp only [rAt, Int.toNat_natCast, List.getD_eq_getElem?_getD, List.getElem?_append_left hj, List.getElem?_eq_getElem hj, Option.getD_some]
    rw [e, Bool.not_eq_true', beq_eq_false_iff_ne]
    exact hA _ (List.getElem_mem hj)
theorem idxC_cases (l : List (List D)) (id : Int) : (idxC l id = -1 ∧ ∀ x ∈ l, iAt x 0 ≠ id) ∨ ∃ A r B, l = A ++ r :: B ∧ idxC l id = (A.length : Int) ∧ iAt r 0 = id ∧ ∀ x ∈ A, iAt x 0 ≠ id := by
  induction l with
  | nil => exact .inl ⟨idxC_none (by simp), by simp⟩
  | cons x l ih =>
    by_cases hx : iAt x 0 = id
    · exact .inr ⟨[], x, l, rfl, idxC_at (A := []) hx (by simp), hx, by simp⟩
    · rcases ih with ⟨_, h⟩ | ⟨A, r, B, rfl, _, h2, h3⟩
      · have : ∀ y ∈ x :: l, iAt y 0 ≠ id := by
          intro y hy
          rcases List.mem_cons.1 hy with rfl | hy
          · exact hx
          · exact h y hy
        exact .inl ⟨idxC_none this, this⟩
      · have hA : ∀ y ∈ x :: A, iAt y 0 ≠ id := by
          intro y hy
          rcases List.mem_cons.1 hy with rfl | hy
          · exact hx
          · exact h3 y hy
        exact .inr ⟨x :: A, r, B, rfl, idxC_at (A := x :: A) h2 hA, h2, hA⟩
theorem getD_mid {A B : List (List D)} {r : List D} : (A ++ r :: B).getD (A.length : Int).toNat [] = r := by simp [List.getD_eq_getElem?_getD]
theorem dropC_mid {A B : List (List D)} {r : List D} : dropC (A ++ r :: B) (A.length : Int) = A ++ B := by
  have e : ((A.length : Int) + 1).toNat = A.length + 1 := by omega
  unfold dropC
  rw [e, Int.toNat_natCast, List.take_left' rfl, show A ++ r :: B = (A ++ [r]) ++ B by simp, List.drop_left' (by simp)]
theorem set_mid {A B : List (List D)} {r x : List D} : (A ++ r :: B).set (A.length : Int).toNat x = A ++ x :: B := by
  rw [Int.toNat_natCast, List.set_append_right _ _ (Nat.le_refl _), Nat.sub_self]; rfl
theorem putC_split (l : List (List D)) (x : Int) (c : List D) : ∃ A B, l = A ++ B ∧ putC l x c = A ++ c :: B := ⟨l.take (clampI x l.length).toNat, l.drop (clampI x l.length).toNat, (List.take_append_drop _ _).symm, by simp [putC]⟩
abbrev idsC (l : List (List D)) : List Int := l.map (iAt · 0)
structure Good (l : List (List D)) : Prop where
  len : l.length ≤ 8
  cell : ∀ r ∈ l, okCell r = true
  ids : (idsC l).Nodup
theorem idxC_pref {A B : List (List D)} {r : List D} : idxC (A ++ r :: B) (iAt r 0) = (A.length : Int) ↔ ∀ x ∈ A, iAt x 0 ≠ iAt r 0 := by
  constructor
  · intro h
    rcases idxC_cases A (iAt r 0) with ⟨_, h2⟩ | ⟨A1, x, A2, rfl, _, h3, h4⟩
    · exact h2
    · rw [show A1 ++ x :: A2 ++ r :: B = A1 ++ x :: (A2 ++ r :: B) by simp, idxC_at h3 h4] at h
      simp at h
      omega
  · exact idxC_at rfl
theorem nodup_pref : ∀ {l : List (List D)}, (∀ A r B, l = A ++ r :: B → ∀ x ∈ A, iAt x 0 ≠ iAt r 0) → (idsC l).Nodup
  | [], _ => List.nodup_nil
  | x :: l, h => by
    have hd : iAt x 0 ∉ idsC l := by
      intro hm
      obtain ⟨y, hy, e⟩ := List.mem_map.1 hm
      obtain ⟨A, B, rfl⟩ := List.append_of_mem hy
      exact h (x :: A) y B rfl x (by simp) e.symm
    exact List.nodup_cons.2 ⟨hd, nodup_pref fun A r B e z hz => h (x :: A) r B (by rw [e]; rfl) z (by simp [hz])⟩
theorem pref_nodup {A B : List (List D)} {r : List D} (h : (idsC (A ++ r :: B)).Nodup) : (∀ x ∈ A, iAt x 0 ≠ iAt r 0) ∧ ∀ x ∈ B, iAt x 0 ≠ iAt r 0 := by
  rw [idsC, List.map_append, List.map_cons, List.nodup_append] at h
  refine ⟨fun x hx => h.2.2 _ (List.mem_map_of_mem hx) _ (by simp), fun x hx e => ?_⟩
  exact (List.nodup_cons.1 h.2.1).1 (by rw [← e]; exact List.mem_map_of_mem hx)
theorem good_iff {l : List (List D)} : okNb l = true ↔ Good l := by
  have hat : ∀ i (hi : i < l.length), rAt l i = l[i] := fun i hi => by
    simp only [rAt, Int.toNat_natCast, List.getD_eq_getElem?_getD, List.getElem?_eq_getElem hi, Option.getD_some]
  have hsp : ∀ i (hi : i < l.length), l = l.take i ++ l[i] :: l.drop (i + 1) := fun i hi => by simp
  have hx : ∀ i (hi : i < l.length), idxC l (iAt l[i] 0) = (i : Int) ↔ ∀ x ∈ l.take i, iAt x 0 ≠ iAt l[i] 0 := fun i hi => by
    have := idxC_pref (A := l.take i) (r := l[i]) (B := l.drop (i + 1))
    rw [← hsp i hi] at this
    rw [List.length_take, Nat.min_eq_left (Nat.le_of_lt hi)] at this
    exact this
  unfold okNb
  rw [Bool.and_eq_true, allB_iff, decide_eq_true_eq]
  constructor
  · rintro ⟨h1, h2⟩
    refine ⟨by omega, fun r hr => ?_, nodup_pref fun A r B e x hxA => ?_⟩
    · obtain ⟨i, hi, rfl⟩ := List.mem_iff_getElem.1 hr
      have := h1 i hi
      rw [hat i hi, Bool.and_eq_true] at this
      exact this.1
    · subst e
      have hi : A.length < (A ++ r :: B).length := by simp
      have := h1 A.length hi
      rw [hat _ hi, Bool.and_eq_true, beq_iff_eq] at this
      have e2 : (A ++ r :: B)[A.length] = r := by simp
      rw [e2] at this
      exact idxC_pref.1 this.2 x hxA
  · intro g
    refine ⟨fun i hi => ?_, by have := g.len; omega⟩
    rw [hat i hi, Bool.and_eq_true, beq_iff_eq, hx i hi]
    refine ⟨g.cell _ (List.getElem_mem hi), ?_⟩
    have := g.ids
    rw [hsp i hi] at this
    exact (pref_nodup this).1
theorem Good.put {A B : List (List D)} {c : List D} (g : Good (A ++ B)) (hc : okCell c = true) (hl : (A ++ B).length < 8) (hn : ∀ x ∈ A ++ B, iAt x 0 ≠ iAt c 0) : Good (A ++ c :: B) := by
  have hp : List.Perm (A ++ c :: B) (c :: (A ++ B)) := List.perm_middle
  refine ⟨by rw [hp.length_eq]; exact hl, fun r hr => ?_, ?_⟩
  · rcases List.mem_cons.1 (hp.mem_iff.1 hr) with rfl | h
    · exact hc
    · exact g.cell r h
  · refine ((hp.map (iAt · 0)).nodup_iff).2 ?_
    rw [List.map_cons]
    refine List.nodup_cons.2 ⟨fun hm => ?_, g.ids⟩
    obtain ⟨y, hy, e⟩ := List.mem_map.1 hm
    exact hn y hy e
theorem Good.cut {A B : List (List D)} {c : List D} (g : Good (A ++ c :: B)) : Good (A ++ B) ∧ okCell c = true ∧ (A ++ B).length < 8 ∧ ∀ x ∈ A ++ B, iAt x 0 ≠ iAt c 0 := by
  have hp : List.Perm (A ++ c :: B) (c :: (A ++ B)) := List.perm_middle
  have h1 := g.len
  rw [hp.length_eq, List.length_cons] at h1
  have h2 := ((hp.map (iAt · 0)).nodup_iff).1 g.ids
  rw [List.map_cons] at h2
  obtain ⟨h3, h4⟩ := List.nodup_cons.1 h2
  exact ⟨⟨by omega, fun r hr => g.cell r (hp.mem_iff.2 (List.mem_cons_of_mem _ hr)), h4⟩, g.cell c (hp.mem_iff.2 (by simp)), h1, fun x hx e => h3 (by rw [← e]; exact List.mem_map_of_mem hx)⟩
end Go.Proofs.YtodddilaniojgaaGreat.Ab
