/- Edits of a notebook, without versions: one step, its inverse, many steps. No program in sight. -/
import Derived.Test.YtodddilaniojgaaGreatCHa
namespace Go.Proofs.YtodddilaniojgaaGreat.Ab
open Go.RowKit
set_option linter.unusedVariables false
structure Zc where
  id : Int
  k : Int
  n : Int
  nm : ByteArray
  cd : ByteArray
def zc (r : List D) : Zc := ⟨iAt r 0, iAt r 2, iAt r 5, sAt r 3, sAt r 4⟩
abbrev aN (l : List (List D)) : List Zc := l.map zc
def okZ (z : Zc) : Bool := inR z.id 1 999 && (prOk z.cd && restOk z.k z.nm z.cd z.n)
theorem okCell_z (r : List D) : okCell r = (inR (iAt r 1) 1 999 && okZ (zc r)) := by
  unfold okCell okZ zc
  cases inR (iAt r 0) 1 999 <;> cases inR (iAt r 1) 1 999 <;> rfl
def updZ (z : Zc) (e : List D) : Option Zc :=
  if iAt e 0 = 4 then (if z.k = 3 then none else if okZ ⟨z.id, z.k, z.n, sAt e 5, sAt e 6⟩ = true then some ⟨z.id, z.k, z.n, sAt e 5, sAt e 6⟩ else none)
  else if iAt e 0 = 5 then (if z.k = 3 then (if okZ ⟨z.id, z.k, iAt e 7, z.nm, z.cd⟩ = true then some ⟨z.id, z.k, iAt e 7, z.nm, z.cd⟩ else none) else none)
  else if z.k = 2 ∧ okZ z = true then some z else none
inductive ZStep : List Zc → List D → List Zc → Prop
  | ins (A B : List Zc) (e : List D) (hk : iAt e 0 = 1) (hc : okCell (cellOf e) = true) (hn : ∀ z ∈ A ++ B, z.id ≠ iAt e 2) (hl : (A ++ B).length < 8) (ha : (A.length : Int) = clampI (iAt e 1) (A ++ B).length) : ZStep (A ++ B) e (A ++ zc (cellOf e) :: B)
  | del (A B : List Zc) (z : Zc) (e : List D) (hk : iAt e 0 = 2) (hz : z.id = iAt e 2) (hn : ∀ x ∈ A, x.id ≠ iAt e 2) : ZStep (A ++ z :: B) e (A ++ B)
  | mov (A B A' B' : List Zc) (z : Zc) (e : List D) (hk : iAt e 0 = 3) (hz : z.id = iAt e 2) (hn : ∀ x ∈ A, x.id ≠ iAt e 2) (hs : A' ++ B' = A ++ B) (ha : (A'.length : Int) = clampI (iAt e 1) (A ++ B).length) : ZStep (A ++ z :: B) e (A' ++ z :: B')
  | upd (A B : List Zc) (z z' : Zc) (e : List D) (hk : 4 ≤ iAt e 0 ∧ iAt e 0 ≤ 6) (hz : z.id = iAt e 2) (hn : ∀ x ∈ A, x.id ≠ iAt e 2) (hu : updZ z e = some z') : ZStep (A ++ z :: B) e (A ++ z' :: B)
def vB (K : Int) (l : List (List D)) : Prop := ∀ r ∈ l, iAt r 1 ≤ K
theorem vB.mono {K K' : Int} {l : List (List D)} (h : vB K l) (hk : K ≤ K') : vB K' l := fun r hr => Int.le_trans (h r hr) hk
theorem cell_id (e : List D) : iAt (cellOf e) 0 = iAt e 2 := by rfl
theorem cell_ve (e : List D) : iAt (cellOf e) 1 = iAt e 3 := by rfl
theorem mem_aN {A : List (List D)} {id : Int} : (∀ z ∈ aN A, z.id ≠ id) ↔ ∀ x ∈ A, iAt x 0 ≠ id := by
  constructor
  · intro h x hx; exact h (zc x) (List.mem_map_of_mem hx)
  · intro h z hz; obtain ⟨x, hx, rfl⟩ := List.mem_map.1 hz; exact h x hx
theorem firstZ {l : List (List D)} {A : List Zc} {B : List Zc} {z : Zc} (h : aN l = A ++ z :: B) : ∃ A1 r B1, l = A1 ++ r :: B1 ∧ aN A1 = A ∧ zc r = z ∧ aN B1 = B := by
  obtain ⟨A1, l2, rfl, h1, h2⟩ := List.map_eq_append_iff.1 h
  obtain ⟨r, B1, rfl, h3, h4⟩ := List.map_eq_cons_iff.1 h2
  exact ⟨A1, r, B1, rfl, h1, h3, h4⟩
theorem cutZ {l : List (List D)} {A B : List Zc} (h : aN l = A ++ B) : ∃ A1 B1, l = A1 ++ B1 ∧ aN A1 = A ∧ aN B1 = B := by
  obtain ⟨A1, l2, rfl, h1, h2⟩ := List.map_eq_append_iff.1 h
  exact ⟨A1, l2, rfl, h1, h2⟩
theorem putC_len {A B : List (List D)} {x : Int} {c : List D} (h : (A.length : Int) = clampI x (A ++ B).length) : putC (A ++ B) x c = A ++ c :: B := by
  unfold putC
  rw [← h, Int.toNat_natCast, List.take_left' rfl, List.drop_left' rfl]
  simp
theorem putC_splits (l : List (List D)) (x : Int) (c : List D) : ∃ A B, l = A ++ B ∧ putC l x c = A ++ c :: B ∧ (A.length : Int) = clampI x l.length := by
  refine ⟨l.take (clampI x l.length).toNat, l.drop (clampI x l.length).toNat, (List.take_append_drop _ _).symm, by simp [putC], ?_⟩
  rw [List.length_take]
  unfold clampI
  omega
theorem cellE_z {r e : List D} (hk : 4 ≤ iAt e 0 ∧ iAt e 0 ≤ 6) (hr : okCell r = true) (hv : iAt r 1 ≤ 998) :
    (∀ z', updZ (zc r) e = some z' → (cellE r e).2 = 0 ∧ zc (cellE r e).1 = z') ∧ ((cellE r e).2 = 0 → updZ (zc r) e = some (zc (cellE r e).1) ∧ okCell (cellE r e).1 = true ∧ iAt (cellE r e).1 0 = iAt r 0 ∧ iAt (cellE r e).1 1 ≤ iAt r 1 + 1) := by
  rw [okCell_z, Bool.and_eq_true] at hr
  obtain ⟨hr1, hr2⟩ := hr
  have h1 : 1 ≤ iAt r 1 := by unfold inR at hr1; simp at hr1; omega
  have e9 : (iAt r 1 == 999) = false := by rw [beq_eq_false_iff_ne]; omega
  have hR : inR (iAt r 1 + 1) 1 999 = true := by unfold inR; simp; omega
  by_cases c4 : iAt e 0 = 4
  · have b4 : (iAt e 0 == 4) = true := by rw [c4]; rfl
    by_cases c3 : iAt r 2 = 3
    · have b3 : (iAt r 2 == 3) = true := by rw [c3]; rfl
      simp [cellE, updZ, zc, c4, c3]
    · have b3 : (iAt r 2 == 3) = false := by rw [beq_eq_false_iff_ne]; exact c3
      have eC : cellE r e = finE (mkC (iAt r 0) (iAt r 1 + 1) (iAt r 2) (sAt e 5) (sAt e 6) (iAt r 5)) := by
        unfold cellE; simp only [b4, b3, e9, if_true, Bool.false_eq_true, if_false]
      have eU : updZ (zc r) e = if okZ ⟨iAt r 0, iAt r 2, iAt r 5, sAt e 5, sAt e 6⟩ = true then some ⟨iAt r 0, iAt r 2, iAt r 5, sAt e 5, sAt e 6⟩ else none := by
        unfold updZ; rw [if_pos c4, if_neg (show ¬ (zc r).k = 3 from c3)]; rfl
      have eO : okCell (mkC (iAt r 0) (iAt r 1 + 1) (iAt r 2) (sAt e 5) (sAt e 6) (iAt r 5)) = okZ ⟨iAt r 0, iAt r 2, iAt r 5, sAt e 5, sAt e 6⟩ := by
        rw [okCell_z]; show (inR (iAt r 1 + 1) 1 999 && _) = _; rw [hR]; rfl
      rw [eC, eU]
      unfold finE
      rw [eO]
      by_cases hz : okZ ⟨iAt r 0, iAt r 2, iAt r 5, sAt e 5, sAt e 6⟩ = true
      · rw [if_pos hz, if_pos hz]
        exact ⟨fun z' h => ⟨rfl, Option.some.inj h⟩, fun _ => ⟨rfl, eO.trans hz, rfl, Int.le_refl _⟩⟩
      · rw [if_neg hz, if_neg hz]
        exact ⟨fun z' h => (by simp at h), fun h => (by simp at h)⟩
  by_cases c5 : iAt e 0 = 5
  · have b4 : (iAt e 0 == 4) = false := by rw [c5]; rfl
    have b5 : (iAt e 0 == 5) = true := by rw [c5]; rfl
    by_cases c3 : iAt r 2 = 3
    · have b3 : (iAt r 2 == 3) = true := by rw [c3]; rfl
      have eC : cellE r e = finE (mkC (iAt r 0) (iAt r 1) (iAt r 2) (sAt r 3) (sAt r 4) (iAt e 7)) := by
        unfold cellE; simp only [b4, b5, b3, if_true, Bool.false_eq_true, if_false]
      have eU : updZ (zc r) e = if okZ ⟨iAt r 0, iAt r 2, iAt e 7, sAt r 3, sAt r 4⟩ = true then some ⟨iAt r 0, iAt r 2, iAt e 7, sAt r 3, sAt r 4⟩ else none := by
        unfold updZ; rw [if_neg c4, if_pos c5, if_pos (show (zc r).k = 3 from c3)]; rfl
      have eO : okCell (mkC (iAt r 0) (iAt r 1) (iAt r 2) (sAt r 3) (sAt r 4) (iAt e 7)) = okZ ⟨iAt r 0, iAt r 2, iAt e 7, sAt r 3, sAt r 4⟩ := by
        rw [okCell_z]; show (inR (iAt r 1) 1 999 && _) = _; rw [hr1]; rfl
      rw [eC, eU]
      unfold finE
      rw [eO]
      by_cases hz : okZ ⟨iAt r 0, iAt r 2, iAt e 7, sAt r 3, sAt r 4⟩ = true
      · rw [if_pos hz, if_pos hz]
        exact ⟨fun z' h => ⟨rfl, Option.some.inj h⟩, fun _ => ⟨rfl, eO.trans hz, rfl, by show iAt r 1 ≤ _; omega⟩⟩
      · rw [if_neg hz, if_neg hz]
        exact ⟨fun z' h => (by simp at h), fun h => (by simp at h)⟩
    · simp [cellE, updZ, zc, c5, c3]
  · have b4 : (iAt e 0 == 4) = false := by rw [beq_eq_false_iff_ne]; exact c4
    have b5 : (iAt e 0 == 5) = false := by rw [beq_eq_false_iff_ne]; exact c5
    by_cases c2 : iAt r 2 = 2
    · have b2 : (iAt r 2 == 2) = true := by rw [c2]; rfl
      have eC : cellE r e = finE (mkC (iAt r 0) (iAt r 1 + 1) (iAt r 2) (sAt r 3) (sAt r 4) (iAt r 5)) := by
        unfold cellE; simp only [b4, b5, b2, e9, if_true, Bool.false_eq_true, if_false]
      have eU : updZ (zc r) e = some (zc r) := by
        unfold updZ; rw [if_neg c4, if_neg c5, if_pos ⟨show (zc r).k = 2 from c2, hr2⟩]
      have eO : okCell (mkC (iAt r 0) (iAt r 1 + 1) (iAt r 2) (sAt r 3) (sAt r 4) (iAt r 5)) = true := by
        rw [okCell_z]; show (inR (iAt r 1 + 1) 1 999 && okZ (zc r)) = true; rw [hR, hr2]; rfl
      rw [eC, eU]
      unfold finE
      rw [if_pos eO]
      exact ⟨fun z' h => ⟨rfl, Option.some.inj h⟩, fun _ => ⟨rfl, eO, rfl, Int.le_refl _⟩⟩
    · have b2 : (iAt r 2 == 2) = false := by rw [beq_eq_false_iff_ne]; exact c2
      have eC : cellE r e = (r, 5) := by unfold cellE; simp only [b4, b5, b2, Bool.false_eq_true, if_false]
      have eU : updZ (zc r) e = none := by
        unfold updZ; rw [if_neg c4, if_neg c5, if_neg (fun h => c2 h.1)]
      rw [eC, eU]
      exact ⟨fun z' h => (by simp at h), fun h => (by simp at h)⟩
theorem Good.swap {A B : List (List D)} {r r' : List D} (g : Good (A ++ r :: B)) (h1 : okCell r' = true) (h2 : iAt r' 0 = iAt r 0) : Good (A ++ r' :: B) := by
  obtain ⟨c1, _, c3, c4⟩ := g.cut
  exact c1.put h1 c3 fun x hx => by rw [h2]; exact c4 x hx
theorem kind_n {e : List D} {j : Int} (h : ¬ iAt e 0 = j) : (iAt e 0 == j) = false := beq_eq_false_iff_ne.2 h
theorem idx_neg {l : List (List D)} {id : Int} : decide (idxC l id < 0) = true ↔ ∀ x ∈ l, iAt x 0 ≠ id := by
  rw [decide_eq_true_eq]
  rcases idxC_cases l id with ⟨h1, h2⟩ | ⟨A, r, B, rfl, h2, h3, h4⟩
  · rw [h1]; exact ⟨fun _ => h2, fun _ => by decide⟩
  · rw [h2]
    exact ⟨fun h => absurd h (by omega), fun h => absurd h3 (h r (by simp))⟩
theorem ap_open {l : List (List D)} {e : List D} (h : (apE l e).2 = 0) : Good l ∧ 1 ≤ iAt e 0 ∧ iAt e 0 ≤ 6 ∧ apE l e = chE l e := by
  unfold apE at h ⊢
  by_cases h1 : okNb l = true
  · by_cases h2 : inR (iAt e 0) 1 6 = true
    · rw [if_pos h1, if_pos h2]
      have h3 := h2
      unfold inR at h3
      simp only [Bool.and_eq_true, decide_eq_true_eq] at h3
      exact ⟨good_iff.1 h1, h3.1, h3.2, rfl⟩
    · rw [if_pos h1, if_neg h2] at h; simp at h
  · rw [if_neg h1] at h; simp at h
theorem ap_shut {l : List (List D)} {e : List D} (g : Good l) (h1 : 1 ≤ iAt e 0) (h2 : iAt e 0 ≤ 6) : apE l e = chE l e := by
  unfold apE
  rw [if_pos (good_iff.2 g), if_pos (show inR (iAt e 0) 1 6 = true by unfold inR; simp [h1, h2])]
theorem ch_ins {l : List (List D)} {e : List D} (hk : iAt e 0 = 1) (hc : okCell (cellOf e) = true) (hn : ∀ x ∈ l, iAt x 0 ≠ iAt e 2) (hl : l.length ≠ 8) : chE l e = (putC l (iAt e 1) (cellOf e), 0) := by
  unfold chE
  have h1 : (decide (idxC l (iAt e 2) ≥ 0)) = false := by rw [idxC_none hn]; rfl
  have h2 : ((l.length : Int) == 8) = false := by rw [beq_eq_false_iff_ne]; omega
  simp only [hk, hc, h1, h2, if_true, Bool.false_eq_true, if_false, beq_self_eq_true]
theorem ch_at {A B : List (List D)} {r e : List D} (hk : iAt e 0 ≠ 1) (hr : iAt r 0 = iAt e 2) (hn : ∀ x ∈ A, iAt x 0 ≠ iAt e 2) :
    chE (A ++ r :: B) e = if iAt e 0 = 2 then (A ++ B, 0) else if iAt e 0 = 3 then (putC (A ++ B) (iAt e 1) r, 0) else if (cellE r e).2 = 0 then (A ++ (cellE r e).1 :: B, 0) else (A ++ r :: B, (cellE r e).2) := by
  have h0 : idxC (A ++ r :: B) (iAt e 2) = (A.length : Int) := idxC_at hr hn
  unfold chE
  rw [h0, getD_mid, dropC_mid, set_mid, kind_n hk]
  have h1 : decide ((A.length : Int) < 0) = false := by rw [decide_eq_false_iff_not]; omega
  simp only [h1, Bool.false_eq_true, if_false, beq_iff_eq]
theorem ch_ok {l : List (List D)} {e : List D} (h : (chE l e).2 = 0) :
    (iAt e 0 = 1 ∧ okCell (cellOf e) = true ∧ (∀ x ∈ l, iAt x 0 ≠ iAt e 2) ∧ l.length ≠ 8) ∨ (iAt e 0 ≠ 1 ∧ ∃ A r B, l = A ++ r :: B ∧ iAt r 0 = iAt e 2 ∧ ∀ x ∈ A, iAt x 0 ≠ iAt e 2) := by
  by_cases hk : iAt e 0 = 1
  · unfold chE at h
    rw [hk] at h
    simp only [beq_self_eq_true, if_true] at h
    by_cases hc : okCell (cellOf e) = true
    · rw [if_pos hc] at h
      by_cases hi : decide (idxC l (iAt e 2) ≥ 0) = true
      · rw [if_pos hi] at h; simp at h
      · rw [if_neg hi] at h
        by_cases hl : ((l.length : Int) == 8) = true
        · rw [if_pos hl] at h; simp at h
        · refine .inl ⟨hk, hc, idx_neg.1 ?_, fun h8 => hl (by rw [h8]; rfl)⟩
          simp only [decide_eq_true_eq, ge_iff_le, Int.not_le] at hi ⊢
          exact hi
    · rw [if_neg hc] at h; simp at h
  · refine .inr ⟨hk, ?_⟩
    rcases idxC_cases l (iAt e 2) with ⟨h1, h2⟩ | ⟨A, r, B, e1, h2, h3, h4⟩
    · unfold chE at h
      rw [kind_n hk, if_neg (by decide), if_pos (idx_neg.2 h2)] at h
      simp at h
    · exact ⟨A, r, B, e1, h3, h4⟩
theorem updZ_back {z z' : Zc} {e e' : List D} (hk : iAt e' 0 = iAt e 0) (h5 : sAt e' 5 = z.nm) (h6 : sAt e' 6 = z.cd) (hz : okZ z = true) (h4 : iAt e 0 = 4) (h : updZ z e = some z') : updZ z' e' = some z := by
  unfold updZ at h ⊢
  rw [if_pos h4] at h
  rw [hk, if_pos h4]
  by_cases h3 : z.k = 3
  · rw [if_pos h3] at h; simp at h
  · rw [if_neg h3] at h
    split at h
    · obtain rfl := Option.some.inj h
      rw [if_neg h3, h5, h6]
      exact if_pos hz
    · simp at h
theorem updZ_back5 {z z' : Zc} {e e' : List D} (hk : iAt e' 0 = 5) (h7 : iAt e' 7 = z.n) (hz : okZ z = true) (h4 : iAt e 0 = 5) (h : updZ z e = some z') : updZ z' e' = some z := by
  unfold updZ at h ⊢
  rw [h4, if_neg (by decide), if_pos rfl] at h
  rw [hk, if_neg (by decide), if_pos rfl]
  by_cases h3 : z.k = 3
  · rw [if_pos h3] at h
    split at h
    · obtain rfl := Option.some.inj h
      rw [if_pos h3, h7]
      exact if_pos hz
    · simp at h
  · rw [if_neg h3] at h; simp at h
theorem updZ_back6 {z z' : Zc} {e e' : List D} (hk : iAt e' 0 = 6) (h4 : iAt e 0 = 6) (h : updZ z e = some z') : updZ z' e' = some z := by
  unfold updZ at h ⊢
  rw [h4, if_neg (by decide), if_neg (by decide)] at h
  rw [hk, if_neg (by decide), if_neg (by decide)]
  split at h
  · rename_i h2
    obtain rfl := Option.some.inj h
    exact if_pos h2
  · simp at h
theorem aN_mid (A B : List (List D)) (r : List D) : aN (A ++ r :: B) = aN A ++ zc r :: aN B := by rw [aN, List.map_append]; rfl
theorem aN_app (A B : List (List D)) : aN (A ++ B) = aN A ++ aN B := List.map_append
theorem invX_at {A B : List (List D)} {r e : List D} (hr : iAt r 0 = iAt e 2) (hn : ∀ x ∈ A, iAt x 0 ≠ iAt e 2) : invX (A ++ r :: B) e =
    if iAt e 0 = 1 then mkE 2 0 (mkC (iAt e 2) 0 0 ⟨#[]⟩ ⟨#[]⟩ 0) else
    if iAt e 0 = 2 then mkE 1 (A.length : Int) r else
    if iAt e 0 = 3 then mkE 3 (A.length : Int) (mkC (iAt e 2) 0 0 ⟨#[]⟩ ⟨#[]⟩ 0) else
    if iAt e 0 = 4 then mkE 4 0 (mkC (iAt e 2) 0 0 (sAt r 3) (sAt r 4) 0) else
    if iAt e 0 = 5 then mkE 5 0 (mkC (iAt e 2) 0 0 ⟨#[]⟩ ⟨#[]⟩ (iAt r 5)) else
    mkE 6 0 (mkC (iAt e 2) 0 0 ⟨#[]⟩ ⟨#[]⟩ 0) := by
  unfold invX
  rw [idxC_at hr hn, getD_mid]
  simp only [beq_iff_eq]
theorem ap_good {l : List (List D)} {e : List D} {K : Int} (hv : vB K l) (hK : K ≤ 998) (hK0 : 0 ≤ K) (he : iAt e 3 ≤ K) (h : (apE l e).2 = 0) :
    Good (apE l e).1 ∧ vB (K + 1) (apE l e).1 ∧ ZStep (aN l) e (aN (apE l e).1) ∧ ZStep (aN (apE l e).1) (invX l e) (aN l) ∧ iAt (invX l e) 3 ≤ K := by
  obtain ⟨g, k1, k6, ea⟩ := ap_open h
  rw [ea] at h ⊢
  rcases ch_ok h with ⟨hk, hc, hn, hl⟩ | ⟨hk, A, r, B, rfl, hr, hn⟩
  · have e1 := ch_ins hk hc hn hl
    obtain ⟨A, B, rfl, e2, e3⟩ := putC_splits l (iAt e 1) (cellOf e)
    rw [e2] at e1
    rw [e1]
    have hl8 : (A ++ B).length < 8 := by have := g.len; omega
    have hX : invX (A ++ B) e = mkE 2 0 (mkC (iAt e 2) 0 0 ⟨#[]⟩ ⟨#[]⟩ 0) := by unfold invX; rw [if_pos (by rw [hk]; rfl)]
    refine ⟨g.put hc hl8 fun x hx => by rw [cell_id]; exact hn x hx, fun x hx => ?_, ?_, ?_, ?_⟩
    · rcases List.mem_append.1 hx with h1 | h1
      · have := hv x (List.mem_append_left _ h1); omega
      · rcases List.mem_cons.1 h1 with rfl | h1
        · rw [cell_ve]; omega
        · have := hv x (List.mem_append_right _ h1); omega
    · show ZStep (aN (A ++ B)) e (aN (A ++ cellOf e :: B))
      rw [aN_mid, aN_app]
      refine ZStep.ins _ _ e hk hc ?_ ?_ ?_
      · rw [← aN_app]; exact mem_aN.2 hn
      · simpa using hl8
      · simpa using e3
    · rw [hX]
      show ZStep (aN (A ++ cellOf e :: B)) _ (aN (A ++ B))
      rw [aN_mid, aN_app]
      exact ZStep.del _ _ _ _ rfl (cell_id e) (mem_aN.2 fun x hx => hn x (List.mem_append_left _ hx))
    · rw [hX]; exact hK0
  · have e1 := ch_at (B := B) hk hr hn
    have hX := invX_at (B := B) hr hn
    rw [if_neg hk] at hX
    obtain ⟨g1, g2, g3, g4⟩ := g.cut
    have hvr : iAt r 1 ≤ K := hv r (by simp)
    have hvs : ∀ x ∈ A ++ B, iAt x 1 ≤ K := fun x hx => hv x (by rcases List.mem_append.1 hx with h1 | h1 <;> simp [h1])
    by_cases h2 : iAt e 0 = 2
    · rw [if_pos h2] at e1 hX
      rw [e1, hX]
      refine ⟨g1, fun x hx => by have := hvs x hx; omega, ?_, ?_, hvr⟩
      · show ZStep (aN (A ++ r :: B)) e (aN (A ++ B))
        rw [aN_mid, aN_app]
        exact ZStep.del _ _ _ _ h2 hr (mem_aN.2 hn)
      · show ZStep (aN (A ++ B)) _ (aN (A ++ r :: B))
        rw [aN_mid, aN_app]
        refine ZStep.ins (aN A) (aN B) (mkE 1 (A.length : Int) r) rfl g2 ?_ ?_ ?_
        · rw [← aN_app]; exact mem_aN.2 g4
        · simpa using g3
        · show ((aN A).length : Int) = clampI (A.length : Int) (aN A ++ aN B).length
          unfold clampI; simp only [List.length_append, List.length_map]; omega
    rw [if_neg h2] at e1 hX
    by_cases h3 : iAt e 0 = 3
    · rw [if_pos h3] at e1 hX
      obtain ⟨A', B', e2, e3, e4⟩ := putC_splits (A ++ B) (iAt e 1) r
      rw [e3] at e1
      rw [e1, hX]
      refine ⟨(e2 ▸ g1).put g2 (e2 ▸ g3) (e2 ▸ g4), fun x hx => ?_, ?_, ?_, hK0⟩
      · rcases List.mem_append.1 hx with h1 | h1
        · have := hvs x (e2 ▸ List.mem_append_left _ h1); omega
        · rcases List.mem_cons.1 h1 with rfl | h1
          · omega
          · have := hvs x (e2 ▸ List.mem_append_right _ h1); omega
      · show ZStep (aN (A ++ r :: B)) e (aN (A' ++ r :: B'))
        rw [aN_mid, aN_mid]
        refine ZStep.mov _ _ _ _ _ _ h3 hr (mem_aN.2 hn) ?_ ?_
        · rw [← aN_app, ← aN_app, e2]
        · rw [← aN_app, List.length_map, List.length_map]; exact e4
      · show ZStep (aN (A' ++ r :: B')) _ (aN (A ++ r :: B))
        rw [aN_mid, aN_mid]
        refine ZStep.mov _ _ _ _ _ _ rfl hr (mem_aN.2 fun x hx => ?_) ?_ ?_
        · show iAt x 0 ≠ iAt e 2
          rw [← hr]
          exact g4 x (e2 ▸ List.mem_append_left _ hx)
        · rw [← aN_app, ← aN_app, e2]
        · show ((aN A).length : Int) = clampI (A.length : Int) (aN A' ++ aN B').length
          rw [← aN_app, ← e2]
          unfold clampI; simp only [List.length_append, List.length_map]; omega
    rw [if_neg h3] at e1 hX
    have hk3 : 4 ≤ iAt e 0 ∧ iAt e 0 ≤ 6 := by omega
    obtain ⟨_, cz⟩ := cellE_z hk3 g2 (Int.le_trans hvr hK)
    by_cases h0 : (cellE r e).2 = 0
    · rw [if_pos h0] at e1
      obtain ⟨c1, c2, c3, c4⟩ := cz h0
      rw [e1]
      have hz : okZ (zc r) = true := by rw [okCell_z, Bool.and_eq_true] at g2; exact g2.2
      refine ⟨g.swap c2 c3, fun x hx => ?_, ?_, ?_, ?_⟩
      · rcases List.mem_append.1 hx with h1 | h1
        · have := hvs x (List.mem_append_left _ h1); omega
        · rcases List.mem_cons.1 h1 with rfl | h1
          · omega
          · have := hvs x (List.mem_append_right _ h1); omega
      · show ZStep (aN (A ++ r :: B)) e (aN (A ++ (cellE r e).1 :: B))
        rw [aN_mid, aN_mid]
        exact ZStep.upd _ _ _ _ _ hk3 hr (mem_aN.2 hn) c1
      · show ZStep (aN (A ++ (cellE r e).1 :: B)) _ (aN (A ++ r :: B))
        rw [aN_mid, aN_mid, hX]
        have hid : (zc (cellE r e).1).id = iAt e 2 := c3.trans hr
        by_cases h4 : iAt e 0 = 4
        · rw [if_pos h4]
          exact ZStep.upd _ _ _ _ _ (by show (4 : Int) ≤ 4 ∧ (4 : Int) ≤ 6; omega) hid (mem_aN.2 hn) (updZ_back (e := e) h4.symm rfl rfl hz h4 c1)
        rw [if_neg h4]
        by_cases h5 : iAt e 0 = 5
        · rw [if_pos h5]
          exact ZStep.upd _ _ _ _ _ (by show (4 : Int) ≤ 5 ∧ (5 : Int) ≤ 6; omega) hid (mem_aN.2 hn) (updZ_back5 (e := e) rfl rfl hz h5 c1)
        · rw [if_neg h5]
          exact ZStep.upd _ _ _ _ _ (by show (4 : Int) ≤ 6 ∧ (6 : Int) ≤ 6; omega) hid (mem_aN.2 hn) (updZ_back6 (e := e) rfl (by omega) c1)
      · rw [hX]
        by_cases h4 : iAt e 0 = 4
        · rw [if_pos h4]; exact hK0
        rw [if_neg h4]
        by_cases h5 : iAt e 0 = 5
        · rw [if_pos h5]; exact hK0
        · rw [if_neg h5]; exact hK0
    · rw [e1, if_neg h0] at h
      exact absurd h h0
theorem step_ap {l : List (List D)} {e : List D} {m : List Zc} {K : Int} (g : Good l) (hv : vB K l) (hK : K ≤ 998) (h : ZStep (aN l) e m) : (apE l e).2 = 0 ∧ aN (apE l e).1 = m := by
  generalize hx : aN l = x at h
  cases h with
  | ins A B _ hk hc hn hl ha =>
    obtain ⟨A1, B1, rfl, rfl, rfl⟩ := cutZ hx
    rw [ap_shut g (by omega) (by omega)]
    have hl8 : (A1 ++ B1).length < 8 := by simpa using hl
    rw [ch_ins hk hc (mem_aN.1 (by rw [aN_app]; exact hn)) (by omega), putC_len (by simpa using ha)]
    exact ⟨rfl, aN_mid _ _ _⟩
  | del A B z _ hk hz hn =>
    obtain ⟨A1, r, B1, rfl, rfl, rfl, rfl⟩ := firstZ hx
    rw [ap_shut g (by omega) (by omega), ch_at (by omega) hz (mem_aN.1 hn), if_pos hk]
    exact ⟨rfl, aN_app _ _⟩
  | mov A B A' B' z _ hk hz hn hs ha =>
    obtain ⟨A1, r, B1, rfl, rfl, rfl, rfl⟩ := firstZ hx
    obtain ⟨A2, B2, e1, rfl, rfl⟩ := cutZ (l := A1 ++ B1) (A := A') (B := B') (by rw [aN_app]; exact hs.symm)
    rw [ap_shut g (by omega) (by omega), ch_at (by omega) hz (mem_aN.1 hn), if_neg (by omega), if_pos hk, e1, putC_len (by
      rw [← e1]
      simpa using ha)]
    exact ⟨rfl, aN_mid _ _ _⟩
  | upd A B z z' _ hk hz hn hu =>
    obtain ⟨A1, r, B1, rfl, rfl, rfl, rfl⟩ := firstZ hx
    have g2 := g.cell r (by simp)
    obtain ⟨cz, _⟩ := cellE_z hk g2 (Int.le_trans (hv r (by simp)) hK)
    obtain ⟨c1, c2⟩ := cz _ hu
    rw [ap_shut g (by omega) (by omega), ch_at (by omega) hz (mem_aN.1 hn), if_neg (by omega), if_neg (by omega), if_pos c1]
    refine ⟨rfl, ?_⟩
    show aN (A1 ++ (cellE r e).1 :: B1) = _
    rw [aN_mid, c2]
inductive ZSteps : List Zc → List (List D) → List Zc → Prop
  | nil (a) : ZSteps a [] a
  | cons {a b c e es} : ZStep a e b → ZSteps b es c → ZSteps a (e :: es) c
theorem ZSteps.app {a b c : List Zc} {es fs : List (List D)} (h : ZSteps a es b) (k : ZSteps b fs c) : ZSteps a (es ++ fs) c := by
  induction h with
  | nil => exact k
  | cons h1 _ ih => exact .cons h1 (ih k)
def eB (K : Int) (es : List (List D)) : Prop := ∀ e ∈ es, iAt e 3 ≤ K
theorem invE_ok {l : List (List D)} {e : List D} (h : (apE l e).2 = 0) : invE l e = (invX l e, true) := by
  unfold invE; rw [h]; rfl
theorem bat_good : ∀ (es l l0 : List (List D)) (i K : Int), 0 ≤ i → vB K l → K + es.length ≤ 999 → 0 ≤ K → eB K es → Good l → (batF l0 l es i).2 < 0 →
    Good (batF l0 l es i).1 ∧ vB (K + es.length) (batF l0 l es i).1 ∧ ZSteps (aN l) es (aN (batF l0 l es i).1) ∧ ∃ ivs, (∀ acc, ivtF l es acc = (ivs ++ acc, true)) ∧ ZSteps (aN (batF l0 l es i).1) ivs (aN l) ∧ eB (K + es.length) ivs ∧ ivs.length = es.length
  | [], l, l0, i, K, _, hv, _, _, _, g, _ => ⟨g, by simpa [batF] using hv, ZSteps.nil _, [], fun _ => rfl, ZSteps.nil _, fun _ h => by simp at h, rfl⟩
  | e :: es, l, l0, i, K, hi, hv, hK, hK0, he, g, h => by
    have hL : ((e :: es).length : Int) = es.length + 1 := by simp
    rw [hL] at hK ⊢
    by_cases h0 : (apE l e).2 = 0
    · have eb : batF l0 l (e :: es) i = batF l0 (apE l e).1 es (i + 1) := by
        rw [batF, if_pos (by rw [h0]; rfl)]
      rw [eb] at h ⊢
      obtain ⟨a1, a2, a3, a4, a5⟩ := ap_good hv (by omega) hK0 (he e (by simp)) h0
      obtain ⟨b1, b2, b3, ivs, b4, b5, b6, b7⟩ := bat_good es (apE l e).1 l0 (i + 1) (K + 1) (by omega) a2 (by omega) (by omega) (fun x hx => Int.le_trans (he x (by simp [hx])) (by omega)) a1 h
      have ek : K + (es.length + 1) = K + 1 + es.length := by omega
      rw [ek]
      refine ⟨b1, b2, .cons a3 b3, ivs ++ [invX l e], fun acc => ?_, b5.app (.cons a4 (.nil _)), fun x hx => ?_, by simp [b7]⟩
      · rw [ivtF, invE_ok h0]
        show (if true = true then _ else _) = _
        rw [if_pos rfl, b4]
        simp
      · rcases List.mem_append.1 hx with h1 | h1
        · exact b6 x h1
        · obtain rfl := List.mem_singleton.1 h1
          omega
    · have eb : batF l0 l (e :: es) i = (l0, i) := by
        rw [batF, if_neg (by simpa using h0)]
      rw [eb] at h
      exact absurd h (by show ¬ i < 0; omega)
theorem bat_steps : ∀ (es l l0 : List (List D)) (i K : Int) (m : List Zc), vB K l → K + es.length ≤ 999 → 0 ≤ K → eB K es → Good l → ZSteps (aN l) es m →
    (batF l0 l es i).2 = -1 ∧ aN (batF l0 l es i).1 = m ∧ Good (batF l0 l es i).1 ∧ vB (K + es.length) (batF l0 l es i).1
  | [], l, l0, i, K, m, hv, _, _, _, g, h => by
    cases h
    exact ⟨rfl, rfl, g, by simpa [batF] using hv⟩
  | e :: es, l, l0, i, K, m, hv, hK, hK0, he, g, h => by
    have hL : ((e :: es).length : Int) = es.length + 1 := by simp
    rw [hL] at hK ⊢
    cases h with
    | cons h1 h2 =>
      obtain ⟨s1, s2⟩ := step_ap g hv (by omega) h1
      obtain ⟨a1, a2, _, _, _⟩ := ap_good hv (by omega) hK0 (he e (by simp)) s1
      have eb : batF l0 l (e :: es) i = batF l0 (apE l e).1 es (i + 1) := by
        rw [batF, if_pos (by rw [s1]; rfl)]
      rw [eb]
      obtain ⟨b1, b2, b3, b4⟩ := bat_steps es (apE l e).1 l0 (i + 1) (K + 1) m a2 (by omega) (by omega) (fun x hx => Int.le_trans (he x (by simp [hx])) (by omega)) a1 (by rw [s2]; exact h2)
      exact ⟨b1, b2, b3, by rw [show K + (es.length + 1) = K + 1 + es.length by omega]; exact b4⟩
end Go.Proofs.YtodddilaniojgaaGreat.Ab
