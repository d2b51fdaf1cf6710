/- Paths in a tree of edits. No program in sight. -/
import Derived.Test.YtodddilaniojgaaGreatCHu
namespace Go.Proofs.YtodddilaniojgaaGreat.Ab
open Go.RowKit
set_option linter.unusedVariables false
abbrev gI (p : List Int) (i : Nat) : Int := p.getD i 0
theorem rAt_int {p : List Int} {i : Nat} (hi : i < p.length) : iAt (rAt (intR p) i) 0 = gI p i := by
  simp [rAt, List.getD_eq_getElem?_getD, List.getElem?_eq_getElem hi]
  rfl
theorem intR_len (p : List Int) : (intR p).length = p.length := List.length_map _
theorem pth_open {h : H3} {k : Int} (h0 : (pthE h k).length ≠ 0) : okH h = true ∧ 0 ≤ k ∧ k < (h.2.1.length : Int) ∧ pthE h k = pthI h.2.1 21 k := by
  unfold pthE at h0 ⊢
  split at h0
  · rename_i hc
    rw [if_pos hc]
    simp only [Bool.and_eq_true] at hc
    have h2 := hc.2
    unfold inR at h2
    simp only [Bool.and_eq_true, decide_eq_true_eq] at h2
    exact ⟨hc.1, h2.1, by omega, rfl⟩
  · exact absurd rfl h0
theorem pth_no1 {h : H3} {k : Int} (h1 : (!okH h) = true) : pthE h k = [] := by unfold pthE; rw [of_notT h1]; rfl
theorem pth_no2 {h : H3} {k : Int} (h1 : (!inR k 0 ((h.2.1.length : Int) - 1)) = true) : pthE h k = [] := by unfold pthE; rw [of_notT h1]; simp
theorem pth_yes {h : H3} {k : Int} (h1 : (!okH h) = false) (h2 : (!inR k 0 ((h.2.1.length : Int) - 1)) = false) : pthE h k = pthI h.2.1 21 k := by unfold pthE; rw [of_notF h1, of_notF h2]; rfl
theorem pthI_neg {ns : List (List D)} {n : Nat} {k : Int} (h : k < 0) : pthI ns n k = [] := by
  cases n with
  | zero => rfl
  | succ n => rw [pthI, if_neg (by omega)]
theorem pth_next {ns : List (List D)} {n : Nat} {k : Int} {acc : List (List D)} (h : 0 ≤ k) (hn : k + 1 ≤ n) : ∃ m, n = m + 1 ∧ intR (pthI ns n k) ++ acc = intR (pthI ns m (parI ns k)) ++ ([] ++ [[.i k]] ++ acc) := by
  obtain ⟨m, rfl⟩ : ∃ m, n = m + 1 := ⟨n - 1, by omega⟩
  refine ⟨m, rfl, ?_⟩
  rw [pthI, if_pos h]
  simp
theorem pthI_spec {h : H3} (ho : okH h = true) : ∀ (n : Nat) (k : Int), 0 ≤ k → k < (h.2.1.length : Int) → k + 1 ≤ n → ∃ q, pthI h.2.1 n k = q ++ [k] ∧ (pthI h.2.1 n k).Pairwise (· < ·) ∧ (∀ x ∈ q, 0 ≤ x ∧ x < k) ∧ (pthI h.2.1 n k).getD 0 0 = 0
  | 0, k, h0, h1, h2 => by omega
  | n + 1, k, h0, h1, h2 => by
    rw [pthI, if_pos h0]
    rcases okH_par ho h0 h1 with ⟨rfl, e⟩ | ⟨hk, e1, e2⟩
    · rw [e, pthI_neg (by omega)]
      exact ⟨[], rfl, by simp, by simp, rfl⟩
    · obtain ⟨q, g1, g2, g3, g4⟩ := pthI_spec ho n (parI h.2.1 k) e1 (by omega) (by omega)
      have hall : ∀ x ∈ pthI h.2.1 n (parI h.2.1 k), 0 ≤ x ∧ x < k := by
        intro x hx
        rw [g1] at hx
        rcases List.mem_append.1 hx with h3 | h3
        · have := g3 x h3; omega
        · obtain rfl := List.mem_singleton.1 h3; omega
      refine ⟨pthI h.2.1 n (parI h.2.1 k), rfl, ?_, hall, ?_⟩
      · rw [List.pairwise_append]
        exact ⟨g2, by simp, fun a ha b hb => by obtain rfl := List.mem_singleton.1 hb; exact (hall a ha).2⟩
      · rw [g1] at g4 ⊢
        simp only [List.getD_eq_getElem?_getD] at g4 ⊢
        rw [List.getElem?_append_left (by simp)]
        exact g4
theorem pth_spec {h : H3} {k : Int} (h0 : (pthE h k).length ≠ 0) : ∃ q, pthE h k = q ++ [k] ∧ (pthE h k).Pairwise (· < ·) ∧ (∀ x ∈ q, 0 ≤ x ∧ x < k) ∧ gI (pthE h k) 0 = 0 := by
  obtain ⟨ho, h1, h2, e⟩ := pth_open h0
  have := okH_len ho
  rw [e]
  exact pthI_spec ho 21 k h1 h2 (by omega)
theorem hasI_iff {p : List Int} {x : Int} : hasI (intR p) x = true ↔ x ∈ p := by
  unfold hasI
  rw [Bool.not_eq_true', ← Bool.not_eq_true, allB_iff, intR_len]
  constructor
  · intro h
    refine Classical.byContradiction fun hn => h fun j hj => ?_
    rw [rAt_int hj, Bool.not_eq_true', beq_eq_false_iff_ne]
    intro e
    refine hn ?_
    rw [← e, gI, List.getD_eq_getElem?_getD, List.getElem?_eq_getElem hj]
    exact List.getElem_mem hj
  · intro h hall
    obtain ⟨j, hj, e⟩ := List.mem_iff_getElem.1 h
    have := hall j hj
    rw [rAt_int hj, Bool.not_eq_true', beq_eq_false_iff_ne] at this
    refine this ?_
    rw [gI, List.getD_eq_getElem?_getD, List.getElem?_eq_getElem hj]
    exact e
theorem unE_ok {h : H3} (h1 : (unE h).2 = true) : okH h = true ∧ h.2.2 ≠ 0 ∧ (unE h).1.2.1 = h.2.1 ∧ 0 ≤ (unE h).1.2.2 ∧ (unE h).1.2.2 < h.2.2 := by
  have e : unE h = mvE h (lAt (rI h.2.1 h.2.2) 2) (parI h.2.1 h.2.2) ∧ okH h = true ∧ h.2.2 ≠ 0 := by
    unfold unE at h1 ⊢
    split at h1
    · rename_i ho
      rw [if_pos ho]
      split at h1
      · cases h1
      · rename_i h2
        rw [if_neg h2]
        exact ⟨rfl, ho, by simpa using h2⟩
    · cases h1
  obtain ⟨e, ho, ha⟩ := e
  rw [e] at h1 ⊢
  rw [mv_flag] at h1
  rw [mv_yes (of_notT h1)]
  have h2 := okH_len ho
  refine ⟨ho, ha, rfl, ?_⟩
  show 0 ≤ parI h.2.1 h.2.2 ∧ parI h.2.1 h.2.2 < h.2.2
  rcases okH_par ho h2.2.2.1 (by omega) with ⟨h3, _⟩ | ⟨_, h4, h5⟩
  · exact absurd h3 ha
  · exact ⟨h4, h5⟩
theorem reE_ok {h : H3} {k : Int} (h1 : (reE h k).2 = true) : okH h = true ∧ (reE h k).1.2.1 = h.2.1 ∧ (reE h k).1.2.2 = k ∧ inR k 1 ((h.2.1.length : Int) - 1) = true ∧ parI h.2.1 k = h.2.2 ∧ reE h k = mvE h (lAt (rI h.2.1 k) 1) k := by
  unfold reE at h1 ⊢
  split at h1
  · rename_i ho
    rw [if_pos ho]
    split at h1
    · rename_i h2
      rw [if_pos h2]
      split at h1
      · rename_i h3
        rw [if_pos h3]
        rw [mv_flag] at h1
        rw [mv_yes (of_notT h1)]
        exact ⟨ho, rfl, rfl, h2, eq_of_beq h3, rfl⟩
      · cases h1
    · cases h1
  · cases h1
theorem goU_has {p : List Int} {n : Nat} {h : H3} (hn : 1 ≤ n) (h1 : (!hasI (intR p) h.2.2) = false) : goU p n h = some h := by
  obtain ⟨m, rfl⟩ : ∃ m, n = m + 1 := ⟨n - 1, by omega⟩
  rw [goU, if_pos (of_notF h1)]
theorem goU_no {p : List Int} {n : Nat} {h : H3} (h1 : (!hasI (intR p) h.2.2) = true) (h2 : (!(unE h).2) = true) : goU p n h = none := by
  cases n with
  | zero => rfl
  | succ m => rw [goU, if_neg (by rw [of_notT h1]; decide), if_neg (by rw [of_notT h2]; decide)]
theorem goU_next {p : List Int} {n : Nat} {h : H3} (hn : 1 ≤ n) (h1 : (!hasI (intR p) h.2.2) = true) (h2 : (!(unE h).2) = false) : goU p n h = goU p (n - 1) (unE h).1 := by
  obtain ⟨m, rfl⟩ : ∃ m, n = m + 1 := ⟨n - 1, by omega⟩
  rw [goU, if_neg (by rw [of_notT h1]; decide), if_pos (of_notF h2)]; rfl
theorem dropI {p : List Int} {i : Nat} (hi : i < p.length) : p.drop i = gI p i :: p.drop (i + 1) := by
  rw [List.drop_eq_getElem_cons hi, gI, List.getD_eq_getElem?_getD, List.getElem?_eq_getElem hi]; rfl
theorem goR_skip {fr : Int} {p : List Int} {i : Nat} {h : H3} (hi : i < p.length) (h1 : gI p i ≤ fr) : goR fr (p.drop i) h = goR fr (p.drop (i + 1)) h := by
  rw [dropI hi, goR, if_pos h1]
theorem goR_no {fr : Int} {p : List Int} {i : Nat} {h : H3} (hi : i < p.length) (h1 : ¬ gI p i ≤ fr) (h2 : (!(reE h (gI p i)).2) = true) : goR fr (p.drop i) h = none := by
  rw [dropI hi, goR, if_neg h1, if_neg (by rw [of_notT h2]; decide)]
theorem goR_next {fr : Int} {p : List Int} {i : Nat} {h : H3} (hi : i < p.length) (h1 : ¬ gI p i ≤ fr) (h2 : (!(reE h (gI p i)).2) = false) : goR fr (p.drop i) h = goR fr (p.drop (i + 1)) (reE h (gI p i)).1 := by
  rw [dropI hi, goR, if_neg h1, if_pos (of_notF h2)]
theorem goR_end {fr : Int} {p : List Int} {i : Nat} {h : H3} (hi : ¬ i < p.length) : goR fr (p.drop i) h = some h := by
  rw [List.drop_eq_nil_of_le (Nat.le_of_not_lt hi), goR]
theorem goE_nil {h : H3} {k : Int} (h0 : (pthE h k).length = 0) : goE h k = (h, false) := by unfold goE; rw [if_pos h0]
theorem goE_no {h : H3} {k : Int} (h1 : goU (pthE h k) 21 h = none) : goE h k = (h, false) := by
  unfold goE; split
  · rfl
  · rw [h1]
theorem goE_no2 {h h1 : H3} {k : Int} (e1 : goU (pthE h k) 21 h = some h1) (e2 : goR h1.2.2 (pthE h k) h1 = none) : goE h k = (h, false) := by
  unfold goE; split
  · rfl
  · rw [e1]; simp only [e2]
theorem goE_yes {h h1 h2 : H3} {k : Int} (h0 : (pthE h k).length ≠ 0) (e1 : goU (pthE h k) 21 h = some h1) (e2 : goR h1.2.2 (pthE h k) h1 = some h2) : goE h k = (h2, true) := by
  unfold goE; rw [if_neg h0, e1]; simp only [e2]
theorem pw_lt {p : List Int} (hp : p.Pairwise (· < ·)) {i j : Nat} (hij : i < j) (hj : j < p.length) : gI p i < gI p j := by
  rw [gI, gI, List.getD_eq_getElem?_getD, List.getD_eq_getElem?_getD, List.getElem?_eq_getElem hj, List.getElem?_eq_getElem (by omega)]
  exact List.pairwise_iff_getElem.1 hp i j (by omega) hj hij
theorem mem_gI {p : List Int} {x : Int} (h : x ∈ p) : ∃ j, j < p.length ∧ gI p j = x := by
  obtain ⟨j, hj, e⟩ := List.mem_iff_getElem.1 h
  exact ⟨j, hj, by rw [gI, List.getD_eq_getElem?_getD, List.getElem?_eq_getElem hj]; exact e⟩
def TrkG (p : List Int) (fr at_ : Int) (i : Nat) : Prop := (∀ j, i = j + 1 → fr ≤ gI p j → at_ = gI p j) ∧ ((i = 0 ∨ ∃ j, i = j + 1 ∧ gI p j < fr) → at_ = fr)
theorem trk0 {p : List Int} {fr : Int} : TrkG p fr fr 0 := ⟨fun j h => by omega, fun _ => rfl⟩
theorem trk_skip {p : List Int} {fr at_ : Int} {i : Nat} (hp : p.Pairwise (· < ·)) (hf : fr ∈ p) (hi : i < p.length) (ht : TrkG p fr at_ i) (h : i = 0 ∨ ∃ j, i = j + 1 ∧ gI p j ≠ at_) : gI p i ≤ fr ∧ TrkG p fr at_ (i + 1) := by
  obtain ⟨m, hm, rfl⟩ := mem_gI hf
  have hle : gI p i ≤ gI p m ∧ at_ = gI p m := by
    rcases h with rfl | ⟨j, rfl, hj⟩
    · refine ⟨?_, ht.2 (.inl rfl)⟩
      rcases Nat.eq_zero_or_pos m with rfl | h1
      · exact Int.le_refl _
      · exact Int.le_of_lt (pw_lt hp h1 hm)
    · have h1 : gI p j < gI p m := by
        rcases Int.lt_or_le (gI p j) (gI p m) with h2 | h2
        · exact h2
        · exact absurd (ht.1 j rfl h2).symm hj
      refine ⟨?_, ht.2 (.inr ⟨j, rfl, h1⟩)⟩
      have h2 : j < m := by
        rcases Nat.lt_or_ge j m with h3 | h3
        · exact h3
        · rcases Nat.eq_or_lt_of_le h3 with rfl | h4
          · omega
          · have := pw_lt hp h4 (by omega); omega
      rcases Nat.eq_or_lt_of_le (show j + 1 ≤ m from h2) with h3 | h3
      · rw [h3]; exact Int.le_refl _
      · exact Int.le_of_lt (pw_lt hp h3 hm)
  refine ⟨hle.1, fun j hj h2 => ?_, fun _ => hle.2⟩
  obtain rfl : i = j := by omega
  omega
theorem trk_go {p : List Int} {fr at_ : Int} {i j : Nat} (hp : p.Pairwise (· < ·)) (hf : fr ∈ p) (hi : i < p.length) (ht : TrkG p fr at_ i) (hij : i = j + 1) (h : gI p j = at_) : ¬ gI p i ≤ fr ∧ TrkG p fr (gI p i) (i + 1) := by
  subst hij
  have h1 : fr ≤ gI p j := by
    rcases Int.lt_or_le (gI p j) fr with h2 | h2
    · have := ht.2 (.inr ⟨j, rfl, h2⟩); omega
    · exact h2
  have h2 : gI p j < gI p (j + 1) := pw_lt hp (Nat.lt_succ_self j) hi
  refine ⟨by omega, fun m hm _ => ?_, fun h3 => ?_⟩
  · obtain rfl : j + 1 = m := by omega
    rfl
  · rcases h3 with h3 | ⟨m, hm, h3⟩
    · omega
    · obtain rfl : j + 1 = m := by omega
      omega
theorem pthI_len (ns : List (List D)) : ∀ (n : Nat) (k : Int), (pthI ns n k).length ≤ n
  | 0, k => by simp [pthI]
  | n + 1, k => by
    rw [pthI]
    split
    · have := pthI_len ns n (parI ns k)
      simp; omega
    · simp
theorem pth_len (h : H3) (k : Int) : (pthE h k).length ≤ 21 := by
  unfold pthE
  split
  · exact pthI_len _ _ _
  · simp
theorem len0 {p : List Int} (h : (((intR p).length : Int) == 0) = true) : p.length = 0 := by
  have := eq_of_beq h
  rw [intR_len] at this
  omega
theorem len1 {p : List Int} (h : (((intR p).length : Int) == 0) = false) : p.length ≠ 0 := by
  have := beq_eq_false_iff_ne.1 h
  rw [intR_len] at this
  omega
theorem i0_is {i : Nat} (h : ((i : Int) == 0) = true) : i = 0 := by have := eq_of_beq h; omega
theorem i0_of {i : Nat} (h : ((i : Int) == 0) = false) : 0 < i := by have := beq_eq_false_iff_ne.1 h; omega
end Go.Proofs.YtodddilaniojgaaGreat.Ab
