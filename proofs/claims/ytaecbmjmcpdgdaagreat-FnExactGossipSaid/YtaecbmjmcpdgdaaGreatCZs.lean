/- sort.stable_func beyond one block: the exact functions, and that they sort. No program in sight. -/
import Derived.Sort.LotA
namespace Go.Proofs.YtaecbmjmcpdgdaaGreat.Zs
open Go.Sort
variable {α : Type} [Inhabited α]
set_option linter.unusedVariables false
set_option linter.unusedSimpArgs false
def bsr (p : Nat → Bool) (i j : Nat) : Nat :=
  if i < j then (if p ((i + j) / 2) then bsr p ((i + j) / 2 + 1) j else bsr p i ((i + j) / 2)) else i
termination_by j - i
decreasing_by all_goals omega
def upS (k e : Nat) (d : Array α) : Array α := if k < e then upS (k + 1) e (swp d k (k + 1)) else d
termination_by e - k
def dnS (i : Nat) : Nat → Array α → Array α
  | 0, d => d
  | k + 1, d => if i < k + 1 then dnS i k (swp d (k + 1) k) else d
def swr (a b n i : Nat) (d : Array α) : Array α := if i < n then swr a b n (i + 1) (swp d (a + i) (b + i)) else d
termination_by n - i
def rot (m i j : Nat) (d : Array α) : Array α :=
  if i = j ∨ i = 0 ∨ j = 0 then swr (m - i) m i 0 d else
  if j < i then rot m (i - j) j (swr (m - i) m j 0 d) else rot m i (j - i) (swr (m - i) (m + j - i) i 0 d)
termination_by i + j
decreasing_by all_goals omega
def sM (a m b : Nat) : Nat := if (a + b) / 2 < m then (a + b) / 2 + m - b else a
def sR (a m b : Nat) : Nat := if (a + b) / 2 < m then (a + b) / 2 else m
def stt (lt : α → α → Bool) (a m b : Nat) (d : Array α) : Nat :=
  bsr (fun c => !lt d[(a + b) / 2 + m - 1 - c]! d[c]!) (sM a m b) (sR a m b)
def symM (lt : α → α → Bool) : Nat → Nat → Nat → Nat → Array α → Array α
  | 0, _, _, _, d => d
  | f + 1, a, m, b, d =>
    if m - a = 1 then upS a (bsr (fun h => lt d[h]! d[a]!) m b - 1) d else
    if b - m = 1 then dnS (bsr (fun h => !lt d[m]! d[h]!) a m) m d else
    match stt lt a m b d with
    | s =>
      match (if s < m ∧ m < (a + b) / 2 + m - s then rot m (m - s) ((a + b) / 2 - s) d else d) with
      | d1 =>
        match (if a < s ∧ s < (a + b) / 2 then symM lt f a s ((a + b) / 2) d1 else d1) with
        | d2 => if (a + b) / 2 < (a + b) / 2 + m - s ∧ (a + b) / 2 + m - s < b then symM lt f ((a + b) / 2) ((a + b) / 2 + m - s) b d2 else d2
def pas (lt : α → α → Bool) (bs n a : Nat) (d : Array α) : Array α :=
  if a + 2 * bs ≤ n ∧ 0 < bs then pas lt bs n (a + 2 * bs) (symM lt (2 * bs) a (a + bs) (a + 2 * bs) d) else
  if a + bs < n then symM lt (n - a) a (a + bs) n d else d
termination_by n - a
decreasing_by omega
def mrg (lt : α → α → Bool) (n bs : Nat) (d : Array α) : Array α :=
  if bs < n ∧ 0 < bs then mrg lt n (2 * bs) (pas lt bs n 0 d) else d
termination_by n - bs
decreasing_by omega
def blk (lt : α → α → Bool) (n a : Nat) (d : Array α) : Array α :=
  if a + 20 ≤ n then blk lt n (a + 20) (insertionSort lt d a (a + 20)) else insertionSort lt d a n
termination_by n - a
def stab (lt : α → α → Bool) (n : Nat) (d : Array α) : Array α := mrg lt n 20 (blk lt n 0 d)
theorem bsr_spec (p : Nat → Bool) : ∀ (n i j : Nat), j - i = n → i ≤ j → (∀ c c', i ≤ c → c < c' → c' < j → p c' = true → p c = true) →
    i ≤ bsr p i j ∧ bsr p i j ≤ j ∧ (∀ c, i ≤ c → c < bsr p i j → p c = true) ∧ (∀ c, bsr p i j ≤ c → c < j → p c = false) := by
  intro n
  induction n using Nat.strongRecOn with
  | _ n ih =>
    intro i j hn hij hm
    rw [bsr]
    by_cases h : i < j
    · rw [if_pos h]
      by_cases hp : p ((i + j) / 2) = true
      · rw [if_pos hp]
        obtain ⟨h1, h2, h3, h4⟩ := ih (j - ((i + j) / 2 + 1)) (by omega) ((i + j) / 2 + 1) j rfl (by omega) (fun c c' a1 a2 a3 => hm c c' (by omega) a2 a3)
        refine ⟨by omega, h2, fun c c1 c2 => ?_, h4⟩
        by_cases hc : c < (i + j) / 2 + 1
        · by_cases he : c = (i + j) / 2
          · rw [he]; exact hp
          · exact hm c ((i + j) / 2) c1 (by omega) (by omega) hp
        · exact h3 c (by omega) c2
      · rw [if_neg hp]
        obtain ⟨h1, h2, h3, h4⟩ := ih ((i + j) / 2 - i) (by omega) i ((i + j) / 2) rfl (by omega) (fun c c' a1 a2 a3 => hm c c' a1 a2 (by omega))
        refine ⟨h1, by omega, h3, fun c c1 c2 => ?_⟩
        by_cases hc : c < (i + j) / 2
        · exact h4 c c1 hc
        · by_cases he : c = (i + j) / 2
          · rw [he]; simpa using hp
          · cases hq : p c with
            | false => rfl
            | true => exact absurd (hm ((i + j) / 2) c (by omega) (by omega) c2 hq) hp
    · rw [if_neg h]
      exact ⟨Nat.le_refl _, hij, fun c c1 c2 => by omega, fun c c1 c2 => by omega⟩
theorem bsr_range (p : Nat → Bool) : ∀ (n i j : Nat), j - i = n → i ≤ j → i ≤ bsr p i j ∧ bsr p i j ≤ j := by
  intro n
  induction n using Nat.strongRecOn with
  | _ n ih =>
    intro i j hn hij
    rw [bsr]
    by_cases h : i < j
    · rw [if_pos h]
      by_cases hp : p ((i + j) / 2) = true
      · rw [if_pos hp]
        have := ih (j - ((i + j) / 2 + 1)) (by omega) ((i + j) / 2 + 1) j rfl (by omega)
        omega
      · rw [if_neg hp]
        have := ih ((i + j) / 2 - i) (by omega) i ((i + j) / 2) rfl (by omega)
        omega
    · rw [if_neg h]; omega
theorem swpP {d : Array α} {a b i j : Nat} (h1 : a ≤ i) (h2 : i < b) (h3 : a ≤ j) (h4 : j < b) (hb : b ≤ d.size) : PermIn a b d (swp d i j) := swp_permIn d a b i j h1 h2 h3 h4 hb
theorem upS_spec (a b e : Nat) : ∀ (n k : Nat) (d : Array α), e - k = n → a ≤ k → e < b → b ≤ d.size → k ≤ e →
    PermIn a b d (upS k e d) ∧ (∀ x, k ≤ x → x < e → (upS k e d)[x]! = d[x + 1]!) ∧ (upS k e d)[e]! = d[k]! ∧ (∀ x, x < k ∨ e < x → (upS k e d)[x]! = d[x]!) := by
  intro n
  induction n with
  | zero =>
    intro k d hn ha he hb hk
    obtain rfl : k = e := by omega
    rw [upS, if_neg (by omega)]
    exact ⟨permIn_refl _ _ _, fun x h1 h2 => by omega, rfl, fun _ _ => rfl⟩
  | succ n ih =>
    intro k d hn ha he hb hk
    rw [upS, if_pos (by omega)]
    have g := swp_get d (show k < d.size by omega) (show k + 1 < d.size by omega)
    obtain ⟨p, q, r, s⟩ := ih (k + 1) (swp d k (k + 1)) (by omega) (by omega) he (by rw [swp_size]; exact hb) (by omega)
    refine ⟨permIn_trans _ _ _ a b (swpP ha (by omega) (by omega) (by omega) hb) p, fun x h1 h2 => ?_, ?_, fun x hx => ?_⟩
    · by_cases hxk : x = k
      · subst hxk
        rw [s x (Or.inl (by omega)), g, if_neg (by omega), if_pos rfl]
      · rw [q x (by omega) h2, g, if_neg (by omega), if_neg (by omega)]
    · rw [r, g, if_pos rfl]
    · rw [s x (by omega), g, if_neg (by omega), if_neg (by omega)]
theorem dnS_spec (a b i : Nat) : ∀ (k : Nat) (d : Array α), a ≤ i → i ≤ k → k < b → b ≤ d.size →
    PermIn a b d (dnS i k d) ∧ (∀ x, i < x → x ≤ k → (dnS i k d)[x]! = d[x - 1]!) ∧ (dnS i k d)[i]! = d[k]! ∧ (∀ x, x < i ∨ k < x → (dnS i k d)[x]! = d[x]!) := by
  intro k
  induction k with
  | zero =>
    intro d ha hk he hb
    obtain rfl : i = 0 := by omega
    exact ⟨permIn_refl _ _ _, fun x h1 h2 => by omega, rfl, fun _ _ => rfl⟩
  | succ k ih =>
    intro d ha hk he hb
    rw [dnS]
    by_cases h : i < k + 1
    · rw [if_pos h]
      have g := swp_get d (show k + 1 < d.size by omega) (show k < d.size by omega)
      obtain ⟨p, q, r, s⟩ := ih (swp d (k + 1) k) ha (by omega) (by omega) (by rw [swp_size]; exact hb)
      refine ⟨permIn_trans _ _ _ a b (swpP (by omega) (by omega) (by omega) (by omega) hb) p, fun x h1 h2 => ?_, ?_, fun x hx => ?_⟩
      · by_cases hxk : x = k + 1
        · subst hxk
          rw [s _ (Or.inr (by omega)), g, if_neg (by omega), if_pos rfl]; rfl
        · rw [q x (by omega) (by omega), g, if_neg (by omega), if_neg (by omega)]
      · rw [r, g, if_pos rfl]
      · rw [s x (by omega), g, if_neg (by omega), if_neg (by omega)]
    · rw [if_neg h]
      obtain rfl : i = k + 1 := by omega
      exact ⟨permIn_refl _ _ _, fun x h1 h2 => by omega, rfl, fun _ _ => rfl⟩
theorem swr_spec (lo hi a b n : Nat) : ∀ (k i : Nat) (d : Array α), n - i = k → i ≤ n → lo ≤ a → a + n ≤ b → b + n ≤ hi → hi ≤ d.size →
    PermIn lo hi d (swr a b n i d) ∧ (∀ x, i ≤ x → x < n → (swr a b n i d)[a + x]! = d[b + x]! ∧ (swr a b n i d)[b + x]! = d[a + x]!) ∧
      (∀ x, (x < a + i ∨ a + n ≤ x) → (x < b + i ∨ b + n ≤ x) → (swr a b n i d)[x]! = d[x]!) := by
  intro k
  induction k with
  | zero =>
    intro i d hk hi1 h1 h2 h3 h4
    rw [swr, if_neg (by omega)]
    exact ⟨permIn_refl _ _ _, fun x a b => by omega, fun _ _ _ => rfl⟩
  | succ k ih =>
    intro i d hk hi1 h1 h2 h3 h4
    rw [swr, if_pos (by omega)]
    have g := swp_get d (show a + i < d.size by omega) (show b + i < d.size by omega)
    obtain ⟨p, q, r⟩ := ih (i + 1) (swp d (a + i) (b + i)) (by omega) (by omega) h1 h2 h3 (by rw [swp_size]; exact h4)
    refine ⟨permIn_trans _ _ _ lo hi (swpP (by omega) (by omega) (by omega) (by omega) h4) p, fun x hx1 hx2 => ?_, fun x hx1 hx2 => ?_⟩
    · by_cases hxi : x = i
      · subst hxi
        rw [r (a + x) (Or.inl (by omega)) (Or.inl (by omega)), r (b + x) (Or.inr (by omega)) (Or.inl (by omega)), g, g]
        rw [if_neg (by omega), if_pos rfl, if_pos rfl]; exact ⟨rfl, rfl⟩
      · obtain ⟨q1, q2⟩ := q x (by omega) hx2
        rw [q1, q2, g, g, if_neg (by omega), if_neg (by omega), if_neg (by omega), if_neg (by omega)]; exact ⟨rfl, rfl⟩
    · rw [r x (by omega) (by omega), g, if_neg (by omega), if_neg (by omega)]
theorem rot_spec (lo hi : Nat) : ∀ (n m i j : Nat) (d : Array α), i + j = n → 0 < i → 0 < j → i ≤ m → lo ≤ m - i → m + j ≤ hi → hi ≤ d.size →
    PermIn lo hi d (rot m i j d) ∧ (∀ x, x < j → (rot m i j d)[m - i + x]! = d[m + x]!) ∧ (∀ x, x < i → (rot m i j d)[m - i + j + x]! = d[m - i + x]!) ∧
      (∀ x, x < m - i ∨ m + j ≤ x → (rot m i j d)[x]! = d[x]!) := by
  intro n
  induction n using Nat.strongRecOn with
  | _ n ih =>
    intro m i j d hn hi0 hj0 him hlo hhi hsz
    rw [rot]
    by_cases he : i = j
    · subst he
      rw [if_pos (Or.inl rfl)]
      obtain ⟨p, q, r⟩ := swr_spec lo hi (m - i) m i (i - 0) 0 d rfl (by omega) hlo (by omega) hhi hsz
      refine ⟨p, fun x hx => (q x (by omega) hx).1, fun x hx => ?_, fun x hx => r x (by omega) (by omega)⟩
      have := (q x (by omega) hx).2
      rw [show m - i + i + x = m + x by omega]; exact this
    · rw [if_neg (by omega)]
      by_cases hl : j < i
      · rw [if_pos hl]
        obtain ⟨p, q, r⟩ := swr_spec lo hi (m - i) m j (j - 0) 0 d rfl (by omega) hlo (by omega) (by omega) hsz
        obtain ⟨p2, q2, r2, s2⟩ := ih (i - j + j) (by omega) m (i - j) j (swr (m - i) m j 0 d) rfl (by omega) hj0 (by omega) (by omega) hhi (by rw [p.1]; exact hsz)
        refine ⟨permIn_trans _ _ _ lo hi p p2, fun x hx => ?_, fun x hx => ?_, fun x hx => ?_⟩
        · rw [s2 _ (by omega)]; exact (q x (by omega) hx).1
        · by_cases hxj : x < j
          · have := q2 x hxj
            rw [show m - i + j + x = m - (i - j) + x by omega, this]; exact (q x (by omega) hxj).2
          · have := r2 (x - j) (by omega)
            rw [show m - i + j + x = m - (i - j) + j + (x - j) by omega, this, r _ (by omega) (by omega), show m - (i - j) + (x - j) = m - i + x by omega]
        · rw [s2 x (by omega), r x (by omega) (by omega)]
      · rw [if_neg hl]
        obtain ⟨p, q, r⟩ := swr_spec lo hi (m - i) (m + j - i) i (i - 0) 0 d rfl (by omega) hlo (by omega) (by omega) hsz
        obtain ⟨p2, q2, r2, s2⟩ := ih (i + (j - i)) (by omega) m i (j - i) (swr (m - i) (m + j - i) i 0 d) rfl hi0 (by omega) him hlo (by omega) (by rw [p.1]; exact hsz)
        refine ⟨permIn_trans _ _ _ lo hi p p2, fun x hx => ?_, fun x hx => ?_, fun x hx => ?_⟩
        · by_cases hxj : x < j - i
          · rw [q2 x hxj, r _ (by omega) (by omega)]
          · have := r2 (x - (j - i)) (by omega)
            rw [show m - i + x = m - i + (j - i) + (x - (j - i)) by omega, this]
            rw [(q (x - (j - i)) (by omega) (by omega)).1, show m + j - i + (x - (j - i)) = m + x by omega]
        · rw [s2 _ (by omega), show m - i + j + x = m + j - i + x by omega, (q x (by omega) hx).2]
        · rw [s2 x (by omega), r x (by omega) (by omega)]
variable {lt : α → α → Bool}
theorem stt_range (a m b : Nat) (d : Array α) (h1 : a + 1 < m) (h2 : m + 1 < b) :
    sM a m b ≤ sR a m b ∧ sM a m b ≤ stt lt a m b d ∧ stt lt a m b d ≤ sR a m b ∧ a ≤ sM a m b ∧ sR a m b ≤ m ∧ sR a m b ≤ (a + b) / 2 ∧ (a + b) / 2 + m - sM a m b ≤ b ∧
      m ≤ (a + b) / 2 + m - stt lt a m b d := by
  have h : sM a m b ≤ sR a m b := by unfold sM sR; split <;> omega
  have := bsr_range (fun c => !lt d[(a + b) / 2 + m - 1 - c]! d[c]!) _ (sM a m b) (sR a m b) rfl h
  have e : stt lt a m b d = bsr (fun c => !lt d[(a + b) / 2 + m - 1 - c]! d[c]!) (sM a m b) (sR a m b) := rfl
  rw [← e] at this
  refine ⟨h, this.1, this.2, ?_, ?_, ?_, ?_, ?_⟩
  · unfold sM; split <;> omega
  · unfold sR; split <;> omega
  · unfold sR; split <;> omega
  · unfold sM; split <;> omega
  · have : sR a m b ≤ (a + b) / 2 := by unfold sR; split <;> omega
    omega
theorem stt_spec (hS : SWO lt) (a m b : Nat) (d : Array α) (h1 : a + 1 < m) (h2 : m + 1 < b) (s1 : SortedIn lt a m d) (s2 : SortedIn lt m b d) :
    (∀ c, sM a m b ≤ c → c < stt lt a m b d → lt d[(a + b) / 2 + m - 1 - c]! d[c]! = false) ∧ (∀ c, stt lt a m b d ≤ c → c < sR a m b → lt d[(a + b) / 2 + m - 1 - c]! d[c]! = true) := by
  have hr := (stt_range (lt := lt) a m b d h1 h2)
  have hM : (a + b) / 2 + m - sM a m b ≤ b := hr.2.2.2.2.2.2.1
  have hR : sR a m b ≤ (a + b) / 2 := hr.2.2.2.2.2.1
  have hR' : sR a m b ≤ m := hr.2.2.2.2.1
  have hA : a ≤ sM a m b := hr.2.2.2.1
  have key := bsr_spec (fun c => !lt d[(a + b) / 2 + m - 1 - c]! d[c]!) _ (sM a m b) (sR a m b) rfl hr.1 (by
    intro c c' hc hcc hc' hp
    simp only [Bool.not_eq_true'] at hp ⊢
    have e1 : lt d[(a + b) / 2 + m - 1 - c]! d[(a + b) / 2 + m - 1 - c']! = false :=
      s2 _ _ (by omega) (by omega) (by omega)
    have e2 : lt d[c']! d[c]! = false := s1 _ _ (by omega) hcc (by omega)
    exact hS.ntrans _ _ _ e1 (hS.ntrans _ _ _ hp e2))
  have e : stt lt a m b d = bsr (fun c => !lt d[(a + b) / 2 + m - 1 - c]! d[c]!) (sM a m b) (sR a m b) := rfl
  rw [← e] at key
  exact ⟨fun c c1 c2 => by simpa using key.2.2.1 c c1 c2, fun c c1 c2 => by simpa using key.2.2.2 c c1 c2⟩
theorem PermIn.mono' {d d' : Array α} {a b a' b' : Nat} (h : PermIn a b d d') (h1 : a' ≤ a) (h2 : b ≤ b') (h3 : b' ≤ d.size) : PermIn a' b' d d' := permIn_mono d d' a b a' b' h1 h2 h3 h
theorem SortedIn.join {a mid b : Nat} {d : Array α} (h1 : SortedIn lt a mid d) (h2 : SortedIn lt mid b d) (h : ∀ x y, a ≤ x → x < mid → mid ≤ y → y < b → lt d[y]! d[x]! = false) : SortedIn lt a b d := by
  intro i j hi hij hj
  by_cases hjm : j < mid
  · exact h1 i j hi hij hjm
  · by_cases him : i < mid
    · exact h i j hi him (by omega) hj
    · exact h2 i j (by omega) hij hj
theorem cross_perm {a mid b : Nat} {d d' d'' : Array α} (hb : b ≤ d.size) (ham : a ≤ mid) (hmb : mid ≤ b) (p1 : PermIn a mid d d') (p2 : PermIn mid b d' d'')
    (h : ∀ x y, a ≤ x → x < mid → mid ≤ y → y < b → lt d[y]! d[x]! = false) : ∀ x y, a ≤ x → x < mid → mid ≤ y → y < b → lt d''[y]! d''[x]! = false := by
  intro x y h1 h2 h3 h4
  rw [p2.2.1 x (Or.inl h2)]
  have hd' : d'.size = d.size := p1.1
  refine permIn_all d' d'' mid b (fun z => lt z d'[x]! = false) (by omega) p2 (fun y' hy1 hy2 => ?_) y h3 h4
  rw [p1.2.1 y' (Or.inr hy1)]
  exact permIn_all d d' a mid (fun z => lt d[y']! z = false) (by omega) p1 (fun x' hx1 hx2 => h x' y' hx1 hx2 hy1 hy2) x h1 h2
theorem symM_spec (hS : SWO lt) : ∀ (f a m b : Nat) (d : Array α), b - a ≤ f → a < m → m < b → b ≤ d.size →
    PermIn a b d (symM lt f a m b d) ∧ (SortedIn lt a m d → SortedIn lt m b d → SortedIn lt a b (symM lt f a m b d))
  | 0, a, m, b, d, hf, h1, h2, h3 => by omega
  | f + 1, a, m, b, d, hf, h1, h2, h3 => by
    rw [symM]
    by_cases c1 : m - a = 1
    · rw [if_pos c1]
      have hr := bsr_range (fun h => lt d[h]! d[a]!) _ m b rfl (by omega)
      generalize hi : bsr (fun h => lt d[h]! d[a]!) m b = i at hr ⊢
      obtain ⟨p, q, r, s⟩ := upS_spec a b (i - 1) (i - 1 - a) a d rfl (Nat.le_refl _) (by omega) h3 (by omega)
      refine ⟨p, fun s1 s2 => ?_⟩
      have key := bsr_spec (fun h => lt d[h]! d[a]!) _ m b rfl (by omega) (by
        intro c c' hc hcc hc' hp
        have e := s2 c c' hc hcc hc'
        cases hq : lt d[c]! d[a]! with
        | true => rfl
        | false => exact absurd (hS.ntrans _ _ _ e hq) (by simpa using hp))
      rw [hi] at key
      have kl : ∀ c, m ≤ c → c < i → lt d[c]! d[a]! = true := key.2.2.1
      have kr : ∀ c, i ≤ c → c < b → lt d[c]! d[a]! = false := key.2.2.2
      intro x y hx hxy hy
      -- x < y in [a, b)
      by_cases y1 : y < i - 1
      · rw [q y (by omega) y1, q x hx (by omega)]; exact s2 _ _ (by omega) (by omega) (by omega)
      · by_cases y2 : y = i - 1
        · subst y2; rw [r, q x hx (by omega)]; exact hS.asymmA (kl (x + 1) (by omega) (by omega))
        · rw [s y (Or.inr (by omega))]
          by_cases x1 : x < i - 1
          · rw [q x hx x1]; exact s2 _ _ (by omega) (by omega) hy
          · by_cases x2 : x = i - 1
            · subst x2; rw [r]; exact kr y (by omega) hy
            · rw [s x (Or.inr (by omega))]; exact s2 _ _ (by omega) hxy hy
    · rw [if_neg c1]
      by_cases c2 : b - m = 1
      · rw [if_pos c2]
        have hr := bsr_range (fun h => !lt d[m]! d[h]!) _ a m rfl (by omega)
        generalize hi : bsr (fun h => !lt d[m]! d[h]!) a m = i at hr ⊢
        obtain ⟨p, q, r, s⟩ := dnS_spec a b i m d (by omega) (by omega) (by omega) h3
        refine ⟨p, fun s1 s2 => ?_⟩
        have key := bsr_spec (fun h => !lt d[m]! d[h]!) _ a m rfl (by omega) (by
          intro c c' hc hcc hc' hp
          simp only [Bool.not_eq_true'] at hp ⊢
          exact hS.ntrans _ _ _ hp (s1 c c' hc hcc hc'))
        rw [hi] at key
        have kl : ∀ c, a ≤ c → c < i → lt d[m]! d[c]! = false := fun c x y => by simpa using key.2.2.1 c x y
        have kr : ∀ c, i ≤ c → c < m → lt d[m]! d[c]! = true := fun c x y => by simpa using key.2.2.2 c x y
        intro x y hx hxy hy
        by_cases y1 : y < i
        · rw [s y (Or.inl y1), s x (Or.inl (by omega))]; exact s1 _ _ hx hxy (by omega)
        · by_cases y2 : y = i
          · subst y2; rw [r, s x (Or.inl hxy)]; exact kl x hx hxy
          · rw [q y (by omega) (by omega)]
            by_cases x1 : x < i
            · rw [s x (Or.inl x1)]; exact s1 _ _ hx (by omega) (by omega)
            · by_cases x2 : x = i
              · subst x2; rw [r]
                exact hS.asymmA (kr (y - 1) (by omega) (by omega))
              · rw [q x (by omega) (by omega)]; exact s1 _ _ (by omega) (by omega) (by omega)
      · rw [if_neg c2]
        obtain ⟨g1, g2, g3, g4, g5, g6, g7, g8⟩ := stt_range (lt := lt) a m b d (by omega) (by omega)
        have g9 := stt_spec (lt := lt) hS a m b d (by omega) (by omega)
        generalize hs : stt lt a m b d = s at g2 g3 g8 g9 ⊢
        generalize hmid : (a + b) / 2 = mid at g6 g7 g8 g9 ⊢
        have hmid1 : a < mid := by omega
        have hmid2 : mid < b := by omega
        have hmid3 : mid - a < b - a := by omega
        have hend : mid + m - s ≤ b := by omega
        dsimp only
        -- the rotation
        have R : ∃ d1, (if s < m ∧ m < mid + m - s then rot m (m - s) (mid - s) d else d) = d1 ∧ PermIn a b d d1 ∧ (∀ x, a ≤ x → x < s → d1[x]! = d[x]!) ∧
            (∀ x, s ≤ x → x < mid → d1[x]! = d[m + (x - s)]!) ∧ (∀ x, mid ≤ x → x < mid + m - s → d1[x]! = d[s + (x - mid)]!) ∧ (∀ x, mid + m - s ≤ x → d1[x]! = d[x]!) := by
          by_cases hc : s < m ∧ m < mid + m - s
          · rw [if_pos hc]
            obtain ⟨p, q, r, t⟩ := rot_spec a b (m - s + (mid - s)) m (m - s) (mid - s) d rfl (by omega) (by omega) (by omega) (by omega) (by omega) h3
            refine ⟨_, rfl, p, fun x x1 x2 => t x (by omega), fun x x1 x2 => ?_, fun x x1 x2 => ?_, fun x x1 => t x (by omega)⟩
            · have := q (x - s) (by omega)
              rw [show m - (m - s) + (x - s) = x by omega] at this; exact this
            · have := r (x - mid) (by omega)
              rw [show m - (m - s) + (mid - s) + (x - mid) = x by omega, show m - (m - s) + (x - mid) = s + (x - mid) by omega] at this; exact this
          · rw [if_neg hc]
            refine ⟨_, rfl, permIn_refl _ _ _, fun _ _ _ => rfl, fun x x1 x2 => ?_, fun x x1 x2 => ?_, fun _ _ => rfl⟩
            · have : s = m := by omega
              subst this; rw [show s + (x - s) = x by omega]
            · have : s = mid := by omega
              subst this; rw [show s + (x - s) = x by omega]
        obtain ⟨d1, e1, p1, r1, r2, r3, r4⟩ := R
        rw [e1]
        have z1 : d1.size = d.size := p1.1
        -- the left call
        have A : ∃ d2, (if a < s ∧ s < mid then symM lt f a s mid d1 else d1) = d2 ∧ PermIn a mid d1 d2 ∧ (SortedIn lt a s d1 → SortedIn lt s mid d1 → SortedIn lt a mid d2) := by
          by_cases hc : a < s ∧ s < mid
          · rw [if_pos hc]
            have := symM_spec hS f a s mid d1 (by omega) hc.1 hc.2 (by omega)
            exact ⟨_, rfl, this.1, this.2⟩
          · rw [if_neg hc]
            refine ⟨_, rfl, permIn_refl _ _ _, fun q1 q2 => ?_⟩
            by_cases hsa : s = a
            · subst hsa; exact q2
            · have : s = mid := by omega
              subst this; exact q1
        obtain ⟨d2, e2, p2, q2⟩ := A
        rw [e2]
        have z2 : d2.size = d.size := by rw [p2.1, z1]
        have B : ∃ d3, (if mid < mid + m - s ∧ mid + m - s < b then symM lt f mid (mid + m - s) b d2 else d2) = d3 ∧ PermIn mid b d2 d3 ∧ (SortedIn lt mid (mid + m - s) d2 → SortedIn lt (mid + m - s) b d2 → SortedIn lt mid b d3) := by
          by_cases hc : mid < mid + m - s ∧ mid + m - s < b
          · rw [if_pos hc]
            have := symM_spec hS f mid (mid + m - s) b d2 (by omega) hc.1 hc.2 (by omega)
            exact ⟨_, rfl, this.1, this.2⟩
          · rw [if_neg hc]
            refine ⟨_, rfl, permIn_refl _ _ _, fun q1 q2 => ?_⟩
            by_cases hsa : mid + m - s = b
            · rw [hsa] at q1; exact q1
            · have : mid + m - s = mid := by omega
              rw [this] at q2; exact q2
        obtain ⟨d3, e3, p3, q3⟩ := B
        rw [e3]
        refine ⟨permIn_trans _ _ _ a b p1 (permIn_trans _ _ _ a b (PermIn.mono' p2 (Nat.le_refl _) (by omega) (by omega)) (PermIn.mono' p3 (by omega) (Nat.le_refl _) (by omega))), fun s1 s2 => ?_⟩
        obtain ⟨k1, k2⟩ := g9 s1 s2
        have L := q2 (fun x y x1 x2 x3 => by rw [r1 y (by omega) x3, r1 x x1 (by omega)]; exact s1 x y x1 x2 (by omega))
          (fun x y x1 x2 x3 => by rw [r2 y (by omega) x3, r2 x x1 (by omega)]; exact s2 _ _ (by omega) (by omega) (by omega))
        have e23 : ∀ x, mid ≤ x → d2[x]! = d1[x]! := fun x hx => p2.2.1 x (Or.inr hx)
        have Rr := q3 (fun x y x1 x2 x3 => by rw [e23 y (by omega), e23 x x1, r3 y (by omega) x3, r3 x x1 (by omega)]; exact s1 _ _ (by omega) (by omega) (by omega))
          (fun x y x1 x2 x3 => by rw [e23 y (by omega), e23 x (by omega), r4 y (by omega), r4 x x1]; exact s2 _ _ (by omega) x2 x3)
        -- what lies left is not behind what lies right
        have X : ∀ x y, a ≤ x → x < mid → mid ≤ y → y < b → lt d1[y]! d1[x]! = false := by
          intro x y x1 x2 y1 y2
          by_cases hx : x < s
          · rw [r1 x x1 hx]
            by_cases hy : y < mid + m - s
            · rw [r3 y y1 hy]; exact s1 _ _ x1 (by omega) (by omega)
            · rw [r4 y (by omega)]
              -- a chain: d[x] <= d[s-1] <= d[mid+m-s] <= d[y]
              have hsm : sM a m b ≤ s - 1 := by
                by_cases hh : sM a m b < s
                · omega
                · exfalso
                  have : sM a m b = s := by omega
                  unfold sM at this
                  rw [hmid] at this
                  split at this <;> omega
              have c1 := k1 (s - 1) hsm (by omega)
              rw [show mid + m - 1 - (s - 1) = mid + m - s by omega] at c1
              have c0 : lt d[s - 1]! d[x]! = false := by
                by_cases hh : x = s - 1
                · subst hh; exact hS.irrefl _
                · exact s1 _ _ x1 (by omega) (by omega)
              have c2 : lt d[y]! d[mid + m - s]! = false := by
                by_cases hh : y = mid + m - s
                · subst hh; exact hS.irrefl _
                · exact s2 _ _ (by omega) (by omega) y2
              exact hS.ntrans _ _ _ c2 (hS.ntrans _ _ _ c1 c0)
          · rw [r2 x (by omega) x2]
            by_cases hy : y < mid + m - s
            · rw [r3 y y1 hy]
              -- d[m + (x-s)] <= d[mid+m-1-s] < d[s] <= d[s + (y - mid)]
              have hsr : s < sR a m b := by
                by_cases hh : s < sR a m b
                · exact hh
                · exfalso
                  have : sR a m b = s := by omega
                  unfold sR at this
                  rw [hmid] at this
                  split at this <;> omega
              have c1 := k2 s (Nat.le_refl _) hsr
              have c0 : lt d[mid + m - 1 - s]! d[m + (x - s)]! = false := by
                by_cases hh : m + (x - s) = mid + m - 1 - s
                · rw [hh]; exact hS.irrefl _
                · exact s2 _ _ (by omega) (by omega) (by omega)
              have c2 : lt d[s + (y - mid)]! d[s]! = false := by
                by_cases hh : y = mid
                · subst hh; rw [Nat.sub_self]; exact hS.irrefl _
                · exact s1 _ _ (by omega) (by omega) (by omega)
              exact hS.ntrans _ _ _ c2 (hS.ntrans _ _ _ (hS.asymmA c1) c0)
            · rw [r4 y (by omega)]; exact s2 _ _ (by omega) (by omega) y2
        have X3 := cross_perm (lt := lt) (b := b) (by omega) (by omega) (by omega) p2 p3 X
        have L3 : SortedIn lt a mid d3 := fun x y x1 x2 x3 => by
          rw [p3.2.1 y (Or.inl x3), p3.2.1 x (Or.inl (by omega))]; exact L x y x1 x2 x3
        exact SortedIn.join L3 Rr X3
def Bk (lt : α → α → Bool) (bs a n : Nat) (d : Array α) : Prop := ∀ k, SortedIn lt (a + k * bs) (min (a + k * bs + bs) n) d
theorem blk_spec (hS : SWO lt) (n : Nat) : ∀ (r a : Nat) (d : Array α), n - a = r → a ≤ n → n ≤ d.size →
    PermIn a n d (blk lt n a d) ∧ Bk lt 20 a n (blk lt n a d) := by
  intro r
  induction r using Nat.strongRecOn with
  | _ r ih =>
    intro a d hr ha hn
    rw [blk]
    by_cases h : a + 20 ≤ n
    · rw [if_pos h]
      have i1 := insertionSort_holds (lt := lt) hS d a (a + 20) (by omega) (by omega)
      generalize insertionSort lt d a (a + 20) = d1 at i1 ⊢
      have z1 : d1.size = d.size := i1.1.1
      obtain ⟨p, q⟩ := ih (n - (a + 20)) (by omega) (a + 20) d1 rfl h (by omega)
      refine ⟨permIn_trans _ _ _ a n (PermIn.mono' i1.1 (Nat.le_refl _) h hn) (PermIn.mono' p (by omega) (Nat.le_refl _) (by omega)), fun k => ?_⟩
      cases k with
      | zero =>
        intro x y x1 x2 x3
        rw [p.2.1 y (Or.inl (by omega)), p.2.1 x (Or.inl (by omega))]
        exact i1.2 x y (by omega) x2 (by omega)
      | succ k =>
        have := q k
        rw [show a + 20 + k * 20 = a + (k + 1) * 20 by omega] at this; exact this
    · rw [if_neg h]
      have i1 := insertionSort_holds (lt := lt) hS d a n ha hn
      refine ⟨i1.1, fun k => ?_⟩
      intro x y x1 x2 x3
      exact i1.2 x y (by omega) x2 (by omega)
theorem pas_spec (hS : SWO lt) (bs n : Nat) (hbs : 0 < bs) : ∀ (r a : Nat) (d : Array α), n - a = r → n ≤ d.size →
    PermIn a n d (pas lt bs n a d) ∧ (Bk lt bs a n d → Bk lt (2 * bs) a n (pas lt bs n a d)) := by
  intro r
  induction r using Nat.strongRecOn with
  | _ r ih =>
    intro a d hr hn
    rw [pas]
    by_cases h : a + 2 * bs ≤ n
    · rw [if_pos ⟨h, hbs⟩]
      have i1 := symM_spec (lt := lt) hS (2 * bs) a (a + bs) (a + 2 * bs) d (by omega) (by omega) (by omega) (by omega)
      generalize symM lt (2 * bs) a (a + bs) (a + 2 * bs) d = d1 at i1 ⊢
      have z1 : d1.size = d.size := i1.1.1
      obtain ⟨p, q⟩ := ih (n - (a + 2 * bs)) (by omega) (a + 2 * bs) d1 rfl (by omega)
      refine ⟨permIn_trans _ _ _ a n (PermIn.mono' i1.1 (Nat.le_refl _) h hn) (PermIn.mono' p (by omega) (Nat.le_refl _) (by omega)), fun hB k => ?_⟩
      cases k with
      | zero =>
        have s := i1.2 (fun x y x1 x2 x3 => by
            have := hB 0 x y (by omega) x2 (by omega)
            exact this)
          (fun x y x1 x2 x3 => by
            have := hB 1 x y (by omega) x2 (by omega)
            exact this)
        intro x y x1 x2 x3
        rw [p.2.1 y (Or.inl (by omega)), p.2.1 x (Or.inl (by omega))]
        exact s x y (by omega) x2 (by omega)
      | succ k =>
        have hB1 : Bk lt bs (a + 2 * bs) n d1 := fun k => by
          intro x y x1 x2 x3
          have e1 : a + 2 * bs ≤ x := Nat.le_trans (Nat.le_add_right _ _) x1
          rw [i1.1.2.1 y (Or.inr (by omega)), i1.1.2.1 x (Or.inr (by omega))]
          have := hB (k + 2)
          rw [show a + (k + 2) * bs = a + 2 * bs + k * bs by rw [Nat.add_mul]; omega] at this
          exact this x y x1 x2 x3
        have := q hB1 k
        rw [show a + 2 * bs + k * (2 * bs) = a + (k + 1) * (2 * bs) by rw [Nat.add_mul]; omega] at this; exact this
    · rw [if_neg (by omega)]
      by_cases h2 : a + bs < n
      · rw [if_pos h2]
        have i1 := symM_spec (lt := lt) hS (n - a) a (a + bs) n d (by omega) (by omega) h2 hn
        refine ⟨i1.1, fun hB k => ?_⟩
        have s := i1.2 (fun x y x1 x2 x3 => by
            have := hB 0 x y (by omega) x2 (by omega)
            exact this)
          (fun x y x1 x2 x3 => by
            have := hB 1 x y (by omega) x2 (by omega)
            exact this)
        intro x y x1 x2 x3
        exact s x y (by omega) x2 (by omega)
      · rw [if_neg h2]
        refine ⟨permIn_refl _ _ _, fun hB k => ?_⟩
        intro x y x1 x2 x3
        exact hB 0 x y (by omega) x2 (by omega)
theorem mrg_spec (hS : SWO lt) (n : Nat) : ∀ (r bs : Nat) (d : Array α), n - bs = r → 0 < bs → n ≤ d.size → Bk lt bs 0 n d →
    PermIn 0 n d (mrg lt n bs d) ∧ SortedIn lt 0 n (mrg lt n bs d) := by
  intro r
  induction r using Nat.strongRecOn with
  | _ r ih =>
    intro bs d hr hbs hn hB
    rw [mrg]
    by_cases h : bs < n
    · rw [if_pos ⟨h, hbs⟩]
      obtain ⟨p, q⟩ := pas_spec hS bs n hbs n 0 d rfl hn
      have z1 : (pas lt bs n 0 d).size = d.size := p.1
      obtain ⟨p2, q2⟩ := ih (n - 2 * bs) (by omega) (2 * bs) (pas lt bs n 0 d) rfl (by omega) (by omega) (q hB)
      exact ⟨permIn_trans _ _ _ 0 n p p2, q2⟩
    · rw [if_neg (by omega)]
      refine ⟨permIn_refl _ _ _, ?_⟩
      intro x y x1 x2 x3
      exact hB 0 x y (by omega) x2 (by omega)
theorem stab_spec (hS : SWO lt) (n : Nat) (d : Array α) (hn : n ≤ d.size) : PermIn 0 n d (stab lt n d) ∧ SortedIn lt 0 n (stab lt n d) := by
  unfold stab
  obtain ⟨p, q⟩ := blk_spec hS n n 0 d rfl (Nat.zero_le _) hn
  have z1 : (blk lt n 0 d).size = d.size := p.1
  obtain ⟨p2, q2⟩ := mrg_spec hS n (n - 20) 20 (blk lt n 0 d) rfl (by omega) (by omega) q
  exact ⟨permIn_trans _ _ _ 0 n p p2, q2⟩
end Go.Proofs.YtaecbmjmcpdgdaaGreat.Zs
