/- The contents of a history's nodes: what is undone is undone, every node is reached. No program in sight. -/
import Derived.Test.YtodddilaniojgaaGreatCHp
import Derived.Test.YtodddilaniojgaaGreatCHy
namespace Go.Proofs.YtodddilaniojgaaGreat.Ab
open Go.RowKit
set_option linter.unusedVariables false
structure HC (C : Int → List Zc) (M : Nat) (K : Int) (h : H3) : Prop where
  ok : okH h = true
  vl : vB K h.1
  can : Can h.1
  ne : ∀ x ∈ h.2.1, eB K (lAt x 1) ∧ eB K (lAt x 2) ∧ (lAt x 1).length ≤ M ∧ (lAt x 2).length ≤ M
  cur : aN h.1 = C h.2.2
  st : ∀ k, 0 < k → k < (h.2.1.length : Int) → ZSteps (C (parI h.2.1 k)) (lAt (rI h.2.1 k) 1) (C k) ∧ ZSteps (C k) (lAt (rI h.2.1 k) 2) (C (parI h.2.1 k))
theorem eB.mono {K K' : Int} {es : List (List D)} (h : eB K es) (hk : K ≤ K') : eB K' es := fun e he => Int.le_trans (h e he) hk
theorem HC.mono {C : Int → List Zc} {M : Nat} {K K' : Int} {h : H3} (g : HC C M K h) (hk : K ≤ K') : HC C M K' h :=
  ⟨g.ok, g.vl.mono hk, g.can, fun x hx => ⟨(g.ne x hx).1.mono hk, (g.ne x hx).2.1.mono hk, (g.ne x hx).2.2⟩, g.cur, g.st⟩
theorem can_apB : ∀ {es l l0 : List (List D)} {i : Int}, Can l → Can l0 → Can (batF l0 l es i).1
  | [], l, l0, i, h, h0 => h
  | e :: es, l, l0, i, h, h0 => by
    rw [batF]
    split
    · exact can_apB (can_ap h) h0
    · exact h0
theorem rI_mem {ns : List (List D)} {k : Int} (h0 : 0 ≤ k) (h1 : k < (ns.length : Int)) : rI ns k ∈ ns := by
  have hk : k.toNat < ns.length := by omega
  rw [rI, List.getD_eq_getElem?_getD, List.getElem?_eq_getElem hk]
  exact List.getElem_mem hk
theorem HC.mv {C : Int → List Zc} {M : Nat} {K : Int} {h : H3} (g : HC C M K h) {es : List (List D)} {to : Int} (hK0 : 0 ≤ K) (hK : K + M ≤ 999) (he : eB K es) (hl : es.length ≤ M) (hs : ZSteps (C h.2.2) es (C to)) (h0 : 0 ≤ to) (h1 : to < (h.2.1.length : Int)) :
    (mvE h es to).2 = true ∧ HC C M (K + M) (mvE h es to).1 ∧ (mvE h es to).1.2.1 = h.2.1 ∧ (mvE h es to).1.2.2 = to := by
  have hol := okH_len g.ok
  have gd : Good h.1 := good_iff.1 hol.2.2.2.2
  obtain ⟨b1, b2, b3, b4⟩ := bat_steps es h.1 h.1 0 K (C to) g.vl (by omega) hK0 he gd (by rw [g.cur]; exact hs)
  have hm : decide ((apB h.1 es).2 ≥ 0) = false := by
    rw [show (apB h.1 es).2 = -1 from b1]; rfl
  rw [mv_yes hm]
  refine ⟨rfl, ⟨?_, b4.mono (by omega), can_apB g.can g.can, fun x hx => ?_, b2, g.st⟩, rfl, rfl⟩
  · have ho := g.ok
    unfold okH at ho ⊢
    simp only [Bool.and_eq_true] at ho ⊢
    refine ⟨ho.1, good_iff.2 b3, ho.2.2.1, ?_⟩
    unfold inR
    simp only [Bool.and_eq_true, decide_eq_true_eq]
    exact ⟨h0, by show to ≤ (h.2.1.length : Int) - 1; omega⟩
  · have := g.ne x hx
    exact ⟨this.1.mono (by omega), this.2.1.mono (by omega), this.2.2⟩
theorem HC.un {C : Int → List Zc} {M : Nat} {K : Int} {h : H3} (g : HC C M K h) (hK0 : 0 ≤ K) (hK : K + M ≤ 999) (ha : h.2.2 ≠ 0) :
    (unE h).2 = true ∧ HC C M (K + M) (unE h).1 ∧ (unE h).1.2.1 = h.2.1 ∧ (unE h).1.2.2 = parI h.2.1 h.2.2 := by
  have hol := okH_len g.ok
  have e : unE h = mvE h (lAt (rI h.2.1 h.2.2) 2) (parI h.2.1 h.2.2) := un_yes (by rw [g.ok]; rfl) (beq_eq_false_iff_ne.2 ha)
  have hn := g.ne _ (rI_mem hol.2.2.1 (by omega))
  rcases okH_par g.ok hol.2.2.1 (by omega) with ⟨h3, _⟩ | ⟨h3, h4, h5⟩
  · exact absurd h3 ha
  · have hs := g.st h.2.2 h3 (by omega)
    rw [e]
    exact g.mv hK0 hK hn.2.1 hn.2.2.2 hs.2 h4 (by omega)
theorem HC.re {C : Int → List Zc} {M : Nat} {K k : Int} {h : H3} (g : HC C M K h) (hK0 : 0 ≤ K) (hK : K + M ≤ 999) (h0 : 0 < k) (h1 : k < (h.2.1.length : Int)) (hp : parI h.2.1 k = h.2.2) :
    (reE h k).2 = true ∧ HC C M (K + M) (reE h k).1 ∧ (reE h k).1.2.1 = h.2.1 ∧ (reE h k).1.2.2 = k := by
  have e : reE h k = mvE h (lAt (rI h.2.1 k) 1) k := by
    refine re_yes (by rw [g.ok]; rfl) ?_ (by rw [hp]; simp)
    unfold inR
    rw [decide_eq_true (by omega), decide_eq_true (by omega)]; rfl
  have hn := g.ne _ (rI_mem (by omega) h1)
  have hs := g.st k h0 h1
  rw [hp] at hs
  rw [e]
  exact g.mv hK0 hK hn.1 hn.2.2.1 hs.1 (by omega) h1
theorem HC.goU {C : Int → List Zc} {M : Nat} {p : List Int} (hz : (0 : Int) ∈ p) : ∀ (n : Nat) {K : Int} {h : H3}, HC C M K h → 0 ≤ K → K + M * n ≤ 999 → h.2.2 + 1 ≤ n → ∃ h1, goU p n h = some h1 ∧ HC C M (K + M * n) h1 ∧ h1.2.2 ∈ p ∧ h1.2.1 = h.2.1
  | 0, K, h, g, _, _, ha => by have := (okH_len g.ok).2.2.1; omega
  | n + 1, K, h, g, hK0, hK, ha => by
    have hM : (M : Int) * ((n + 1 : Nat) : Int) = M * n + M := by rw [Int.natCast_add, Int.mul_add]; simp
    have hM0 : (0 : Int) ≤ (M : Int) * n := Int.mul_nonneg (Int.natCast_nonneg _) (Int.natCast_nonneg _)
    rw [hM] at hK ⊢
    by_cases hh : hasI (intR p) h.2.2 = true
    · rw [Ab.goU, if_pos hh]
      exact ⟨h, rfl, g.mono (by omega), hasI_iff.1 hh, rfl⟩
    · have h0 : h.2.2 ≠ 0 := fun e => hh (by rw [e]; exact hasI_iff.2 hz)
      obtain ⟨u1, u2, u3, u4⟩ := g.un hK0 (by omega) h0
      have hu := unE_ok u1
      obtain ⟨h1, v1, v2, v3, v4⟩ := HC.goU hz n u2 (by omega) (by omega) (by omega)
      rw [Ab.goU, if_neg hh, if_pos u1]
      exact ⟨h1, v1, v2.mono (by omega), v3, v4.trans u3⟩
def ChnL (ns : List (List D)) : List Int → Prop
  | [] => True
  | [_] => True
  | a :: b :: r => parI ns b = a ∧ ChnL ns (b :: r)
theorem ChnL.suf {ns : List (List D)} : ∀ {A B : List Int}, ChnL ns (A ++ B) → ChnL ns B
  | [], B, h => h
  | [a], [], h => trivial
  | [a], b :: B, h => h.2
  | a :: a' :: A, B, h => ChnL.suf (A := a' :: A) h.2
theorem ChnL.snoc {ns : List (List D)} {k : Int} : ∀ {q : List Int} {a : Int}, ChnL ns (q ++ [a]) → parI ns k = a → ChnL ns (q ++ [a] ++ [k])
  | [], a, h, e => ⟨e, trivial⟩
  | [b], a, h, e => ⟨h.1, e, trivial⟩
  | b :: c :: q, a, h, e => ⟨h.1, ChnL.snoc (q := c :: q) h.2 e⟩
theorem pth_chn {h : H3} (ho : okH h = true) : ∀ (n : Nat) (k : Int), 0 ≤ k → k < (h.2.1.length : Int) → k + 1 ≤ n → ChnL h.2.1 (pthI h.2.1 n k)
  | 0, k, h0, h1, h2 => by omega
  | n + 1, k, h0, h1, h2 => by
    rw [pthI, if_pos h0]
    rcases okH_par ho h0 h1 with ⟨rfl, e⟩ | ⟨hk, e1, e2⟩
    · rw [e, pthI_neg (by omega)]; trivial
    · obtain ⟨q, g1, _⟩ := pthI_spec ho n (parI h.2.1 k) e1 (by omega) (by omega)
      have := pth_chn ho n (parI h.2.1 k) e1 (by omega) (by omega)
      rw [g1] at this ⊢
      exact this.snoc rfl
theorem HC.goR {C : Int → List Zc} {M : Nat} {fr : Int} : ∀ (ks : List Int) {K : Int} {h : H3}, HC C M K h → 0 ≤ K → K + M * ks.length ≤ 999 → ChnL h.2.1 (h.2.2 :: ks) → (∀ x ∈ ks, fr < x ∧ 0 < x ∧ x < (h.2.1.length : Int)) → ∃ h2, goR fr ks h = some h2 ∧ HC C M (K + M * ks.length) h2 ∧ h2.2.2 = (h.2.2 :: ks).getLast (by simp) ∧ h2.2.1 = h.2.1
  | [], K, h, g, hK0, hK, hc, hx => ⟨h, rfl, by simpa using g, rfl, rfl⟩
  | k :: ks, K, h, g, hK0, hK, hc, hx => by
    have hM : (M : Int) * ((k :: ks).length : Int) = M * ks.length + M := by rw [List.length_cons, Int.natCast_add, Int.mul_add]; simp
    have hM0 : (0 : Int) ≤ (M : Int) * ks.length := Int.mul_nonneg (Int.natCast_nonneg _) (Int.natCast_nonneg _)
    rw [hM] at hK ⊢
    have hk := hx k (by simp)
    obtain ⟨r1, r2, r3, r4⟩ := g.re hK0 (by omega) hk.2.1 hk.2.2 hc.1
    obtain ⟨h2, v1, v2, v3, v4⟩ := HC.goR (fr := fr) ks r2 (by omega) (by omega) (by rw [r3, r4]; exact hc.2) (fun x hx' => by rw [r3]; exact hx x (by simp [hx']))
    rw [Ab.goR, if_neg (by omega), if_pos r1]
    refine ⟨h2, v1, v2.mono (by omega), ?_, v4.trans r3⟩
    rw [v3]
    simp only [r4]
    exact (List.getLast_cons (by simp)).symm
theorem goR_pre {fr : Int} {h : H3} : ∀ (A : List Int) {B : List Int}, (∀ x ∈ A, x ≤ fr) → goR fr (A ++ B) h = goR fr B h
  | [], B, _ => rfl
  | a :: A, B, hA => by
    show goR fr (a :: (A ++ B)) h = _
    rw [Ab.goR, if_pos (hA a (by simp))]
    exact goR_pre A fun x hx => hA x (by simp [hx])
theorem HC.go {C : Int → List Zc} {M : Nat} {K k : Int} {h : H3} (g : HC C M K h) (hK0 : 0 ≤ K) (hK : K + 42 * M ≤ 999) (h0 : 0 ≤ k) (h1 : k < (h.2.1.length : Int)) :
    (goE h k).2 = true ∧ HC C M (K + 42 * M) (goE h k).1 ∧ (goE h k).1.2.1 = h.2.1 ∧ (goE h k).1.2.2 = k := by
  have hol := okH_len g.ok
  have ep : pthE h k = pthI h.2.1 21 k := by
    refine pth_yes (by rw [g.ok]; rfl) ?_
    unfold inR
    rw [decide_eq_true h0, decide_eq_true (by omega)]; rfl
  obtain ⟨q, e1, e2, e3, e4⟩ := pthI_spec g.ok 21 k h0 h1 (by omega)
  have e5 := pth_chn g.ok 21 k h0 h1 (by omega)
  have hlen := pthI_len h.2.1 21 k
  rw [← ep] at e1 e2 e4 e5 hlen
  have hp0 : (pthE h k).length ≠ 0 := by rw [e1]; simp
  have hz : (0 : Int) ∈ pthE h k := by
    rw [← e4, List.getD_eq_getElem?_getD, List.getElem?_eq_getElem (by omega)]
    exact List.getElem_mem _
  have hM0 : (0 : Int) ≤ M := Int.natCast_nonneg _
  obtain ⟨h2, v1, v2, v3, v4⟩ := g.goU hz 21 hK0 (by omega) (by omega)
  obtain ⟨A, B, e6⟩ := List.append_of_mem v3
  have hpw : (A ++ h2.2.2 :: B).Pairwise (· < ·) := by rw [← e6]; exact e2
  rw [List.pairwise_append] at hpw
  have hB := (List.pairwise_cons.1 hpw.2.1).1
  have hall : ∀ x ∈ pthE h k, 0 ≤ x ∧ x ≤ k := by
    intro x hx
    rw [e1] at hx
    rcases List.mem_append.1 hx with h3 | h3
    · have := e3 x h3; omega
    · obtain rfl := List.mem_singleton.1 h3; omega
  have hat := (okH_len v2.ok).2.2.1
  have hBl : (B.length : Int) ≤ 21 := by rw [e6] at hlen; simp at hlen; omega
  have hMB : (M : Int) * B.length ≤ M * 21 := Int.mul_le_mul_of_nonneg_left hBl hM0
  obtain ⟨h3, w1, w2, w3, w4⟩ := HC.goR (fr := h2.2.2) B v2 (by omega) (by omega) (by rw [v4]; rw [e6] at e5; exact e5.suf) (fun x hx => by
    have i1 := hB x hx
    have i2 := hall x (by rw [e6]; simp [hx])
    rw [v4]
    omega)
  have hR : Ab.goR h2.2.2 (pthE h k) h2 = some h3 := by
    rw [e6, show A ++ h2.2.2 :: B = (A ++ [h2.2.2]) ++ B by simp, goR_pre (A ++ [h2.2.2]), w1]
    intro x hx
    rcases List.mem_append.1 hx with i1 | i1
    · exact Int.le_of_lt (hpw.2.2 x i1 _ (by simp))
    · obtain rfl := List.mem_singleton.1 i1; exact Int.le_refl _
  rw [goE_yes hp0 v1 hR]
  refine ⟨rfl, w2.mono (by omega), w4.trans v4, ?_⟩
  show h3.2.2 = k
  rw [w3]
  have hl : (h2.2.2 :: B).getLast (by simp) = (pthE h k).getLast (by rw [e1]; simp) := by
    simp only [e6]
    rw [List.getLast_append_of_ne_nil]
  rw [hl]
  simp only [e1]
  simp
def HIn (M : Nat) (K : Int) (h : H3) : Prop := okH h = false ∨ ∃ C, HC C M K h
theorem HIn.mono {M : Nat} {K K' : Int} {h : H3} (g : HIn M K h) (hk : K ≤ K') : HIn M K' h := by
  rcases g with g | ⟨C, g⟩
  · exact .inl g
  · exact .inr ⟨C, g.mono hk⟩
theorem HIn.un {M : Nat} {K : Int} {h : H3} (g : HIn M K h) (hK0 : 0 ≤ K) (hK : K + M ≤ 999) : HIn M (K + M) (unE h).1 := by
  rcases g with g | ⟨C, g⟩
  · rw [un_no1 (by rw [g]; rfl)]; exact .inl g
  · by_cases ha : h.2.2 = 0
    · rw [un_no2 (by rw [g.ok]; rfl) (by rw [ha]; rfl)]
      exact .inr ⟨C, g.mono (by omega)⟩
    · exact .inr ⟨C, (g.un hK0 hK ha).2.1⟩
theorem HIn.go {M : Nat} {K k : Int} {h : H3} (g : HIn M K h) (hK0 : 0 ≤ K) (hK : K + 42 * M ≤ 999) : HIn M (K + 42 * M) (goE h k).1 := by
  have hM0 : (0 : Int) ≤ M := Int.natCast_nonneg _
  rcases g with g | ⟨C, g⟩
  · rw [goE_nil (by rw [pth_no1 (by rw [g]; rfl)]; rfl)]; exact .inl g
  · by_cases hk : 0 ≤ k ∧ k < (h.2.1.length : Int)
    · exact .inr ⟨C, (g.go hK0 hK hk.1 hk.2).2.1⟩
    · rw [goE_nil]
      · exact .inr ⟨C, g.mono (by omega)⟩
      · rw [pth_no2]
        · rfl
        · unfold inR
          simp only [Bool.not_eq_true', Bool.and_eq_false_iff, decide_eq_false_iff_not]
          omega
theorem HC.do_ {C : Int → List Zc} {M : Nat} {K : Int} {h : H3} (g : HC C M K h) {es : List (List D)} (hK0 : 0 ≤ K) (hK : K + M ≤ 999) (he : eB K es) (hl : es.length ≤ M) (hd : (doE h es).2 = true) :
    ∃ C', HC C' M (K + M) (doE h es).1 ∧ C' h.2.2 = C h.2.2 ∧ (doE h es).1.2.2 = (h.2.1.length : Int) ∧ (doE h es).1.2.1.length = h.2.1.length + 1 ∧ parI (doE h es).1.2.1 (h.2.1.length : Int) = h.2.2 := by
  have hol := okH_len g.ok
  have h20 : ((h.2.1.length : Int) == 20) = false := by
    cases e : ((h.2.1.length : Int) == 20)
    · rfl
    · rw [do_no2 e] at hd; cases hd
  have h4 : decide ((apB h.1 es).2 ≥ 0) = false := by
    cases e : decide ((apB h.1 es).2 ≥ 0)
    · rfl
    · rw [do_no4 e] at hd; cases hd
  rw [do_yes (by rw [g.ok]; rfl) h20 h4]
  have gd : Good h.1 := good_iff.1 hol.2.2.2.2
  obtain ⟨b1, b2, b3, ivs, b4, b5, b6, b7⟩ := bat_good es h.1 h.1 0 K (Int.le_refl _) g.vl (by omega) hK0 he gd (by have := of_decide_eq_false h4; show (apB h.1 es).2 < 0; omega)
  have eiv : (ivB h.1 es).1 = ivs := by unfold ivB; rw [b4]; simp
  rw [eiv]
  have hlen : (h.2.1 ++ [nodeR h.2.2 es ivs]).length = h.2.1.length + 1 := by simp
  have rold : ∀ k : Int, 0 ≤ k → k < (h.2.1.length : Int) → rI (h.2.1 ++ [nodeR h.2.2 es ivs]) k = rI h.2.1 k := by
    intro k k0 k1
    simp only [rI, List.getD_eq_getElem?_getD]
    rw [List.getElem?_append_left (by omega)]
  have rnew : rI (h.2.1 ++ [nodeR h.2.2 es ivs]) (h.2.1.length : Int) = nodeR h.2.2 es ivs := by
    simp [rI, List.getD_eq_getElem?_getD]
  have h20' : (h.2.1.length : Int) ≠ 20 := beq_eq_false_iff_ne.1 h20
  refine ⟨fun k => if k = (h.2.1.length : Int) then aN (apB h.1 es).1 else C k, ⟨?_, b2.mono (by omega), can_apB g.can g.can, fun x hx => ?_, ?_, fun k k0 k1 => ?_⟩, if_neg (by omega), rfl, hlen, ?_⟩
  · have ho := g.ok
    unfold okH at ho ⊢
    simp only [Bool.and_eq_true] at ho ⊢
    refine ⟨allB_iff.2 fun j hj => ?_, good_iff.2 b1, ?_, ?_⟩
    · rw [hlen] at hj
      rcases Nat.lt_or_eq_of_le (Nat.lt_succ_iff.1 hj) with h5 | h5
      · have h6 := allB_iff.1 ho.1 j h5
        unfold parOk at h6 ⊢
        have e0 : rAt (h.2.1 ++ [nodeR h.2.2 es ivs]) 0 = rAt h.2.1 0 := rold 0 (by omega) (by omega)
        have ej : rAt (h.2.1 ++ [nodeR h.2.2 es ivs]) j = rAt h.2.1 j := rold j (by omega) (by omega)
        rw [e0, ej]
        exact h6
      · subst h5
        unfold parOk
        rw [if_neg (by omega)]
        have ej : rAt (h.2.1 ++ [nodeR h.2.2 es ivs]) h.2.1.length = nodeR h.2.2 es ivs := rnew
        rw [ej]
        show inR h.2.2 0 ((h.2.1.length : Int) - 1) = true
        unfold inR
        rw [decide_eq_true (by omega), decide_eq_true (by omega)]; rfl
    · unfold inR
      rw [hlen, decide_eq_true (by omega), decide_eq_true (by omega)]; rfl
    · unfold inR
      rw [hlen, decide_eq_true (by omega), decide_eq_true (by omega)]; rfl
  · rcases List.mem_append.1 hx with h5 | h5
    · have := g.ne x h5
      exact ⟨this.1.mono (by omega), this.2.1.mono (by omega), this.2.2⟩
    · obtain rfl := List.mem_singleton.1 h5
      exact ⟨he.mono (by omega), b6.mono (by omega), hl, by show ivs.length ≤ M; omega⟩
  · show aN (apB h.1 es).1 = if (h.2.1.length : Int) = (h.2.1.length : Int) then _ else _
    rw [if_pos rfl]
  · rw [hlen] at k1
    by_cases hk : k = (h.2.1.length : Int)
    · subst hk
      show ZSteps (if parI (h.2.1 ++ [nodeR h.2.2 es ivs]) (h.2.1.length : Int) = (h.2.1.length : Int) then _ else _) (lAt (rI (h.2.1 ++ [nodeR h.2.2 es ivs]) (h.2.1.length : Int)) 1) (if (h.2.1.length : Int) = (h.2.1.length : Int) then _ else _) ∧ ZSteps (if (h.2.1.length : Int) = (h.2.1.length : Int) then _ else _) (lAt (rI (h.2.1 ++ [nodeR h.2.2 es ivs]) (h.2.1.length : Int)) 2) (if parI (h.2.1 ++ [nodeR h.2.2 es ivs]) (h.2.1.length : Int) = (h.2.1.length : Int) then _ else _)
      have ep : parI (h.2.1 ++ [nodeR h.2.2 es ivs]) (h.2.1.length : Int) = h.2.2 := by rw [parI, rnew]; rfl
      rw [ep, rnew, if_pos rfl, if_neg (by omega), ← g.cur]
      exact ⟨b3, b5⟩
    · have hk1 : k < (h.2.1.length : Int) := by omega
      have hs := g.st k k0 hk1
      have er := rold k (by omega) hk1
      have ep : parI (h.2.1 ++ [nodeR h.2.2 es ivs]) k = parI h.2.1 k := by rw [parI, er]
      have hp2 : parI h.2.1 k ≠ (h.2.1.length : Int) := by
        rcases okH_par g.ok (by omega) hk1 with ⟨h5, _⟩ | ⟨_, h5, h6⟩
        · omega
        · omega
      show ZSteps (if parI (h.2.1 ++ [nodeR h.2.2 es ivs]) k = (h.2.1.length : Int) then _ else _) (lAt (rI (h.2.1 ++ [nodeR h.2.2 es ivs]) k) 1) (if k = (h.2.1.length : Int) then _ else _) ∧ ZSteps (if k = (h.2.1.length : Int) then _ else _) (lAt (rI (h.2.1 ++ [nodeR h.2.2 es ivs]) k) 2) (if parI (h.2.1 ++ [nodeR h.2.2 es ivs]) k = (h.2.1.length : Int) then _ else _)
      rw [ep, er, if_neg hk, if_neg hp2]
      exact hs
  · show parI (h.2.1 ++ [nodeR h.2.2 es ivs]) (h.2.1.length : Int) = h.2.2
    rw [parI, rnew]; rfl
theorem HIn.do_ {M : Nat} {K : Int} {h : H3} (g : HIn M K h) {es : List (List D)} (hK0 : 0 ≤ K) (hK : K + M ≤ 999) (he : eB K es) (hl : es.length ≤ M) : HIn M (K + M) (doE h es).1 := by
  rcases g with g | ⟨C, g⟩
  · rw [do_no1 (by rw [g]; rfl)]; exact .inl g
  · cases hd : (doE h es).2
    · have : doE h es = (h, false) := by
        unfold doE at hd ⊢
        split at hd
        · cases hd
        · rename_i hc; rw [if_neg hc]
      rw [this]
      exact .inr ⟨C, g.mono (by omega)⟩
    · obtain ⟨C', h1, _⟩ := g.do_ hK0 hK he hl hd
      exact .inr ⟨C', h1⟩
theorem HIn.new {M : Nat} {K : Int} {l : List (List D)} (hv : vB K l) (hc : Can l) : HIn M K (newE l).1 := by
  unfold newE
  split
  · rename_i ho
    refine .inr ⟨fun _ => aN l, ?_, hv, hc, fun x hx => ?_, rfl, fun k k0 k1 => ?_⟩
    · unfold okH
      simp only [Bool.and_eq_true]
      exact ⟨rfl, ho, rfl, rfl⟩
    · obtain rfl := List.mem_singleton.1 hx
      exact ⟨fun e he => absurd (show e ∈ ([] : List (List D)) from he) List.not_mem_nil, fun e he => absurd (show e ∈ ([] : List (List D)) from he) List.not_mem_nil, Nat.zero_le _, Nat.zero_le _⟩
    · exact absurd k1 (by show ¬ k < ((1 : Nat) : Int); omega)
  · exact .inl rfl
theorem strip_at {r : List D} (hr : csD (rowC CE6 r) = r) : iAt (stripR r) 0 = iAt r 0 ∧ iAt (stripR r) 1 = 0 ∧ iAt (stripR r) 2 = iAt r 2 ∧ sAt (stripR r) 3 = sAt r 3 ∧ sAt (stripR r) 4 = sAt r 4 ∧ iAt (stripR r) 5 = iAt r 5 := by
  have e : r = mkC (iAt r 0) (iAt r 1) (iAt r 2) (sAt r 3) (sAt r 4) (iAt r 5) := hr.symm
  generalize iAt r 0 = a at e
  generalize iAt r 1 = b at e
  generalize iAt r 2 = c at e
  generalize sAt r 3 = s at e
  generalize sAt r 4 = t at e
  generalize iAt r 5 = n at e
  subst e
  exact ⟨rfl, rfl, rfl, rfl, rfl, rfl⟩
theorem same_cont {l m : List (List D)} (hl : Can l) (hm : Can m) (h : aN l = aN m) : eqNb (strip l) (strip m) = true := by
  have hlen : l.length = m.length := by have := congrArg List.length h; simpa using this
  unfold eqNb
  rw [Bool.and_eq_true]
  refine ⟨by simp [strip, hlen], allB_iff.2 fun i hi => ?_⟩
  have hi1 : i < l.length := by simpa [strip] using hi
  have hi2 : i < m.length := by omega
  have e1 : rAt (strip l) i = stripR l[i] := by simp [rAt, strip, List.getD_eq_getElem?_getD, List.getElem?_eq_getElem hi1]
  have e2 : rAt (strip m) i = stripR m[i] := by simp [rAt, strip, List.getD_eq_getElem?_getD, List.getElem?_eq_getElem hi2]
  have e3 : zc l[i] = zc m[i] := by
    have := congrArg (fun z => z[i]?) h
    simpa [List.getElem?_map, List.getElem?_eq_getElem hi1, List.getElem?_eq_getElem hi2] using this
  obtain ⟨a0, a1, a2, a3, a4, a5⟩ := strip_at (hl _ (List.getElem_mem hi1))
  obtain ⟨b0, b1, b2, b3, b4, b5⟩ := strip_at (hm _ (List.getElem_mem hi2))
  unfold zc at e3
  simp only [Zc.mk.injEq] at e3
  rw [e1, e2]
  unfold eqC
  rw [a0, a1, a2, a3, a4, a5, b0, b1, b2, b3, b4, b5, e3.1, e3.2.1, e3.2.2.1, e3.2.2.2.1, e3.2.2.2.2]
  simp [eqDs, eqD]
end Go.Proofs.YtodddilaniojgaaGreat.Ab
