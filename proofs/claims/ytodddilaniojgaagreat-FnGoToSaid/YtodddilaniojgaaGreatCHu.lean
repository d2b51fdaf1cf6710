/- Histories over data, and descriptions of their functions. No program in sight. -/
import Derived.Test.YtodddilaniojgaaGreatCHt
namespace Go.Proofs.YtodddilaniojgaaGreat.Ab
open Go.RowKit
set_option linter.unusedVariables false
abbrev H3 : Type := List (List D) × List (List D) × Int
abbrev rI (ns : List (List D)) (k : Int) : List D := ns.getD k.toNat []
abbrev parI (ns : List (List D)) (k : Int) : Int := iAt (rI ns k) 0
def parOk (ns : List (List D)) (i : Nat) : Bool := if i = 0 then iAt (rAt ns 0) 0 == -1 else inR (iAt (rAt ns i) 0) 0 ((i : Int) - 1)
def okH (h : H3) : Bool := allB h.2.1.length (parOk h.2.1) && (okNb h.1 && (inR h.2.1.length 1 20 && inR h.2.2 0 ((h.2.1.length : Int) - 1)))
def mvE (h : H3) (es : List (List D)) (to : Int) : H3 × Bool := if decide ((apB h.1 es).2 ≥ 0) = true then (h, false) else (((apB h.1 es).1, h.2.1, to), true)
abbrev nodeR (p : Int) (es us : List (List D)) : List D := [.i p, .l es, .l us]
def doE (h : H3) (es : List (List D)) : H3 × Bool :=
  if (okH h && !((h.2.1.length : Int) == 20) && ((ivB h.1 es).2 && !decide ((apB h.1 es).2 ≥ 0))) = true then (((apB h.1 es).1, h.2.1 ++ [nodeR h.2.2 es (ivB h.1 es).1], (h.2.1.length : Int)), true) else (h, false)
def unE (h : H3) : H3 × Bool := if okH h = true then (if (h.2.2 == 0) = true then (h, false) else mvE h (lAt (rI h.2.1 h.2.2) 2) (parI h.2.1 h.2.2)) else (h, false)
def reE (h : H3) (k : Int) : H3 × Bool := if okH h = true then (if inR k 1 ((h.2.1.length : Int) - 1) = true then (if (parI h.2.1 k == h.2.2) = true then mvE h (lAt (rI h.2.1 k) 1) k else (h, false)) else (h, false)) else (h, false)
def pthI (ns : List (List D)) : Nat → Int → List Int
  | 0, _ => []
  | n + 1, k => if k ≥ 0 then pthI ns n (parI ns k) ++ [k] else []
abbrev intR (ks : List Int) : List (List D) := ks.map fun k => [.i k]
def pthE (h : H3) (k : Int) : List Int := if (okH h && inR k 0 ((h.2.1.length : Int) - 1)) = true then pthI h.2.1 21 k else []
def hasI (p : List (List D)) (x : Int) : Bool := !allB p.length fun i => !(iAt (rAt p i) 0 == x)
def goU (p : List Int) : Nat → H3 → Option H3
  | 0, _ => none
  | n + 1, h => if hasI (intR p) h.2.2 = true then some h else if (unE h).2 = true then goU p n (unE h).1 else none
def goR (from_ : Int) : List Int → H3 → Option H3
  | [], h => some h
  | k :: ks, h => if k ≤ from_ then goR from_ ks h else if (reE h k).2 = true then goR from_ ks (reE h k).1 else none
def goE (h : H3) (k : Int) : H3 × Bool :=
  if (pthE h k).length = 0 then (h, false) else match goU (pthE h k) 21 h with
    | none => (h, false)
    | some h1 => match goR h1.2.2 (pthE h k) h1 with
      | none => (h, false)
      | some h2 => (h2, true)
def newE (l : List (List D)) : H3 × Bool := if okNb l = true then ((l, [nodeR (-1) [] []], 0), true) else (([], [], 0), false)
def SmH (h : H3) : Prop := h.1.length ≤ 1048576 ∧ h.2.1.length ≤ 1000 ∧ ∀ x ∈ h.2.1, (lAt x 1).length ≤ 1000 ∧ (lAt x 2).length ≤ 1000
abbrev hA (e n : TypeId) (l ns : List (List D)) (a : Int) : SV := .val true [.sl false e l, .sl false n ns, .i .i64 a]
abbrev tupH (e n : TypeId) (p : H3 × Bool) : List (Bool × List CV) := [(true, [.sl false e p.1.1, .sl false n p.1.2.1, .i .i64 p.1.2.2]), (false, [.b p.2])]
def spCpH (e n : TypeId) : FSpec where
  pre args := ∃ (l ns : List (List D)) (a : Int), SmH (l, ns, a) ∧ args = [hA e n l ns a]
  res args := match args with
    | [.val _ [.sl _ _ l, .sl _ _ ns, .i _ a]] => .val true [.sl true e l, .sl true n ns, .i .i64 a]
    | _ => .none
def spOkH (e n : TypeId) : FSpec where
  pre args := ∃ (l ns : List (List D)) (a : Int), args = [hA e n l ns a]
  res args := match args with
    | [.val _ [.sl _ _ l, .sl _ _ ns, .i _ a]] => .val false [.b (okH (l, ns, a))]
    | _ => .none
def spNewH (e n : TypeId) : FSpec where
  pre args := ∃ l : List (List D), l.length ≤ 1048576 ∧ args = [nbA false e l]
  res args := match args with
    | [.val _ [.sl _ _ l]] => .tup (tupH e n (newE l))
    | _ => .none
def spMv (e n e' : TypeId) : FSpec where
  pre args := ∃ (l ns : List (List D)) (a : Int) (es : List (List D)) (to : Int), SmH (l, ns, a) ∧ args = [hA e n l ns a, argS e' es, iA to]
  res args := match args with
    | [.val _ [.sl _ _ l, .sl _ _ ns, .i _ a], .val _ [.sl _ _ es], .val _ [.i _ to]] => .tup (tupH e n (mvE (l, ns, a) es to))
    | _ => .none
def spMvO (e n e' : TypeId) : FSpec where
  pre args := ∃ (l ns : List (List D)) (a : Int) (es : List (List D)) (to : Int), SmH (l, ns, a) ∧ args = [hA e n l ns a, argS e' es, iA to]
  res args := match args with
    | [.val _ [.sl _ _ l, .sl _ _ ns, .i _ a], .val _ [.sl _ _ es], .val _ [.i _ to]] => .tup [(true, [.sl false e (mvE (l, ns, a) es to).1.1, .sl true n (mvE (l, ns, a) es to).1.2.1, .i .i64 (mvE (l, ns, a) es to).1.2.2]), (false, [.b (mvE (l, ns, a) es to).2])]
    | _ => .none
def spDo (e n e' : TypeId) : FSpec where
  pre args := ∃ (l ns : List (List D)) (a : Int) (es : List (List D)), SmH (l, ns, a) ∧ es.length ≤ 1000 ∧ args = [hA e n l ns a, argS e' es]
  res args := match args with
    | [.val _ [.sl _ _ l, .sl _ _ ns, .i _ a], .val _ [.sl _ _ es]] => .tup (tupH e n (doE (l, ns, a) es))
    | _ => .none
def spUn (e n : TypeId) : FSpec where
  pre args := ∃ (l ns : List (List D)) (a : Int), SmH (l, ns, a) ∧ args = [hA e n l ns a]
  res args := match args with
    | [.val _ [.sl _ _ l, .sl _ _ ns, .i _ a]] => .tup (tupH e n (unE (l, ns, a)))
    | _ => .none
def spRe (e n : TypeId) : FSpec where
  pre args := ∃ (l ns : List (List D)) (a k : Int), SmH (l, ns, a) ∧ args = [hA e n l ns a, iA k]
  res args := match args with
    | [.val _ [.sl _ _ l, .sl _ _ ns, .i _ a], .val _ [.i _ k]] => .tup (tupH e n (reE (l, ns, a) k))
    | _ => .none
def spPth (e n i : TypeId) : FSpec where
  pre args := ∃ (l ns : List (List D)) (a k : Int), SmH (l, ns, a) ∧ args = [hA e n l ns a, iA k]
  res args := match args with
    | [.val _ [.sl _ _ l, .sl _ _ ns, .i _ a], .val _ [.i _ k]] => .val false [.sl false i (intR (pthE (l, ns, a) k))]
    | _ => .none
def spHas (i : TypeId) : FSpec where
  pre args := ∃ (p : List (List D)) (x : Int), args = [argS i p, iA x]
  res args := match args with
    | [.val _ [.sl _ _ p], .val _ [.i _ x]] => .val false [.b (hasI p x)]
    | _ => .none
def spGo (e n : TypeId) : FSpec where
  pre args := ∃ (l ns : List (List D)) (a k : Int), SmH (l, ns, a) ∧ args = [hA e n l ns a, iA k]
  res args := match args with
    | [.val _ [.sl _ _ l, .sl _ _ ns, .i _ a], .val _ [.i _ k]] => .tup (tupH e n (goE (l, ns, a) k))
    | _ => .none
abbrev CN3 : List CT := [.i .i64, .l 82, .l 82]
theorem newE_no {l : List (List D)} (h : (!okNb l) = true) : newE l = (([], [], 0), false) := by
  unfold newE; rw [if_neg (by rw [of_notT h]; decide)]
theorem newE_yes {l : List (List D)} (h : (!okNb l) = false) : newE l = ((l, [nodeR (-1) [] []], 0), true) := by
  unfold newE; rw [if_pos (of_notF h)]
theorem par_0n {ns : List (List D)} {i : Nat} (h0 : ((i : Int) == 0) = true) (h : ((ns.getD (Int.toNat 0) []).getD 0 default).int != -1) : parOk ns i = false := by
  have : i = 0 := by have := eq_of_beq h0; omega
  subst this
  unfold parOk
  rw [if_pos rfl]
  have h : (iAt (rAt ns 0) 0 != -1) = true := h
  simpa [bne] using h
theorem par_0y {ns : List (List D)} {i : Nat} (h0 : ((i : Int) == 0) = true) (h : (((ns.getD (Int.toNat 0) []).getD 0 default).int != -1) = false) : parOk ns i = true := by
  have : i = 0 := by have := eq_of_beq h0; omega
  subst this
  unfold parOk
  rw [if_pos rfl]
  have h : (iAt (rAt ns 0) 0 != -1) = false := h
  simpa [bne] using h
theorem par_is {ns : List (List D)} {i : Nat} (hn : ns.length ≤ maxLen) (hi : i < ns.length) (h0 : decide ((i : Int) > 0) = true) : parOk ns i = inR ((ns.getD ((i : Int)).toNat []).getD 0 default).int 0 (IntKind.i64.wrap ((i : Int) - 1)) := by
  have h1 : (i : Int) > 0 := of_decide_eq_true h0
  rw [wrapP h1 hi hn, show ((i - 1 : Nat) : Int) = (i : Int) - 1 by omega]
  unfold parOk
  rw [if_neg (by omega)]
theorem par_n {ns : List (List D)} {i : Nat} (hn : ns.length ≤ maxLen) (hi : i < ns.length) (h0 : decide ((i : Int) > 0) = true) (h : (!inR ((ns.getD ((i : Int)).toNat []).getD 0 default).int 0 (IntKind.i64.wrap ((i : Int) - 1))) = true) : parOk ns i = false := by
  rw [par_is hn hi h0]; exact of_notT h
theorem par_y {ns : List (List D)} {i : Nat} (hn : ns.length ≤ maxLen) (hi : i < ns.length) (h0 : decide ((i : Int) > 0) = true) (h : (!inR ((ns.getD ((i : Int)).toNat []).getD 0 default).int 0 (IntKind.i64.wrap ((i : Int) - 1))) = false) : parOk ns i = true := by
  rw [par_is hn hi h0]; exact of_notF h
theorem par_abs {i : Nat} (h : ((i : Int) == 0) = true) (h2 : decide ((i : Int) > 0) = true) : False := by
  have := eq_of_beq h
  have := of_decide_eq_true h2
  omega
theorem par_abs2 {i : Nat} (h : ((i : Int) == 0) = false) (h2 : decide ((i : Int) > 0) = false) : False := by
  have := beq_eq_false_iff_ne.1 h
  have := of_decide_eq_false h2
  omega
abbrev tlN (ns : List (List D)) : List (List D) := List.drop (Int.toNat 1) (List.take (Int.toNat (ns.length : Int)) ns)
theorem tlN_len (ns : List (List D)) : (tlN ns).length = ns.length - 1 := by simp [tlN]
theorem tlN_at {ns : List (List D)} {i : Nat} : rAt (tlN ns) i = rAt ns (i + 1) := by
  have e : tlN ns = ns.drop 1 := by simp [tlN]
  rw [e]
  simp only [rAt, Int.toNat_natCast, List.getD_eq_getElem?_getD, List.getElem?_drop]
  rw [Nat.add_comm]
abbrev inT (ns : List (List D)) (i : Nat) : Bool := inR (iAt (rAt (tlN ns) i) 0) 0 (i : Int)
theorem inT_is (ns : List (List D)) (i : Nat) : inT ns i = parOk ns (i + 1) := by
  unfold parOk
  rw [if_neg (by omega), ← tlN_at, show ((i + 1 : Nat) : Int) - 1 = (i : Int) by omega]
theorem okH_no1 {h : H3} (h1 : (!okNb h.1) = true) : false = okH h := by
  unfold okH; rw [of_notT h1]; simp
theorem okH_no2 {h : H3} (h1 : (!inR (h.2.1.length : Int) 1 20) = true) : false = okH h := by
  unfold okH; rw [of_notT h1]; simp
theorem okH_no3 {h : H3} (h0 : (!inR (h.2.1.length : Int) 1 20) = false) (h1 : ((((h.2.1.getD (Int.toNat 0) []).getD 0 default).int) != -1) = true) : false = okH h := by
  have h0 := of_notF h0
  unfold inR at h0
  simp only [Bool.and_eq_true, decide_eq_true_eq] at h0
  unfold okH
  rw [allB_stop (i := 0) (by omega) (par_0n rfl h1)]; rfl
theorem okH_no4 {h : H3} (h1 : (!inR h.2.2 0 ((h.2.1.length : Int) - 1)) = true) : false = okH h := by
  unfold okH; rw [of_notT h1]; simp
theorem okH_no5 {h : H3} {i : Nat} (hi : i < (tlN h.2.1).length) (h1 : (!inT h.2.1 i) = true) : false = okH h := by
  have h1 := of_notT h1
  rw [inT_is] at h1
  rw [tlN_len] at hi
  unfold okH
  rw [allB_stop (i := i + 1) (by omega) h1]; rfl
theorem okH_yes {h : H3} {i : Nat} (h1 : (!okNb h.1) = false) (h2 : (!inR (h.2.1.length : Int) 1 20) = false) (h3 : ((((h.2.1.getD (Int.toNat 0) []).getD 0 default).int) != -1) = false) (h4 : (!inR h.2.2 0 ((h.2.1.length : Int) - 1)) = false) (hI : ∀ j, j < i → inT h.2.1 j = true) (hi : ¬ i < (tlN h.2.1).length) : true = okH h := by
  unfold okH
  rw [of_notF h1, of_notF h2, of_notF h4, allB_iff.2 (fun j hj => ?_)]
  · rfl
  · cases j with
    | zero => exact par_0y rfl h3
    | succ j =>
      rw [← inT_is]
      rw [tlN_len] at hi
      exact hI j (by omega)
theorem len_in {n : Nat} (h : (!inR (n : Int) 1 20) = false) : 0 < n := by
  have h := of_notF h
  unfold inR at h
  simp only [Bool.and_eq_true, decide_eq_true_eq] at h
  omega
theorem take_next {ns : List (List D)} {i : Nat} {c : List D} (hi : i < ns.length) (hc : c = rAt ns i) : ns.take i ++ ([] ++ [c]) = ns.take (i + 1) := by
  subst hc
  rw [List.nil_append, List.take_succ_eq_append_getElem hi]
  simp only [rAt, Int.toNat_natCast, List.getD_eq_getElem?_getD, List.getElem?_eq_getElem hi, Option.getD_some]
theorem rAt_mem {ns : List (List D)} {i : Nat} (hi : i < ns.length) : rAt ns i ∈ ns := by
  simp only [rAt, Int.toNat_natCast, List.getD_eq_getElem?_getD, List.getElem?_eq_getElem hi, Option.getD_some]
  exact List.getElem_mem hi
theorem apB_len : ∀ {es l l0 : List (List D)} {i : Int} {B : Nat}, l.length ≤ B → l0.length ≤ B → 17 ≤ B → (batF l0 l es i).1.length ≤ B
  | [], l, l0, i, B, h, h0, hB => h
  | e :: es, l, l0, i, B, h, h0, hB => by
    rw [batF]
    split
    · exact apB_len (ap_len h hB) h0 hB
    · exact h0
theorem ivB_len : ∀ {es l acc : List (List D)}, (ivtF l es acc).1.length ≤ es.length + acc.length
  | [], l, acc => by simp [ivtF]
  | e :: es, l, acc => by
    rw [ivtF]
    split
    · have := @ivB_len es (apE l e).1 ((invE l e).1 :: acc)
      simp only [List.length_cons] at this ⊢
      omega
    · simp
theorem SmH.mv {h : H3} (hs : SmH h) (es : List (List D)) (to : Int) : SmH (mvE h es to).1 := by
  unfold mvE
  split
  · exact hs
  · exact ⟨apB_len hs.1 hs.1 (by decide), hs.2⟩
theorem SmH.un {h : H3} (hs : SmH h) : SmH (unE h).1 := by
  unfold unE
  repeat' split
  all_goals first | exact hs | exact hs.mv _ _
theorem SmH.re {h : H3} (hs : SmH h) (k : Int) : SmH (reE h k).1 := by
  unfold reE
  repeat' split
  all_goals first | exact hs | exact hs.mv _ _
theorem okH_len {h : H3} (ho : okH h = true) : 1 ≤ h.2.1.length ∧ h.2.1.length ≤ 20 ∧ 0 ≤ h.2.2 ∧ h.2.2 < h.2.1.length ∧ okNb h.1 = true := by
  unfold okH inR at ho
  simp only [Bool.and_eq_true, decide_eq_true_eq] at ho
  exact ⟨by omega, by omega, by omega, by omega, ho.2.1⟩
theorem okH_par {h : H3} (ho : okH h = true) {k : Int} (h0 : 0 ≤ k) (h1 : k < h.2.1.length) : (k = 0 ∧ parI h.2.1 k = -1) ∨ (0 < k ∧ 0 ≤ parI h.2.1 k ∧ parI h.2.1 k < k) := by
  unfold okH at ho
  simp only [Bool.and_eq_true] at ho
  have h2 := allB_iff.1 ho.1 k.toNat (by omega)
  obtain ⟨n, rfl⟩ := Int.eq_ofNat_of_zero_le h0
  rw [Int.toNat_natCast] at h2
  unfold parOk at h2
  cases n with
  | zero => exact .inl ⟨rfl, eq_of_beq h2⟩
  | succ m =>
    rw [if_neg (by omega)] at h2
    unfold inR at h2
    simp only [Bool.and_eq_true, decide_eq_true_eq] at h2
    refine .inr ⟨by omega, h2.1, ?_⟩
    have := h2.2
    show iAt (rAt h.2.1 (m + 1)) 0 < _
    omega
theorem SmH.do_ {h : H3} (hs : SmH h) {es : List (List D)} (he : es.length ≤ 1000) : SmH (doE h es).1 := by
  unfold doE
  split
  · rename_i hc
    simp only [Bool.and_eq_true] at hc
    have hn := okH_len hc.1.1
    refine ⟨apB_len hs.1 hs.1 (by decide), ?_, fun x hx => ?_⟩
    · show (h.2.1 ++ _).length ≤ 1000
      simp only [List.length_append, List.length_cons, List.length_nil]
      omega
    · rcases List.mem_append.1 hx with h1 | h1
      · exact hs.2.2 x h1
      · obtain rfl := List.mem_singleton.1 h1
        refine ⟨he, ?_⟩
        have := @ivB_len es h.1 []
        show (ivB h.1 es).1.length ≤ 1000
        unfold ivB
        simp only [List.length_nil] at this
        omega
  · exact hs
theorem SmH.goU {p : List Int} : ∀ {n : Nat} {h h1 : H3}, SmH h → goU p n h = some h1 → SmH h1
  | 0, h, h1, hs, e => by cases e
  | n + 1, h, h1, hs, e => by
    rw [Ab.goU] at e
    split at e
    · obtain rfl := Option.some.inj e; exact hs
    · split at e
      · exact SmH.goU hs.un e
      · cases e
theorem SmH.goR {fr : Int} : ∀ {ks : List Int} {h h1 : H3}, SmH h → goR fr ks h = some h1 → SmH h1
  | [], h, h1, hs, e => by obtain rfl := Option.some.inj e; exact hs
  | k :: ks, h, h1, hs, e => by
    rw [Ab.goR] at e
    split at e
    · exact SmH.goR hs e
    · split at e
      · exact SmH.goR (hs.re k) e
      · cases e
theorem SmH.go {h : H3} (hs : SmH h) (k : Int) : SmH (goE h k).1 := by
  unfold goE
  split
  · exact hs
  · split
    · exact hs
    · rename_i h1 e1
      split
      · exact hs
      · rename_i h2 e2
        exact SmH.goR (SmH.goU hs e1) e2
theorem SmH.new {l : List (List D)} (hl : l.length ≤ 1048576) : SmH (newE l).1 := by
  unfold newE
  split
  · refine ⟨hl, (by show 1 ≤ 1000; omega), fun x hx => ?_⟩
    obtain rfl := List.mem_singleton.1 hx
    exact ⟨by decide, by decide⟩
  · exact ⟨by decide, by decide, fun x hx => by cases hx⟩
abbrev mvT (e n : TypeId) (p : H3 × Bool) : List (Bool × List CV) := [(true, [.sl false e p.1.1, .sl true n p.1.2.1, .i .i64 p.1.2.2]), (false, [.b p.2])]
theorem mv_no {h : H3} {es : List (List D)} {to : Int} (h1 : decide ((apB h.1 es).2 ≥ 0) = true) : mvE h es to = (h, false) := by unfold mvE; rw [if_pos h1]
theorem mv_yes {h : H3} {es : List (List D)} {to : Int} (h1 : decide ((apB h.1 es).2 ≥ 0) = false) : mvE h es to = (((apB h.1 es).1, h.2.1, to), true) := by unfold mvE; rw [h1]; rfl
theorem mv_flag {h : H3} {es : List (List D)} {to : Int} : (mvE h es to).2 = !decide ((apB h.1 es).2 ≥ 0) := by
  cases e : decide ((apB h.1 es).2 ≥ 0)
  · rw [mv_yes e]; rfl
  · rw [mv_no e]; rfl
theorem iv_ap : ∀ {es l l0 acc : List (List D)} {i : Int}, 0 ≤ i → (ivtF l es acc).2 = !decide ((batF l0 l es i).2 ≥ 0)
  | [], l, l0, acc, i, hi => rfl
  | e :: es, l, l0, acc, i, hi => by
    rw [ivtF, batF]
    have e1 : (invE l e).2 = ((apE l e).2 == 0) := by
      unfold invE
      split
      · rename_i h; exact h.symm
      · rename_i h; exact (Bool.eq_false_iff.2 h).symm
    rw [e1]
    split
    · exact iv_ap (by omega)
    · show false = !decide (i ≥ 0)
      rw [decide_eq_true (by omega)]; rfl
theorem ivB_ap {l es : List (List D)} : (ivB l es).2 = !decide ((apB l es).2 ≥ 0) := iv_ap (Int.le_refl _)
theorem do_no1 {h : H3} {es : List (List D)} (h1 : (!okH h) = true) : doE h es = (h, false) := by unfold doE; rw [of_notT h1]; rfl
theorem do_no2 {h : H3} {es : List (List D)} (h1 : ((h.2.1.length : Int) == 20) = true) : doE h es = (h, false) := by unfold doE; rw [h1]; simp
theorem do_no3 {h : H3} {es : List (List D)} (h1 : (!(ivB h.1 es).2) = true) : doE h es = (h, false) := by unfold doE; rw [of_notT h1]; simp
theorem do_no4 {h : H3} {es : List (List D)} (h1 : decide ((apB h.1 es).2 ≥ 0) = true) : doE h es = (h, false) := by unfold doE; rw [h1]; simp
theorem do_yes {h : H3} {es : List (List D)} (h1 : (!okH h) = false) (h2 : ((h.2.1.length : Int) == 20) = false) (h4 : decide ((apB h.1 es).2 ≥ 0) = false) : doE h es = (((apB h.1 es).1, h.2.1 ++ [nodeR h.2.2 es (ivB h.1 es).1], (h.2.1.length : Int)), true) := by
  unfold doE; rw [of_notF h1, h2, h4, ivB_ap, h4]; rfl
theorem len20 {h : H3} (h1 : (!okH h) = false) : decide ((h.2.1.length : Int) ≥ 20) = ((h.2.1.length : Int) == 20) := by
  have := (okH_len (of_notF h1)).2.1
  rcases Nat.lt_or_eq_of_le this with h1 | h1
  · rw [decide_eq_false (by omega), beq_eq_false_iff_ne.2 (by omega)]
  · rw [h1]; rfl
theorem do_no2i {h : H3} {es : List (List D)} (h1 : (!okH h) = false) (h2 : decide ((h.2.1.length : Int) ≥ 20) = true) : doE h es = (h, false) := by
  rw [len20 h1] at h2; exact do_no2 h2
theorem do_imY {h : H3} {es : List (List D)} (h1 : (!okH h) = false) (h2 : decide ((h.2.1.length : Int) ≥ 20) = false) (h3 : (mvE h es (h.2.1.length : Int)).2 = true) :
    doE h es = (((mvE h es (h.2.1.length : Int)).1.1, (mvE h es (h.2.1.length : Int)).1.2.1 ++ ([] ++ [nodeR h.2.2 es (ivB h.1 es).1]), (mvE h es (h.2.1.length : Int)).1.2.2), true) := by
  rw [len20 h1] at h2
  have h4 : decide ((apB h.1 es).2 ≥ 0) = false := by rw [mv_flag] at h3; exact of_notT h3
  rw [do_yes h1 h2 h4, mv_yes h4]
  rfl
theorem do_imN {h : H3} {es : List (List D)} (h3 : (mvE h es (h.2.1.length : Int)).2 = false) : doE h es = ((mvE h es (h.2.1.length : Int)).1, false) := by
  have h4 : decide ((apB h.1 es).2 ≥ 0) = true := by rw [mv_flag] at h3; exact of_notF h3
  rw [do_no4 h4, mv_no h4]
theorem un_no1 {h : H3} (h1 : (!okH h) = true) : unE h = (h, false) := by unfold unE; rw [of_notT h1]; rfl
theorem un_no2 {h : H3} (h1 : (!okH h) = false) (h2 : (h.2.2 == 0) = true) : unE h = (h, false) := by unfold unE; rw [of_notF h1, h2]; rfl
theorem un_yes {h : H3} (h1 : (!okH h) = false) (h2 : (h.2.2 == 0) = false) : unE h = mvE h (lAt (rI h.2.1 h.2.2) 2) (parI h.2.1 h.2.2) := by unfold unE; rw [of_notF h1, h2]; rfl
theorem re_no1 {h : H3} {k : Int} (h1 : (!okH h) = true) : reE h k = (h, false) := by unfold reE; rw [of_notT h1]; rfl
theorem re_no2 {h : H3} {k : Int} (h1 : (!inR k 1 ((h.2.1.length : Int) - 1)) = true) : reE h k = (h, false) := by unfold reE; rw [of_notT h1]; simp
theorem re_no2i {h : H3} {k : Int} (h1 : (!inR k 0 ((h.2.1.length : Int) - 1)) = true) : reE h k = (h, false) := by
  have h1 := of_notT h1
  have h2 : inR k 1 ((h.2.1.length : Int) - 1) = false := by
    unfold inR at h1 ⊢
    simp only [Bool.and_eq_false_iff, decide_eq_false_iff_not] at h1 ⊢
    omega
  unfold reE; rw [h2]; simp
theorem re_no3 {h : H3} {k : Int} (h1 : (parI h.2.1 k != h.2.2) = true) : reE h k = (h, false) := by
  have h2 : (parI h.2.1 k == h.2.2) = false := by simpa [bne] using h1
  unfold reE; rw [h2]; simp
theorem re_yes {h : H3} {k : Int} (h1 : (!okH h) = false) (h2 : (!inR k 1 ((h.2.1.length : Int) - 1)) = false) (h3 : (parI h.2.1 k != h.2.2) = false) : reE h k = mvE h (lAt (rI h.2.1 k) 1) k := by
  have h4 : (parI h.2.1 k == h.2.2) = true := by simpa [bne] using h3
  unfold reE; rw [of_notF h1, of_notF h2, h4]; rfl
theorem re_yesi {h : H3} {k : Int} (h1 : (!okH h) = false) (h2 : (!inR k 0 ((h.2.1.length : Int) - 1)) = false) (h3 : (parI h.2.1 k != h.2.2) = false) : reE h k = mvE h (lAt (rI h.2.1 k) 1) k := by
  refine re_yes h1 ?_ h3
  have h5 := of_notF h2
  unfold inR at h5 ⊢
  simp only [Bool.and_eq_true, decide_eq_true_eq] at h5
  have ho := of_notF h1
  have h6 := okH_len ho
  have h7 : parI h.2.1 k = h.2.2 := by simpa [bne] using h3
  have h8 : 1 ≤ k := by
    rcases okH_par ho h5.1 (by omega) with ⟨rfl, h9⟩ | ⟨h9, _⟩
    · omega
    · omega
  rw [decide_eq_true h8, decide_eq_true h5.2]; rfl
theorem at_in {h : H3} (h1 : (!okH h) = false) : 0 ≤ h.2.2 ∧ h.2.2 < (h.2.1.length : Int) := by have := okH_len (of_notF h1); omega
theorem k_in {n k a : Int} (h0 : 0 ≤ a) (h2 : (!inR k a (n - 1)) = false) : 0 ≤ k ∧ k < n := by
  have h5 := of_notF h2
  unfold inR at h5
  simp only [Bool.and_eq_true, decide_eq_true_eq] at h5
  omega
end Go.Proofs.YtodddilaniojgaaGreat.Ab
