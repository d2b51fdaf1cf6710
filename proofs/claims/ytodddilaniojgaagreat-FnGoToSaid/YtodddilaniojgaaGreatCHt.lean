/- Descriptions of edits and batches. No program in sight. -/
import Derived.Test.YtodddilaniojgaaGreatCHs
namespace Go.Proofs.YtodddilaniojgaaGreat.Ab
open Go.RowKit
set_option linter.unusedVariables false
abbrev CE6 : List CT := [.i .i64, .i .i64, .i .i64, .s, .s, .i .i64]
abbrev EE8 : List CT := [.i .i64, .i .i64, .i .i64, .i .i64, .i .i64, .s, .s, .i .i64]
abbrev iA (x : Int) : SV := .val false [.i .i64 x]
def spMx (f : Int → Int → Int) : FSpec where
  pre args := ∃ x y : Int, args = [iA x, iA y]
  res args := match args with
    | [.val _ [.i _ x], .val _ [.i _ y]] => iA (f x y)
    | _ => .none
def spPut (e : TypeId) : FSpec where
  pre args := ∃ (l : List (List D)) (x : Int) (c : List D), l.length ≤ 1000 ∧ args = [argS e l, iA x, argG CE6 c]
  res args := match args with
    | [.val _ [.sl _ _ l], .val _ [.i _ x], .val _ cs] => .val false [.sl true e (putC l x (csD cs))]
    | _ => .none
def spDrop (e : TypeId) : FSpec where
  pre args := ∃ (l : List (List D)) (k : Int), l.length ≤ 1000 ∧ 0 ≤ k ∧ k < l.length ∧ args = [argS e l, iA k]
  res args := match args with
    | [.val _ [.sl _ _ l], .val _ [.i _ k]] => .val false [.sl true e (dropC l k)]
    | _ => .none
def spCellE : FSpec where
  pre args := ∃ r e : List D, iAt r 1 ≤ 999 ∧ -1000 ≤ iAt r 1 ∧ args = [argG CE6 r, argG EE8 e]
  res args := match args with
    | [.val _ cs, .val _ ds] => .tup [(true, rowC CE6 (cellE (csD cs) (csD ds)).1), (false, [.i .i64 (cellE (csD cs) (csD ds)).2])]
    | _ => .none
def spCh (e : TypeId) : FSpec where
  pre args := ∃ (l : List (List D)) (ed : List D), okNb l = true ∧ inR (iAt ed 0) 1 6 = true ∧ args = [nbA false e l, argG EE8 ed]
  res args := match args with
    | [.val _ [.sl _ _ l], .val _ ds] => .tup [(true, [.sl false e (chE l (csD ds)).1]), (false, [.i .i64 (chE l (csD ds)).2])]
    | _ => .none
def spAp (e : TypeId) : FSpec where
  pre args := ∃ (l : List (List D)) (ed : List D), l.length ≤ 1048576 ∧ args = [nbA false e l, argG EE8 ed]
  res args := match args with
    | [.val _ [.sl _ _ l], .val _ ds] => .tup [(true, [.sl false e (apE l (csD ds)).1]), (false, [.i .i64 (apE l (csD ds)).2])]
    | _ => .none
def spInv (e : TypeId) : FSpec where
  pre args := ∃ (l : List (List D)) (ed : List D), l.length ≤ 1048576 ∧ args = [nbA false e l, argG EE8 ed]
  res args := match args with
    | [.val _ [.sl _ _ l], .val _ ds] => .tup [(true, rowC EE8 (invE l (csD ds)).1), (false, [.b (invE l (csD ds)).2])]
    | _ => .none
def spApB (e e' : TypeId) : FSpec where
  pre args := ∃ l es : List (List D), l.length ≤ 1048576 ∧ args = [nbA false e l, argS e' es]
  res args := match args with
    | [.val _ [.sl _ _ l], .val _ [.sl _ _ es]] => .tup [(true, [.sl false e (apB l es).1]), (false, [.i .i64 (apB l es).2])]
    | _ => .none
def spIvB (e e' : TypeId) : FSpec where
  pre args := ∃ l es : List (List D), l.length ≤ 1048576 ∧ es.length ≤ 1048576 ∧ args = [nbA false e l, argS e' es]
  res args := match args with
    | [.val _ [.sl _ _ l], .val _ [.sl _ _ es]] => .tup [(false, [.sl false e' (ivB l es).1]), (false, [.b (ivB l es).2])]
    | _ => .none
def spCpE (e : TypeId) : FSpec where
  pre args := ∃ es : List (List D), es.length ≤ 1048576 ∧ args = [argS e es]
  res args := match args with
    | [.val _ [.sl _ _ es]] => .val false [.sl true e es]
    | _ => .none
theorem put_leaf {l : List (List D)} {x : Int} {c : List D} (m : Int) (hm : m = clampI x l.length) : [] ++ List.drop (Int.toNat 0) (List.take m.toNat l) ++ ([] ++ [c]) ++ List.drop m.toNat (List.take (l.length : Int).toNat l) = putC l x c := by
  subst hm
  unfold putC
  simp
theorem drop_leaf {l : List (List D)} {k k' : Int} (hk : k' = k + 1) : [] ++ List.drop (Int.toNat 0) (List.take k.toNat l) ++ List.drop k'.toNat (List.take (l.length : Int).toNat l) = dropC l k := by
  subst hk
  unfold dropC
  simp
theorem okC_arg (a b c : Int) (s t : ByteArray) (n : Int) : (spOkC CE6).pre [SV.val true [CV.i .i64 a, CV.i .i64 b, CV.i .i64 c, CV.s s, CV.s t, CV.i .i64 n]] := ⟨mkC a b c s t n, rfl⟩
def cellF (id ve k : Int) (nm cd : ByteArray) (n ek : Int) (en ec : ByteArray) (ex : Int) : List D × Int :=
  if (ek == 4) = true then
    if (k == 3) = true then (mkC id ve k nm cd n, 5) else
    if (ve == 999) = true then (mkC id ve k en ec n, 6) else finE (mkC id (ve + 1) k en ec n)
  else if (ek == 5) = true then
    if (k == 3) = true then finE (mkC id ve k nm cd ex) else (mkC id ve k nm cd n, 5)
  else if (k == 2) = true then
    if (ve == 999) = true then (mkC id ve k nm cd n, 6) else finE (mkC id (ve + 1) k nm cd n)
  else (mkC id ve k nm cd n, 5)
theorem cellF_eq (r e : List D) : cellE (csD (rowC CE6 r)) (csD (rowC EE8 e)) = cellF (r.getD 0 default).int (r.getD 1 default).int (r.getD 2 default).int (r.getD 3 default).str (r.getD 4 default).str (r.getD 5 default).int (e.getD 0 default).int (e.getD 5 default).str (e.getD 6 default).str (e.getD 7 default).int := rfl
def chG (l : List (List D)) (ek at_ id ve kd : Int) (en ec : ByteArray) (ex : Int) (r : List D) : List (List D) × Int :=
  if (ek == 1) = true then
    if okCell (mkC id ve kd en ec ex) = true then
      if decide (idxC l id ≥ 0) = true then (l, 3) else if ((l.length : Int) == 8) = true then (l, 4) else (putC l at_ (mkC id ve kd en ec ex), 0)
    else (l, 1)
  else if decide (idxC l id < 0) = true then (l, 2) else
  if (ek == 2) = true then (dropC l (idxC l id), 0) else
  if (ek == 3) = true then (putC (dropC l (idxC l id)) at_ (mkC (r.getD 0 default).int (r.getD 1 default).int (r.getD 2 default).int (r.getD 3 default).str (r.getD 4 default).str (r.getD 5 default).int), 0) else
  if ((cellF (r.getD 0 default).int (r.getD 1 default).int (r.getD 2 default).int (r.getD 3 default).str (r.getD 4 default).str (r.getD 5 default).int ek en ec ex).2 == 0) = true then (l.set (idxC l id).toNat (cellF (r.getD 0 default).int (r.getD 1 default).int (r.getD 2 default).int (r.getD 3 default).str (r.getD 4 default).str (r.getD 5 default).int ek en ec ex).1, 0) else (l, (cellF (r.getD 0 default).int (r.getD 1 default).int (r.getD 2 default).int (r.getD 3 default).str (r.getD 4 default).str (r.getD 5 default).int ek en ec ex).2)
theorem idx_in {l : List (List D)} {id : Int} (h : decide (idxC l id < 0) = false) : 0 ≤ idxC l id ∧ idxC l id < l.length ∧ (idxC l id).toNat < l.length := by
  rcases idxC_cases l id with ⟨h1, _⟩ | ⟨A, r, B, rfl, h2, _, _⟩
  · rw [h1] at h; exact absurd h (by decide)
  · rw [h2]
    have : (A ++ r :: B).length = A.length + B.length + 1 := by simp; omega
    omega
theorem row_in {l : List (List D)} {id : Int} (hok : okNb l = true) (h : decide (idxC l id < 0) = false) : okCell (l.getD (idxC l id).toNat []) = true := by
  have hk := (idx_in h).2.2
  refine (good_iff.1 hok).cell _ ?_
  rw [List.getD_eq_getElem?_getD, List.getElem?_eq_getElem hk]
  exact List.getElem_mem hk
theorem ver_in {r : List D} (h : okCell r = true) : 1 ≤ (r.getD (0 + 1) default).int ∧ (r.getD (0 + 1) default).int ≤ 999 := by
  unfold okCell inR at h
  simp only [Bool.and_eq_true, decide_eq_true_eq] at h
  exact h.2.1
theorem ver_ge {x : Int} (h : x ≤ 999) : decide (x ≥ 999) = (x == 999) := by
  rcases Int.lt_or_eq_of_le h with h1 | h1
  · rw [decide_eq_false (by omega), beq_eq_false_iff_ne.2 (by omega)]
  · subst h1; rfl
theorem len_ge {l : List (List D)} (hok : okNb l = true) : decide ((l.length : Int) ≥ 8) = ((l.length : Int) == 8) := by
  have := (good_iff.1 hok).len
  rcases Nat.lt_or_eq_of_le this with h1 | h1
  · rw [decide_eq_false (by omega), beq_eq_false_iff_ne.2 (by omega)]
  · rw [h1]; rfl
theorem six_of {x : Int} (h : inR x 1 6 = true) : (x == 6) = (!(x == 1) && (!(x == 2) && (!(x == 3) && (!(x == 4) && !(x == 5))))) := by
  unfold inR at h
  simp only [Bool.and_eq_true, decide_eq_true_eq] at h
  have : x = 1 ∨ x = 2 ∨ x = 3 ∨ x = 4 ∨ x = 5 ∨ x = 6 := by omega
  rcases this with h | h | h | h | h | h <;> subst h <;> rfl
theorem put_arg {e : TypeId} {l : List (List D)} {x : Int} (a b c : Int) (s t : ByteArray) (n : Int) (h : l.length ≤ 1000) : (spPut e).pre [argS e l, iA x, SV.val true [CV.i .i64 a, CV.i .i64 b, CV.i .i64 c, CV.s s, CV.s t, CV.i .i64 n]] := ⟨l, x, mkC a b c s t n, h, rfl⟩
theorem dropC_le {l : List (List D)} {k : Int} {n : Nat} (h : l.length ≤ n) (h0 : 0 ≤ k) : (dropC l k).length ≤ n := by
  unfold dropC
  simp only [List.length_append, List.length_take, List.length_drop]
  omega
theorem poke_all {l : List (List D)} {k : Nat} {ds : List D} (h : (l.getD k []).length = ds.length) : pokeRow l k 0 ds = l.set k ds := by
  unfold pokeRow
  rw [overlay_all _ _ h]
theorem chG_eq {e' : TypeId} {te : Ty} (he : T e' = some te) (hc : te.cts = CE6) {l : List (List D)} (wl : WfD T (.l e') (.l l)) (e : List D) : chE l (csD (rowC EE8 e)) = chG l (e.getD 0 default).int (e.getD 1 default).int (e.getD 2 default).int (e.getD 3 default).int (e.getD 4 default).int (e.getD 5 default).str (e.getD 6 default).str (e.getD 7 default).int (l.getD (idxC l (e.getD (0 + 1 + 1) default).int).toNat []) := by
  have e0 : csD (rowC EE8 e) = [.i (e.getD 0 default).int, .i (e.getD 1 default).int, .i (e.getD 2 default).int, .i (e.getD 3 default).int, .i (e.getD 4 default).int, .s (e.getD 5 default).str, .s (e.getD 6 default).str, .i (e.getD 7 default).int] := rfl
  by_cases h : decide (idxC l (e.getD 2 default).int < 0) = true
  · unfold chE chG
    rw [e0]
    show (if _ then _ else if decide (idxC l (e.getD 2 default).int < 0) = true then _ else _) = (if _ then _ else if decide (idxC l (e.getD 2 default).int < 0) = true then _ else _)
    rw [if_pos h, if_pos h]
    rfl
  · have hk := (idx_in (Bool.eq_false_iff.2 h)).2.2
    have wr : WfRow T CE6 (l.getD (idxC l (e.getD 2 default).int).toNat []) := by rw [← hc]; exact wl.row he hk
    have e1 := csD_rowC wr
    have e2 : l.getD (idxC l (e.getD 2 default).int).toNat [] = mkC ((l.getD (idxC l (e.getD 2 default).int).toNat []).getD 0 default).int ((l.getD (idxC l (e.getD 2 default).int).toNat []).getD 1 default).int ((l.getD (idxC l (e.getD 2 default).int).toNat []).getD 2 default).int ((l.getD (idxC l (e.getD 2 default).int).toNat []).getD 3 default).str ((l.getD (idxC l (e.getD 2 default).int).toNat []).getD 4 default).str ((l.getD (idxC l (e.getD 2 default).int).toNat []).getD 5 default).int := e1.symm
    have e3 := cellF_eq (l.getD (idxC l (e.getD 2 default).int).toNat []) e
    rw [e1] at e3
    unfold chE chG
    show (if _ then _ else if decide (idxC l (e.getD 2 default).int < 0) = true then _ else if _ then _ else if _ then (putC _ _ (l.getD (idxC l (e.getD 2 default).int).toNat []), 0) else if ((cellE (l.getD (idxC l (e.getD 2 default).int).toNat []) (csD (rowC EE8 e))).2 == 0) = true then (l.set _ (cellE (l.getD (idxC l (e.getD 2 default).int).toNat []) (csD (rowC EE8 e))).1, _) else (l, (cellE (l.getD (idxC l (e.getD 2 default).int).toNat []) (csD (rowC EE8 e))).2)) = _
    rw [e3]
    show _ = (if _ then _ else if decide (idxC l (e.getD 2 default).int < 0) = true then _ else if _ then _ else if _ then _ else _)
    rw [if_neg h, if_neg h, ← e2]
    rfl
theorem putC_le {l : List (List D)} {x : Int} {c : List D} : (putC l x c).length = l.length + 1 := by
  unfold putC clampI
  simp only [List.length_append, List.length_take, List.length_drop, List.length_cons, List.length_nil]
  omega
theorem dropC_le' {l : List (List D)} {k : Int} : (dropC l k).length ≤ l.length + l.length := by
  unfold dropC
  simp only [List.length_append, List.length_take, List.length_drop]
  omega
theorem ch_len {l e : List (List D)} {x : List D} : (chE l x).1.length ≤ 2 * l.length + 1 := by
  have h1 := @dropC_le' l (idxC l (iAt x 2))
  unfold chE
  repeat' split
  all_goals first
    | (simp only [putC_le, List.length_set]; omega)
    | (show (dropC _ _).length ≤ _; omega)
theorem ap_len {l : List (List D)} {x : List D} {B : Nat} (hl : l.length ≤ B) (hB : 17 ≤ B) : (apE l x).1.length ≤ B := by
  unfold apE
  split
  · rename_i h
    split
    · have h1 := (good_iff.1 h).len
      have h2 := @ch_len l [] x
      omega
    · exact hl
  · exact hl
theorem ap_is {l : List (List D)} {x : List D} (h1 : (!okNb l) = false) (h2 : (!inR (iAt x 0) 1 6) = false) : apE l x = chE l x := by
  unfold apE; rw [if_pos (of_notF h1), if_pos (of_notF h2)]
theorem ap_no1 {l : List (List D)} {x : List D} (h1 : (!okNb l) = true) : apE l x = (l, 1) := by
  unfold apE; rw [of_notT h1]; rfl
theorem ap_no2 {l : List (List D)} {x : List D} (h2 : (!inR (iAt x 0) 1 6) = true) : apE l x = (l, 1) := by
  unfold apE; rw [of_notT h2]; simp
abbrev tupN (e : TypeId) (p : List (List D) × Int) : List (Bool × List CV) := [(true, [.sl false e p.1]), (false, [.i .i64 p.2])]
theorem ver_lo {r : List D} (h : okCell r = true) : -1000 ≤ iAt r 1 := by
  have := (ver_in h).1
  have h2 : 1 ≤ iAt r 1 := this
  omega
theorem cellF_can (a b c : Int) (s t : ByteArray) (n k : Int) (u v : ByteArray) (x : Int) : ∀ y, cellF a b c s t n k u v x = y → [D.i (y.1.getD 0 default).int, .i (y.1.getD (0 + 1) default).int, .i (y.1.getD (0 + 1 + 1) default).int, .s (y.1.getD (0 + 1 + 1 + 1) default).str, .s (y.1.getD (0 + 1 + 1 + 1 + 1) default).str, .i (y.1.getD (0 + 1 + 1 + 1 + 1 + 1) default).int] = y.1 := by
  rintro y rfl
  unfold cellF finE
  repeat' split
  all_goals rfl
theorem ap_cell {l : List (List D)} {e : List D} (h1 : (!okNb l) = false) (h2 : (!inR (iAt (csD (rowC EE8 e)) 0) 1 6) = false) (k1 : ((e.getD 0 default).int == 1) = false) (hx : decide (idxC l (e.getD (0 + 1 + 1) default).int < 0) = false) (k2 : ((e.getD 0 default).int == 2) = false) (k3 : ((e.getD 0 default).int == 3) = false) : apE l (csD (rowC EE8 e)) = if ((cellE (l.getD (idxC l (e.getD 2 default).int).toNat []) (csD (rowC EE8 e))).2 == 0) = true then (l.set (idxC l (e.getD 2 default).int).toNat (cellE (l.getD (idxC l (e.getD 2 default).int).toNat []) (csD (rowC EE8 e))).1, 0) else (l, (cellE (l.getD (idxC l (e.getD 2 default).int).toNat []) (csD (rowC EE8 e))).2) := by
  rw [ap_is h1 h2]
  unfold chE
  show (if ((e.getD 0 default).int == 1) = true then _ else if decide (idxC l (e.getD (0 + 1 + 1) default).int < 0) = true then _ else if ((e.getD 0 default).int == 2) = true then _ else if ((e.getD 0 default).int == 3) = true then _ else _) = _
  rw [k1, hx, k2, k3]
  rfl
theorem ap_row {e' : TypeId} {te : Ty} {l : List (List D)} {e : List D} (he : T e' = some te) (hc : te.cts = CE6) (wl : WfD T (.l e') (.l l)) (hx : decide (idxC l (e.getD (0 + 1 + 1) default).int < 0) = false) : csD (rowC CE6 (l.getD (idxC l (e.getD 2 default).int).toNat [])) = l.getD (idxC l (e.getD 2 default).int).toNat [] ∧ (l.getD (idxC l (e.getD 2 default).int).toNat []).length = 6 := by
  have hk := (idx_in hx).2.2
  have wr : WfRow T CE6 (l.getD (idxC l (e.getD 2 default).int).toNat []) := by rw [← hc]; exact wl.row he hk
  exact ⟨csD_rowC wr, wr.1⟩
theorem ap_cellY {e' : TypeId} {te : Ty} {l : List (List D)} {e : List D} (he : T e' = some te) (hc : te.cts = CE6) (wl : WfD T (.l e') (.l l)) (h1 : (!okNb l) = false) (h2 : (!inR (iAt (csD (rowC EE8 e)) 0) 1 6) = false) (k1 : ((e.getD 0 default).int == 1) = false) (hx : decide (idxC l (e.getD (0 + 1 + 1) default).int < 0) = false) (k2 : ((e.getD 0 default).int == 2) = false) (k3 : ((e.getD 0 default).int == 3) = false) (h : ((cellE (csD (rowC CE6 (l.getD (idxC l (e.getD (0 + 1 + 1) default).int).toNat []))) (csD (rowC EE8 e))).2 == 0) = true) :
    tupN e' (pokeRow l (idxC l (e.getD (0 + 1 + 1) default).int).toNat 0 [D.i ((cellE (csD (rowC CE6 (l.getD (idxC l (e.getD (0 + 1 + 1) default).int).toNat []))) (csD (rowC EE8 e))).1.getD 0 default).int,
      .i ((cellE (csD (rowC CE6 (l.getD (idxC l (e.getD (0 + 1 + 1) default).int).toNat []))) (csD (rowC EE8 e))).1.getD (0 + 1) default).int, .i ((cellE (csD (rowC CE6 (l.getD (idxC l (e.getD (0 + 1 + 1) default).int).toNat []))) (csD (rowC EE8 e))).1.getD (0 + 1 + 1) default).int,
      .s ((cellE (csD (rowC CE6 (l.getD (idxC l (e.getD (0 + 1 + 1) default).int).toNat []))) (csD (rowC EE8 e))).1.getD (0 + 1 + 1 + 1) default).str, .s ((cellE (csD (rowC CE6 (l.getD (idxC l (e.getD (0 + 1 + 1) default).int).toNat []))) (csD (rowC EE8 e))).1.getD (0 + 1 + 1 + 1 + 1) default).str,
      .i ((cellE (csD (rowC CE6 (l.getD (idxC l (e.getD (0 + 1 + 1) default).int).toNat []))) (csD (rowC EE8 e))).1.getD (0 + 1 + 1 + 1 + 1 + 1) default).int], (cellE (csD (rowC CE6 (l.getD (idxC l (e.getD (0 + 1 + 1) default).int).toNat []))) (csD (rowC EE8 e))).2) = tupN e' (apE l (csD (rowC EE8 e))) := by
  rw [ap_cell h1 h2 k1 hx k2 k3]
  rw [cellF_can _ _ _ _ _ _ _ _ _ _ _ (cellF_eq (l.getD (idxC l (e.getD (0 + 1 + 1) default).int).toNat []) e).symm]
  obtain ⟨q1, q2⟩ := ap_row he hc wl hx
  have q3 : (cellE (l.getD (idxC l (e.getD (0 + 1 + 1) default).int).toNat []) (csD (rowC EE8 e))).1.length = 6 := by
    rw [← q1, cellF_eq]
    rw [← cellF_can _ _ _ _ _ _ _ _ _ _ _ rfl]
    rfl
  rw [q1] at h ⊢
  rw [if_pos h, poke_all (q2.trans q3.symm), eq_of_beq h]
theorem ap_cellN {e' : TypeId} {te : Ty} {l : List (List D)} {e : List D} (he : T e' = some te) (hc : te.cts = CE6) (wl : WfD T (.l e') (.l l)) (h1 : (!okNb l) = false) (h2 : (!inR (iAt (csD (rowC EE8 e)) 0) 1 6) = false) (k1 : ((e.getD 0 default).int == 1) = false) (hx : decide (idxC l (e.getD (0 + 1 + 1) default).int < 0) = false) (k2 : ((e.getD 0 default).int == 2) = false) (k3 : ((e.getD 0 default).int == 3) = false) (h : ((cellE (csD (rowC CE6 (l.getD (idxC l (e.getD (0 + 1 + 1) default).int).toNat []))) (csD (rowC EE8 e))).2 == 0) = false) :
    tupN e' (l, (cellE (csD (rowC CE6 (l.getD (idxC l (e.getD (0 + 1 + 1) default).int).toNat []))) (csD (rowC EE8 e))).2) = tupN e' (apE l (csD (rowC EE8 e))) := by
  rw [ap_cell h1 h2 k1 hx k2 k3]
  obtain ⟨q1, q2⟩ := ap_row he hc wl hx
  rw [q1] at h ⊢
  rw [if_neg (by rw [h]; decide)]
theorem inv_no {l : List (List D)} {x : List D} (h : ((apE l x).2 != 0) = true) : invE l x = (mkE 0 0 noC, false) := by
  unfold invE
  rw [if_neg (by intro h2; rw [bne, h2] at h; exact absurd h (by decide))]
theorem ap0 {l : List (List D)} {x : List D} (h : ((apE l x).2 != 0) = false) : (apE l x).2 = 0 := by
  have : ((apE l x).2 == 0) = true := by simpa [bne] using h
  exact eq_of_beq this
theorem inv_yes {l : List (List D)} {x : List D} (h : ((apE l x).2 != 0) = false) : invE l x = (invX l x, true) := by
  unfold invE; rw [ap0 h]; rfl
theorem ap_in {l : List (List D)} {x : List D} (h : ((apE l x).2 != 0) = false) : okNb l = true ∧ inR (iAt x 0) 1 6 = true ∧ (chE l x).2 = 0 := by
  have h := ap0 h
  unfold apE at h
  by_cases h1 : okNb l = true
  · by_cases h2 : inR (iAt x 0) 1 6 = true
    · rw [if_pos h1, if_pos h2] at h
      exact ⟨h1, h2, h⟩
    · rw [if_pos h1, if_neg h2] at h; simp at h
  · rw [if_neg h1] at h; simp at h
theorem ap_idx {l : List (List D)} {x : List D} (h : ((apE l x).2 != 0) = false) (hk : (iAt x 0 == 1) = false) : decide (idxC l (iAt x 2) < 0) = false := by
  have h3 := (ap_in h).2.2
  unfold chE at h3
  rw [hk, if_neg (by decide)] at h3
  cases h4 : decide (idxC l (iAt x 2) < 0)
  · rfl
  · rw [h4, if_pos rfl] at h3; simp at h3
def invG (l : List (List D)) (ek id : Int) (r : List D) : List D :=
  if (ek == 1) = true then mkE 2 0 (mkC id 0 0 ⟨#[]⟩ ⟨#[]⟩ 0) else
  if (ek == 2) = true then mkE 1 (idxC l id) (mkC (r.getD 0 default).int (r.getD 1 default).int (r.getD 2 default).int (r.getD 3 default).str (r.getD 4 default).str (r.getD 5 default).int) else
  if (ek == 3) = true then mkE 3 (idxC l id) (mkC id 0 0 ⟨#[]⟩ ⟨#[]⟩ 0) else
  if (ek == 4) = true then mkE 4 0 (mkC id 0 0 (r.getD 3 default).str (r.getD 4 default).str 0) else
  if (ek == 5) = true then mkE 5 0 (mkC id 0 0 ⟨#[]⟩ ⟨#[]⟩ (r.getD 5 default).int) else
  mkE 6 0 (mkC id 0 0 ⟨#[]⟩ ⟨#[]⟩ 0)
theorem invG_eq {e' : TypeId} {te : Ty} {l : List (List D)} {e : List D} (he : T e' = some te) (hc : te.cts = CE6) (wl : WfD T (.l e') (.l l)) (h : ((apE l (csD (rowC EE8 e))).2 != 0) = false) :
    invX l (csD (rowC EE8 e)) = invG l (e.getD 0 default).int (e.getD 2 default).int (l.getD (idxC l (e.getD 2 default).int).toNat []) := by
  unfold invX invG
  show (if ((e.getD 0 default).int == 1) = true then _ else if ((e.getD 0 default).int == 2) = true then mkE 1 _ (l.getD (idxC l (e.getD 2 default).int).toNat []) else _) = _
  by_cases h1 : ((e.getD 0 default).int == 1) = true
  · rw [if_pos h1, if_pos h1]; rfl
  · rw [if_neg h1, if_neg h1]
    have e1 := (ap_row he hc wl (ap_idx h (Bool.eq_false_iff.2 h1))).1
    have e2 : l.getD (idxC l (e.getD 2 default).int).toNat [] = mkC ((l.getD (idxC l (e.getD 2 default).int).toNat []).getD 0 default).int ((l.getD (idxC l (e.getD 2 default).int).toNat []).getD 1 default).int ((l.getD (idxC l (e.getD 2 default).int).toNat []).getD 2 default).int ((l.getD (idxC l (e.getD 2 default).int).toNat []).getD 3 default).str ((l.getD (idxC l (e.getD 2 default).int).toNat []).getD 4 default).str ((l.getD (idxC l (e.getD 2 default).int).toNat []).getD 5 default).int := e1.symm
    rw [← e2]
    rfl
abbrev tupI (p : List D × Bool) : List (Bool × List CV) := [(true, rowC EE8 p.1), (false, [.b p.2])]
theorem ap_arg {e' : TypeId} {l : List (List D)} {e : List D} (hl : l.length ≤ 1048576) : (spAp e').pre [SV.val true [.sl false e' l], SV.val true [CV.i .i64 (e.getD 0 default).int, CV.i .i64 (e.getD (0 + 1) default).int, CV.i .i64 (e.getD (0 + 1 + 1) default).int, CV.i .i64 (e.getD (0 + 1 + 1 + 1) default).int, CV.i .i64 (e.getD (0 + 1 + 1 + 1 + 1) default).int, CV.s (e.getD (0 + 1 + 1 + 1 + 1 + 1) default).str, CV.s (e.getD (0 + 1 + 1 + 1 + 1 + 1 + 1) default).str, CV.i .i64 (e.getD (0 + 1 + 1 + 1 + 1 + 1 + 1 + 1) default).int]] := ⟨l, e, hl, rfl⟩
theorem six_or {x : Int} (h : inR x 1 6 = true) : x = 1 ∨ x = 2 ∨ x = 3 ∨ x = 4 ∨ x = 5 ∨ x = 6 := by
  unfold inR at h
  simp only [Bool.and_eq_true, decide_eq_true_eq] at h
  omega
theorem drop_at {es : List (List D)} {i : Nat} (hi : i < es.length) : es.drop i = rAt es i :: es.drop (i + 1) := by
  rw [List.drop_eq_getElem_cons hi]
  simp only [rAt, Int.toNat_natCast, List.getD_eq_getElem?_getD, List.getElem?_eq_getElem hi, Option.getD_some]
theorem bat_no {l now es : List (List D)} {i : Nat} (hi : i < es.length) (h : ((apE now (rAt es i)).2 != 0) = true) : batF l now (es.drop i) i = (l, (i : Int)) := by
  rw [drop_at hi, batF, if_neg (by intro h2; rw [bne, h2] at h; exact absurd h (by decide))]
theorem bat_yes {l now es : List (List D)} {i : Nat} (hi : i < es.length) (h : ((apE now (rAt es i)).2 != 0) = false) : batF l now (es.drop i) i = batF l (apE now (rAt es i)).1 (es.drop (i + 1)) ((i + 1 : Nat) : Int) := by
  rw [drop_at hi, batF, ap0 h]; rfl
theorem bat_end {l now es : List (List D)} {i : Nat} (hi : ¬ i < es.length) : batF l now (es.drop i) i = (now, -1) := by
  rw [List.drop_eq_nil_of_le (Nat.le_of_not_lt hi), batF]
theorem ivt_no {now es acc : List (List D)} {i : Nat} (hi : i < es.length) (h : (!(invE now (rAt es i)).2) = true) : ivtF now (es.drop i) acc = ([], false) := by
  rw [drop_at hi, ivtF, if_neg (by rw [of_notT h]; decide)]
theorem ivt_yes {now es acc : List (List D)} {i : Nat} (hi : i < es.length) (h : (!(invE now (rAt es i)).2) = false) : ivtF now (es.drop i) acc = ivtF (apE now (rAt es i)).1 (es.drop (i + 1)) ((invE now (rAt es i)).1 :: acc) := by
  rw [drop_at hi, ivtF, if_pos (of_notF h)]
theorem ivt_end {now es acc : List (List D)} {i : Nat} (hi : ¬ i < es.length) : ivtF now (es.drop i) acc = (acc, true) := by
  rw [List.drop_eq_nil_of_le (Nat.le_of_not_lt hi), ivtF]
def Can (l : List (List D)) : Prop := ∀ r ∈ l, csD (rowC CE6 r) = r
theorem Can.of_wf {e' : TypeId} {te : Ty} {l : List (List D)} (he : T e' = some te) (hc : te.cts = CE6) (wl : WfD T (.l e') (.l l)) : Can l := fun r hr => by
  obtain ⟨i, hi, rfl⟩ := List.mem_iff_getElem.1 hr
  have wr := wl.row he hi
  rw [hc, List.getD_eq_getElem?_getD, List.getElem?_eq_getElem hi] at wr
  exact csD_rowC wr
theorem can_mk (a b c : Int) (s t : ByteArray) (n : Int) : csD (rowC CE6 (mkC a b c s t n)) = mkC a b c s t n := rfl
theorem cellF_mk (a b c : Int) (s t : ByteArray) (n k : Int) (u v : ByteArray) (x : Int) : csD (rowC CE6 (cellF a b c s t n k u v x).1) = (cellF a b c s t n k u v x).1 := by
  unfold cellF finE
  repeat' split
  all_goals rfl
theorem cellE_can {r e : List D} (h : csD (rowC CE6 r) = r) : csD (rowC CE6 (cellE r e).1) = (cellE r e).1 := by
  have h2 : cellE (csD (rowC CE6 r)) e = cellF (r.getD 0 default).int (r.getD 1 default).int (r.getD 2 default).int (r.getD 3 default).str (r.getD 4 default).str (r.getD 5 default).int (e.getD 0 default).int (e.getD 5 default).str (e.getD 6 default).str (e.getD 7 default).int := rfl
  rw [h] at h2
  rw [h2]
  exact cellF_mk _ _ _ _ _ _ _ _ _ _
theorem Can.put {l : List (List D)} {x : Int} {c : List D} (h : Can l) (hc : csD (rowC CE6 c) = c) : Can (putC l x c) := by
  obtain ⟨A, B, rfl, e2⟩ := putC_split l x c
  rw [e2]
  intro r hr
  rcases List.mem_append.1 hr with h1 | h1
  · exact h r (List.mem_append_left _ h1)
  · rcases List.mem_cons.1 h1 with rfl | h1
    · exact hc
    · exact h r (List.mem_append_right _ h1)
theorem Can.drop {l : List (List D)} {k : Int} (h : Can l) : Can (dropC l k) := by
  intro r hr
  rcases List.mem_append.1 hr with h1 | h1
  · exact h r (List.mem_of_mem_take h1)
  · exact h r (List.mem_of_mem_drop h1)
theorem Can.at {l : List (List D)} {id : Int} (h : Can l) (hi : ¬ decide (idxC l id < 0) = true) : csD (rowC CE6 (l.getD (idxC l id).toNat [])) = l.getD (idxC l id).toNat [] := by
  have hk := (idx_in (Bool.eq_false_iff.2 hi)).2.2
  refine h _ ?_
  rw [List.getD_eq_getElem?_getD, List.getElem?_eq_getElem hk]
  exact List.getElem_mem hk
theorem Can.set {l : List (List D)} {k : Nat} {c : List D} (h : Can l) (hc : csD (rowC CE6 c) = c) : Can (l.set k c) := by
  intro r hr
  rcases List.mem_or_eq_of_mem_set hr with h1 | rfl
  · exact h r h1
  · exact hc
theorem can_ap {l : List (List D)} {e : List D} (h : Can l) : Can (apE l e).1 := by
  unfold apE
  split
  · split
    · unfold chE
      split
      · split
        · split
          · exact h
          · split
            · exact h
            · exact h.put (can_mk _ _ _ _ _ _)
        · exact h
      · split
        · exact h
        · rename_i hi
          split
          · exact h.drop
          · split
            · exact h.drop.put (h.at hi)
            · split
              · exact h.set (cellE_can (h.at hi))
              · exact h
    · exact h
  · exact h
theorem can_edit {k a : Int} {c : List D} (h : csD (rowC CE6 c) = c) : csD (rowC EE8 (mkE k a c)) = mkE k a c := by
  have e1 : csD (rowC EE8 (mkE k a c)) = .i k :: .i a :: csD (rowC CE6 c) := rfl
  rw [e1, h]
theorem can_inv {l : List (List D)} {e : List D} (h : Can l) : csD (rowC EE8 (invE l e).1) = (invE l e).1 := by
  unfold invE
  split
  · rename_i h0
    have hz : ((apE l e).2 != 0) = false := by rw [bne, h0]; rfl
    unfold invX
    split
    · rfl
    · rename_i h1
      split
      · refine can_edit (h.at ?_)
        rw [ap_idx hz (Bool.eq_false_iff.2 h1)]
        decide
      · repeat' split
        all_goals rfl
  · rfl
abbrev tupV (e : TypeId) (p : List (List D) × Bool) : List (Bool × List CV) := [(false, [.sl false e p.1]), (false, [.b p.2])]
theorem ch8 {l : List (List D)} {x : List D} (h : (!okNb l) = false) : (chE l x).1.length ≤ 1048576 := by
  have h1 := (good_iff.1 (of_notF h)).len
  have h2 := @ch_len l [] x
  omega
end Go.Proofs.YtodddilaniojgaaGreat.Ab
