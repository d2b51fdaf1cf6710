/- Logs merged: the sorted list without doubles, two ways. No program in sight. Operations' logs: descriptions, and leaf lemmas. No program in sight. Merging logs step by step: leaf lemmas. No program in sight. Gossip: descriptions, and leaf lemmas. No program in sight. -/
import Derived.Test.YtaecbmjmcpdgdaaGreatCZs
import Derived.Test.YtaecbmjmcpdgdaaGreatCEd
import Derived.Test.YtaecbmjmcpdgdaaGreatCHa
import Derived.IntWalk
namespace Go.Proofs.YtaecbmjmcpdgdaaGreat.Ab
open Go.RowKit
set_option linter.unusedVariables false
set_option linter.unusedSimpArgs false
def kT (r : List D) : Int := (r.getD 0 default).int
def kB (r : List D) : Int := (r.getD 1 default).int
def opLt (x y : List D) : Bool := decide (kT x < kT y) || (decide (kT x = kT y) && decide (kB x < kB y))
def opSame (x y : List D) : Bool := decide (kT x = kT y) && decide (kB x = kB y)
theorem opLt_iff {x y : List D} : opLt x y = true ↔ kT x < kT y ∨ (kT x = kT y ∧ kB x < kB y) := by simp [opLt]
theorem opLt_no {x y : List D} : opLt x y = false ↔ ¬ (kT x < kT y ∨ (kT x = kT y ∧ kB x < kB y)) := by rw [← opLt_iff]; simp
theorem opSame_iff {x y : List D} : opSame x y = true ↔ kT x = kT y ∧ kB x = kB y := by simp [opSame]
theorem opSame_no {x y : List D} : opSame x y = false ↔ ¬ (kT x = kT y ∧ kB x = kB y) := by rw [← opSame_iff]; simp
theorem opLt_irr (x : List D) : opLt x x = false := by rw [opLt_no]; omega
theorem opLt_trans {x y z : List D} (h1 : opLt x y = true) (h2 : opLt y z = true) : opLt x z = true := by rw [opLt_iff] at *; omega
theorem opLt_swo {α : Type} (f : α → List D) : Sort.SWO (fun x y => opLt (f x) (f y)) :=
  ⟨fun x => opLt_irr _, fun x y z h1 h2 => opLt_trans h1 h2, fun x y z h1 h2 => by rw [opLt_no] at *; omega⟩
theorem opLt_of {x y : List D} (h : opLt y x = false) (hn : opSame x y = false) : opLt x y = true := by rw [opLt_no] at h; rw [opSame_no] at hn; rw [opLt_iff]; omega
def known (out : List (List D)) (r : List D) : Bool := out.any fun x => opSame x r
def addOp (out : List (List D)) (r : List D) : List (List D) := if known out r = true then out else out ++ [r]
def insAt (r : List D) (out : List (List D)) : List (List D) := out.takeWhile (fun x => opLt x r) ++ r :: out.dropWhile (fun x => opLt x r)
def insOp (out : List (List D)) (r : List D) : List (List D) := if known out r = true then out else insAt r out
def dedL (l : List (List D)) : List (List D) := l.foldl addOp []
def mrgL (l : List (List D)) : List (List D) := l.foldl insOp []
theorem known_perm {a b : List (List D)} (h : a.Perm b) (r : List D) : known a r = known b r := by
  unfold known
  rw [Bool.eq_iff_iff, List.any_eq_true, List.any_eq_true]
  exact ⟨fun ⟨x, h1, h2⟩ => ⟨x, h.mem_iff.1 h1, h2⟩, fun ⟨x, h1, h2⟩ => ⟨x, h.mem_iff.2 h1, h2⟩⟩
theorem insAt_perm (r : List D) (out : List (List D)) : (insAt r out).Perm (out ++ [r]) := by
  unfold insAt
  have h1 : (out.takeWhile (fun x => opLt x r) ++ r :: out.dropWhile (fun x => opLt x r)).Perm (r :: (out.takeWhile (fun x => opLt x r) ++ out.dropWhile (fun x => opLt x r))) := List.perm_middle
  rw [List.takeWhile_append_dropWhile] at h1
  exact h1.trans (List.perm_append_singleton r out).symm
theorem fold_perm : ∀ (l a b : List (List D)), a.Perm b → (l.foldl insOp a).Perm (l.foldl addOp b)
  | [], a, b, h => h
  | r :: l, a, b, h => by
    rw [List.foldl_cons, List.foldl_cons]
    refine fold_perm l _ _ ?_
    unfold insOp addOp
    rw [known_perm h r]
    split
    · exact h
    · exact (insAt_perm r a).trans (h.append_right [r])
theorem mrg_perm (l : List (List D)) : (mrgL l).Perm (dedL l) := fold_perm l [] [] (List.Perm.refl _)
abbrev Asc (l : List (List D)) : Prop := l.Pairwise fun x y => opLt x y = true
abbrev Dis (l : List (List D)) : Prop := l.Pairwise fun x y => opSame x y = false
theorem opSame_symm {x y : List D} (h : opSame x y = false) : opSame y x = false := by rw [opSame_no] at *; omega
theorem insAt_asc {r : List D} {out : List (List D)} (h : Asc out) (hk : known out r = false) : Asc (insAt r out) := by
  unfold known at hk
  rw [List.any_eq_false] at hk
  induction out with
  | nil => simp [insAt, Asc]
  | cons x out ih =>
    have hx : ∀ {y : List D}, y ∈ out → opLt x y = true := fun {y} hy => List.rel_of_pairwise_cons h hy
    have hp := List.Pairwise.of_cons h
    unfold insAt
    by_cases hl : opLt x r = true
    · rw [List.takeWhile_cons, if_pos hl, List.dropWhile_cons, if_pos hl, List.cons_append]
      refine List.Pairwise.cons (fun y hy => ?_) (ih hp fun y hy => hk y (List.mem_cons_of_mem _ hy))
      have hm := (insAt_perm r out).mem_iff.1 (show y ∈ insAt r out from hy)
      rcases List.mem_append.1 hm with h1 | h1
      · exact hx h1
      · rw [List.mem_singleton.1 h1]; exact hl
    · rw [List.takeWhile_cons, if_neg hl, List.dropWhile_cons, if_neg hl, List.nil_append]
      have hrx : opLt r x = true := opLt_of (by simpa using hl) (opSame_symm (by simpa using hk x (List.mem_cons_self ..)))
      refine List.Pairwise.cons (fun y hy => ?_) h
      rcases List.mem_cons.1 hy with rfl | h1
      · exact hrx
      · exact opLt_trans hrx (hx h1)
theorem fold_asc : ∀ (l a : List (List D)), Asc a → Asc (l.foldl insOp a)
  | [], a, h => h
  | r :: l, a, h => by
    rw [List.foldl_cons]
    refine fold_asc l _ ?_
    unfold insOp
    split
    · exact h
    · rename_i hk; exact insAt_asc h (by simpa using hk)
theorem mrg_asc (l : List (List D)) : Asc (mrgL l) := fold_asc l [] List.Pairwise.nil
theorem asc_dis {l : List (List D)} (h : Asc l) : Dis l := h.imp fun {x y} hxy => by rw [opLt_iff] at hxy; rw [opSame_no]; omega
theorem ded_dis (l : List (List D)) : Dis (dedL l) := (mrg_perm l).pairwise (asc_dis (mrg_asc l)) fun {x y} h => opSame_symm h
theorem asc_unique : ∀ (a b : List (List D)), Asc a → Asc b → a.Perm b → a = b
  | [], b, _, _, h => (List.Perm.nil_eq h)
  | x :: a, b, ha, hb, h => by
    cases b with
    | nil => exact absurd h.length_eq (by simp)
    | cons y b =>
      have hxy : x = y := by
        have h1 : x ∈ y :: b := h.mem_iff.1 (List.mem_cons_self ..)
        have h2 : y ∈ x :: a := h.mem_iff.2 (List.mem_cons_self ..)
        rcases List.mem_cons.1 h1 with e | e1
        · exact e
        · rcases List.mem_cons.1 h2 with e | e2
          · exact e.symm
          · have q1 := List.rel_of_pairwise_cons hb e1
            have q2 := List.rel_of_pairwise_cons ha e2
            have := opLt_trans q1 q2
            rw [opLt_irr] at this; cases this
      subst hxy
      rw [asc_unique a b (List.Pairwise.of_cons ha) (List.Pairwise.of_cons hb) ((List.perm_cons x).1 h)]
theorem sorted_is_mrg {l l' : List (List D)} (hp : l'.Perm (dedL l)) (hs : ∀ (i j : Nat) (x y : List D), i < j → l'[i]? = some x → l'[j]? = some y → opLt y x = false) : l' = mrgL l := by
  have hd : Dis l' := hp.symm.pairwise (ded_dis l) fun {x y} h => opSame_symm h
  refine asc_unique _ _ ?_ (mrg_asc l) (hp.trans (mrg_perm l).symm)
  unfold Dis at hd
  unfold Asc
  rw [List.pairwise_iff_getElem] at hd ⊢
  intro i j hi hj hij
  exact opLt_of (hs i j l'[i] l'[j] hij (List.getElem?_eq_getElem hi) (List.getElem?_eq_getElem hj)) (hd i j hi hj hij)
theorem wRows_insAt (r : List D) (out : List (List D)) : wRows (insAt r out) = wRows out + wRow r := by
  unfold insAt
  rw [wRows_append]
  have : wRows out = wRows (out.takeWhile (fun x => opLt x r)) + wRows (out.dropWhile (fun x => opLt x r)) := by rw [← wRows_append, List.takeWhile_append_dropWhile]
  simp only [wRows]; omega
theorem len_insAt (r : List D) (out : List (List D)) : (insAt r out).length = out.length + 1 := by rw [(insAt_perm r out).length_eq]; simp
theorem mrg_size : ∀ (l a : List (List D)), (l.foldl insOp a).length ≤ a.length + l.length ∧ wRows (l.foldl insOp a) ≤ wRows a + wRows l
  | [], a => ⟨Nat.le_refl _, Nat.le_refl _⟩
  | r :: l, a => by
    rw [List.foldl_cons]
    obtain ⟨h1, h2⟩ := mrg_size l (insOp a r)
    have h3 : (insOp a r).length ≤ a.length + 1 ∧ wRows (insOp a r) ≤ wRows a + wRow r := by
      unfold insOp
      split
      · omega
      · rw [len_insAt, wRows_insAt]; omega
    simp only [List.length_cons, wRows]
    omega
theorem ded_size : ∀ (l a : List (List D)), (l.foldl addOp a).length ≤ a.length + l.length ∧ wRows (l.foldl addOp a) ≤ wRows a + wRows l
  | [], a => ⟨Nat.le_refl _, Nat.le_refl _⟩
  | r :: l, a => by
    rw [List.foldl_cons]
    obtain ⟨h1, h2⟩ := ded_size l (addOp a r)
    have h3 : (addOp a r).length ≤ a.length + 1 ∧ wRows (addOp a r) ≤ wRows a + wRow r := by
      unfold addOp
      split
      · omega
      · rw [List.length_append, wRows_append]; simp only [List.length_cons, List.length_nil, wRows]; omega
    simp only [List.length_cons, wRows]
    omega
theorem fold_next {f : List (List D) → List D → List (List D)} {l : List (List D)} {i : Nat} (h : i < l.length) : (l.take (i + 1)).foldl f [] = f ((l.take i).foldl f []) (l.getD i []) := by
  rw [List.take_add_one, List.getElem?_eq_getElem h, List.foldl_append, List.getD_eq_getElem?_getD, List.getElem?_eq_getElem h]; rfl
def atOf (out : List (List D)) (r : List D) : Nat := (out.takeWhile fun x => opLt x r).length
theorem atOf_le (out : List (List D)) (r : List D) : atOf out r ≤ out.length := (List.takeWhile_prefix _).length_le
theorem atOf_step {out : List (List D)} {r : List D} : ∀ {j : Nat}, j ≤ atOf out r → (j < atOf out r ↔ j < out.length ∧ opLt (out.getD j []) r = true) := by
  unfold atOf
  induction out with
  | nil => intro j h; simp
  | cons x out ih =>
    intro j h
    rw [List.takeWhile_cons] at h ⊢
    by_cases hx : opLt x r = true
    · rw [if_pos hx] at h ⊢
      cases j with
      | zero => simp [hx]
      | succ j =>
        have := ih (j := j) (by simpa using h)
        simpa using this
    · rw [if_neg hx] at h ⊢
      obtain rfl : j = 0 := by simpa using h
      simp [hx]
theorem insAt_eq (out : List (List D)) (r : List D) : insAt r out = out.take (atOf out r) ++ r :: out.drop (atOf out r) := by
  have : ∀ l : List (List D), l.takeWhile (fun x => opLt x r) = l.take (l.takeWhile (fun x => opLt x r)).length ∧ l.dropWhile (fun x => opLt x r) = l.drop (l.takeWhile (fun x => opLt x r)).length := by
    intro l
    induction l with
    | nil => exact ⟨rfl, rfl⟩
    | cons x l ih =>
      rw [List.takeWhile_cons, List.dropWhile_cons]
      by_cases hx : opLt x r = true
      · rw [if_pos hx, if_pos hx]
        simp only [List.length_cons, List.take_succ_cons, List.drop_succ_cons]
        exact ⟨by rw [← ih.1], ih.2⟩
      · rw [if_neg hx, if_neg hx]; exact ⟨rfl, rfl⟩
  unfold insAt atOf
  rw [← (this out).1, ← (this out).2]
end Go.Proofs.YtaecbmjmcpdgdaaGreat.Ab
namespace Go.Proofs.YtaecbmjmcpdgdaaGreat.Ab
open Go.RowKit
set_option linter.unusedVariables false
set_option linter.unusedSimpArgs false
def spB1 (f : List D → Bool) (cts : List CT) : FSpec where
  pre args := ∃ a : List D, args = [argG cts a]
  res args := match args with
    | [.val _ cs] => .val false [.b (f (csD cs))]
    | _ => .none
def spB2 (f : List D → List D → Bool) (cts : List CT) : FSpec where
  pre args := ∃ a b : List D, args = [argG cts a, argG cts b]
  res args := match args with
    | [.val _ c1, .val _ c2] => .val false [.b (f (csD c1) (csD c2))]
    | _ => .none
def spBL (f : List (List D) → Bool) (e : TypeId) : FSpec where
  pre args := ∃ l : List (List D), args = [argS e l]
  res args := match args with
    | [.val _ [.sl _ _ l]] => .val false [.b (f l)]
    | _ => .none
def plc (l : List (List D)) (r : List D) : Int := match l.findIdx? fun x => opSame x r with
  | some i => (i : Int)
  | none => -1
def spPlc (e : TypeId) (cts : List CT) : FSpec where
  pre args := ∃ (l : List (List D)) (r : List D), args = [argS e l, argG cts r]
  res args := match args with
    | [.val _ [.sl _ _ l], .val _ c] => .val false [.i .i64 (plc l (csD c))]
    | _ => .none
def okAt (l : List (List D)) (i : Nat) : Bool := okOp (rAt l i) && (decide (i = 0) || opLt (rAt l (i - 1)) (rAt l i))
def okLog (l : List (List D)) : Bool := allB l.length (okAt l) && decide (l.length ≤ 60)
def okRep (id : Int) (l : List (List D)) : Bool := inR id 0 2 && okLog l
abbrev repA (o : Bool) (e : TypeId) (id : Int) (l : List (List D)) : SV := .val true [.i .i64 id, .sl o e l]
def spRep (e : TypeId) : FSpec where
  pre args := ∃ (id : Int) (l : List (List D)), args = [repA false e id l]
  res args := match args with
    | [.val _ [.i _ id, .sl _ _ l]] => .val false [.b (okRep id l)]
    | _ => .none
theorem rAt_get {l : List (List D)} {i : Nat} (h : i < l.length) : rAt l i = l[i] := by
  show l.getD (Int.toNat (i : Int)) [] = _
  rw [Int.toNat_natCast, List.getD_eq_getElem?_getD, List.getElem?_eq_getElem h]; rfl
theorem plc_stop {l : List (List D)} {r : List D} {i : Nat} (hi : i < l.length) (h : ∀ j, j < i → (!opSame (rAt l j) r) = true) (hs : opSame (rAt l i) r = true) : (i : Int) = plc l r := by
  have : l.findIdx? (fun x => opSame x r) = some i := by
    rw [List.findIdx?_eq_some_iff_getElem]
    refine ⟨hi, by rw [← rAt_get hi]; exact hs, fun j hj => ?_⟩
    have := h j hj
    rw [rAt_get (by omega)] at this
    simpa using this
  unfold plc; rw [this]
theorem plc_none {l : List (List D)} {r : List D} {i : Nat} (h : ∀ j, j < i → (!opSame (rAt l j) r) = true) (hi : ¬ i < l.length) : -1 = plc l r := by
  have : l.findIdx? (fun x => opSame x r) = none := by
    rw [List.findIdx?_eq_none_iff]
    intro x hx
    obtain ⟨j, hj, rfl⟩ := List.getElem_of_mem hx
    have := h j (by omega)
    rw [rAt_get hj] at this
    simpa using this
  unfold plc; rw [this]
theorem plc_known (l : List (List D)) (r : List D) : decide (plc l r ≥ 0) = known l r := by
  unfold plc known
  cases h : l.findIdx? (fun x => opSame x r) with
  | some i =>
    rw [List.findIdx?_eq_some_iff_getElem] at h
    obtain ⟨hi, hs, _⟩ := h
    rw [List.any_eq_true.2 ⟨l[i], List.getElem_mem hi, hs⟩]
    simp
  | none =>
    rw [List.findIdx?_eq_none_iff] at h
    have : l.any (fun x => opSame x r) = false := by rw [List.any_eq_false]; intro x hx; simpa using h x hx
    rw [this]; rfl
theorem opLt_code (x y : List D) : opLt x y = (decide ((x.getD 0 default).int < (y.getD 0 default).int) || (((x.getD 0 default).int == (y.getD 0 default).int) && decide ((x.getD 1 default).int < (y.getD 1 default).int))) := by
  unfold opLt kT kB
  rw [show ((x.getD 0 default).int == (y.getD 0 default).int) = decide ((x.getD 0 default).int = (y.getD 0 default).int) from rfl]
theorem seen_no {rows : List (List D)} (h : ((rows.length : Int) != 3) = true) : seenB rows = false := by
  have : decide (rows.length = 3) = false := by rw [decide_eq_false_iff_not]; intro e; rw [e] at h; simp at h
  unfold seenB; rw [this, Bool.and_false]
theorem seen_at {rows : List (List D)} {i : Nat} (hi : i < rows.length) (h : inR ((rAt rows i).getD 0 default).int 0 60 = false) : seenB rows = false := by
  change inR (intOf (rAt rows i)) 0 60 = false at h
  have : rows.all (fun r => inR (intOf r) 0 60) = false := by
    rw [List.all_eq_false]; exact ⟨_, List.getElem_mem hi, by rw [← rAt_get hi, h]; simp⟩
  unfold seenB; rw [this, Bool.false_and]
theorem seen_yes {rows : List (List D)} {i : Nat} (hI : ∀ j, j < i → inR ((rAt rows j).getD 0 default).int 0 60 = true) (hi : ¬ i < rows.length) (h : ((rows.length : Int) != 3) = false) : seenB rows = true := by
  change ∀ j, j < i → inR (intOf (rAt rows j)) 0 60 = true at hI
  have h3 : rows.length = 3 := by
    have : ((rows.length : Int) == 3) = true := by simpa [bne] using h
    have := eq_of_beq this; omega
  have : rows.all (fun r => inR (intOf r) 0 60) = true := by
    rw [List.all_eq_true]
    intro x hx
    obtain ⟨j, hj, rfl⟩ := List.getElem_of_mem hx
    have := hI j (by omega)
    rw [rAt_get hj] at this; exact this
  unfold seenB; rw [this, decide_eq_true h3]; rfl
theorem seen_end {rows : List (List D)} {i : Nat} (hI : ∀ j, j < i → inR ((rAt rows j).getD 0 default).int 0 60 = true) (hi : ¬ i < rows.length) : ((rows.length : Int) == 3) = seenB rows := by
  cases h : ((rows.length : Int) == 3) with
  | true => exact (seen_yes hI hi (by unfold bne; rw [h]; rfl)).symm
  | false => exact (seen_no (by unfold bne; rw [h]; rfl)).symm
theorem okOp_no1 {a : List D} (h : (inR (a.getD 0 default).int 1 300) = false) : false = okOp a := by unfold okOp; rw [h]; rfl
theorem okOp_no2 {a : List D} (h : (inR (a.getD 1 default).int 0 2) = false) : false = okOp a := by unfold okOp; rw [h]; simp
theorem okOp_no3 {a : List D} (h : seenB (a.getD 3 default).rows = false) : false = okOp a := by unfold okOp; rw [h]; simp
theorem okAt_no1 {l : List (List D)} {i : Nat} (h : okOp (rAt l i) = false) : okAt l i = false := by unfold okAt; rw [h]; rfl
theorem okAt_no2 {l : List (List D)} {i : Nat} (hi : decide ((i : Int) > 0) = true) (h : opLt (rAt l (i - 1)) (rAt l i) = false) : okAt l i = false := by
  have : decide (i = 0) = false := by rw [decide_eq_false_iff_not]; have := of_decide_eq_true hi; omega
  unfold okAt; rw [h, this]; simp
theorem okAt_yes0 {l : List (List D)} {i : Nat} (h : okOp (rAt l i) = true) (hi : decide ((i : Int) > 0) = false) : okAt l i = true := by
  have : decide (i = 0) = true := by rw [decide_eq_true_eq]; have := of_decide_eq_false hi; omega
  unfold okAt; rw [h, this]; rfl
theorem okAt_yes1 {l : List (List D)} {i : Nat} (h : okOp (rAt l i) = true) (h2 : opLt (rAt l (i - 1)) (rAt l i) = true) : okAt l i = true := by unfold okAt; rw [h, h2]; simp
theorem okLog_no {l : List (List D)} {i : Nat} (hi : i < l.length) (h : okAt l i = false) : false = okLog l := by unfold okLog; rw [allB_stop hi h]; rfl
theorem okLog_end {l : List (List D)} {i : Nat} (hI : ∀ j, j < i → okAt l j = true) (hi : ¬ i < l.length) : decide ((l.length : Int) ≤ 60) = okLog l := by
  unfold okLog; rw [allB_end hI hi, Bool.true_and, Bool.eq_iff_iff, decide_eq_true_eq, decide_eq_true_eq]; omega
theorem wrapP1 {i n : Nat} (h : decide ((i : Int) > 0) = true) (hi : i < n) (hn : n ≤ maxLen) : IntKind.i64.wrap ((i : Int) - 1) = ((i - 1 : Nat) : Int) := by
  have := of_decide_eq_true h
  simp only [maxLen] at hn
  rw [show (i : Int) - 1 = ((i - 1 : Nat) : Int) by omega]
  exact IntWalk.i64_in _ (by omega)
end Go.Proofs.YtaecbmjmcpdgdaaGreat.Ab
namespace Go.Proofs.YtaecbmjmcpdgdaaGreat.Ab
open Go.RowKit
set_option linter.unusedVariables false
set_option linter.unusedSimpArgs false
def mS (L : List (List D)) (i : Nat) : List (List D) := (L.take i).foldl insOp []
def mD (L : List (List D)) (i : Nat) : List (List D) := (L.take i).foldl addOp []
def spMrg (e : TypeId) : FSpec where
  pre args := ∃ l m : List (List D), l.length + wRows l + (m.length + wRows m) ≤ 1048576 ∧ args = [argS e l, argS e m]
  res args := match args with
    | [.val _ [.sl _ _ l], .val _ [.sl _ _ m]] => .val false [.sl false e (mrgL (l ++ m))]
    | _ => .none
theorem rAt_getD (L : List (List D)) (i : Nat) : rAt L i = L.getD i [] := by
  show L.getD (Int.toNat (i : Int)) [] = _
  rw [Int.toNat_natCast]
theorem rAt_memL {L : List (List D)} {i : Nat} (h : i < L.length) : rAt L i ∈ L := by rw [rAt_get h]; exact List.getElem_mem h
theorem wRow_mem : ∀ {L : List (List D)} {r : List D}, r ∈ L → wRow r ≤ wRows L
  | x :: L, r, h => by
    simp only [wRows]
    rcases List.mem_cons.1 h with rfl | h
    · omega
    · have := wRow_mem h; omega
theorem mS_len {L : List (List D)} {i : Nat} (h : i ≤ L.length) : (mS L i).length ≤ i := by
  have := (mrg_size (L.take i) []).1
  rw [List.length_nil, List.length_take] at this
  unfold mS; omega
theorem mD_len {L : List (List D)} {i : Nat} (h : i ≤ L.length) : (mD L i).length ≤ i := by
  have := (ded_size (L.take i) []).1
  rw [List.length_nil, List.length_take] at this
  unfold mD; omega
theorem mS_next {L : List (List D)} {i : Nat} (h : i < L.length) : mS L (i + 1) = insOp (mS L i) (rAt L i) := by
  unfold mS; rw [fold_next h, rAt_getD]
theorem mD_next {L : List (List D)} {i : Nat} (h : i < L.length) : mD L (i + 1) = addOp (mD L i) (rAt L i) := by
  unfold mD; rw [fold_next h, rAt_getD]
theorem mS_all {L : List (List D)} {i : Nat} (h : ¬ i < L.length) : mS L i = mrgL L := by
  unfold mS mrgL; rw [List.take_of_length_le (by omega)]
theorem mD_all {L : List (List D)} {i : Nat} (h : ¬ i < L.length) : mD L i = dedL L := by
  unfold mD dedL; rw [List.take_of_length_le (by omega)]
theorem plc_knownI (l : List (List D)) (r : List D) {inst : Decidable (plc l r ≥ 0)} : @decide (plc l r ≥ 0) inst = known l r := by rw [← plc_known]; congr
theorem mS_skip {L : List (List D)} {i : Nat} (h : i < L.length) {inst : Decidable (plc (mS L i) (rAt L i) ≥ 0)} (hk : @decide (plc (mS L i) (rAt L i) ≥ 0) inst = true) : mS L i = mS L (i + 1) := by
  rw [plc_knownI] at hk
  rw [mS_next h]; unfold insOp; rw [if_pos hk]
theorem mS_put {L : List (List D)} {i j : Nat} (h : i < L.length) {inst : Decidable (plc (mS L i) (rAt L i) ≥ 0)} (hk : @decide (plc (mS L i) (rAt L i) ≥ 0) inst = false) (hj : j = atOf (mS L i) (rAt L i)) : [] ++ List.take j (mS L i) ++ [rAt L i] ++ List.drop j (mS L i) = mS L (i + 1) := by
  rw [plc_knownI] at hk
  rw [mS_next h]; unfold insOp; rw [if_neg (by rw [hk]; simp), insAt_eq, ← hj]; simp
theorem at_lt {l : List (List D)} {r : List D} {j : Nat} (hj : j ≤ atOf l r) (h1 : decide ((j : Int) < (l.length : Int)) = true) (h2 : opLt (rAt l j) r = true) : j + 1 ≤ atOf l r := by
  rw [rAt_getD] at h2
  exact (atOf_step hj).2 ⟨ltN h1, h2⟩
theorem at_end1 {l : List (List D)} {r : List D} {j : Nat} (hj : j ≤ atOf l r) (h1 : decide ((j : Int) < (l.length : Int)) = false) : j = atOf l r := by
  have := atOf_le l r
  have := nltN h1
  omega
theorem at_end2 {l : List (List D)} {r : List D} {j : Nat} (hj : j ≤ atOf l r) (h1 : decide ((j : Int) < (l.length : Int)) = true) (h2 : opLt (rAt l j) r = false) : j = atOf l r := by
  rw [rAt_getD] at h2
  rcases Nat.lt_or_ge j (atOf l r) with h | h
  · have := ((atOf_step hj).1 h).2
    rw [h2] at this; cases this
  · omega
theorem WfD.mem {e : TypeId} {te : Ty} {rows : List (List D)} (h : WfD T (.l e) (.l rows)) (he : T e = some te) {r : List D} (hr : r ∈ rows) : WfRow T te.cts r := by
  obtain ⟨k, hk, rfl⟩ := List.getElem_of_mem hr
  have := h.row he hk
  rwa [List.getD_eq_getElem?_getD, List.getElem?_eq_getElem hk] at this
theorem app_wf {e : TypeId} {te : Ty} {l m : List (List D)} (he : T e = some te) (h1 : WfD T (.l e) (.l l)) (h2 : WfD T (.l e) (.l m)) : ∀ r ∈ l ++ m, WfRow T te.cts r := by
  intro r hr
  rcases List.mem_append.1 hr with h | h
  · exact h1.mem he h
  · exact h2.mem he h
end Go.Proofs.YtaecbmjmcpdgdaaGreat.Ab
namespace Go.Proofs.YtaecbmjmcpdgdaaGreat.Ab
open Go.RowKit
set_option linter.unusedVariables false
set_option linter.unusedSimpArgs false
def rI (r : List D) : Int := (r.getD 0 default).int
def rO (r : List D) : List (List D) := (r.getD 1 default).rows
def opsL (l : List (List D)) (i : Nat) : List (List D) := (l.take i).foldl (fun o r => mrgL (o ++ rO r)) []
def vldL (l : List (List D)) (i : Nat) : Bool := (l.take i).all fun r => okRep (rI r) (rO r)
def gosO (l ops : List (List D)) : List (List D) := l.map fun r => [.i (rI r), .l ops]
def gosA (l : List (List D)) (i : Nat) : List (List D) := if (vldL l l.length && okLog (opsL l l.length)) = true then gosO (l.take i) (opsL l l.length) else l.take i
def gosL (l : List (List D)) : List (List D) := gosA l l.length
def spGos (o : Bool) (e : TypeId) : FSpec where
  pre args := ∃ l : List (List D), l.length + wRows l ≤ 1048576 ∧ args = [argS e l]
  res args := match args with
    | [.val _ [.sl _ _ l]] => .val false [.sl o e (gosL l)]
    | _ => .none
theorem take_next {l : List (List D)} {i : Nat} (h : i < l.length) : l.take i ++ [rAt l i] = l.take (i + 1) := by
  rw [List.take_add_one, List.getElem?_eq_getElem h, rAt_get h]; rfl
theorem opsL_next {l : List (List D)} {i : Nat} (h : i < l.length) : mrgL (opsL l i ++ rO (rAt l i)) = opsL l (i + 1) := by
  unfold opsL
  rw [fold_next (f := fun o r => mrgL (o ++ rO r)) h, rAt_getD]
theorem vldL_next {l : List (List D)} {i : Nat} (h : i < l.length) : vldL l (i + 1) = (vldL l i && okRep (rI (rAt l i)) (rO (rAt l i))) := by
  unfold vldL
  rw [← take_next h, List.all_append]
  simp
theorem mrgL_size (l : List (List D)) : (mrgL l).length ≤ l.length ∧ wRows (mrgL l) ≤ wRows l := by
  have := mrg_size l []
  rw [List.length_nil] at this
  unfold mrgL
  have h0 : wRows [] = 0 := rfl
  omega
theorem rO_size (r : List D) : (rO r).length + wRows (rO r) ≤ wRow r := wRows_cell r 1
theorem wRows_takeN {l : List (List D)} {i : Nat} (h : i < l.length) : wRows (l.take (i + 1)) = wRows (l.take i) + wRow (rAt l i) := by
  rw [← take_next h, wRows_append]
  simp [wRows]
theorem opsL_size (l : List (List D)) : ∀ i, i ≤ l.length → (opsL l i).length + wRows (opsL l i) ≤ wRows (l.take i)
  | 0, _ => Nat.le_refl _
  | i + 1, h => by
    have h1 := opsL_size l i (by omega)
    have h2 := rO_size (rAt l i)
    have h3 := mrgL_size (opsL l i ++ rO (rAt l i))
    rw [List.length_append, wRows_append] at h3
    rw [← opsL_next (by omega), wRows_takeN (by omega)]
    omega
theorem opsL_pre {l : List (List D)} {i : Nat} (h : i < l.length) (hw : l.length + wRows l ≤ 1048576) : (opsL l i).length + wRows (opsL l i) + ((rO (rAt l i)).length + wRows (rO (rAt l i))) ≤ 1048576 := by
  have h1 := opsL_size l i (by omega)
  have h2 := rO_size (rAt l i)
  have h3 := wRows_le l (i + 1)
  rw [wRows_takeN h] at h3
  omega
theorem opsL_le {l : List (List D)} {i : Nat} (h : i ≤ l.length) (hw : l.length + wRows l ≤ 1048576) : (opsL l i).length + wRows (opsL l i) ≤ 1048576 := by
  have h1 := opsL_size l i h
  have h3 := wRows_le l i
  omega
theorem gosA_t {l : List (List D)} {i : Nat} (h : i < l.length) (hv : vldL l l.length = true) (ho : okLog (opsL l l.length) = true) : gosA l i ++ [[.i (rI (rAt l i)), .l (opsL l l.length)]] = gosA l (i + 1) := by
  unfold gosA
  rw [if_pos (by rw [hv, ho]; rfl), if_pos (by rw [hv, ho]; rfl), ← take_next h]
  unfold gosO
  rw [List.map_append]; rfl
theorem gosA_f {l : List (List D)} {i : Nat} (h : i < l.length) (hv : (vldL l l.length && okLog (opsL l l.length)) = false) : gosA l i ++ [rAt l i] = gosA l (i + 1) := by
  unfold gosA
  rw [if_neg (by rw [hv]; simp), if_neg (by rw [hv]; simp), take_next h]
theorem gosA_zero (l : List (List D)) : [] = gosA l 0 := by
  unfold gosA gosO
  simp
theorem gosA_end {l : List (List D)} {i : Nat} (h : ¬ i < l.length) (hle : i ≤ l.length) : gosA l i = gosL l := by
  unfold gosL
  rw [show i = l.length by omega]
theorem gosA_len (l : List (List D)) (i : Nat) : (gosA l i).length ≤ l.length := by
  unfold gosA
  split
  · rw [show (gosO (l.take i) (opsL l l.length)).length = (l.take i).length from List.length_map .., List.length_take]; omega
  · rw [List.length_take]; omega
theorem gosO_next {l ops : List (List D)} {i : Nat} (h : i < l.length) : gosO (l.take i) ops ++ [[.i (rI (rAt l i)), .l ops]] = gosO (l.take (i + 1)) ops := by
  unfold gosO
  rw [← take_next h, List.map_append]; rfl
theorem gosO_len (l ops : List (List D)) : (gosO l ops).length = l.length := List.length_map ..
theorem gos_t {l : List (List D)} (hv : vldL l l.length = true) (ho : okLog (opsL l l.length) = true) : gosO l (opsL l l.length) = gosL l := by
  unfold gosL gosA
  rw [if_pos (by rw [hv, ho]; rfl), List.take_length]
theorem gos_f {l : List (List D)} (hv : (vldL l l.length && okLog (opsL l l.length)) = false) : l = gosL l := by
  unfold gosL gosA
  rw [if_neg (by rw [hv]; simp), List.take_length]
theorem take_allR {l : List (List D)} {i : Nat} (h : ¬ i < l.length) : l.take i = l := List.take_of_length_le (by omega)
theorem at_all {l : List (List D)} {i : Nat} (h : ¬ i < l.length) (hle : i ≤ l.length) : i = l.length := by omega
end Go.Proofs.YtaecbmjmcpdgdaaGreat.Ab
