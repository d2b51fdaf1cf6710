/- Tapes and reads as rows, in plain Lean: finding, merging, putting, new reads. No program in sight. -/
import Derived.Test.YtidjlboppokloaaCd
namespace Go.Proofs.Ytidjlboppokloaa.Ab
noncomputable section
open Go.RowKit
set_option linter.unusedVariables false
/-- The same read: its first four cells. -/
def sameK (q r : List D) : Bool := decide (r.take 4 = q.take 4)
def found (l : List (List D)) (q : List D) : Bool := l.any (sameK q)
def zeroRow (cts : List CT) : List D := cts.map zeroD
def findV (VC : List CT) (l : List (List D)) (q : List D) : List D := match l.find? (sameK q) with
  | some r => sub r 4 7
  | none => zeroRow VC
def spFind (T : Tab) (rt : TypeId) (RT VC : List CT) : FSpec where
  pre args := ∃ (l : List (List D)) (q : List D), l.length + wRows l ≤ 1048576 ∧ WfRow T RT q ∧ args = [argS rt l, argG RT q]
  res args := match args with
    | [.val _ [.sl _ _ l], .val _ cs] => .tup [(true, rowC VC (findV VC l (csD cs))), (false, [.b (found l (csD cs))])]
    | _ => .none
theorem FOk.weaken {P : Program} {T : Tab} {f : FuncId} {s s' : FSpec} (h : FOk P T f s) (hb : s.bx = false) (hb' : s'.bx = false) (hp : ∀ args, s'.pre args → s.pre args ∧ s'.res args = s.res args) : FOk P T f s' := by
  refine ⟨h.1, fun hx => (by rw [hb'] at hx; cases hx), fun _ w X args vals hX hargs hgl hpre => ?_, fun hx => (by rw [hb'] at hx; cases hx)⟩
  obtain ⟨h1, h2⟩ := hp args hpre
  have := h.ok hb w X args vals hX hargs hgl h1
  rwa [← h2] at this
/-- Reads whose results are plain: no lists, columns, rows. -/
def flatR (r : List D) : Prop := (r.getD 8 default).rows = [] ∧ (r.getD 9 default).rows = [] ∧ (r.getD 10 default).rows = []
def flatL (l : List (List D)) : Prop := ∀ r ∈ l, flatR r
def spFindF (T : Tab) (rt : TypeId) (RT VC : List CT) : FSpec where
  pre args := ∃ (l : List (List D)) (q : List D), l.length + wRows l ≤ 1048576 ∧ WfRow T RT q ∧ flatL l ∧ args = [argS rt l, argG RT q]
  res := (spFind T rt RT VC).res
  nr := true
theorem spFindF_ok {P : Program} {T : Tab} {f : FuncId} {rt : TypeId} {RT VC : List CT} (h : FOk P T f (spFind T rt RT VC)) : FOk P T f (spFindF T rt RT VC) :=
  h.weaken rfl rfl fun args ⟨l, q, h1, h2, h3, h4⟩ => ⟨⟨l, q, h1, h2, h4⟩, rfl⟩
theorem find_noRef {T : Tab} {e4 e5 e6 : TypeId} {l : List (List D)} (hl : flatL l) {q : List D} {b : Bool} : (SV.tup [(true, rowC [.i .i64, .i .i64, .i .i64, .s, .l e4, .l e5, .l e6] (findV [.i .i64, .i .i64, .i .i64, .s, .l e4, .l e5, .l e6] l q)), (false, [.b b])]).noRefP T := by
  have key : ((findV [.i .i64, .i .i64, .i .i64, .s, .l e4, .l e5, .l e6] l q).getD 4 default).rows = [] ∧ ((findV [.i .i64, .i .i64, .i .i64, .s, .l e4, .l e5, .l e6] l q).getD 5 default).rows = [] ∧ ((findV [.i .i64, .i .i64, .i .i64, .s, .l e4, .l e5, .l e6] l q).getD 6 default).rows = [] := by
    unfold findV
    split
    · rename_i r hr
      exact hl r (List.mem_of_find?_eq_some hr)
    · exact ⟨rfl, rfl, rfl⟩
  intro p hp
  rcases List.mem_cons.1 hp with rfl | hp
  · intro c hc
    have hc' : c ∈ [CV.i .i64 ((findV [.i .i64, .i .i64, .i .i64, .s, .l e4, .l e5, .l e6] l q).getD 0 default).int, .i .i64 ((findV [.i .i64, .i .i64, .i .i64, .s, .l e4, .l e5, .l e6] l q).getD 1 default).int, .i .i64 ((findV [.i .i64, .i .i64, .i .i64, .s, .l e4, .l e5, .l e6] l q).getD 2 default).int, .s ((findV [.i .i64, .i .i64, .i .i64, .s, .l e4, .l e5, .l e6] l q).getD 3 default).str, .sl false e4 ((findV [.i .i64, .i .i64, .i .i64, .s, .l e4, .l e5, .l e6] l q).getD 4 default).rows, .sl false e5 ((findV [.i .i64, .i .i64, .i .i64, .s, .l e4, .l e5, .l e6] l q).getD 5 default).rows, .sl false e6 ((findV [.i .i64, .i .i64, .i .i64, .s, .l e4, .l e5, .l e6] l q).getD 6 default).rows] := hc
    simp only [List.mem_cons, List.not_mem_nil, or_false] at hc'
    rcases hc' with rfl | rfl | rfl | rfl | rfl | rfl | rfl
    · trivial
    · trivial
    · trivial
    · trivial
    · exact key.1
    · exact key.2.1
    · exact key.2.2
  · rcases List.mem_cons.1 hp with rfl | hp
    · intro c hc
      rcases List.mem_cons.1 hc with rfl | hc
      · trivial
      · cases hc
    · cases hp
theorem any_next {p : List D → Bool} {l : List (List D)} {i : Int} (h0 : 0 ≤ i) (hi : i < l.length) (h : (l.take i.toNat).any p = false) (hp : p (l.getD i.toNat []) = false) : (l.take (i + 1).toNat).any p = false := by
  have e : (i + 1).toNat = i.toNat + 1 := by omega
  rw [e, List.take_add_one, row_at h0 hi, List.any_append, h]
  generalize l.getD i.toNat [] = r at *
  simp [hp]
theorem find_at {p : List D → Bool} {l : List (List D)} {i : Int} (h0 : 0 ≤ i) (hi : i < l.length) (h : (l.take i.toNat).any p = false) (hp : p (l.getD i.toNat []) = true) : l.find? p = some (l.getD i.toNat []) ∧ l.any p = true := by
  have e : l = l.take i.toNat ++ (l.getD i.toNat [] :: l.drop (i.toNat + 1)) := by
    have h1 := List.take_append_drop i.toNat l
    have h2 : l.drop i.toNat = l.getD i.toNat [] :: l.drop (i.toNat + 1) := by
      rw [List.drop_eq_getElem_cons (by omega : i.toNat < l.length)]
      simp [List.getD_eq_getElem?_getD, List.getElem?_eq_getElem (show i.toNat < l.length by omega)]
    rw [← h2, h1]
  have hn : (l.take i.toNat).find? p = none := by
    rw [List.find?_eq_none]
    intro x hx
    have := List.any_eq_false.1 h x hx
    simpa using this
  have e1 : l.find? p = (l.take i.toNat ++ (l.getD i.toNat [] :: l.drop (i.toNat + 1))).find? p := congrArg (List.find? p) e
  have e2 : l.any p = (l.take i.toNat ++ (l.getD i.toNat [] :: l.drop (i.toNat + 1))).any p := congrArg (fun z => List.any z p) e
  rw [e1, e2]
  generalize l.getD i.toNat [] = r at *
  rw [List.find?_append, hn, List.any_append, List.find?_cons_of_pos hp, List.any_cons, hp]
  exact ⟨rfl, by simp⟩
theorem find_no {p : List D → Bool} {l : List (List D)} {i : Int} (h0 : 0 ≤ i) (hi : i ≤ l.length) (hn : decide (i < (l.length : Int)) = false) (h : (l.take i.toNat).any p = false) : l.find? p = none ∧ l.any p = false := by
  rw [take_all h0 hi hn] at h
  refine ⟨?_, h⟩
  rw [List.find?_eq_none]
  intro x hx
  have := List.any_eq_false.1 h x hx
  simpa using this
/-! Tapes by cell and version -/
def keyT (c v : Int) (r : List D) : Bool := decide ((r.getD 0 default).int = c) && decide ((r.getD 1 default).int = v)
def atI (l : List (List D)) (c v : Int) : Int := match l.findIdx? (keyT c v) with
  | some k => k
  | none => -1
def spAt (e : TypeId) : FSpec where
  pre args := ∃ (l : List (List D)) (c v : Int), args = [argS e l, .val false [.i .i64 c], .val false [.i .i64 v]]
  res args := match args with
    | [.val _ [.sl _ _ l], .val _ [.i _ c], .val _ [.i _ v]] => .val false [.i .i64 (atI l c v)]
    | _ => .none
theorem at_found {l : List (List D)} {c v i : Int} (h0 : 0 ≤ i) (hi : i < l.length) (h : (l.take i.toNat).any (keyT c v) = false) (hp : keyT c v (l.getD i.toNat []) = true) : atI l c v = i := by
  have : l.findIdx? (keyT c v) = some i.toNat := by
    rw [List.findIdx?_eq_some_iff_getElem]
    refine ⟨by omega, ?_, fun j hj => ?_⟩
    · rw [show l[i.toNat] = l.getD i.toNat [] by simp [List.getD_eq_getElem?_getD, List.getElem?_eq_getElem (show i.toNat < l.length by omega)]]
      exact hp
    · have := List.any_eq_false.1 h l[j] (by
        rw [List.mem_iff_getElem]
        exact ⟨j, by rw [List.length_take]; omega, by rw [List.getElem_take]⟩)
      exact this
  unfold atI
  rw [this]
  show (i.toNat : Int) = i
  omega
theorem at_none {l : List (List D)} {c v i : Int} (h0 : 0 ≤ i) (hi : i ≤ l.length) (hn : decide (i < (l.length : Int)) = false) (h : (l.take i.toNat).any (keyT c v) = false) : atI l c v = -1 := by
  rw [take_all h0 hi hn] at h
  have : l.findIdx? (keyT c v) = none := by
    rw [List.findIdx?_eq_none_iff]
    intro x hx
    simpa using List.any_eq_false.1 h x hx
  unfold atI
  rw [this]
theorem key_no1 {r : List D} {c v : Int} (h : decide ((r.getD 0 default).int = c) = false) : keyT c v r = false := by unfold keyT; rw [h]; rfl
theorem key_no2 {r : List D} {c v : Int} (h : decide ((r.getD 1 default).int = v) = false) : keyT c v r = false := by unfold keyT; rw [h, Bool.and_false]
theorem key_yes {r : List D} {c v : Int} (h : decide ((r.getD 0 default).int = c) = true) (h2 : decide ((r.getD 1 default).int = v) = true) : keyT c v r = true := by unfold keyT; rw [h, h2]; rfl
theorem atI_in (l : List (List D)) (c v : Int) : -1 ≤ atI l c v ∧ atI l c v < l.length := by
  unfold atI
  split
  · rename_i k hk
    have := (List.findIdx?_eq_some_iff_getElem.1 hk).1
    omega
  · omega
def tapeOf (l : List (List D)) (c v : Int) : List (List D) := if atI l c v < 0 then [] else ((l.getD (atI l c v).toNat []).getD 2 default).rows
def spTape (e er : TypeId) : FSpec where
  pre args := ∃ (l : List (List D)) (c v : Int), l.length + wRows l ≤ 1048576 ∧ args = [argS e l, .val false [.i .i64 c], .val false [.i .i64 v]]
  res args := match args with
    | [.val _ [.sl _ _ l], .val _ [.i _ c], .val _ [.i _ v]] => .val false [.sl true er (tapeOf l c v)]
    | _ => .none
def mergeR (a b : List (List D)) : List (List D) := b.foldl (fun out r => if found out r then out else out ++ [r]) a
def spMerge (e : TypeId) : FSpec where
  pre args := ∃ a b : List (List D), flatL a ∧ flatL b ∧ a.length + wRows a + (b.length + wRows b) ≤ 1048576 ∧ args = [argS e a, argS e b]
  res args := match args with
    | [.val _ [.sl _ _ a], .val _ [.sl _ _ b]] => .val false [.sl true e (mergeR a b)]
    | _ => .none
def mergeTo (a b : List (List D)) (i : Nat) : List (List D) := mergeR a (b.take i)
theorem mergeTo_next {a b : List (List D)} {i : Int} (h0 : 0 ≤ i) (hi : i < b.length) : mergeTo a b (i + 1).toNat = if found (mergeTo a b i.toNat) (b.getD i.toNat []) then mergeTo a b i.toNat else mergeTo a b i.toNat ++ [b.getD i.toNat []] := by
  have e : (i + 1).toNat = i.toNat + 1 := by omega
  unfold mergeTo mergeR
  rw [e, List.take_add_one, row_at h0 hi, List.foldl_append]
  rfl
theorem wRows_one (r : List D) : wRows [r] = wRow r := by simp [wRows]
theorem mergeTo_size (a b : List (List D)) : ∀ k, k ≤ b.length → (mergeTo a b k).length + wRows (mergeTo a b k) ≤ a.length + wRows a + (k + wRows (b.take k))
  | 0, _ => by simp [mergeTo, mergeR]
  | k + 1, hk => by
    have ih := mergeTo_size a b k (by omega)
    have h1 := mergeTo_next (a := a) (b := b) (i := (k : Int)) (by omega) (by omega)
    have h2 := wRows_next (a := b) (i := (k : Int)) (by omega) (by omega)
    have e : ((k : Int) + 1).toNat = k + 1 := by omega
    rw [e, Int.toNat_natCast] at h1 h2
    rw [h1, h2]
    split
    · omega
    · rw [List.length_append, wRows_append, wRows_one, List.length_singleton]
      omega
theorem resF {VC : List CT} {l : List (List D)} {q q' r : List D} (eq : q' = q) (hf : l.find? (sameK q) = some r ∧ l.any (sameK q) = true) (cs : List CV) (hc : cs = rowC VC (sub r 4 7)) : [(true, cs), (false, [CV.b true])] = [(true, rowC VC (findV VC l q')), (false, [CV.b (found l q')])] := by
  subst eq
  unfold findV found
  rw [hf.1, hf.2, hc]
theorem resFN {VC : List CT} {l : List (List D)} {q q' : List D} (eq : q' = q) (hf : l.find? (sameK q) = none ∧ l.any (sameK q) = false) (cs : List CV) (hc : cs = rowC VC (zeroRow VC)) : [(true, cs), (false, [CV.b false])] = [(true, rowC VC (findV VC l q')), (false, [CV.b (found l q')])] := by
  subst eq
  unfold findV found
  rw [hf.1, hf.2, hc]
theorem flat_mergeTo {a b : List (List D)} (ha : flatL a) (hb : flatL b) : ∀ k, k ≤ b.length → flatL (mergeTo a b k)
  | 0, _ => by simpa [mergeTo, mergeR] using ha
  | k + 1, hk => by
    have ih := flat_mergeTo ha hb k (by omega)
    have h1 := mergeTo_next (a := a) (b := b) (i := (k : Int)) (by omega) (by omega)
    have e : ((k : Int) + 1).toNat = k + 1 := by omega
    rw [e, Int.toNat_natCast] at h1
    rw [h1]
    split
    · exact ih
    · intro r hr
      rcases List.mem_append.1 hr with hr | hr
      · exact ih r hr
      · obtain rfl := List.mem_singleton.1 hr
        have := row_at (a := b) (i := (k : Int)) (by omega) (by omega)
        rw [Int.toNat_natCast] at this
        exact hb _ (List.mem_of_getElem? this)
theorem merge_yes {a b : List (List D)} {i : Int} (h0 : 0 ≤ i) (hi : i < b.length) {r : List D} (er : r = b.getD i.toNat []) (h : (!found (mergeTo a b i.toNat) r) = false) : mergeTo a b i.toNat = mergeTo a b (i + 1).toNat := by
  subst er
  rw [mergeTo_next h0 hi, if_pos (by simpa using h)]
theorem merge_no {a b : List (List D)} {i : Int} (h0 : 0 ≤ i) (hi : i < b.length) {r r' : List D} (er : r = b.getD i.toNat []) (er' : r' = b.getD i.toNat []) (h : (!found (mergeTo a b i.toNat) r) = true) : mergeTo a b i.toNat ++ [r'] = mergeTo a b (i + 1).toNat := by
  subst er
  subst er'
  rw [mergeTo_next h0 hi, if_neg (by simpa using h)]
theorem merge_all {a b : List (List D)} {i : Int} (h0 : 0 ≤ i) (hi : i ≤ b.length) (h : decide (i < (b.length : Int)) = false) : mergeTo a b i.toNat = mergeR a b := by
  unfold mergeTo
  rw [take_all h0 hi h]
def before (x y : List D) : Bool := decide ((x.getD 0 default).int < (y.getD 0 default).int) || (decide ((x.getD 0 default).int = (y.getD 0 default).int) && decide ((x.getD 1 default).int < (y.getD 1 default).int))
def spBefore (T : Tab) (cts : List CT) : FSpec where
  pre args := ∃ x y : List D, WfRow T cts x ∧ WfRow T cts y ∧ args = [argG cts x, argG cts y]
  res args := match args with
    | [.val _ a, .val _ b] => .val false [.b (before (csD a) (csD b))]
    | _ => .none
end
end Go.Proofs.Ytidjlboppokloaa.Ab
