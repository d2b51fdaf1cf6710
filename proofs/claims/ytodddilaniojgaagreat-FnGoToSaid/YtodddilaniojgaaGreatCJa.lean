/- Drawn expressions, cells and operations: what is known of them, in plain Lean. No program in sight. -/
import Derived.Test.YtodddilaniojgaaGreatCDa
import Derived.Test.YtodddilaniojgaaGreatCFd
namespace Go.Proofs.YtodddilaniojgaaGreat.Ab
open Go.RowKit
set_option linter.unusedVariables false
structure EL where
  k : Int
  n : Int
  t : ByteArray
  l : List (List D)
instance : Inhabited EL := ⟨⟨0, 0, ByteArray.empty, []⟩⟩
abbrev EL.row (x : EL) : List D := [.i x.k, .i x.n, .s x.t, .l x.l]
def arOk (k : Int) (n : Nat) : Bool := if k = 8 then n == 3 else if 1 ≤ k ∧ k ≤ 5 then true else n == 2
def ExOk : Nat → List D → Prop
  | 0, _ => False
  | d + 1, r => ∃ x : EL, r = x.row ∧ inK .i64 x.k ∧ inK .i64 x.n ∧ x.t.size ≤ 8 ∧ x.l.length ≤ 4 ∧ arOk x.k x.l.length = true ∧ ∀ y ∈ x.l, ExOk d y
theorem ExOk.mk {d : Nat} {k n : Int} {t : ByteArray} {l : List (List D)} (hk : inK .i64 k) (hn : inK .i64 n) (ht : t.size ≤ 8) (hl : l.length ≤ 4) (ha : arOk k l.length = true) (h : ∀ y ∈ l, ExOk d y) : ExOk (d + 1) [.i k, .i n, .s t, .l l] :=
  ⟨⟨k, n, t, l⟩, rfl, hk, hn, ht, hl, ha, h⟩
theorem ExOk.up {r : List D} : ∀ {d : Nat}, ExOk d r → ExOk (d + 1) r
  | 0, h => h.elim
  | d + 1, ⟨x, h1, h2, h3, h4, h5, h6, h7⟩ => ⟨x, h1, h2, h3, h4, h5, h6, fun y hy => (h7 y hy).up⟩
theorem ExOk.mono {r : List D} {d e : Nat} (h : ExOk d r) (he : d ≤ e) : ExOk e r := by
  obtain ⟨k, rfl⟩ := Nat.exists_eq_add_of_le he
  clear he
  induction k with
  | zero => exact h
  | succ k ih => exact ih.up
theorem all0 {p : List D → Prop} : ∀ y ∈ ([] : List (List D)), p y := fun y h => absurd h List.not_mem_nil
theorem all1 {p : List D → Prop} {a : List D} (ha : p a) : ∀ y ∈ [a], p y := fun y h => by rw [List.mem_singleton.1 h]; exact ha
theorem allApp {p : List D → Prop} {l m : List (List D)} (h : ∀ y ∈ l, p y) (h' : ∀ y ∈ m, p y) : ∀ y ∈ l ++ m, p y := fun y hy => (List.mem_append.1 hy).elim (h y) (h' y)
theorem allSnoc {p : List D → Prop} {l : List (List D)} {a : List D} (h : ∀ y ∈ l, p y) (ha : p a) : ∀ y ∈ l ++ [a], p y := allApp h (all1 ha)
theorem allPoke {p : List D → Prop} {l : List (List D)} {a : List D} {k : Nat} (h : ∀ y ∈ l, p y) (ha : p a) : ∀ y ∈ l.set k a, p y := fun y hy => by
  rcases List.mem_or_eq_of_mem_set hy with h1 | rfl
  · exact h y h1
  · exact ha
theorem allAt {p : List D → Prop} {l : List (List D)} {k : Nat} (h : ∀ y ∈ l, p y) (hk : k < l.length) : p (l.getD k []) := by
  have : l.getD k [] = l[k] := by simp [List.getD, List.getElem?_eq_getElem hk]
  rw [this]
  exact h _ (List.getElem_mem _)
theorem allTake {p : List D → Prop} {l : List (List D)} (h : ∀ y ∈ l, p y) (k : Nat) : ∀ y ∈ l.take k, p y := fun y hy => h y (List.mem_of_mem_take hy)
theorem allDrop {p : List D → Prop} {l : List (List D)} (h : ∀ y ∈ l, p y) (k : Nat) : ∀ y ∈ l.drop k, p y := fun y hy => h y (List.mem_of_mem_drop hy)
theorem WfD.ofRows {T : Tab} {e : TypeId} {te : Ty} {l : List (List D)} (he : T e = some te) (hl : l.length ≤ maxLen) (h : ∀ r ∈ l, WfRow T te.cts r) : WfD T (.l e) (.l l) :=
  .sl e te l he hl (fun k row hk => (h row (List.mem_of_getElem? hk)).1) (fun k j ct d row hk hc hd => (h row (List.mem_of_getElem? hk)).2 j ct d hc hd)
theorem ExOk.wf {T : Tab} {E : TypeId} {te : Ty} (he : T E = some te) (hc : te.cts = [.i .i64, .i .i64, .s, .l E]) : ∀ {d : Nat} {r : List D}, ExOk d r → WfRow T [.i .i64, .i .i64, .s, .l E] r
  | 0, _, h => h.elim
  | d + 1, r, ⟨x, h1, h2, h3, h4, h5, h6, h7⟩ => by
    subst h1
    refine ⟨rfl, fun j ct dd hct hd => ?_⟩
    match j with
    | 0 => cases hct; cases hd; exact .int _ _ h2
    | 1 => cases hct; cases hd; exact .int _ _ h3
    | 2 => cases hct; cases hd; exact .str _ (Nat.le_trans h4 (by decide))
    | 3 =>
      cases hct; cases hd
      refine WfD.ofRows he (Nat.le_trans h5 (by decide)) fun r hr => ?_
      rw [hc]
      exact (h7 r hr).wf he hc
    | j + 4 => simp at hct
theorem ar_two {k : Int} {n : Nat} (h : arOk k n = true) (h1 : k ≠ 1) (h2 : k ≠ 2) (h3 : k ≠ 3) (h4 : k ≠ 4) (h5 : k ≠ 5) (h8 : k ≠ 8) : n = 2 := by
  unfold arOk at h
  rw [if_neg h8, if_neg (by omega)] at h
  exact eq_of_beq h
theorem ar_three {k : Int} {n : Nat} (h : arOk k n = true) (h8 : k = 8) : n = 3 := by
  unfold arOk at h
  rw [if_pos h8] at h
  exact eq_of_beq h
theorem ExOk.num {d : Nat} {r : List D} (h : ExOk (d + 1) r) : inK .i64 (r.getD 1 default).int := by
  obtain ⟨x, rfl, h2, h3, h⟩ := h
  exact h3
theorem ExOk.args {d : Nat} {r : List D} (h : ExOk (d + 1) r) : (r.getD 3 default).rows.length ≤ 4 ∧ (∀ y ∈ (r.getD 3 default).rows, ExOk d y) ∧ arOk (r.getD 0 default).int (r.getD 3 default).rows.length = true ∧ (r.getD 2 default).str.size ≤ 8 := by
  obtain ⟨x, rfl, h2, h3, h4, h5, h6, h7⟩ := h
  exact ⟨h5, h7, h6, h4⟩
theorem ArgsR.wfs {T : Tab} {w : World} {X : Nat → Prop} {vals : List Value} {args : List SV} (h : ArgsR T w X vals args) : ∀ a ∈ args, WfSV T a := fun a ha => by
  obtain ⟨i, hi⟩ := List.getElem?_of_mem ha
  have hlt : i < vals.length := by rw [← h.1]; exact (List.getElem?_eq_some_iff.1 hi).1
  exact (h.2 i a vals[i] hi (List.getElem?_eq_getElem hlt)).wf
section
variable {P : Program} {T : Tab} {f : FuncId}
def AnyX (P : Program) (T : Tab) (f : FuncId) (pre : List SV → Prop) {α : Type} (R : α → SV) (post : α → Prop) : Prop :=
  ∃ g : List SV → α, FOk P T f { pre := pre, res := fun a => R (g a) } ∧ ∀ a, post (g a)
theorem AnyX.of {pre : List SV → Prop} {α : Type} {R : α → SV} {post : α → Prop} (x0 : α) (h0 : post x0) (h : ∃ g : List SV → α, FOk P T f { pre := pre, res := fun a => R (g a) } ∧ ∀ a, pre a → (∀ b ∈ a, WfSV T b) → post (g a)) : AnyX P T f pre R post := by
  classical
  obtain ⟨g, k, q⟩ := h
  refine ⟨fun a => if pre a ∧ ∀ b ∈ a, WfSV T b then g a else x0, ⟨k.call, (fun hb => by cases hb), fun _ w X args vals a1 a2 a3 hpre => ?_, (fun hb => by cases hb)⟩, fun a => ?_⟩
  · have := k.ok rfl w X args vals a1 a2 a3 hpre
    have e : (if pre args ∧ ∀ b ∈ args, WfSV T b then g args else x0) = g args := if_pos ⟨hpre, a2.wfs⟩
    simp only
    rw [e]
    exact this
  · show post (if pre a ∧ ∀ b ∈ a, WfSV T b then g a else x0)
    split
    · rename_i h; exact q a h.1 h.2
    · exact h0
theorem AnyX.none {pre : List SV → Prop} {α : Type} {R : α → SV} {post : α → Prop} (x0 : α) (h0 : post x0) (hcall : ∀ args w, (callFunc f args).run P w = .ok (.enter f args) w) (h : ∀ a, ¬ pre a) : AnyX P T f pre R post :=
  ⟨fun _ => x0, ⟨hcall, (fun hb => by cases hb), fun _ w X args vals a1 a2 a3 hpre => absurd hpre (h _), (fun hb => by cases hb)⟩, fun _ => h0⟩
def preD (e : TypeId) (pre : List SV → Prop) (a : List SV) : Prop := ∃ rows i h more, CurOk rows i ∧ pre more ∧ a = curA e rows i h :: more
def spD (e : TypeId) (pre : List SV → Prop) {α : Type} (R : α → SV) (g : List SV → α × Int × Int) : FSpec where
  pre := preD e pre
  res := fun a => R (g a).1
  bx := true
  upd := fun a => curU e a (g a).2.1 (g a).2.2
def AnyD (P : Program) (T : Tab) (f : FuncId) (e : TypeId) (pre : List SV → Prop) {α : Type} (R : α → SV) (post : List SV → α → Prop) : Prop :=
  ∃ g : List SV → α × Int × Int, FOk P T f (spD e pre R g) ∧ ∀ rows i h more, CurOk rows i → pre more → CurOk rows (g (curA e rows i h :: more)).2.1 ∧ post more (g (curA e rows i h :: more)).1
def iOf (a : List SV) : Int := match a with
  | .tup [(_, [_, .i _ i, _])] :: _ => i
  | _ => 0
theorem AnyD.of {e : TypeId} {pre : List SV → Prop} {α : Type} {R : α → SV} {post : List SV → α → Prop} (x0 : List SV → α) (h0 : ∀ more, pre more → post more (x0 more))
    (h : ∃ g : List SV → α × Int × Int, FOk P T f { pre := preD e pre, res := fun a => R (g a).1, bx := true, upd := fun a => curU e a (g a).2.1 (g a).2.2 } ∧ ∀ cs args, preD e pre (.tup [(true, cs)] :: args) → (∀ a ∈ args, WfSV T a) → CurOk (rowsOf (.tup [(true, cs)] :: args)) (g (.tup [(true, cs)] :: args)).2.1 ∧ post args (g (.tup [(true, cs)] :: args)).1) : AnyD P T f e pre R post := by
  classical
  obtain ⟨g, k, q⟩ := h
  refine ⟨fun a => if preD e pre a ∧ ∀ b ∈ a.tail, WfSV T b then g a else (x0 a.tail, iOf a, 0), ⟨k.call, fun _ _ w X b ob cs args vals a1 a2 a3 a4 a5 a6 a7 a8 hpre => ?_, (fun hb => by cases hb), (fun _ hn => by cases hn)⟩, fun rows i h more hc hp => ?_⟩
  · have := k.okb rfl rfl w X b ob cs args vals a1 a2 a3 a4 a5 a6 a7 a8 hpre
    have e : (if preD e pre (.tup [(true, cs)] :: args) ∧ ∀ b ∈ (SV.tup [(true, cs)] :: args).tail, WfSV T b then g (.tup [(true, cs)] :: args) else (x0 (SV.tup [(true, cs)] :: args).tail, iOf (.tup [(true, cs)] :: args), 0)) = g (.tup [(true, cs)] :: args) := if_pos ⟨hpre, a7.wfs⟩
    simp only [spD]
    rw [e]
    exact this
  · have hpre : preD e pre (curA e rows i h :: more) := ⟨rows, i, h, more, hc, hp, rfl⟩
    by_cases hw : ∀ b ∈ more, WfSV T b
    · have := q _ _ hpre hw
      have ee : (if preD e pre (curA e rows i h :: more) ∧ ∀ b ∈ (curA e rows i h :: more).tail, WfSV T b then g (curA e rows i h :: more) else (x0 (curA e rows i h :: more).tail, iOf (curA e rows i h :: more), 0)) = g (curA e rows i h :: more) := if_pos ⟨hpre, hw⟩
      show CurOk rows (if preD e pre (curA e rows i h :: more) ∧ ∀ b ∈ (curA e rows i h :: more).tail, WfSV T b then g (curA e rows i h :: more) else (x0 (curA e rows i h :: more).tail, iOf (curA e rows i h :: more), 0)).2.1 ∧ post more (if preD e pre (curA e rows i h :: more) ∧ ∀ b ∈ (curA e rows i h :: more).tail, WfSV T b then g (curA e rows i h :: more) else (x0 (curA e rows i h :: more).tail, iOf (curA e rows i h :: more), 0)).1
      rw [ee]
      exact this
    · have ee : (if preD e pre (curA e rows i h :: more) ∧ ∀ b ∈ (curA e rows i h :: more).tail, WfSV T b then g (curA e rows i h :: more) else (x0 (curA e rows i h :: more).tail, iOf (curA e rows i h :: more), 0)) = (x0 more, i, 0) := if_neg (fun x => hw x.2)
      show CurOk rows (if preD e pre (curA e rows i h :: more) ∧ ∀ b ∈ (curA e rows i h :: more).tail, WfSV T b then g (curA e rows i h :: more) else (x0 (curA e rows i h :: more).tail, iOf (curA e rows i h :: more), 0)).2.1 ∧ post more (if preD e pre (curA e rows i h :: more) ∧ ∀ b ∈ (curA e rows i h :: more).tail, WfSV T b then g (curA e rows i h :: more) else (x0 (curA e rows i h :: more).tail, iOf (curA e rows i h :: more), 0)).1
      rw [ee]
      exact ⟨hc, h0 more hp⟩
theorem AnyD.none {e : TypeId} {pre : List SV → Prop} {α : Type} {R : α → SV} {post : List SV → α → Prop} (x0 : List SV → α) (hcall : ∀ args w, (callFunc f args).run P w = .ok (.enter f args) w) (h : ∀ a, ¬ pre a) : AnyD P T f e pre R post :=
  ⟨fun a => (x0 a, 0, 0), ⟨hcall, fun _ _ w X b ob cs args vals a1 a2 a3 a4 a5 a6 a7 a8 hpre => (by obtain ⟨_, _, _, m, _, h2, _⟩ := hpre; exact absurd h2 (h m)), (fun hb => by cases hb), (fun _ hn => by cases hn)⟩, fun rows i h' more hc hp => absurd hp (h more)⟩
end
abbrev preE (c : List CT) (d : Nat) (a : List SV) : Prop := ∃ r, ExOk d r ∧ a = [argG c r]
abbrev preEI (c : List CT) (d : Nat) (a : List SV) : Prop := ∃ r n, ExOk d r ∧ a = [argG c r, .val false [.i .i64 n]]
abbrev preEL (e : TypeId) (d : Nat) (a : List SV) : Prop := ∃ l : List (List D), (l.length ≤ 4 ∧ ∀ y ∈ l, ExOk d y) ∧ a = [argS e l]
theorem ltN' {i n : Nat} (h : decide ((i : Int) < (n : Int)) = true) : i < n := by have := of_decide_eq_true h; omega
theorem wrapN' {i n : Nat} (hi : i < n) (hn : n ≤ 1048576) : IntKind.i64.wrap ((i : Int) + 1) = ((i + 1 : Nat) : Int) := by
  rw [IntKind.wrap_i64]; omega
theorem inR_of {s a b : Int} (h : (!inR s a b) = false) : a ≤ s ∧ s ≤ b := by
  have h : inR s a b = true := by simpa using h
  unfold inR at h
  rw [Bool.and_eq_true, decide_eq_true_eq, decide_eq_true_eq] at h
  exact h
theorem itoa20 {n : Int} (h : inK .i64 n) : (itoaB n).size ≤ 20 := by
  have h1 : IntKind.i64.min = -9223372036854775808 := by decide
  have h2 : IntKind.i64.max = 9223372036854775807 := by decide
  rw [inK, h1, h2] at h
  show (Lib.itoa n).toArray.size ≤ 20
  rw [List.size_toArray]
  unfold Lib.itoa
  split
  · have := decDigits_le 18 n.natAbs (by simp only [Nat.reduceAdd, Nat.reducePow]; omega)
    rw [List.length_cons]
    omega
  · have := decDigits_le 18 n.toNat (by simp only [Nat.reduceAdd, Nat.reducePow]; omega)
    omega
end Go.Proofs.YtodddilaniojgaaGreat.Ab
