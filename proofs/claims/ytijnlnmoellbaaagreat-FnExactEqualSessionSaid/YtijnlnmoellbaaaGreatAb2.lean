/- How places stand for memory: cells read as data avoiding the blocks that the call owns; the relation between an abstract state and the model's frame and world; how it is carried over a step. No program in sight: P is any. -/
import Derived.Test.YtijnlnmoellbaaaGreatAb1
import Derived.Below
import Derived.Deep.MidRow
import Derived.Laws.AppendOwn
namespace Go.Proofs.YtijnlnmoellbaaaGreat.Ab
open Go.RowKit

/-- What is known of a type: is it a struct; the kinds of its cells; where its fields begin, and their sizes; a slice's element type; its bytes. -/
structure Ty where
  agg : Bool
  cts : List CT
  offs : List (Nat × Nat)
  elem : TypeId
  bytes : Nat
  eq : Bool
  deriving Inhabited
abbrev Tab := TypeId → Option Ty

def inK (k : IntKind) (n : Int) : Prop := k.min ≤ n ∧ n ≤ k.max

/-- Cells that read as data, in blocks outside X. -/
inductive RdR (T : Tab) (w : World) (X : Nat → Prop) : CT → Value → D → Prop
  | int (k n) : inK k n → RdR T w X (.i k) (.int k n) (.i n)
  | bool (x) : RdR T w X .b (.bool x) (.b x)
  | str (x) : x.size ≤ maxLen → RdR T w X .s (.string x) (.s x)
  | nil (e A c) : c ≤ maxLen → RdR T w X (.l e) (.slice A 0 c) (.l [])
  | sl (e : TypeId) (ty : Ty) (b o c : Nat) (rows : List (List D)) (vs : Nat → Nat → Value) : T e = some ty → rows.length ≤ c → c ≤ maxLen → ¬ X b → b < w.heap.size →
      (∀ k j, k < rows.length → j < ty.cts.length → w.cell? ⟨b, o + k * ty.cts.length + j, none⟩ = some (vs k j)) →
      (∀ (k : Nat) (row : List D), rows[k]? = some row → row.length = ty.cts.length) →
      (∀ (k j : Nat) ct d (row : List D), rows[k]? = some row → ty.cts[j]? = some ct → row[j]? = some d → RdR T w X ct (vs k j) d) →
      RdR T w X (.l e) (.slice (some ⟨b, o, none⟩) rows.length c) (.l rows)

/-- Blocks that stay. -/
def Keeps (w w' : World) (c : Nat → Prop) : Prop := w.heap.size ≤ w'.heap.size ∧ ∀ b, b < w.heap.size → ¬ c b → w'.heap[b]? = w.heap[b]?

theorem RdR.move {T : Tab} {w w' : World} {X X' : Nat → Prop} {ct : CT} {v : Value} {d : D} (h : RdR T w X ct v d) (hk : Keeps w w' X) (hx : ∀ b, b < w.heap.size → X' b → X b) : RdR T w' X' ct v d := by
  induction h with
  | int k n h => exact .int k n h
  | bool x => exact .bool x
  | str x h => exact .str x h
  | nil e A c h => exact .nil e A c h
  | sl e ty b o c rows vs h1 h2 h3 h4 h5 h6 h7 _ ih =>
    refine .sl e ty b o c rows vs h1 h2 h3 (fun hb => h4 (hx b h5 hb)) (Nat.lt_of_lt_of_le h5 hk.1) (fun k j hk' hj => ?_) h7 ih
    rw [World.cell?_of_block (w := w) (hk.2 b h5 h4)]
    exact h6 k j hk' hj

theorem RdR.one {T : Tab} {w : World} {X : Nat → Prop} {ct : CT} {v : Value} {d : D} (h : RdR T w X ct v d) : v.oneCell' = true := by
  cases h <;> rfl
theorem RdR.cells {T : Tab} {w : World} {X : Nat → Prop} {ct : CT} {v : Value} {d : D} (h : RdR T w X ct v d) : v.cells = #[v] := by
  cases h <;> rfl

/-- A slice that begins a row of the call's own (or nil); its elements read as data. -/
def Own (T : Tab) (w : World) (X : Nat → Prop) (B : Nat) (e : TypeId) (v : Value) (rows : List (List D)) : Prop :=
  ∃ ty xs, T e = some ty ∧ w.ownsRow B e ty.cts.length v rows.length xs ∧ (∀ (k : Nat) (row : List D), rows[k]? = some row → row.length = ty.cts.length) ∧
    ∀ (k j : Nat) ct d (row : List D), rows[k]? = some row → ty.cts[j]? = some ct → row[j]? = some d → ∃ u, xs[k * ty.cts.length + j]? = some u ∧ RdR T w X ct u d

theorem Own.move {T : Tab} {w w' : World} {X X' : Nat → Prop} {B : Nat} {e : TypeId} {v : Value} {rows : List (List D)} (h : Own T w X B e v rows)
    (hk : Keeps w w' X) (hx : ∀ b, b < w.heap.size → X' b → X b) (hb : ∀ b, v.ownBlock = some b → w'.heap[b]? = w.heap[b]?) : Own T w' X' B e v rows := by
  obtain ⟨ty, xs, h1, h2, h3, h4⟩ := h
  refine ⟨ty, xs, h1, ⟨h2.1, ?_⟩, h3, fun k j ct d row a b c => ?_⟩
  · rcases h2.2 with h | ⟨g, cap, cur, e1, e2, e3, rest⟩
    · exact .inl h
    · exact .inr ⟨g, cap, cur, e1, e2, by rw [hb g (by rw [e1]; rfl)]; exact e3, rest⟩
  · obtain ⟨u, hu, hr⟩ := h4 k j ct d row a b c
    exact ⟨u, hu, hr.move hk hx⟩
theorem Own.slice {T : Tab} {w : World} {X : Nat → Prop} {B : Nat} {e : TypeId} {v : Value} {rows : List (List D)} (h : Own T w X B e v rows) : ∃ A c, v = .slice A rows.length c := by
  obtain ⟨ty, xs, h1, h2, _⟩ := h
  rcases h2.2 with ⟨h, hn⟩ | ⟨g, cap, cur, e1, _⟩
  · exact ⟨none, 0, by rw [hn]; exact h⟩
  · exact ⟨_, _, e1⟩
theorem Own.one {T : Tab} {w : World} {X : Nat → Prop} {B : Nat} {e : TypeId} {v : Value} {rows : List (List D)} (h : Own T w X B e v rows) : v.oneCell' = true := by
  obtain ⟨A, c, rfl⟩ := h.slice; rfl
theorem Own.cells {T : Tab} {w : World} {X : Nat → Prop} {B : Nat} {e : TypeId} {v : Value} {rows : List (List D)} (h : Own T w X B e v rows) : v.cells = #[v] := by
  obtain ⟨A, c, rfl⟩ := h.slice; rfl
/-- Once its block is no longer among the owned ones, it reads like any other slice. -/
theorem Own.shared {T : Tab} {w : World} {X X' : Nat → Prop} {B : Nat} {e : TypeId} {v : Value} {rows : List (List D)} (h : Own T w X B e v rows)
    (hx : ∀ b, b < w.heap.size → X' b → X b) (hb : ∀ b, v.ownBlock = some b → ¬ X' b) : RdR T w X' (.l e) v (.l rows) := by
  obtain ⟨ty, xs, h1, h2, h3, h4⟩ := h
  have hlen := h2.1
  rcases h2.2 with ⟨rfl, hn⟩ | ⟨g, cap, cur, rfl, e2, e3, e4, e5, e6, e7⟩
  · obtain rfl : rows = [] := List.length_eq_zero_iff.1 hn
    exact .nil e none 0 (Nat.zero_le _)
  · refine .sl e ty g 0 cap rows (fun k j => xs.getD (k * ty.cts.length + j) undef) h1 e4 e5 (hb g rfl) (Array.getElem?_eq_some_iff.1 e3).1 (fun k j hk hj => ?_) h3 (fun k j ct d row a b c => ?_)
    · have hlt : k * ty.cts.length + j < xs.length := by
        rw [hlen]
        have : k * ty.cts.length + ty.cts.length ≤ rows.length * ty.cts.length := by rw [← Nat.succ_mul]; exact Nat.mul_le_mul_right _ hk
        omega
      have := h2.cells (g := g) rfl (k * ty.cts.length + j) xs[k * ty.cts.length + j] (List.getElem?_eq_getElem hlt)
      rw [Addr.add_mid] at this
      rw [Nat.zero_add] at this ⊢
      rw [this]
      simp [List.getD_eq_getElem?_getD, List.getElem?_eq_getElem hlt]
    · obtain ⟨u, hu, hr⟩ := h4 k j ct d row a b c
      show RdR T w X' ct (xs.getD _ undef) d
      rw [List.getD_eq_getElem?_getD, hu]
      exact hr.move ⟨Nat.le_refl _, fun _ _ _ => rfl⟩ hx

/-! The relation -/
/-- The world in which the call began, and blocks of it that are to be kept from the results. -/
structure Base extends World where
  x0 : Nat → Prop
  x0lt : ∀ b, x0 b → b < heap.size
  lent : Nat → Prop
  lentx : ∀ b, lent b → ¬ x0 b
  pin : Option Nat
/-- Blocks that the call may change: those that it makes, and those that are lent to it. -/
def Base.mine (W : Base) (b : Nat) : Prop := W.heap.size ≤ b ∨ W.lent b
/-- All else of the first world stands. -/
structure Kept (W : Base) (w : World) : Prop where
  os : w.os = W.os
  tape : w.tape = W.tape
  output : w.output = W.output
  size : W.heap.size ≤ w.heap.size
  block : ∀ k, k < W.heap.size → ¬ W.lent k → w.heap[k]? = W.heap[k]?
theorem Kept.refl (W : Base) : Kept W W.toWorld := ⟨rfl, rfl, rfl, Nat.le_refl _, fun _ _ _ => rfl⟩
theorem Kept.next {W : Base} {w w' : World} (h : Kept W w) (h1 : w'.os = w.os) (h2 : w'.tape = w.tape) (h3 : w'.output = w.output) (h4 : w.heap.size ≤ w'.heap.size) (h5 : ∀ k, k < w.heap.size → ¬ W.mine k → w'.heap[k]? = w.heap[k]?) : Kept W w' :=
  ⟨h1.trans h.os, h2.trans h.tape, h3.trans h.output, Nat.le_trans h.size h4, fun k hk hn => (h5 k (Nat.lt_of_lt_of_le hk h.size) (fun hm => by
    rcases hm with hm | hm
    · omega
    · exact hn hm)).trans (h.block k hk hn)⟩
theorem Kept.below {W : Base} {w w' : World} (h : Kept W w) (hb : Below w.heap.size w w') : Kept W w' := h.next hb.os hb.tape hb.output hb.size (fun k hk _ => hb.block k hk)
theorem Kept.alloc {W : Base} {w : World} (h : Kept W w) (o : Obj) : Kept W (w.alloc o) := h.below ((Below.refl _ w).alloc (Nat.le_refl _) o)
theorem Kept.drew {W : Base} {w : World} (h : Kept W w) : Kept W w.drew := h.below (Below.drew (Below.refl _ w))
theorem Kept.grown {W : Base} {w w' : World} {row : Option Nat} (h : Kept W w) (hg : w.grownBy w' row) (hr : ∀ k, row = some k → W.mine k) : Kept W w' :=
  h.next hg.os hg.tape hg.output hg.size (fun k hk hn => hg.block k hk (fun e => hn (hr k e.symm)))
/-- All that an abstract state is held against. -/
structure Env where
  σ : St
  a : Act
  w : World
  β : Nat → Nat
  bk : Loc → Nat → Option Nat
  x0 : Nat → Prop

def Env.alive (E : Env) (t : Nat) : Prop := ∃ m, (E.σ (.gen t)).2 = .num m
/-- The blocks of the call's own that nothing shared reads. -/
def Env.X (E : Env) (b : Nat) : Prop := E.x0 b ∨ (∃ t, E.alive t ∧ b = E.β t) ∨ ∃ l j, E.bk l j = some b
/-- The value that stands at a place's cell. -/
def Env.cellAt (E : Env) (t j : Nat) : SV → Option Value
  | .num m => if j < m then E.w.cell? ⟨E.β t, j, none⟩ else none
  | _ => none
def Env.at_ (E : Env) : Loc → Nat → Option Value
  | .slot t, j => (E.a.tmps.getD t undef).cells[j]?
  | .cell t j', _ => E.cellAt t j' (E.σ (.gen t)).2
  | .gen _, _ => none
theorem Env.at_cell {E : Env} {t j m i : Nat} (hm : (E.σ (.gen t)).2 = .num m) (hj : j < m) : E.at_ (.cell t j) i = E.w.cell? ⟨E.β t, j, none⟩ := by
  show E.cellAt t j (E.σ (.gen t)).2 = _
  rw [hm]
  exact if_pos hj
theorem Env.cellAt_congr {E E' : Env} {t j : Nat} {sv sv' : SV} (hs : ∀ m, sv' = .num m ↔ sv = .num m) (h : ∀ m, sv = .num m → E'.w.cell? ⟨E'.β t, j, none⟩ = E.w.cell? ⟨E.β t, j, none⟩) : E'.cellAt t j sv' = E.cellAt t j sv := by
  cases sv with
  | num m => rw [(hs m).2 rfl]; show (if _ then _ else _) = (if _ then _ else _); rw [h m rfl]
  | _ => cases sv' with
    | num m => exact absurd ((hs m).1 rfl) (by simp)
    | _ => rfl

def CV.plain : CV → Bool
  | .sl true _ _ | .al .. => false
  | _ => true

variable (P : Program) (T : Tab) (W : Base)

def RelCV (T : Tab) (_W : Base) (E : Env) (l : Loc) (j : Nat) (v : Value) : CV → Prop
  | .i k n => v = .int k n ∧ inK k n
  | .b x => v = .bool x
  | .s x => v = .string x ∧ x.size ≤ maxLen
  | .sl false e rows => RdR T E.w E.X (.l e) v (.l rows)
  | .sl true e rows => Own T E.w E.X 0 e v rows ∧ v.ownBlock = E.bk l j
  | .al q i n => n ≤ (E.σ q).1 ∧ ((E.σ q).1 = n → E.at_ q i = some v)
  | .dead => True

def RelSV (E : Env) (l : Loc) (v : Value) : SV → Prop
  | .none => True
  | .val true cs => ∃ arr, v = .agg arr ∧ arr.size = cs.length ∧ ∀ (j : Nat) c, cs[j]? = some c → ∃ u, arr[j]? = some u ∧ RelCV T W E l j u c
  | .val false cs => ∃ c, cs = [c] ∧ RelCV T W E l 0 v c
  | .tup vs => ∃ arr, v = .tuple arr ∧ arr.size = vs.length ∧ ∀ (j : Nat) p, vs[j]? = some p → ∃ u, arr[j]? = some u ∧
      (p.1 = true → ∃ brr, u = .agg brr ∧ brr.size = p.2.length ∧ ∀ (i : Nat) c, p.2[i]? = some c → ∃ x, brr[i]? = some x ∧ c.plain = true ∧ RelCV T W E l 0 x c) ∧
      (p.1 = false → ∃ c, p.2 = [c] ∧ c.plain = true ∧ RelCV T W E l 0 u c)
  | .ptr t g off => g ≤ (E.σ (.gen t)).1 ∧ ((E.σ (.gen t)).1 = g → v = .pointer (some ⟨E.β t, off, none⟩))
  | .rptr cs => ∃ b o, v = .pointer (some ⟨b, o, none⟩) ∧ ¬ E.X b ∧ b < E.w.heap.size ∧ ∀ (j : Nat) p, cs[j]? = some p → ∃ u, E.w.cell? ⟨b, o + j, none⟩ = some u ∧ RdR T E.w E.X p.1 u p.2
  | .optr q j n k c off => n ≤ (E.σ q).1 ∧ ((E.σ q).1 = n → ∃ b o len cap, E.at_ q j = some (.slice (some ⟨b, o, none⟩) len cap) ∧ v = .pointer (some ⟨b, o + k * c + off, none⟩))
  | .num _ => True

structure Rel (N : Nat) (E : Env) : Prop where
  base : Kept W E.w
  x0 : E.x0 = W.x0
  defers : E.a.defers = []
  size : E.a.tmps.size = N
  slot : ∀ t, RelSV T W E (.slot t) (E.a.tmps.getD t undef) (E.σ (.slot t)).2
  cell : ∀ t m j, (E.σ (.gen t)).2 = .num m → j < m → ∃ c v, (E.σ (.cell t j)).2 = .val false [c] ∧ E.w.cell? ⟨E.β t, j, none⟩ = some v ∧ E.w.frozen? ⟨E.β t, j, none⟩ = false ∧ RelCV T W E (.cell t j) 0 v c
  bxlo : ∀ t, E.alive t → W.mine (E.β t) ∧ E.β t < E.w.heap.size
  bxinj : ∀ t t', E.alive t → E.alive t' → E.β t = E.β t' → t = t'
  owlo : ∀ l j b, E.bk l j = some b → W.mine b ∧ b < E.w.heap.size
  owinj : ∀ l j l' j' b, E.bk l j = some b → E.bk l' j' = some b → l = l' ∧ j = j'
  owbx : ∀ l j b t, E.bk l j = some b → E.alive t → b ≠ E.β t
  pin : ∀ b, W.pin = some b → E.β N = b

variable {P T W}
/-- What a step leaves of the rest. -/
structure Step (E E' : Env) : Prop where
  ver : ∀ q, (E.σ q).1 ≤ (E'.σ q).1 ∧ ((E'.σ q).1 = (E.σ q).1 → ∀ i, E'.at_ q i = E.at_ q i)
  gen : ∀ t, (E'.σ (.gen t)).1 = (E.σ (.gen t)).1 → E'.β t = E.β t
  keep : Keeps E.w E'.w E.X
  less : ∀ b, b < E.w.heap.size → E'.X b → E.X b

theorem RelCV.step {E E' : Env} {l : Loc} {j : Nat} {v : Value} {c : CV} (h : RelCV T W E l j v c) (s : Step E E')
    (ho : ∀ e rows, c = .sl true e rows → E'.bk l j = E.bk l j ∧ ∀ b, E.bk l j = some b → E'.w.heap[b]? = E.w.heap[b]?) : RelCV T W E' l j v c := by
  cases c with
  | i k n => exact h
  | b x => exact h
  | s x => exact h
  | sl own e rows =>
    cases own with
    | false => exact RdR.move h s.keep s.less
    | true =>
      obtain ⟨h1, h2⟩ := ho e rows rfl
      exact ⟨h.1.move s.keep s.less (fun b hb => h2 b (h.2 ▸ hb)), h.2.trans h1.symm⟩
  | al q i n =>
    obtain ⟨h1, h2⟩ := h
    obtain ⟨s1, s2⟩ := s.ver q
    refine ⟨Nat.le_trans h1 s1, fun hn => ?_⟩
    have : (E.σ q).1 = n := by omega
    rw [s2 (by omega) i]
    exact h2 this
  | dead => trivial
theorem RelSV.step {E E' : Env} {l : Loc} {v : Value} {sv : SV} (h : RelSV T W E l v sv) (s : Step E E')
    (ho : ∀ ag cs j e rows, sv = .val ag cs → cs[j]? = some (.sl true e rows) → E'.bk l j = E.bk l j ∧ ∀ b, E.bk l j = some b → E'.w.heap[b]? = E.w.heap[b]?) : RelSV T W E' l v sv := by
  cases sv with
  | none => trivial
  | val ag cs =>
    cases ag with
    | true =>
      obtain ⟨arr, h1, h2, h3⟩ := h
      refine ⟨arr, h1, h2, fun j c hc => ?_⟩
      obtain ⟨u, hu, hr⟩ := h3 j c hc
      exact ⟨u, hu, hr.step s (fun e rows he => ho true cs j e rows rfl (he ▸ hc))⟩
    | false =>
      obtain ⟨c, rfl, h2⟩ := h
      exact ⟨c, rfl, h2.step s (fun e rows he => ho false [c] 0 e rows rfl (by rw [he]; rfl))⟩
  | tup vs =>
    obtain ⟨arr, h1, h2, h3⟩ := h
    refine ⟨arr, h1, h2, fun j p hp => ?_⟩
    obtain ⟨u, hu, hr⟩ := h3 j p hp
    refine ⟨u, hu, fun hp => ?_, fun hp => ?_⟩
    · obtain ⟨brr, e1, e2, e3⟩ := hr.1 hp
      refine ⟨brr, e1, e2, fun i c hc => ?_⟩
      obtain ⟨x, hx, hpl, hr'⟩ := e3 i c hc
      exact ⟨x, hx, hpl, hr'.step s (fun e rows he => by rw [he] at hpl; cases hpl)⟩
    · obtain ⟨c, e1, hpl, hr'⟩ := hr.2 hp
      exact ⟨c, e1, hpl, hr'.step s (fun e rows he => by rw [he] at hpl; cases hpl)⟩
  | ptr t g off =>
    obtain ⟨h1, h2⟩ := h
    obtain ⟨s1, _⟩ := s.ver (.gen t)
    refine ⟨Nat.le_trans h1 s1, fun hg => ?_⟩
    have : (E.σ (.gen t)).1 = g := by omega
    rw [s.gen t (by omega)]
    exact h2 this
  | rptr cs =>
    obtain ⟨b, o, h1, h2, h3, h4⟩ := h
    refine ⟨b, o, h1, fun hb => h2 (s.less b h3 hb), Nat.lt_of_lt_of_le h3 s.keep.1, fun j p hp => ?_⟩
    obtain ⟨u, hu, hr⟩ := h4 j p hp
    exact ⟨u, (World.cell?_of_block (w := E.w) (s.keep.2 b h3 h2)).trans hu, hr.move s.keep s.less⟩
  | optr q j n k c off =>
    obtain ⟨h1, h2⟩ := h
    obtain ⟨s1, s2⟩ := s.ver q
    refine ⟨Nat.le_trans h1 s1, fun hn => ?_⟩
    have : (E.σ q).1 = n := by omega
    rw [s2 (by omega) j]
    exact h2 this
  | num m => trivial
end Go.Proofs.YtijnlnmoellbaaaGreat.Ab
