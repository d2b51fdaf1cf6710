/- Abstract runs over values: places hold data, an operation is a small program over places; operations whose order is open may be carried out in any order that their edges allow, with the same end. No program in sight. -/
import Derived.Orders
import Derived.ProofKit
import Derived.Lib.Hide
namespace Go.Proofs.YtijnlnmoellbaaaGreat.Ab

/-- Data of one cell: a number, a bool, a text, or a slice as its rows (each row: the cells of one element). -/
inductive D where
  | i (n : Int) | b (x : Bool) | s (x : ByteArray) | l (rows : List (List D))
  deriving Inhabited
/-- The kind of one cell. -/
inductive CT where
  | i (k : IntKind) | b | s | l (e : TypeId)
  deriving DecidableEq, Inhabited, Repr

/-- A place of the abstract run: a slot; a cell of the variable that a slot's operation made; whether that variable is there. -/
inductive Loc where
  | slot (t : Nat) | cell (t j : Nat) | gen (t : Nat)
  deriving DecidableEq, Inhabited, Repr

/-- A cell's value. 'sl true': a slice whose block belongs to this place alone; 'al q j n': the same value as cell j of place q, as long as q is at version n. -/
inductive CV where
  | i (k : IntKind) (n : Int) | b (x : Bool) | s (x : ByteArray)
  | sl (own : Bool) (e : TypeId) (rows : List (List D))
  | al (q : Loc) (j : Nat) (n : Nat)
  | dead
  deriving Inhabited

/-- What a place holds. -/
inductive SV where
  | none
  | val (agg : Bool) (cs : List CV)
  | tup (vs : List (Bool × List CV))
  | ptr (t g off : Nat)
  | rptr (cs : List (CT × D))
  | optr (q : Loc) (j n : Nat) (k c off : Nat)
  | num (size : Nat)
  deriving Inhabited

abbrev V := Nat × SV
abbrev St := Loc → V

/-- A place takes a content; its version rises by b. -/
def updw (b : Nat) (σ : St) (l : Loc) (x : SV) : St := fun l' => if l' = l then ((σ l).1 + b, x) else σ l'
abbrev upd (σ : St) (l : Loc) (x : SV) : St := updw 1 σ l x
abbrev updm (σ : St) (l : Loc) (x : SV) : St := updw 0 σ l x

/-- A program over places. -/
inductive Pg where
  | done | fail
  | get (l : Loc) (k : V → Pg)
  | set (b : Nat) (l : Loc) (x : SV) (k : Pg)
  | chk (c : Prop) (k : Pg)
  | br (x : Bool) (a b : Pg)

namespace Pg
open Classical in
noncomputable def exec : Pg → St → Option St
  | .done, σ => some σ
  | .fail, _ => none
  | .get l k, σ => (k (σ l)).exec σ
  | .set b l x k, σ => k.exec (updw b σ l x)
  | .chk c k, σ => if c then k.exec σ else none
  | .br x a b, σ => match x with | true => a.exec σ | false => b.exec σ
def reads : Pg → St → List Loc
  | .get l k, σ => l :: (k (σ l)).reads σ
  | .set b l x k, σ => l :: k.reads (updw b σ l x)
  | .chk _ k, σ => k.reads σ
  | .br x a b, σ => match x with | true => a.reads σ | false => b.reads σ
  | _, _ => []
def writes : Pg → St → List Loc
  | .get l k, σ => (k (σ l)).writes σ
  | .set b l x k, σ => l :: k.writes (updw b σ l x)
  | .chk _ k, σ => k.writes σ
  | .br x a b, σ => match x with | true => a.writes σ | false => b.writes σ
  | _, _ => []
def wp : Pg → (St → Prop) → St → Prop
  | .done, Q, σ => Q σ
  | .fail, _, _ => False
  | .get l k, Q, σ => (k (σ l)).wp Q σ
  | .set b l x k, Q, σ => k.wp Q (updw b σ l x)
  | .chk c k, Q, σ => c ∧ k.wp Q σ
  | .br x a b, Q, σ => (x = true → a.wp Q σ) ∧ (x = false → b.wp Q σ)

theorem wp_exec : ∀ (p : Pg) {Q : St → Prop} {σ : St}, p.wp Q σ → ∃ σ', p.exec σ = some σ' ∧ Q σ'
  | .done, _, σ, h => ⟨σ, rfl, h⟩
  | .fail, _, _, h => h.elim
  | .get l k, _, σ, h => wp_exec (k (σ l)) (h : (k (σ l)).wp _ σ)
  | .set b l x k, _, σ, h => wp_exec k (h : k.wp _ (updw b σ l x))
  | .chk c k, _, σ, h => by
    obtain ⟨σ', h1, h2⟩ := wp_exec k h.2
    exact ⟨σ', by simp only [exec]; rw [if_pos h.1]; exact h1, h2⟩
  | .br true a b, _, σ, h => wp_exec a (h.1 rfl)
  | .br false a b, _, σ, h => wp_exec b (h.2 rfl)

theorem exec_wp : ∀ (p : Pg) {Q : St → Prop} {σ σ' : St}, p.exec σ = some σ' → Q σ' → p.wp Q σ
  | .done, _, σ, σ', h, hq => by simp only [exec, Option.some.injEq] at h; subst h; exact hq
  | .fail, _, _, _, h, _ => by simp [exec] at h
  | .get l k, _, σ, _, h, hq => exec_wp (k (σ l)) (h : (k (σ l)).exec σ = _) hq
  | .set b l x k, _, σ, _, h, hq => exec_wp k (h : k.exec (updw b σ l x) = _) hq
  | .chk c k, _, σ, σ', h, hq => by
    simp only [exec] at h
    split at h
    · rename_i hc; exact ⟨hc, exec_wp k h hq⟩
    · simp at h
  | .br true a b, _, σ, _, h, hq => ⟨fun _ => exec_wp a h hq, fun h => by cases h⟩
  | .br false a b, _, σ, _, h, hq => ⟨fun h => (by cases h), fun _ => exec_wp b h hq⟩

theorem writes_reads : ∀ (p : Pg) (σ : St) (l : Loc), l ∈ p.writes σ → l ∈ p.reads σ
  | .done, _, _, h => by simp [writes] at h
  | .fail, _, _, h => by simp [writes] at h
  | .get l' k, σ, l, h => by
    simp only [reads, List.mem_cons]; exact .inr (writes_reads (k (σ l')) σ l h)
  | .set b l' x k, σ, l, h => by
    simp only [writes, List.mem_cons] at h
    simp only [reads, List.mem_cons]
    exact h.imp id (writes_reads k _ l)
  | .chk _ k, σ, l, h => writes_reads k σ l h
  | .br true a _, σ, l, h => writes_reads a σ l h
  | .br false _ b, σ, l, h => writes_reads b σ l h

/-- What is not written stays. -/
theorem exec_keeps : ∀ (p : Pg) {σ σ' : St} (l : Loc), p.exec σ = some σ' → l ∉ p.writes σ → σ' l = σ l
  | .done, σ, σ', l, h, _ => by simp only [exec, Option.some.injEq] at h; rw [h]
  | .fail, _, _, _, h, _ => by simp [exec] at h
  | .get l' k, σ, σ', l, h, hn => exec_keeps (k (σ l')) l h hn
  | .set b l' x k, σ, σ', l, h, hn => by
    simp only [writes, List.mem_cons, not_or] at hn
    rw [exec_keeps k l h hn.2]
    simp [updw, hn.1]
  | .chk c k, σ, σ', l, h, hn => by
    simp only [exec] at h
    split at h
    · exact exec_keeps k l h hn
    · simp at h
  | .br true a _, _, _, l, h, hn => exec_keeps a l h hn
  | .br false _ b, _, _, l, h, hn => exec_keeps b l h hn

/-- Two states that agree on what is read: the same run. -/
theorem exec_same : ∀ (p : Pg) {σ σ' τ : St}, p.exec σ = some σ' → (∀ l ∈ p.reads σ, τ l = σ l) →
    ∃ τ', p.exec τ = some τ' ∧ p.reads τ = p.reads σ ∧ p.writes τ = p.writes σ ∧ (∀ l ∈ p.writes σ, τ' l = σ' l)
  | .done, σ, σ', τ, _, _ => ⟨τ, rfl, rfl, rfl, by simp [writes]⟩
  | .fail, _, _, _, h, _ => by simp [exec] at h
  | .get l k, σ, σ', τ, h, ha => by
    have e : τ l = σ l := ha l (by simp [reads])
    obtain ⟨τ', h1, h2, h3, h4⟩ := exec_same (k (σ l)) (τ := τ) h (fun l' hl' => ha l' (by simp [reads, hl']))
    exact ⟨τ', by simp only [exec]; rw [e]; exact h1, by simp only [reads]; rw [e, h2], by simp only [writes]; rw [e]; exact h3, h4⟩
  | .set b l x k, σ, σ', τ, h, ha => by
    have e : τ l = σ l := ha l (by simp [reads])
    have ha' : ∀ l' ∈ k.reads (updw b σ l x), updw b τ l x l' = updw b σ l x l' := by
      intro l' hl'
      unfold updw
      split
      · rw [e]
      · exact ha l' (by simp [reads, hl'])
    obtain ⟨τ', h1, h2, h3, h4⟩ := exec_same k (τ := updw b τ l x) h ha'
    refine ⟨τ', h1, by simp only [reads]; rw [h2], by simp only [writes]; rw [h3], fun l' hl' => ?_⟩
    simp only [writes, List.mem_cons] at hl'
    by_cases hw : l' ∈ k.writes (updw b σ l x)
    · exact h4 l' hw
    · rcases hl' with rfl | hl'
      · rw [exec_keeps k l' h1 (by rw [h3]; exact hw), exec_keeps k l' h hw]
        simp [updw, e]
      · exact absurd hl' hw
  | .chk c k, σ, σ', τ, h, ha => by
    simp only [exec] at h
    split at h
    · rename_i hc
      obtain ⟨τ', h1, h2, h3, h4⟩ := exec_same k (τ := τ) h ha
      exact ⟨τ', by simp only [exec]; rw [if_pos hc]; exact h1, h2, h3, h4⟩
    · simp at h
  | .br true a b, σ, σ', τ, h, ha => exec_same a (τ := τ) h ha
  | .br false a b, σ, σ', τ, h, ha => exec_same b (τ := τ) h ha
/-- A number below a bound: told at once. -/
def lt (d N : Nat) (k : Pg) : Pg := if d < N then k else .fail
theorem lt_wp {d N : Nat} {k : Pg} {Q : St → Prop} {σ : St} (h : (lt d N k).wp Q σ) : d < N ∧ k.wp Q σ := by
  unfold lt at h
  split at h
  · rename_i hd; exact ⟨hd, h⟩
  · exact h.elim
end Pg

/-! Values are worked out before they are laid down -/
/-- A small number, worked out. -/
def natK (n : Nat) (K : Nat → Pg) : Pg :=
  if n = 0 then K 0 else if n = 1 then K 1 else if n = 2 then K 2 else if n = 3 then K 3 else if n = 4 then K 4 else if n = 5 then K 5 else if n = 6 then K 6 else if n = 7 then K 7 else K n
theorem natK_eq (n : Nat) (K : Nat → Pg) : natK n K = K n := by
  unfold natK
  repeat' split
  all_goals first | rfl | (rename_i h; rw [h])
def CV.force (c : CV) (K : CV → Pg) : Pg :=
  match c with
  | .i k n => K (.i k n)
  | .b x => K (.b x)
  | .s x => K (.s x)
  | .sl true e r => K (.sl true e r)
  | .sl false e r => K (.sl false e r)
  | .al q j n => natK n fun n => K (.al q j n)
  | .dead => K .dead
theorem CV.force_eq (c : CV) (K : CV → Pg) : c.force K = K c := by
  cases c with
  | sl own e r => cases own <;> rfl
  | al q j n => exact natK_eq n fun n => K (.al q j n)
  | _ => rfl
def forceL : List CV → (List CV → Pg) → Pg
  | [], K => K []
  | c :: r, K => c.force fun c => forceL r fun r => K (c :: r)
theorem forceL_eq : ∀ (cs : List CV) (K : List CV → Pg), forceL cs K = K cs
  | [], _ => rfl
  | c :: r, K => by unfold forceL; rw [CV.force_eq, forceL_eq]
def forceT : List (Bool × List CV) → (List (Bool × List CV) → Pg) → Pg
  | [], K => K []
  | (true, cs) :: r, K => forceL cs fun cs => forceT r fun r => K ((true, cs) :: r)
  | (false, cs) :: r, K => forceL cs fun cs => forceT r fun r => K ((false, cs) :: r)
theorem forceT_eq : ∀ (vs : List (Bool × List CV)) (K : List (Bool × List CV) → Pg), forceT vs K = K vs
  | [], _ => rfl
  | (true, cs) :: r, K => by unfold forceT; rw [forceL_eq, forceT_eq]
  | (false, cs) :: r, K => by unfold forceT; rw [forceL_eq, forceT_eq]
def forceP : List (CT × D) → (List (CT × D) → Pg) → Pg
  | [], K => K []
  | (ct, d) :: r, K => forceP r fun r => K ((ct, d) :: r)
theorem forceP_eq : ∀ (vs : List (CT × D)) (K : List (CT × D) → Pg), forceP vs K = K vs
  | [], _ => rfl
  | (ct, d) :: r, K => by unfold forceP; rw [forceP_eq]
def SV.force (s : SV) (K : SV → Pg) : Pg :=
  match s with
  | .val true cs => forceL cs fun cs => K (.val true cs)
  | .val false cs => forceL cs fun cs => K (.val false cs)
  | .tup vs => forceT vs fun vs => K (.tup vs)
  | .ptr t g p => natK g fun g => natK p fun p => K (.ptr t g p)
  | .rptr ps => forceP ps fun ps => K (.rptr ps)
  | .optr q j n k c p => natK n fun n => K (.optr q j n k c p)
  | .none => K .none
  | .num m => K (.num m)
theorem SV.force_eq (s : SV) (K : SV → Pg) : s.force K = K s := by
  cases s with
  | val ag cs => cases ag <;> exact forceL_eq cs _
  | tup vs => exact forceT_eq vs _
  | ptr t g p => unfold SV.force; simp only [natK_eq]
  | rptr ps => exact forceP_eq ps _
  | optr q j n k c p => exact natK_eq n fun n => K (.optr q j n k c p)
  | _ => rfl
def Pg.setF (b : Nat) (l : Loc) (x : SV) (k : Pg) : Pg := x.force fun x => .set b l x k
theorem Pg.setF_eq (b : Nat) (l : Loc) (x : SV) (k : Pg) : Pg.setF b l x k = .set b l x k := SV.force_eq x _

/-! A text run of programs p 0, p 1, .. and any other order. -/
section orders
variable {n : Nat} {p : Nat → Pg} {σs : Nat → St} (run : ∀ i, i < n → (p i).exec (σs i) = some (σs (i + 1)))
include run
theorem run_keeps {l : Loc} {i j : Nat} (hij : i ≤ j) (hj : j ≤ n) (h : ∀ k, i ≤ k → k < j → l ∉ (p k).writes (σs k)) : σs j l = σs i l := by
  induction j with
  | zero => obtain rfl : i = 0 := by omega
            rfl
  | succ j ih =>
    by_cases e : i = j + 1
    · rw [e]
    · rw [Pg.exec_keeps (p j) l (run j (by omega)) (h j (by omega) (by omega))]
      exact ih (by omega) (by omega) (fun k h1 h2 => h k h1 (by omega))
omit run in
/-- σ is the state once the operations of S have been carried out. -/
structure After (n : Nat) (p : Nat → Pg) (σs : Nat → St) (S : Nat → Prop) (σ : St) : Prop where
  first : ∀ l, (∀ i, i < n → S i → l ∉ (p i).writes (σs i)) → σ l = σs 0 l
  last : ∀ i, i < n → S i → ∀ l, l ∈ (p i).writes (σs i) → (∀ i', i < i' → i' < n → S i' → l ∉ (p i').writes (σs i')) → σ l = σs (i + 1) l
omit run in
theorem max_below (n : Nat) (Q : Nat → Prop) : (∀ i, i < n → ¬ Q i) ∨ ∃ i, i < n ∧ Q i ∧ ∀ i', i < i' → i' < n → ¬ Q i' := by
  induction n with
  | zero => exact .inl fun i h => absurd h (by omega)
  | succ n ih =>
    by_cases hq : Q n
    · exact .inr ⟨n, by omega, hq, fun i' h1 h2 => absurd h2 (by omega)⟩
    · rcases ih with h | ⟨i, h1, h2, h3⟩
      · exact .inl fun i hi => if e : i = n then e ▸ hq else h i (by omega)
      · exact .inr ⟨i, by omega, h2, fun i' h4 h5 => if e : i' = n then e ▸ hq else h3 i' h4 (by omega)⟩
theorem After.step {S S' : Nat → Prop} {σ : St} {bef : Nat → Nat → Prop} (h : After n p σs S σ) {j : Nat} (hj : j < n) (hS : ¬ S j)
    (hS' : ∀ i, S' i ↔ S i ∨ i = j)
    (hready : ∀ i, i < n → bef i j → S i) (hclosed : ∀ i, i < n → S i → ∀ k, k < n → bef k i → S k)
    (apart : ∀ i k, i < k → k < n → ¬ bef i k → (∀ l ∈ (p i).writes (σs i), l ∉ (p k).reads (σs k)) ∧ (∀ l ∈ (p k).writes (σs k), l ∉ (p i).reads (σs i))) :
    ∃ σ', (p j).exec σ = some σ' ∧ After n p σs S' σ' := by
  have later : ∀ l, l ∈ (p j).reads (σs j) → ∀ i', j < i' → i' < n → S i' → l ∉ (p i').writes (σs i') := by
    intro l hl i' h1 h2 h3 hw
    by_cases hb : bef j i'
    · exact hS (hclosed i' h2 h3 j hj hb)
    · exact (apart j i' h1 h2 hb).2 l hw hl
  have agree : ∀ l ∈ (p j).reads (σs j), σ l = σs j l := by
    intro l hl
    rcases max_below j (fun i => l ∈ (p i).writes (σs i)) with hno | ⟨i, hi, hw, hmax⟩
    · rw [run_keeps run (Nat.zero_le j) (Nat.le_of_lt hj) (fun k _ hk => hno k hk)]
      refine h.first l fun i hi hs => ?_
      rcases Nat.lt_trichotomy i j with h1 | h1 | h1
      · exact hno i h1
      · exact absurd (h1 ▸ hs) hS
      · exact later l hl i h1 hi hs
    · have hb : bef i j := Classical.byContradiction fun hb => (apart i j hi hj hb).1 l hw hl
      have hs : S i := hready i (by omega) hb
      rw [h.last i (by omega) hs l hw (fun i' h1 h2 h3 => ?_)]
      · exact (run_keeps run (by omega) (Nat.le_of_lt hj) (fun k h1 h2 => hmax k (by omega) h2)).symm
      · rcases Nat.lt_trichotomy i' j with h4 | h4 | h4
        · exact hmax i' h1 h4
        · exact absurd (h4 ▸ h3) hS
        · exact later l hl i' h4 h2 h3
  obtain ⟨σ', h1, _, h3, h4⟩ := Pg.exec_same (p j) (run j hj) agree
  refine ⟨σ', h1, ⟨fun l hl => ?_, fun i hi hs l hl hmax => ?_⟩⟩
  · have hnj : l ∉ (p j).writes (σs j) := hl j hj ((hS' j).2 (.inr rfl))
    rw [Pg.exec_keeps (p j) l h1 (by rw [h3]; exact hnj)]
    exact h.first l fun i hi hs => hl i hi ((hS' i).2 (.inl hs))
  · by_cases hwj : l ∈ (p j).writes (σs j)
    · have hr := Pg.writes_reads _ _ _ hwj
      rcases Nat.lt_trichotomy i j with h5 | h5 | h5
      · exact absurd hwj (hmax j h5 hj ((hS' j).2 (.inr rfl)))
      · subst h5; exact h4 l hwj
      · have hsi : S i := ((hS' i).1 hs).resolve_right (by omega)
        exact absurd hl (later l hr i h5 hi hsi)
    · rw [Pg.exec_keeps (p j) l h1 (by rw [h3]; exact hwj)]
      have hne : i ≠ j := fun e => hwj (e ▸ hl)
      exact h.last i hi (((hS' i).1 hs).resolve_right hne) l hl (fun i' a b c => hmax i' a b ((hS' i').2 (.inl c)))
theorem After.all {S : Nat → Prop} {σ : St} (h : After n p σs S σ) (hS : ∀ i, i < n → S i) : σ = σs n := by
  funext l
  rcases max_below n (fun i => l ∈ (p i).writes (σs i)) with hno | ⟨i, hi, hw, hmax⟩
  · rw [h.first l fun i hi _ => hno i hi]
    exact (run_keeps run (Nat.zero_le n) (Nat.le_refl n) (fun k _ hk => hno k hk)).symm
  · rw [h.last i hi (hS i hi) l hw (fun i' h1 h2 _ => hmax i' h1 h2)]
    exact (run_keeps run (by omega) (Nat.le_refl n) (fun k h1 h2 => hmax k (by omega) h2)).symm
omit run in
theorem After.start : After n p σs (fun _ => False) (σs 0) := ⟨fun _ _ => rfl, fun _ _ h => h.elim⟩
end orders
end Go.Proofs.YtijnlnmoellbaaaGreat.Ab
