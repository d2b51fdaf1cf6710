/- Abstract runs over values: places hold data, an operation is a small program over places; operations whose order is open may be carried out in any order that their edges allow, with the same end. No program in sight. How places stand for memory: cells read as data avoiding the blocks that the call owns; the relation between an abstract state and the model's frame and world; how it is carried over a step. No program in sight: P is any. Steps of the relation: a slot takes a value; an owned slice is shared, or moved; operands are read. No program in sight. Owned slices are shared (frozen), taken out of their place, laid into another. No program in sight. The operations that leave the world alone: each abstract step is what the model's operation does. No program in sight. -/
import Derived.Orders
import Derived.ProofKit
import Derived.Lib.Hide
import Derived.Below
import Derived.Deep.MidRow
import Derived.Laws.AppendOwn
set_option linter.unusedVariables false
set_option linter.unusedSimpArgs false
namespace Go.Proofs.YtaecbmjmcpdgdaaGreat.Ab
inductive D where
  | i (n : Int) | b (x : Bool) | s (x : ByteArray) | l (rows : List (List D))
  deriving Inhabited
inductive CT where
  | i (k : IntKind) | b | s | l (e : TypeId)
  deriving DecidableEq, Inhabited, Repr
inductive Loc where
  | slot (t : Nat) | cell (t j : Nat) | gen (t : Nat)
  deriving DecidableEq, Inhabited, Repr
inductive CV where
  | i (k : IntKind) (n : Int) | b (x : Bool) | s (x : ByteArray)
  | sl (own : Bool) (e : TypeId) (rows : List (List D))
  | al (q : Loc) (j : Nat) (n : Nat)
  | dead
  deriving Inhabited
inductive SV where
  | none
  | val (agg : Bool) (cs : List CV)
  | tup (vs : List (Bool × List CV))
  | ptr (t g off : Nat)
  | rptr (cs : List (CT × D))
  | optr (q : Loc) (j n : Nat) (k c off : Nat)
  | num (size : Nat)
  deriving Inhabited
abbrev V := Nat × SV
abbrev St := Loc → V
def updw (b : Nat) (σ : St) (l : Loc) (x : SV) : St := fun l' => if l' = l then ((σ l).1 + b, x) else σ l'
abbrev upd (σ : St) (l : Loc) (x : SV) : St := updw 1 σ l x
abbrev updm (σ : St) (l : Loc) (x : SV) : St := updw 0 σ l x
inductive Pg where
  | done | fail
  | get (l : Loc) (k : V → Pg)
  | set (b : Nat) (l : Loc) (x : SV) (k : Pg)
  | chk (c : Prop) (k : Pg)
  | br (x : Bool) (a b : Pg)
namespace Pg
open Classical in
noncomputable def exec : Pg → St → Option St
  | .done, σ => some σ
  | .fail, _ => none
  | .get l k, σ => (k (σ l)).exec σ
  | .set b l x k, σ => k.exec (updw b σ l x)
  | .chk c k, σ => if c then k.exec σ else none
  | .br x a b, σ => match x with | true => a.exec σ | false => b.exec σ
def reads : Pg → St → List Loc
  | .get l k, σ => l :: (k (σ l)).reads σ
  | .set b l x k, σ => l :: k.reads (updw b σ l x)
  | .chk _ k, σ => k.reads σ
  | .br x a b, σ => match x with | true => a.reads σ | false => b.reads σ
  | _, _ => []
def writes : Pg → St → List Loc
  | .get l k, σ => (k (σ l)).writes σ
  | .set b l x k, σ => l :: k.writes (updw b σ l x)
  | .chk _ k, σ => k.writes σ
  | .br x a b, σ => match x with | true => a.writes σ | false => b.writes σ
  | _, _ => []
def wp : Pg → (St → Prop) → St → Prop
  | .done, Q, σ => Q σ
  | .fail, _, _ => False
  | .get l k, Q, σ => (k (σ l)).wp Q σ
  | .set b l x k, Q, σ => k.wp Q (updw b σ l x)
  | .chk c k, Q, σ => c ∧ k.wp Q σ
  | .br x a b, Q, σ => (x = true → a.wp Q σ) ∧ (x = false → b.wp Q σ)
theorem wp_exec : ∀ (p : Pg) {Q : St → Prop} {σ : St}, p.wp Q σ → ∃ σ', p.exec σ = some σ' ∧ Q σ'
  | .done, _, σ, h => ⟨σ, rfl, h⟩
  | .fail, _, _, h => h.elim
  | .get l k, _, σ, h => wp_exec (k (σ l)) (h : (k (σ l)).wp _ σ)
  | .set b l x k, _, σ, h => wp_exec k (h : k.wp _ (updw b σ l x))
  | .chk c k, _, σ, h => by
    obtain ⟨σ', h1, h2⟩ := wp_exec k h.2
    exact ⟨σ', by simp only [exec]; rw [if_pos h.1]; exact h1, h2⟩
  | .br true a b, _, σ, h => wp_exec a (h.1 rfl)
  | .br false a b, _, σ, h => wp_exec b (h.2 rfl)
theorem exec_wp : ∀ (p : Pg) {Q : St → Prop} {σ σ' : St}, p.exec σ = some σ' → Q σ' → p.wp Q σ
  | .done, _, σ, σ', h, hq => by simp only [exec, Option.some.injEq] at h; subst h; exact hq
  | .fail, _, _, _, h, _ => by simp [exec] at h
  | .get l k, _, σ, _, h, hq => exec_wp (k (σ l)) (h : (k (σ l)).exec σ = _) hq
  | .set b l x k, _, σ, _, h, hq => exec_wp k (h : k.exec (updw b σ l x) = _) hq
  | .chk c k, _, σ, σ', h, hq => by
    simp only [exec] at h
    split at h
    · rename_i hc; exact ⟨hc, exec_wp k h hq⟩
    · simp at h
  | .br true a b, _, σ, _, h, hq => ⟨fun _ => exec_wp a h hq, fun h => by cases h⟩
  | .br false a b, _, σ, _, h, hq => ⟨fun h => (by cases h), fun _ => exec_wp b h hq⟩
theorem writes_reads : ∀ (p : Pg) (σ : St) (l : Loc), l ∈ p.writes σ → l ∈ p.reads σ
  | .done, _, _, h => by simp [writes] at h
  | .fail, _, _, h => by simp [writes] at h
  | .get l' k, σ, l, h => by
    simp only [reads, List.mem_cons]; exact .inr (writes_reads (k (σ l')) σ l h)
  | .set b l' x k, σ, l, h => by
    simp only [writes, List.mem_cons] at h
    simp only [reads, List.mem_cons]
    exact h.imp id (writes_reads k _ l)
  | .chk _ k, σ, l, h => writes_reads k σ l h
  | .br true a _, σ, l, h => writes_reads a σ l h
  | .br false _ b, σ, l, h => writes_reads b σ l h
theorem exec_keeps : ∀ (p : Pg) {σ σ' : St} (l : Loc), p.exec σ = some σ' → l ∉ p.writes σ → σ' l = σ l
  | .done, σ, σ', l, h, _ => by simp only [exec, Option.some.injEq] at h; rw [h]
  | .fail, _, _, _, h, _ => by simp [exec] at h
  | .get l' k, σ, σ', l, h, hn => exec_keeps (k (σ l')) l h hn
  | .set b l' x k, σ, σ', l, h, hn => by
    simp only [writes, List.mem_cons, not_or] at hn
    rw [exec_keeps k l h hn.2]
    simp [updw, hn.1]
  | .chk c k, σ, σ', l, h, hn => by
    simp only [exec] at h
    split at h
    · exact exec_keeps k l h hn
    · simp at h
  | .br true a _, _, _, l, h, hn => exec_keeps a l h hn
  | .br false _ b, _, _, l, h, hn => exec_keeps b l h hn
theorem exec_same : ∀ (p : Pg) {σ σ' τ : St}, p.exec σ = some σ' → (∀ l ∈ p.reads σ, τ l = σ l) →
    ∃ τ', p.exec τ = some τ' ∧ p.reads τ = p.reads σ ∧ p.writes τ = p.writes σ ∧ (∀ l ∈ p.writes σ, τ' l = σ' l)
  | .done, σ, σ', τ, _, _ => ⟨τ, rfl, rfl, rfl, by simp [writes]⟩
  | .fail, _, _, _, h, _ => by simp [exec] at h
  | .get l k, σ, σ', τ, h, ha => by
    have e : τ l = σ l := ha l (by simp [reads])
    obtain ⟨τ', h1, h2, h3, h4⟩ := exec_same (k (σ l)) (τ := τ) h (fun l' hl' => ha l' (by simp [reads, hl']))
    exact ⟨τ', by simp only [exec]; rw [e]; exact h1, by simp only [reads]; rw [e, h2], by simp only [writes]; rw [e]; exact h3, h4⟩
  | .set b l x k, σ, σ', τ, h, ha => by
    have e : τ l = σ l := ha l (by simp [reads])
    have ha' : ∀ l' ∈ k.reads (updw b σ l x), updw b τ l x l' = updw b σ l x l' := by
      intro l' hl'
      unfold updw
      split
      · rw [e]
      · exact ha l' (by simp [reads, hl'])
    obtain ⟨τ', h1, h2, h3, h4⟩ := exec_same k (τ := updw b τ l x) h ha'
    refine ⟨τ', h1, by simp only [reads]; rw [h2], by simp only [writes]; rw [h3], fun l' hl' => ?_⟩
    simp only [writes, List.mem_cons] at hl'
    by_cases hw : l' ∈ k.writes (updw b σ l x)
    · exact h4 l' hw
    · rcases hl' with rfl | hl'
      · rw [exec_keeps k l' h1 (by rw [h3]; exact hw), exec_keeps k l' h hw]
        simp [updw, e]
      · exact absurd hl' hw
  | .chk c k, σ, σ', τ, h, ha => by
    simp only [exec] at h
    split at h
    · rename_i hc
      obtain ⟨τ', h1, h2, h3, h4⟩ := exec_same k (τ := τ) h ha
      exact ⟨τ', by simp only [exec]; rw [if_pos hc]; exact h1, h2, h3, h4⟩
    · simp at h
  | .br true a b, σ, σ', τ, h, ha => exec_same a (τ := τ) h ha
  | .br false a b, σ, σ', τ, h, ha => exec_same b (τ := τ) h ha
def lt (d N : Nat) (k : Pg) : Pg := if d < N then k else .fail
theorem lt_wp {d N : Nat} {k : Pg} {Q : St → Prop} {σ : St} (h : (lt d N k).wp Q σ) : d < N ∧ k.wp Q σ := by
  unfold lt at h
  split at h
  · rename_i hd; exact ⟨hd, h⟩
  · exact h.elim
end Pg
def natK (n : Nat) (K : Nat → Pg) : Pg :=
  if n = 0 then K 0 else if n = 1 then K 1 else if n = 2 then K 2 else if n = 3 then K 3 else if n = 4 then K 4 else if n = 5 then K 5 else if n = 6 then K 6 else if n = 7 then K 7 else K n
theorem natK_eq (n : Nat) (K : Nat → Pg) : natK n K = K n := by
  unfold natK
  repeat' split
  all_goals first | rfl | (rename_i h; rw [h])
def CV.force (c : CV) (K : CV → Pg) : Pg :=
  match c with
  | .i k n => K (.i k n)
  | .b x => K (.b x)
  | .s x => K (.s x)
  | .sl true e r => K (.sl true e r)
  | .sl false e r => K (.sl false e r)
  | .al q j n => natK n fun n => K (.al q j n)
  | .dead => K .dead
theorem CV.force_eq (c : CV) (K : CV → Pg) : c.force K = K c := by
  cases c with
  | sl own e r => cases own <;> rfl
  | al q j n => exact natK_eq n fun n => K (.al q j n)
  | _ => rfl
def forceL : List CV → (List CV → Pg) → Pg
  | [], K => K []
  | c :: r, K => c.force fun c => forceL r fun r => K (c :: r)
theorem forceL_eq : ∀ (cs : List CV) (K : List CV → Pg), forceL cs K = K cs
  | [], _ => rfl
  | c :: r, K => by unfold forceL; rw [CV.force_eq, forceL_eq]
def forceT : List (Bool × List CV) → (List (Bool × List CV) → Pg) → Pg
  | [], K => K []
  | (true, cs) :: r, K => forceL cs fun cs => forceT r fun r => K ((true, cs) :: r)
  | (false, cs) :: r, K => forceL cs fun cs => forceT r fun r => K ((false, cs) :: r)
theorem forceT_eq : ∀ (vs : List (Bool × List CV)) (K : List (Bool × List CV) → Pg), forceT vs K = K vs
  | [], _ => rfl
  | (true, cs) :: r, K => by unfold forceT; rw [forceL_eq, forceT_eq]
  | (false, cs) :: r, K => by unfold forceT; rw [forceL_eq, forceT_eq]
def forceP : List (CT × D) → (List (CT × D) → Pg) → Pg
  | [], K => K []
  | (ct, d) :: r, K => forceP r fun r => K ((ct, d) :: r)
theorem forceP_eq : ∀ (vs : List (CT × D)) (K : List (CT × D) → Pg), forceP vs K = K vs
  | [], _ => rfl
  | (ct, d) :: r, K => by unfold forceP; rw [forceP_eq]
def SV.force (s : SV) (K : SV → Pg) : Pg :=
  match s with
  | .val true cs => forceL cs fun cs => K (.val true cs)
  | .val false cs => forceL cs fun cs => K (.val false cs)
  | .tup vs => forceT vs fun vs => K (.tup vs)
  | .ptr t g p => natK g fun g => natK p fun p => K (.ptr t g p)
  | .rptr ps => forceP ps fun ps => K (.rptr ps)
  | .optr q j n k c p => natK n fun n => K (.optr q j n k c p)
  | .none => K .none
  | .num m => K (.num m)
theorem SV.force_eq (s : SV) (K : SV → Pg) : s.force K = K s := by
  cases s with
  | val ag cs => cases ag <;> exact forceL_eq cs _
  | tup vs => exact forceT_eq vs _
  | ptr t g p => unfold SV.force; simp only [natK_eq]
  | rptr ps => exact forceP_eq ps _
  | optr q j n k c p => exact natK_eq n fun n => K (.optr q j n k c p)
  | _ => rfl
def Pg.setF (b : Nat) (l : Loc) (x : SV) (k : Pg) : Pg := x.force fun x => .set b l x k
theorem Pg.setF_eq (b : Nat) (l : Loc) (x : SV) (k : Pg) : Pg.setF b l x k = .set b l x k := SV.force_eq x _
section orders
variable {n : Nat} {p : Nat → Pg} {σs : Nat → St} (run : ∀ i, i < n → (p i).exec (σs i) = some (σs (i + 1)))
include run
theorem run_keeps {l : Loc} {i j : Nat} (hij : i ≤ j) (hj : j ≤ n) (h : ∀ k, i ≤ k → k < j → l ∉ (p k).writes (σs k)) : σs j l = σs i l := by
  induction j with
  | zero => obtain rfl : i = 0 := by omega
            rfl
  | succ j ih =>
    by_cases e : i = j + 1
    · rw [e]
    · rw [Pg.exec_keeps (p j) l (run j (by omega)) (h j (by omega) (by omega))]
      exact ih (by omega) (by omega) (fun k h1 h2 => h k h1 (by omega))
omit run in
structure After (n : Nat) (p : Nat → Pg) (σs : Nat → St) (S : Nat → Prop) (σ : St) : Prop where
  first : ∀ l, (∀ i, i < n → S i → l ∉ (p i).writes (σs i)) → σ l = σs 0 l
  last : ∀ i, i < n → S i → ∀ l, l ∈ (p i).writes (σs i) → (∀ i', i < i' → i' < n → S i' → l ∉ (p i').writes (σs i')) → σ l = σs (i + 1) l
omit run in
theorem max_below (n : Nat) (Q : Nat → Prop) : (∀ i, i < n → ¬ Q i) ∨ ∃ i, i < n ∧ Q i ∧ ∀ i', i < i' → i' < n → ¬ Q i' := by
  induction n with
  | zero => exact .inl fun i h => absurd h (by omega)
  | succ n ih =>
    by_cases hq : Q n
    · exact .inr ⟨n, by omega, hq, fun i' h1 h2 => absurd h2 (by omega)⟩
    · rcases ih with h | ⟨i, h1, h2, h3⟩
      · exact .inl fun i hi => if e : i = n then e ▸ hq else h i (by omega)
      · exact .inr ⟨i, by omega, h2, fun i' h4 h5 => if e : i' = n then e ▸ hq else h3 i' h4 (by omega)⟩
theorem After.step {S S' : Nat → Prop} {σ : St} {bef : Nat → Nat → Prop} (h : After n p σs S σ) {j : Nat} (hj : j < n) (hS : ¬ S j)
    (hS' : ∀ i, S' i ↔ S i ∨ i = j)
    (hready : ∀ i, i < n → bef i j → S i) (hclosed : ∀ i, i < n → S i → ∀ k, k < n → bef k i → S k)
    (apart : ∀ i k, i < k → k < n → ¬ bef i k → (∀ l ∈ (p i).writes (σs i), l ∉ (p k).reads (σs k)) ∧ (∀ l ∈ (p k).writes (σs k), l ∉ (p i).reads (σs i))) :
    ∃ σ', (p j).exec σ = some σ' ∧ After n p σs S' σ' := by
  have later : ∀ l, l ∈ (p j).reads (σs j) → ∀ i', j < i' → i' < n → S i' → l ∉ (p i').writes (σs i') := by
    intro l hl i' h1 h2 h3 hw
    by_cases hb : bef j i'
    · exact hS (hclosed i' h2 h3 j hj hb)
    · exact (apart j i' h1 h2 hb).2 l hw hl
  have agree : ∀ l ∈ (p j).reads (σs j), σ l = σs j l := by
    intro l hl
    rcases max_below j (fun i => l ∈ (p i).writes (σs i)) with hno | ⟨i, hi, hw, hmax⟩
    · rw [run_keeps run (Nat.zero_le j) (Nat.le_of_lt hj) (fun k _ hk => hno k hk)]
      refine h.first l fun i hi hs => ?_
      rcases Nat.lt_trichotomy i j with h1 | h1 | h1
      · exact hno i h1
      · exact absurd (h1 ▸ hs) hS
      · exact later l hl i h1 hi hs
    · have hb : bef i j := Classical.byContradiction fun hb => (apart i j hi hj hb).1 l hw hl
      have hs : S i := hready i (by omega) hb
      rw [h.last i (by omega) hs l hw (fun i' h1 h2 h3 => ?_)]
      · exact (run_keeps run (by omega) (Nat.le_of_lt hj) (fun k h1 h2 => hmax k (by omega) h2)).symm
      · rcases Nat.lt_trichotomy i' j with h4 | h4 | h4
        · exact hmax i' h1 h4
        · exact absurd (h4 ▸ h3) hS
        · exact later l hl i' h4 h2 h3
  obtain ⟨σ', h1, _, h3, h4⟩ := Pg.exec_same (p j) (run j hj) agree
  refine ⟨σ', h1, ⟨fun l hl => ?_, fun i hi hs l hl hmax => ?_⟩⟩
  · have hnj : l ∉ (p j).writes (σs j) := hl j hj ((hS' j).2 (.inr rfl))
    rw [Pg.exec_keeps (p j) l h1 (by rw [h3]; exact hnj)]
    exact h.first l fun i hi hs => hl i hi ((hS' i).2 (.inl hs))
  · by_cases hwj : l ∈ (p j).writes (σs j)
    · have hr := Pg.writes_reads _ _ _ hwj
      rcases Nat.lt_trichotomy i j with h5 | h5 | h5
      · exact absurd hwj (hmax j h5 hj ((hS' j).2 (.inr rfl)))
      · subst h5; exact h4 l hwj
      · have hsi : S i := ((hS' i).1 hs).resolve_right (by omega)
        exact absurd hl (later l hr i h5 hi hsi)
    · rw [Pg.exec_keeps (p j) l h1 (by rw [h3]; exact hwj)]
      have hne : i ≠ j := fun e => hwj (e ▸ hl)
      exact h.last i hi (((hS' i).1 hs).resolve_right hne) l hl (fun i' a b c => hmax i' a b ((hS' i').2 (.inl c)))
theorem After.all {S : Nat → Prop} {σ : St} (h : After n p σs S σ) (hS : ∀ i, i < n → S i) : σ = σs n := by
  funext l
  rcases max_below n (fun i => l ∈ (p i).writes (σs i)) with hno | ⟨i, hi, hw, hmax⟩
  · rw [h.first l fun i hi _ => hno i hi]
    exact (run_keeps run (Nat.zero_le n) (Nat.le_refl n) (fun k _ hk => hno k hk)).symm
  · rw [h.last i hi (hS i hi) l hw (fun i' h1 h2 _ => hmax i' h1 h2)]
    exact (run_keeps run (by omega) (Nat.le_refl n) (fun k h1 h2 => hmax k (by omega) h2)).symm
omit run in
theorem After.start : After n p σs (fun _ => False) (σs 0) := ⟨fun _ _ => rfl, fun _ _ h => h.elim⟩
end orders
end Go.Proofs.YtaecbmjmcpdgdaaGreat.Ab
namespace Go.Proofs.YtaecbmjmcpdgdaaGreat.Ab
open Go.RowKit
structure Ty where
  agg : Bool
  cts : List CT
  offs : List (Nat × Nat)
  elem : TypeId
  bytes : Nat
  eq : Bool
  deriving Inhabited
structure Tab where
  f : TypeId → Option Ty
  gl : List (Nat × List (CT × D))
  ifs : List (Nat × Bool) := []
  dp : Bool := false
instance : CoeFun Tab (fun _ => TypeId → Option Ty) := ⟨Tab.f⟩
def flatT (T : Tab) (e : TypeId) : Bool :=
  match T e with
  | some te => te.cts.all fun | .l _ => false | _ => true
  | none => false
def dpT (T : Tab) (e : TypeId) : Bool := T.dp && !flatT T e
def inK (k : IntKind) (n : Int) : Prop := k.min ≤ n ∧ n ≤ k.max
inductive RdR (T : Tab) (w : World) (X : Nat → Prop) : CT → Value → D → Prop
  | int (k n) : inK k n → RdR T w X (.i k) (.int k n) (.i n)
  | bool (x) : RdR T w X .b (.bool x) (.b x)
  | str (x) : x.size ≤ maxLen → RdR T w X .s (.string x) (.s x)
  | nil (e A c) : c ≤ maxLen → RdR T w X (.l e) (.slice A 0 c) (.l [])
  | sl (e : TypeId) (ty : Ty) (b o c : Nat) (rows : List (List D)) (vs : Nat → Nat → Value) : T e = some ty → rows.length ≤ c → c ≤ maxLen → ¬ X b → b < w.heap.size →
      (∀ k j, k < rows.length → j < ty.cts.length → w.cell? ⟨b, o + k * ty.cts.length + j, none⟩ = some (vs k j)) →
      (∀ (k : Nat) (row : List D), rows[k]? = some row → row.length = ty.cts.length) →
      (∀ (k j : Nat) ct d (row : List D), rows[k]? = some row → ty.cts[j]? = some ct → row[j]? = some d → RdR T w X ct (vs k j) d) →
      RdR T w X (.l e) (.slice (some ⟨b, o, none⟩) rows.length c) (.l rows)
def Keeps (w w' : World) (c : Nat → Prop) : Prop := w.heap.size ≤ w'.heap.size ∧ ∀ b, b < w.heap.size → ¬ c b → w'.heap[b]? = w.heap[b]?
theorem RdR.move {T : Tab} {w w' : World} {X X' : Nat → Prop} {ct : CT} {v : Value} {d : D} (h : RdR T w X ct v d) (hk : Keeps w w' X) (hx : ∀ b, b < w.heap.size → X' b → X b) : RdR T w' X' ct v d := by
  induction h with
  | int k n h => exact .int k n h
  | bool x => exact .bool x
  | str x h => exact .str x h
  | nil e A c h => exact .nil e A c h
  | sl e ty b o c rows vs h1 h2 h3 h4 h5 h6 h7 _ ih =>
    refine .sl e ty b o c rows vs h1 h2 h3 (fun hb => h4 (hx b h5 hb)) (Nat.lt_of_lt_of_le h5 hk.1) (fun k j hk' hj => ?_) h7 ih
    rw [World.cell?_of_block (w := w) (hk.2 b h5 h4)]
    exact h6 k j hk' hj
def GlR0 (T : Tab) (w : World) (X : Nat → Prop) : Prop :=
  ∀ p ∈ T.gl, ¬ X p.1 ∧ p.1 < w.heap.size ∧ (∃ cur e fz, w.heap[p.1]? = some (.cells cur e fz) ∧ cur.size = p.2.length) ∧ ∀ (j : Nat) (q : CT × D), p.2[j]? = some q → ∃ u, w.cell? ⟨p.1, j, none⟩ = some u ∧ RdR T w X q.1 u q.2
theorem GlR0.move {T : Tab} {w w' : World} {X X' : Nat → Prop} (h : GlR0 T w X) (hk : Keeps w w' X) (hx : ∀ b, b < w.heap.size → X' b → X b) : GlR0 T w' X' := by
  intro p hp
  obtain ⟨h1, h2, ⟨cur, e, fz, h4, h5⟩, h3⟩ := h p hp
  refine ⟨fun hb => h1 (hx _ h2 hb), Nat.lt_of_lt_of_le h2 hk.1, ⟨cur, e, fz, (hk.2 _ h2 h1).trans h4, h5⟩, fun j q hj => ?_⟩
  obtain ⟨u, hu, hr⟩ := h3 j q hj
  exact ⟨u, (World.cell?_of_block (w := w) (hk.2 _ h2 h1)).trans hu, hr.move hk hx⟩
theorem RdR.one {T : Tab} {w : World} {X : Nat → Prop} {ct : CT} {v : Value} {d : D} (h : RdR T w X ct v d) : v.oneCell' = true := by
  cases h <;> rfl
theorem RdR.cells {T : Tab} {w : World} {X : Nat → Prop} {ct : CT} {v : Value} {d : D} (h : RdR T w X ct v d) : v.cells = #[v] := by
  cases h <;> rfl
def ifB (k : Bool) (u : Value) : Prop := match k with
  | true => ∃ t x, u = .iface t x
  | false => ∃ m, u = .int .i64 m
def GlR (T : Tab) (w : World) (X : Nat → Prop) : Prop :=
  GlR0 T w X ∧ ∀ g ∈ T.ifs, ¬ X g.1 ∧ g.1 < w.heap.size ∧ ∃ u, w.cell? ⟨g.1, 0, none⟩ = some u ∧ ifB g.2 u
theorem GlR.move {T : Tab} {w w' : World} {X X' : Nat → Prop} (h : GlR T w X) (hk : Keeps w w' X) (hx : ∀ b, b < w.heap.size → X' b → X b) : GlR T w' X' := by
  refine ⟨h.1.move hk hx, fun g hg => ?_⟩
  obtain ⟨h1, h2, u, h3, h4⟩ := h.2 g hg
  exact ⟨fun hb => h1 (hx _ h2 hb), Nat.lt_of_lt_of_le h2 hk.1, u, (World.cell?_of_block (w := w) (hk.2 _ h2 h1)).trans h3, h4⟩
def Own (T : Tab) (w : World) (X : Nat → Prop) (B : Nat) (e : TypeId) (v : Value) (rows : List (List D)) : Prop :=
  ∃ ty xs, T e = some ty ∧ w.ownsRow B e ty.cts.length v rows.length xs ∧ (∀ (k : Nat) (row : List D), rows[k]? = some row → row.length = ty.cts.length) ∧
    ∀ (k j : Nat) ct d (row : List D), rows[k]? = some row → ty.cts[j]? = some ct → row[j]? = some d → ∃ u, xs[k * ty.cts.length + j]? = some u ∧ RdR T w X ct u d
theorem Own.move {T : Tab} {w w' : World} {X X' : Nat → Prop} {B : Nat} {e : TypeId} {v : Value} {rows : List (List D)} (h : Own T w X B e v rows)
    (hk : Keeps w w' X) (hx : ∀ b, b < w.heap.size → X' b → X b) (hb : ∀ b, v.ownBlock = some b → w'.heap[b]? = w.heap[b]?) : Own T w' X' B e v rows := by
  obtain ⟨ty, xs, h1, h2, h3, h4⟩ := h
  refine ⟨ty, xs, h1, ⟨h2.1, ?_⟩, h3, fun k j ct d row a b c => ?_⟩
  · rcases h2.2 with h | ⟨g, cap, cur, e1, e2, e3, rest⟩
    · exact .inl h
    · exact .inr ⟨g, cap, cur, e1, e2, by rw [hb g (by rw [e1]; rfl)]; exact e3, rest⟩
  · obtain ⟨u, hu, hr⟩ := h4 k j ct d row a b c
    exact ⟨u, hu, hr.move hk hx⟩
theorem Own.slice {T : Tab} {w : World} {X : Nat → Prop} {B : Nat} {e : TypeId} {v : Value} {rows : List (List D)} (h : Own T w X B e v rows) : ∃ A c, v = .slice A rows.length c := by
  obtain ⟨ty, xs, h1, h2, _⟩ := h
  rcases h2.2 with ⟨h, hn⟩ | ⟨g, cap, cur, e1, _⟩
  · exact ⟨none, 0, by rw [hn]; exact h⟩
  · exact ⟨_, _, e1⟩
theorem Own.one {T : Tab} {w : World} {X : Nat → Prop} {B : Nat} {e : TypeId} {v : Value} {rows : List (List D)} (h : Own T w X B e v rows) : v.oneCell' = true := by
  obtain ⟨A, c, rfl⟩ := h.slice; rfl
theorem Own.cells {T : Tab} {w : World} {X : Nat → Prop} {B : Nat} {e : TypeId} {v : Value} {rows : List (List D)} (h : Own T w X B e v rows) : v.cells = #[v] := by
  obtain ⟨A, c, rfl⟩ := h.slice; rfl
theorem Own.shared {T : Tab} {w : World} {X X' : Nat → Prop} {B : Nat} {e : TypeId} {v : Value} {rows : List (List D)} (h : Own T w X B e v rows)
    (hx : ∀ b, b < w.heap.size → X' b → X b) (hb : ∀ b, v.ownBlock = some b → ¬ X' b) : RdR T w X' (.l e) v (.l rows) := by
  obtain ⟨ty, xs, h1, h2, h3, h4⟩ := h
  have hlen := h2.1
  rcases h2.2 with ⟨rfl, hn⟩ | ⟨g, cap, cur, rfl, e2, e3, e4, e5, e6, e7⟩
  · obtain rfl : rows = [] := List.length_eq_zero_iff.1 hn
    exact .nil e none 0 (Nat.zero_le _)
  · refine .sl e ty g 0 cap rows (fun k j => xs.getD (k * ty.cts.length + j) undef) h1 e4 e5 (hb g rfl) (Array.getElem?_eq_some_iff.1 e3).1 (fun k j hk hj => ?_) h3 (fun k j ct d row a b c => ?_)
    · have hlt : k * ty.cts.length + j < xs.length := by
        rw [hlen]
        have : k * ty.cts.length + ty.cts.length ≤ rows.length * ty.cts.length := by rw [← Nat.succ_mul]; exact Nat.mul_le_mul_right _ hk
        omega
      have := h2.cells (g := g) rfl (k * ty.cts.length + j) xs[k * ty.cts.length + j] (List.getElem?_eq_getElem hlt)
      rw [Addr.add_mid] at this
      rw [Nat.zero_add] at this ⊢
      rw [this]
      simp [List.getD_eq_getElem?_getD, List.getElem?_eq_getElem hlt]
    · obtain ⟨u, hu, hr⟩ := h4 k j ct d row a b c
      show RdR T w X' ct (xs.getD _ undef) d
      rw [List.getD_eq_getElem?_getD, hu]
      exact hr.move ⟨Nat.le_refl _, fun _ _ _ => rfl⟩ hx
inductive DeepV (T : Tab) (w : World) : (Nat → Prop) → CT → Value → D → Prop
  | flat (F : Nat → Prop) (ct : CT) (v : Value) (d : D) : (∀ b, ¬ F b) → (∀ e, ct ≠ .l e) → RdR T w (fun _ => False) ct v d → DeepV T w F ct v d
  | sl (F : Nat → Prop) (e : TypeId) (ty : Ty) (v : Value) (rows : List (List D)) (xs : List Value) (G : Nat → Nat → Prop) : T e = some ty → w.ownsRow 0 e ty.cts.length v rows.length xs →
      (∀ (k : Nat) (row : List D), rows[k]? = some row → row.length = ty.cts.length) →
      (∀ b, F b ↔ v.ownBlock = some b ∨ ∃ i, G i b) → (∀ i b, G i b → v.ownBlock ≠ some b ∧ i < rows.length * ty.cts.length) → (∀ i i' b, G i b → G i' b → i = i') →
      (∀ (k j : Nat) ct d (row : List D), rows[k]? = some row → ty.cts[j]? = some ct → row[j]? = some d → DeepV T w (G (k * ty.cts.length + j)) ct (xs.getD (k * ty.cts.length + j) undef) d) →
      DeepV T w F (.l e) v (.l rows)
theorem DeepV.lt {T : Tab} {w : World} {F : Nat → Prop} {ct : CT} {v : Value} {d : D} (h : DeepV T w F ct v d) : ∀ b, F b → b < w.heap.size := by
  induction h with
  | flat F ct v d h1 => exact fun b hb => (h1 b hb).elim
  | sl F e ty v rows xs G h1 h2 h3 h4 h5 h6 _ ih =>
    intro b hb
    rcases (h4 b).1 hb with h | ⟨i, hi⟩
    · exact (h2.lt b h).2
    · have hlt := (h5 i b hi).2
      have hn : 0 < ty.cts.length := Nat.pos_of_ne_zero fun e => by rw [e] at hlt; omega
      have hk : i / ty.cts.length < rows.length := Nat.div_lt_of_lt_mul (by rwa [Nat.mul_comm])
      have hj : i % ty.cts.length < ty.cts.length := Nat.mod_lt _ hn
      have hr := h3 _ _ (List.getElem?_eq_getElem hk)
      have he : i / ty.cts.length * ty.cts.length + i % ty.cts.length = i := by rw [Nat.mul_comm]; exact Nat.div_add_mod ..
      exact ih (i / ty.cts.length) (i % ty.cts.length) _ _ _ (List.getElem?_eq_getElem hk) (List.getElem?_eq_getElem hj) (List.getElem?_eq_getElem (by rw [hr]; exact hj)) b (by rw [he]; exact hi)
theorem RdR.plain {T : Tab} {w w' : World} {X X' : Nat → Prop} {ct : CT} {v : Value} {d : D} (h : RdR T w X ct v d) (hc : ∀ e, ct ≠ .l e) : RdR T w' X' ct v d := by
  cases h with
  | int k n h => exact .int k n h
  | bool x => exact .bool x
  | str x h => exact .str x h
  | nil e A c h => exact absurd rfl (hc e)
  | sl e ty b o c rows vs h1 h2 h3 h4 h5 h6 h7 h8 => exact absurd rfl (hc e)
theorem ownsRow_move {w w' : World} {B : Nat} {e : TypeId} {n : Nat} {v : Value} {k : Nat} {xs : List Value} (h : w.ownsRow B e n v k xs) (hb : ∀ b, v.ownBlock = some b → w'.heap[b]? = w.heap[b]?) : w'.ownsRow B e n v k xs := by
  refine ⟨h.1, ?_⟩
  rcases h.2 with h | ⟨g, cap, cur, e1, e2, e3, rest⟩
  · exact .inl h
  · exact .inr ⟨g, cap, cur, e1, e2, by rw [hb g (by rw [e1]; rfl)]; exact e3, rest⟩
theorem DeepV.move {T : Tab} {w w' : World} {F : Nat → Prop} {ct : CT} {v : Value} {d : D} (h : DeepV T w F ct v d) : (∀ b, F b → w'.heap[b]? = w.heap[b]?) → DeepV T w' F ct v d := by
  induction h with
  | flat F ct v d h1 h2 h3 => exact fun _ => .flat F ct v d h1 h2 (h3.plain h2)
  | sl F e ty v rows xs G h1 h2 h3 h4 h5 h6 _ ih =>
    intro hb
    refine .sl F e ty v rows xs G h1 (ownsRow_move h2 fun b h => hb b ((h4 b).2 (.inl h))) h3 h4 h5 h6 fun k j ct d row a b c => ih k j ct d row a b c fun x hx => hb x ((h4 x).2 (.inr ⟨_, hx⟩))
theorem DeepV.inv {T : Tab} {w : World} {F : Nat → Prop} {e : TypeId} {v : Value} {rows : List (List D)} (h : DeepV T w F (.l e) v (.l rows)) :
    ∃ (ty : Ty) (xs : List Value) (G : Nat → Nat → Prop), T e = some ty ∧ w.ownsRow 0 e ty.cts.length v rows.length xs ∧ (∀ (k : Nat) (row : List D), rows[k]? = some row → row.length = ty.cts.length) ∧
      (∀ b, F b ↔ v.ownBlock = some b ∨ ∃ i, G i b) ∧ (∀ (i b : Nat), G i b → v.ownBlock ≠ some b ∧ i < rows.length * ty.cts.length) ∧ (∀ (i i' b : Nat), G i b → G i' b → i = i') ∧
      (∀ (k j : Nat) ct d (row : List D), rows[k]? = some row → ty.cts[j]? = some ct → row[j]? = some d → DeepV T w (G (k * ty.cts.length + j)) ct (xs.getD (k * ty.cts.length + j) undef) d) := by
  generalize hc : CT.l e = ct at h
  generalize hd : D.l rows = d at h
  cases h with
  | flat F ct v d h1 h2 => exact absurd hc.symm (h2 e)
  | sl F e' ty v rows' xs G h1 h2 h3 h4 h5 h6 h7 =>
    cases hc; cases hd
    exact ⟨ty, xs, G, h1, h2, h3, h4, h5, h6, h7⟩
theorem DeepV.plainR {T : Tab} {w : World} {F X : Nat → Prop} {ct : CT} {v : Value} {d : D} (h : DeepV T w F ct v d) (hc : ∀ e, ct ≠ .l e) : RdR T w X ct v d := by
  cases h with
  | flat F ct v d h1 h2 h3 => exact h3.plain h2
  | sl F e ty v rows xs G => exact absurd rfl (hc e)
theorem DeepV.noF {T : Tab} {w : World} {F : Nat → Prop} {ct : CT} {v : Value} {d : D} (h : DeepV T w F ct v d) (hc : ∀ e, ct ≠ .l e) : ∀ b, ¬ F b := by
  cases h with
  | flat F ct v d h1 h2 h3 => exact h1
  | sl F e ty v rows xs G => exact absurd rfl (hc e)
theorem DeepV.slice {T : Tab} {w : World} {F : Nat → Prop} {e : TypeId} {v : Value} {rows : List (List D)} (h : DeepV T w F (.l e) v (.l rows)) : ∃ A c, v = .slice A rows.length c := by
  generalize hc : CT.l e = ct at h
  generalize hd : D.l rows = d at h
  cases h with
  | flat F ct v d h1 h2 => exact absurd hc.symm (h2 e)
  | sl F e' ty v rows' xs G h1 h2 =>
    cases hc; cases hd
    rcases h2.2 with ⟨h, hn⟩ | ⟨g, cap, cur, e1, _⟩
    · exact ⟨none, 0, by rw [hn]; exact h⟩
    · exact ⟨_, _, e1⟩
theorem DeepV.shared {T : Tab} {w : World} {F X' : Nat → Prop} {ct : CT} {v : Value} {d : D} (h : DeepV T w F ct v d) : (∀ b, F b → ¬ X' b) → RdR T w X' ct v d := by
  induction h with
  | flat F ct v d h1 h2 h3 => exact fun _ => h3.plain h2
  | sl F e ty v rows xs G h1 h2 h3 h4 h5 h6 _ ih =>
    intro hb
    have hlen := h2.1
    rcases h2.2 with ⟨rfl, hn⟩ | ⟨g, cap, cur, rfl, e2, e3, e4, e5, e6, e7⟩
    · obtain rfl : rows = [] := List.length_eq_zero_iff.1 hn
      exact .nil e none 0 (Nat.zero_le _)
    · refine .sl e ty g 0 cap rows (fun k j => xs.getD (k * ty.cts.length + j) undef) h1 e4 e5 (hb g ((h4 g).2 (.inl rfl))) (Array.getElem?_eq_some_iff.1 e3).1 (fun k j hk hj => ?_) h3 (fun k j ct d row a b c => ?_)
      · have hlt : k * ty.cts.length + j < xs.length := by
          rw [hlen]
          have : k * ty.cts.length + ty.cts.length ≤ rows.length * ty.cts.length := by rw [← Nat.succ_mul]; exact Nat.mul_le_mul_right _ hk
          omega
        have := h2.cells (g := g) rfl (k * ty.cts.length + j) xs[k * ty.cts.length + j] (List.getElem?_eq_getElem hlt)
        rw [Addr.add_mid] at this
        rw [Nat.zero_add] at this ⊢
        rw [this]
        simp [List.getD_eq_getElem?_getD, List.getElem?_eq_getElem hlt]
      · exact ih k j ct d row a b c fun x hx => hb x ((h4 x).2 (.inr ⟨_, hx⟩))
def OwnF (T : Tab) (w : World) (X : Nat → Prop) (F : Nat → Prop) (e : TypeId) (v : Value) (rows : List (List D)) : Prop :=
  match dpT T e with
  | true => DeepV T w F (.l e) v (.l rows)
  | false => Own T w X 0 e v rows ∧ ∀ b, F b ↔ v.ownBlock = some b
theorem OwnF.own {T : Tab} {w : World} {X F : Nat → Prop} {e : TypeId} {v : Value} {rows : List (List D)} (h : OwnF T w X F e v rows) (hd : dpT T e = false) : Own T w X 0 e v rows ∧ ∀ b, F b ↔ v.ownBlock = some b := by
  unfold OwnF at h; rw [hd] at h; exact h
theorem OwnF.deep {T : Tab} {w : World} {X F : Nat → Prop} {e : TypeId} {v : Value} {rows : List (List D)} (h : OwnF T w X F e v rows) (hd : dpT T e = true) : DeepV T w F (.l e) v (.l rows) := by
  unfold OwnF at h; rw [hd] at h; exact h
theorem OwnF.of_own {T : Tab} {w : World} {X F : Nat → Prop} {e : TypeId} {v : Value} {rows : List (List D)} (hd : dpT T e = false) (h : Own T w X 0 e v rows) (hF : ∀ b, F b ↔ v.ownBlock = some b) : OwnF T w X F e v rows := by
  unfold OwnF; rw [hd]; exact ⟨h, hF⟩
theorem OwnF.of_deep {T : Tab} {w : World} {X F : Nat → Prop} {e : TypeId} {v : Value} {rows : List (List D)} (hd : dpT T e = true) (h : DeepV T w F (.l e) v (.l rows)) : OwnF T w X F e v rows := by
  unfold OwnF; rw [hd]; exact h
theorem OwnF.move {T : Tab} {w w' : World} {X X' F F' : Nat → Prop} {e : TypeId} {v : Value} {rows : List (List D)} (h : OwnF T w X F e v rows)
    (hk : Keeps w w' X) (hx : ∀ b, b < w.heap.size → X' b → X b) (hF : F' = F) (hb : ∀ b, F b → w'.heap[b]? = w.heap[b]?) : OwnF T w' X' F' e v rows := by
  subst hF
  cases hd : dpT T e with
  | true => exact .of_deep hd ((h.deep hd).move hb)
  | false =>
    obtain ⟨h1, h2⟩ := h.own hd
    exact .of_own hd (h1.move hk hx fun b h => hb b ((h2 b).2 h)) h2
theorem OwnF.slice {T : Tab} {w : World} {X F : Nat → Prop} {e : TypeId} {v : Value} {rows : List (List D)} (h : OwnF T w X F e v rows) : ∃ A c, v = .slice A rows.length c := by
  cases hd : dpT T e with
  | true => exact (h.deep hd).slice
  | false => exact (h.own hd).1.slice
theorem OwnF.one {T : Tab} {w : World} {X F : Nat → Prop} {e : TypeId} {v : Value} {rows : List (List D)} (h : OwnF T w X F e v rows) : v.oneCell' = true := by
  obtain ⟨A, c, rfl⟩ := h.slice; rfl
theorem OwnF.cells {T : Tab} {w : World} {X F : Nat → Prop} {e : TypeId} {v : Value} {rows : List (List D)} (h : OwnF T w X F e v rows) : v.cells = #[v] := by
  obtain ⟨A, c, rfl⟩ := h.slice; rfl
theorem OwnF.shared {T : Tab} {w : World} {X X' F : Nat → Prop} {e : TypeId} {v : Value} {rows : List (List D)} (h : OwnF T w X F e v rows)
    (hx : ∀ b, b < w.heap.size → X' b → X b) (hb : ∀ b, F b → ¬ X' b) : RdR T w X' (.l e) v (.l rows) := by
  cases hd : dpT T e with
  | true => exact (h.deep hd).shared hb
  | false =>
    obtain ⟨h1, h2⟩ := h.own hd
    exact h1.shared hx fun b hb' => hb b ((h2 b).2 hb')
theorem OwnF.lt {T : Tab} {w : World} {X F : Nat → Prop} {e : TypeId} {v : Value} {rows : List (List D)} (h : OwnF T w X F e v rows) : ∀ b, F b → b < w.heap.size := by
  cases hd : dpT T e with
  | true => exact (h.deep hd).lt
  | false =>
    obtain ⟨⟨ty, xs, h1, h2, h3⟩, h4⟩ := h.own hd
    exact fun b hb => (h2.lt b ((h4 b).1 hb)).2
theorem OwnF.nil {T : Tab} {w : World} {X F : Nat → Prop} {e : TypeId} {te : Ty} (he : T e = some te) (hF : ∀ b, ¬ F b) : OwnF T w X F e (.slice none 0 0) [] := by
  cases hd : dpT T e with
  | true => exact .of_deep hd (.sl F e te _ [] [] (fun _ _ => False) he (World.ownsRow_nil _ _ _ _) (fun k row h => by simp at h) (fun b => ⟨fun h => (hF b h).elim, fun h => by rcases h with h | ⟨_, h⟩; cases h; exact h.elim⟩) (fun _ _ h => h.elim) (fun _ _ _ h => h.elim) (fun k j ct d row h => by simp at h))
  | false => exact .of_own hd ⟨te, [], he, World.ownsRow_nil _ _ _ _, fun k row h => by simp at h, fun k j ct d row h => by simp at h⟩ fun b => ⟨fun h => (hF b h).elim, fun h => by cases h⟩
structure Base extends World where
  x0 : Nat → Prop
  x0lt : ∀ b, x0 b → b < heap.size
  lent : Nat → Prop
  lentx : ∀ b, lent b → ¬ x0 b
  pin : Option Nat
def Base.mine (W : Base) (b : Nat) : Prop := W.heap.size ≤ b ∨ W.lent b
structure Kept (W : Base) (w : World) : Prop where
  os : w.os = W.os
  tape : w.tape = W.tape
  output : w.output = W.output
  size : W.heap.size ≤ w.heap.size
  block : ∀ k, k < W.heap.size → ¬ W.lent k → w.heap[k]? = W.heap[k]?
theorem Kept.refl (W : Base) : Kept W W.toWorld := ⟨rfl, rfl, rfl, Nat.le_refl _, fun _ _ _ => rfl⟩
theorem Kept.next {W : Base} {w w' : World} (h : Kept W w) (h1 : w'.os = w.os) (h2 : w'.tape = w.tape) (h3 : w'.output = w.output) (h4 : w.heap.size ≤ w'.heap.size) (h5 : ∀ k, k < w.heap.size → ¬ W.mine k → w'.heap[k]? = w.heap[k]?) : Kept W w' :=
  ⟨h1.trans h.os, h2.trans h.tape, h3.trans h.output, Nat.le_trans h.size h4, fun k hk hn => (h5 k (Nat.lt_of_lt_of_le hk h.size) (fun hm => by
    rcases hm with hm | hm
    · omega
    · exact hn hm)).trans (h.block k hk hn)⟩
theorem Kept.below {W : Base} {w w' : World} (h : Kept W w) (hb : Below w.heap.size w w') : Kept W w' := h.next hb.os hb.tape hb.output hb.size (fun k hk _ => hb.block k hk)
theorem Kept.alloc {W : Base} {w : World} (h : Kept W w) (o : Obj) : Kept W (w.alloc o) := h.below ((Below.refl _ w).alloc (Nat.le_refl _) o)
theorem Kept.drew {W : Base} {w : World} (h : Kept W w) : Kept W w.drew := h.below (Below.drew (Below.refl _ w))
theorem Kept.grown {W : Base} {w w' : World} {row : Option Nat} (h : Kept W w) (hg : w.grownBy w' row) (hr : ∀ k, row = some k → W.mine k) : Kept W w' :=
  h.next hg.os hg.tape hg.output hg.size (fun k hk hn => hg.block k hk (fun e => hn (hr k e.symm)))
abbrev noB : Nat → Prop := fun _ => False
structure Env where
  σ : St
  a : Act
  w : World
  β : Nat → Nat
  bk : Loc → Nat → Nat → Prop
  x0 : Nat → Prop
def Env.alive (E : Env) (t : Nat) : Prop := ∃ m, (E.σ (.gen t)).2 = .num m
def Env.X (E : Env) (b : Nat) : Prop := E.x0 b ∨ (∃ t, E.alive t ∧ b = E.β t) ∨ ∃ l j, E.bk l j b
def Env.cellAt (E : Env) (t j : Nat) : SV → Option Value
  | .num m => if j < m then E.w.cell? ⟨E.β t, j, none⟩ else none
  | _ => none
def Env.at_ (E : Env) : Loc → Nat → Option Value
  | .slot t, j => (E.a.tmps.getD t undef).cells[j]?
  | .cell t j', _ => E.cellAt t j' (E.σ (.gen t)).2
  | .gen _, _ => none
theorem Env.at_cell {E : Env} {t j m i : Nat} (hm : (E.σ (.gen t)).2 = .num m) (hj : j < m) : E.at_ (.cell t j) i = E.w.cell? ⟨E.β t, j, none⟩ := by
  show E.cellAt t j (E.σ (.gen t)).2 = _
  rw [hm]
  exact if_pos hj
theorem Env.cellAt_congr {E E' : Env} {t j : Nat} {sv sv' : SV} (hs : ∀ m, sv' = .num m ↔ sv = .num m) (h : ∀ m, sv = .num m → E'.w.cell? ⟨E'.β t, j, none⟩ = E.w.cell? ⟨E.β t, j, none⟩) : E'.cellAt t j sv' = E.cellAt t j sv := by
  cases sv with
  | num m => rw [(hs m).2 rfl]; show (if _ then _ else _) = (if _ then _ else _); rw [h m rfl]
  | _ => cases sv' with
    | num m => exact absurd ((hs m).1 rfl) (by simp)
    | _ => rfl
def CV.plain : CV → Bool
  | .sl true _ _ | .al .. => false
  | _ => true
def CV.nal : CV → Bool
  | .al .. => false
  | _ => true
def tupC (i : Nat) (c : CV) : Prop := c.nal = true ∧ (c.plain = true ∨ i < 1024)
theorem tupC.plain {c : CV} (h : c.plain = true) (i : Nat) : tupC i c := by
  refine ⟨?_, .inl h⟩
  cases c with
  | al q i n => cases h
  | _ => rfl
def tix (a i : Nat) : Nat := 1024 * a + i
variable (P : Program) (T : Tab) (W : Base)
def RelCV (T : Tab) (_W : Base) (E : Env) (l : Loc) (j : Nat) (v : Value) : CV → Prop
  | .i k n => v = .int k n ∧ inK k n
  | .b x => v = .bool x
  | .s x => v = .string x ∧ x.size ≤ maxLen
  | .sl false e rows => RdR T E.w E.X (.l e) v (.l rows)
  | .sl true e rows => OwnF T E.w E.X (E.bk l j) e v rows
  | .al q i n => n ≤ (E.σ q).1 ∧ ((E.σ q).1 = n → E.at_ q i = some v)
  | .dead => True
def RelSV (E : Env) (l : Loc) (v : Value) : SV → Prop
  | .none => True
  | .val true cs => ∃ arr, v = .agg arr ∧ arr.size = cs.length ∧ ∀ (j : Nat) c, cs[j]? = some c → ∃ u, arr[j]? = some u ∧ RelCV T W E l j u c
  | .val false cs => ∃ c, cs = [c] ∧ RelCV T W E l 0 v c
  | .tup vs => ∃ arr, v = .tuple arr ∧ arr.size = vs.length ∧ ∀ (j : Nat) p, vs[j]? = some p → ∃ u, arr[j]? = some u ∧
      (p.1 = true → ∃ brr, u = .agg brr ∧ brr.size = p.2.length ∧ ∀ (i : Nat) c, p.2[i]? = some c → ∃ x, brr[i]? = some x ∧ tupC i c ∧ RelCV T W E l (tix j i) x c) ∧
      (p.1 = false → ∃ c, p.2 = [c] ∧ tupC 0 c ∧ RelCV T W E l (tix j 0) u c)
  | .ptr t g off => g ≤ (E.σ (.gen t)).1 ∧ ((E.σ (.gen t)).1 = g → v = .pointer (some ⟨E.β t, off, none⟩))
  | .rptr cs => ∃ b o, v = .pointer (some ⟨b, o, none⟩) ∧ ¬ E.X b ∧ b < E.w.heap.size ∧ ∀ (j : Nat) p, cs[j]? = some p → ∃ u, E.w.cell? ⟨b, o + j, none⟩ = some u ∧ RdR T E.w E.X p.1 u p.2
  | .optr q j n k c off => n ≤ (E.σ q).1 ∧ ((E.σ q).1 = n → ∃ b o len cap, E.at_ q j = some (.slice (some ⟨b, o, none⟩) len cap) ∧ v = .pointer (some ⟨b, o + k * c + off, none⟩))
  | .num _ => True
inductive SV.OwnAt : SV → Nat → Prop
  | val (ag : Bool) (cs : List CV) (j : Nat) (e : TypeId) (rows : List (List D)) : cs[j]? = some (.sl true e rows) → OwnAt (.val ag cs) j
  | tup (vs : List (Bool × List CV)) (a i : Nat) (p : Bool × List CV) (e : TypeId) (rows : List (List D)) : vs[a]? = some p → p.2[i]? = some (.sl true e rows) → OwnAt (.tup vs) (tix a i)
structure Rel (N : Nat) (E : Env) : Prop where
  base : Kept W E.w
  x0 : E.x0 = W.x0
  defers : E.a.defers = []
  size : E.a.tmps.size = N
  slot : ∀ t, RelSV T W E (.slot t) (E.a.tmps.getD t undef) (E.σ (.slot t)).2
  cell : ∀ t m j, (E.σ (.gen t)).2 = .num m → j < m → ∃ c v, (E.σ (.cell t j)).2 = .val false [c] ∧ E.w.cell? ⟨E.β t, j, none⟩ = some v ∧ E.w.frozen? ⟨E.β t, j, none⟩ = false ∧ RelCV T W E (.cell t j) 0 v c
  bxlo : ∀ t, E.alive t → W.mine (E.β t) ∧ E.β t < E.w.heap.size
  bxinj : ∀ t t', E.alive t → E.alive t' → E.β t = E.β t' → t = t'
  owlo : ∀ l j b, E.bk l j b → W.mine b ∧ b < E.w.heap.size
  owinj : ∀ l j l' j' b, E.bk l j b → E.bk l' j' b → l = l' ∧ j = j'
  owbx : ∀ l j b t, E.bk l j b → E.alive t → b ≠ E.β t
  pin : ∀ b, W.pin = some b → E.β N = b
  glob : GlR T E.w E.X
variable {P T W}
structure Step (E E' : Env) : Prop where
  ver : ∀ q, (E.σ q).1 ≤ (E'.σ q).1 ∧ ((E'.σ q).1 = (E.σ q).1 → ∀ i, E'.at_ q i = E.at_ q i)
  gen : ∀ t, (E'.σ (.gen t)).1 = (E.σ (.gen t)).1 → E'.β t = E.β t
  keep : Keeps E.w E'.w E.X
  less : ∀ b, b < E.w.heap.size → E'.X b → E.X b
theorem RelCV.step {E E' : Env} {l : Loc} {j : Nat} {v : Value} {c : CV} (h : RelCV T W E l j v c) (s : Step E E')
    (ho : ∀ e rows, c = .sl true e rows → E'.bk l j = E.bk l j ∧ ∀ b, E.bk l j b → E'.w.heap[b]? = E.w.heap[b]?) : RelCV T W E' l j v c := by
  cases c with
  | i k n => exact h
  | b x => exact h
  | s x => exact h
  | sl own e rows =>
    cases own with
    | false => exact RdR.move h s.keep s.less
    | true =>
      obtain ⟨h1, h2⟩ := ho e rows rfl
      exact OwnF.move h s.keep s.less h1 h2
  | al q i n =>
    obtain ⟨h1, h2⟩ := h
    obtain ⟨s1, s2⟩ := s.ver q
    refine ⟨Nat.le_trans h1 s1, fun hn => ?_⟩
    have : (E.σ q).1 = n := by omega
    rw [s2 (by omega) i]
    exact h2 this
  | dead => trivial
theorem RelSV.step {E E' : Env} {l : Loc} {v : Value} {sv : SV} (h : RelSV T W E l v sv) (s : Step E E')
    (ho : ∀ j, sv.OwnAt j → E'.bk l j = E.bk l j ∧ ∀ b, E.bk l j b → E'.w.heap[b]? = E.w.heap[b]?) : RelSV T W E' l v sv := by
  cases sv with
  | none => trivial
  | val ag cs =>
    cases ag with
    | true =>
      obtain ⟨arr, h1, h2, h3⟩ := h
      refine ⟨arr, h1, h2, fun j c hc => ?_⟩
      obtain ⟨u, hu, hr⟩ := h3 j c hc
      exact ⟨u, hu, hr.step s (fun e rows he => ho j (.val _ _ j e rows (he ▸ hc)))⟩
    | false =>
      obtain ⟨c, rfl, h2⟩ := h
      exact ⟨c, rfl, h2.step s (fun e rows he => ho 0 (.val _ _ 0 e rows (by rw [he]; rfl)))⟩
  | tup vs =>
    obtain ⟨arr, h1, h2, h3⟩ := h
    refine ⟨arr, h1, h2, fun j p hp0 => ?_⟩
    obtain ⟨u, hu, hr⟩ := h3 j p hp0
    refine ⟨u, hu, fun hp => ?_, fun hp => ?_⟩
    · obtain ⟨brr, e1, e2, e3⟩ := hr.1 hp
      refine ⟨brr, e1, e2, fun i c hc => ?_⟩
      obtain ⟨x, hx, hpl, hr'⟩ := e3 i c hc
      exact ⟨x, hx, hpl, hr'.step s (fun e rows he => ho _ (.tup _ j i p e rows hp0 (he ▸ hc)))⟩
    · obtain ⟨c, e1, hpl, hr'⟩ := hr.2 hp
      exact ⟨c, e1, hpl, hr'.step s (fun e rows he => ho _ (.tup _ j 0 p e rows hp0 (by rw [e1, he]; rfl)))⟩
  | ptr t g off =>
    obtain ⟨h1, h2⟩ := h
    obtain ⟨s1, _⟩ := s.ver (.gen t)
    refine ⟨Nat.le_trans h1 s1, fun hg => ?_⟩
    have : (E.σ (.gen t)).1 = g := by omega
    rw [s.gen t (by omega)]
    exact h2 this
  | rptr cs =>
    obtain ⟨b, o, h1, h2, h3, h4⟩ := h
    refine ⟨b, o, h1, fun hb => h2 (s.less b h3 hb), Nat.lt_of_lt_of_le h3 s.keep.1, fun j p hp => ?_⟩
    obtain ⟨u, hu, hr⟩ := h4 j p hp
    exact ⟨u, (World.cell?_of_block (w := E.w) (s.keep.2 b h3 h2)).trans hu, hr.move s.keep s.less⟩
  | optr q j n k c off =>
    obtain ⟨h1, h2⟩ := h
    obtain ⟨s1, s2⟩ := s.ver q
    refine ⟨Nat.le_trans h1 s1, fun hn => ?_⟩
    have : (E.σ q).1 = n := by omega
    rw [s2 (by omega) j]
    exact h2 this
  | num m => trivial
end Go.Proofs.YtaecbmjmcpdgdaaGreat.Ab
namespace Go.Proofs.YtaecbmjmcpdgdaaGreat.Ab
open Go.RowKit
variable {P : Program} {T : Tab} {W : Base} {N : Nat}
theorem getD_put_ne {a : Act} {d t : Nat} {v : Value} (h : t ≠ d) : (a.put (some d) v).tmps.getD t undef = a.tmps.getD t undef := by
  simp [Act.put, Array.getElem?_setIfInBounds_ne (Ne.symm h)]
theorem getD_put_same {a : Act} {d : Nat} {v : Value} (h : d < a.tmps.size) : (a.put (some d) v).tmps.getD d undef = v := by
  simp [Act.put, h]
theorem size_put {a : Act} {d : Option Nat} {v : Value} : (a.put d v).tmps.size = a.tmps.size := by cases d <;> simp [Act.put]
theorem Rel.X_lt {E : Env} (h : Rel T W N E) {b : Nat} (hb : E.X b) : b < E.w.heap.size := by
  rcases hb with hb | ⟨t, ha, rfl⟩ | ⟨l, j, hl⟩
  · exact Nat.lt_of_lt_of_le (W.x0lt b (h.x0 ▸ hb)) h.base.size
  · exact (h.bxlo t ha).2
  · exact (h.owlo l j b hl).2
theorem Rel.next {E E' : Env} (h : Rel T W N E) (s : Step E E') (base : Kept W E'.w) (hd : E'.a.defers = []) (hsz : E'.a.tmps.size = N)
    (slots : ∀ t, ((E'.σ (.slot t)).2 = (E.σ (.slot t)).2 ∧ E'.a.tmps.getD t undef = E.a.tmps.getD t undef ∧
        ∀ j, E'.bk (.slot t) j = E.bk (.slot t) j ∧ ∀ b, E.bk (.slot t) j b → E'.w.heap[b]? = E.w.heap[b]?) ∨
      RelSV T W E' (.slot t) (E'.a.tmps.getD t undef) (E'.σ (.slot t)).2)
    (cells : ∀ t m j, (E'.σ (.gen t)).2 = .num m → j < m → ((E.σ (.gen t)).2 = .num m ∧ (E'.σ (.cell t j)).2 = (E.σ (.cell t j)).2 ∧ E'.w.cell? ⟨E'.β t, j, none⟩ = E.w.cell? ⟨E.β t, j, none⟩ ∧
        E'.w.frozen? ⟨E'.β t, j, none⟩ = E.w.frozen? ⟨E.β t, j, none⟩ ∧ E'.bk (.cell t j) 0 = E.bk (.cell t j) 0 ∧ ∀ b, E.bk (.cell t j) 0 b → E'.w.heap[b]? = E.w.heap[b]?) ∨
      (∃ c v, (E'.σ (.cell t j)).2 = .val false [c] ∧ E'.w.cell? ⟨E'.β t, j, none⟩ = some v ∧ E'.w.frozen? ⟨E'.β t, j, none⟩ = false ∧ RelCV T W E' (.cell t j) 0 v c))
    (bxlo : ∀ t, E'.alive t → W.mine (E'.β t) ∧ E'.β t < E'.w.heap.size) (bxinj : ∀ t t', E'.alive t → E'.alive t' → E'.β t = E'.β t' → t = t')
    (owlo : ∀ l j b, E'.bk l j b → W.mine b ∧ b < E'.w.heap.size) (owinj : ∀ l j l' j' b, E'.bk l j b → E'.bk l' j' b → l = l' ∧ j = j')
    (owbx : ∀ l j b t, E'.bk l j b → E'.alive t → b ≠ E'.β t) (hx0 : E'.x0 = E.x0 := by rfl) (hβN : E'.β N = E.β N := by rfl) : Rel T W N E' := by
  refine ⟨base, hx0.trans h.x0, hd, hsz, fun t => ?_, fun t m j hm hj => ?_, bxlo, bxinj, owlo, owinj, owbx, fun b hb => hβN.trans (h.pin b hb), h.glob.move s.keep s.less⟩
  · rcases slots t with ⟨h1, h2, h3⟩ | h1
    · rw [h1, h2]
      exact (h.slot t).step s (fun j _ => h3 j)
    · exact h1
  · rcases cells t m j hm hj with ⟨h1, h2, h3, h4, h5, h6⟩ | h1
    · obtain ⟨c, v, e1, e2, e3, e4⟩ := h.cell t m j h1 hj
      exact ⟨c, v, h2.trans e1, h3.trans e2, h4.trans e3, e4.step s (fun _ _ _ => ⟨h5, h6⟩)⟩
    · exact h1
theorem Keeps.refl (w : World) (c : Nat → Prop) : Keeps w w c := ⟨Nat.le_refl _, fun _ _ _ => rfl⟩
def Env.put (E : Env) (d : Nat) (v : Value) (sv : SV) : Env :=
  { E with σ := upd E.σ (.slot d) sv, a := E.a.put (some d) v, bk := fun l j => if l = .slot d then noB else E.bk l j }
theorem upd_other {σ : St} {l l' : Loc} {x : SV} (h : l' ≠ l) : upd σ l x l' = σ l' := by simp [updw, h]
theorem upd_same {σ : St} {l : Loc} {x : SV} : upd σ l x l = ((σ l).1 + 1, x) := by simp [updw]
theorem Env.put_alive {E : Env} {d : Nat} {v : Value} {sv : SV} {t : Nat} : (E.put d v sv).alive t ↔ E.alive t := by
  unfold Env.alive Env.put; simp only [upd_other (show Loc.gen t ≠ Loc.slot d by simp)]
theorem Env.put_step {E : Env} {d : Nat} {v : Value} {sv : SV} : Step E (E.put d v sv) := by
  refine ⟨fun q => ?_, fun t _ => rfl, Keeps.refl _ _, fun b _ hb => ?_⟩
  · by_cases e : q = .slot d
    · subst e
      show (E.σ _).1 ≤ (upd E.σ _ _ _).1 ∧ ((upd E.σ _ _ _).1 = _ → _)
      rw [upd_same]
      exact ⟨by simp, fun h => absurd h (by simp)⟩
    · show (E.σ _).1 ≤ (upd E.σ _ _ _).1 ∧ _
      rw [upd_other e]
      refine ⟨Nat.le_refl _, fun _ i => ?_⟩
      cases q with
      | slot t =>
        have : t ≠ d := fun h => e (by rw [h])
        show ((E.a.put (some d) v).tmps.getD t undef).cells[i]? = _
        rw [getD_put_ne this]; rfl
      | cell t j => exact Env.cellAt_congr (fun m => by show (upd _ _ _ _).2 = _ ↔ _; rw [upd_other (by simp)]) (fun _ _ => rfl)
      | gen t => rfl
  · rcases hb with hb | ⟨t, ht, rfl⟩ | ⟨l, j, hl⟩
    · exact .inl hb
    · exact .inr (.inl ⟨t, Env.put_alive.1 ht, rfl⟩)
    · refine .inr (.inr ?_)
      simp only [Env.put] at hl
      split at hl
      · cases hl
      · exact ⟨l, j, hl⟩
theorem Rel.put {E : Env} (h : Rel T W N E) {d : Nat} {v : Value} {sv : SV} (hd : d < N) (hv : Step E (E.put d v sv) → RelSV T W (E.put d v sv) (.slot d) v sv) : Rel T W N (E.put d v sv) := by
  have s : Step E (E.put d v sv) := Env.put_step
  refine h.next s h.base (by rw [← h.defers]; rfl) (by rw [← h.size]; exact size_put) (fun t => ?_) (fun t m j hm hj => ?_) (fun t ha => h.bxlo t (Env.put_alive.1 ha)) (fun t t' ha hb he => h.bxinj t t' (Env.put_alive.1 ha) (Env.put_alive.1 hb) he) (fun l j b hb => ?_) (fun l j l' j' b hb hb' => ?_) (fun l j b t hb ha => ?_)
  · by_cases e : t = d
    · subst e
      right
      have e1 : (E.put t v sv).a.tmps.getD t undef = v := getD_put_same (by rw [h.size]; exact hd)
      have e2 : ((E.put t v sv).σ (.slot t)).2 = sv := by show (upd _ _ _ _).2 = _; rw [upd_same]
      rw [e1, e2]
      exact hv s
    · left
      refine ⟨?_, getD_put_ne e, fun j => ⟨?_, fun _ _ => rfl⟩⟩
      · show (upd _ _ _ _).2 = _; rw [upd_other (by simpa using e)]
      · simp [Env.put, e]
  · left
    refine ⟨?_, ?_, rfl, rfl, by simp [Env.put], fun _ _ => rfl⟩
    · rw [← hm]; show _ = (upd _ _ _ _).2; rw [upd_other (by simp)]
    · show (upd _ _ _ _).2 = _; rw [upd_other (by simp)]
  · simp only [Env.put] at hb
    split at hb
    · cases hb
    · exact h.owlo l j b hb
  · simp only [Env.put] at hb hb'
    split at hb
    · cases hb
    · split at hb'
      · cases hb'
      · exact h.owinj l j l' j' b hb hb'
  · simp only [Env.put] at hb
    split at hb
    · cases hb
    · exact h.owbx l j b t hb (Env.put_alive.1 ha)
def CV.share (l : Loc) (n j : Nat) : CV → CV
  | .sl true _ _ => .al l j n
  | c => c
def shareL (l : Loc) (n : Nat) : Nat → List CV → List CV
  | _, [] => []
  | j, c :: r => c.share l n j :: shareL l n (j + 1) r
def SV.free : SV → Bool
  | .val _ cs => cs.all fun | .sl true _ _ => false | _ => true
  | .tup vs => vs.all fun p => p.2.all fun | .sl true _ _ => false | _ => true
  | _ => true
def SV.share (l : Loc) (n : Nat) : SV → SV
  | .val ag cs => .val ag (shareL l n 0 cs)
  | .tup vs => match SV.free (.tup vs) with
    | true => .tup vs
    | false => .none
  | sv => sv
theorem SV.free_own {sv : SV} (h : sv.free = true) {j : Nat} (ho : sv.OwnAt j) : False := by
  cases ho with
  | val ag cs j e rows hc =>
    have := List.all_eq_true.1 h _ (List.mem_of_getElem? hc)
    cases this
  | tup vs a i p e rows hp hc =>
    have := List.all_eq_true.1 (List.all_eq_true.1 h _ (List.mem_of_getElem? hp)) _ (List.mem_of_getElem? hc)
    cases this
theorem shareL_get {l : Loc} {n : Nat} : ∀ (cs : List CV) (i j : Nat), (shareL l n i cs)[j]? = (cs[j]?).map (CV.share l n (i + j))
  | [], _, _ => rfl
  | c :: r, i, 0 => rfl
  | c :: r, i, j + 1 => by
    have := shareL_get (l := l) (n := n) r (i + 1) j
    simp only [shareL, List.getElem?_cons_succ, this]
    rw [show i + 1 + j = i + (j + 1) by omega]
theorem shareL_length {l : Loc} {n : Nat} : ∀ (cs : List CV) (i : Nat), (shareL l n i cs).length = cs.length
  | [], _ => rfl
  | c :: r, i => by simp [shareL, shareL_length r]
theorem RelCV.share {E : Env} {l : Loc} {j : Nat} {v : Value} {c : CV} (h : RelCV T W E l j v c) (ha : E.at_ l j = some v) (l' : Loc) (j' : Nat) : RelCV T W E l' j' v (c.share l (E.σ l).1 j) := by
  cases c with
  | sl own e rows =>
    cases own with
    | true => exact ⟨Nat.le_refl _, fun _ => ha⟩
    | false => exact h
  | _ => exact h
theorem share_free {l : Loc} {n : Nat} : ∀ (sv : SV), (sv.share l n).free = true
  | .val _ cs => by
    have : ∀ (cs : List CV) (i : Nat), (shareL l n i cs).all (fun | .sl true _ _ => false | _ => true) = true := by
      intro cs
      induction cs with
      | nil => intro i; rfl
      | cons c r ih =>
        intro i
        simp only [shareL, List.all_cons, Bool.and_eq_true]
        refine ⟨?_, ih _⟩
        cases c with
        | sl own e rows => cases own <;> rfl
        | _ => rfl
    exact this cs 0
  | .none => rfl
  | .tup vs => by
    show (match SV.free (.tup vs) with | true => SV.tup vs | false => SV.none : SV).free = true
    cases hf : SV.free (.tup vs) with
    | true => exact hf
    | false => rfl
  | .ptr .. => rfl
  | .rptr _ => rfl
  | .optr .. => rfl
  | .num _ => rfl
theorem RelCV.cells1 {E : Env} {l : Loc} {j : Nat} {v : Value} {e : TypeId} {rows : List (List D)} (h : RelCV T W E l j v (.sl true e rows)) : v.cells = #[v] := OwnF.cells h
theorem RelCV.any {E : Env} {l l' : Loc} {j j' : Nat} {v : Value} {c : CV} (h : RelCV T W E l j v c) (hf : ∀ e rows, c ≠ .sl true e rows) : RelCV T W E l' j' v c := by
  cases c with
  | sl own e rows =>
    cases own with
    | true => exact absurd rfl (hf e rows)
    | false => exact h
  | _ => exact h
theorem RelSV.any {E : Env} {l l' : Loc} {v : Value} {sv : SV} (h : RelSV T W E l v sv) (hf : sv.free = true) : RelSV T W E l' v sv := by
  cases sv with
  | val ag cs =>
    have hf' : ∀ c ∈ cs, ∀ e rows, c ≠ .sl true e rows := by
      intro c hc e rows he
      have := List.all_eq_true.1 hf c hc
      rw [he] at this
      cases this
    cases ag with
    | true =>
      obtain ⟨arr, h1, h2, h3⟩ := h
      refine ⟨arr, h1, h2, fun j c hc => ?_⟩
      obtain ⟨u, hu, hr⟩ := h3 j c hc
      exact ⟨u, hu, hr.any (hf' c (List.mem_of_getElem? hc))⟩
    | false =>
      obtain ⟨c, rfl, h2⟩ := h
      exact ⟨c, rfl, h2.any (hf' c (by simp))⟩
  | tup vs =>
    obtain ⟨arr, h1, h2, h3⟩ := h
    refine ⟨arr, h1, h2, fun j p hp0 => ?_⟩
    obtain ⟨u, hu, hr⟩ := h3 j p hp0
    refine ⟨u, hu, fun hp => ?_, fun hp => ?_⟩
    · obtain ⟨brr, e1, e2, e3⟩ := hr.1 hp
      refine ⟨brr, e1, e2, fun i c hc => ?_⟩
      obtain ⟨x, hx, hpl, hr'⟩ := e3 i c hc
      exact ⟨x, hx, hpl, hr'.any (fun e rows he => SV.free_own hf (.tup _ j i p e rows hp0 (he ▸ hc)))⟩
    · obtain ⟨c, e1, hpl, hr'⟩ := hr.2 hp
      exact ⟨c, e1, hpl, hr'.any (fun e rows he => SV.free_own hf (.tup _ j 0 p e rows hp0 (by rw [e1, he]; rfl)))⟩
  | _ => exact h
theorem RelSV.share {E : Env} {l : Loc} {v : Value} {sv : SV} (h : RelSV T W E l v sv) (ha : ∀ j, E.at_ l j = v.cells[j]?) (l' : Loc) : RelSV T W E l' v (sv.share l (E.σ l).1) := by
  cases sv with
  | val ag cs =>
    cases ag with
    | true =>
      obtain ⟨arr, rfl, h2, h3⟩ := h
      refine ⟨arr, rfl, by rw [shareL_length]; exact h2, fun j c hc => ?_⟩
      rw [shareL_get] at hc
      cases hcs : cs[j]? with
      | none => rw [hcs] at hc; cases hc
      | some c0 =>
        rw [hcs] at hc
        obtain rfl := Option.some.inj hc
        obtain ⟨u, hu, hr⟩ := h3 j c0 hcs
        refine ⟨u, hu, ?_⟩
        rw [Nat.zero_add]
        exact hr.share ((ha j).trans hu) l' j
    | false =>
      obtain ⟨c, rfl, h2⟩ := h
      refine ⟨_, rfl, ?_⟩
      cases c with
      | sl own e rows =>
        cases own with
        | false => exact h2
        | true => exact h2.share (by rw [ha, h2.cells1]; rfl) l' 0
      | _ => exact h2
  | tup vs =>
    show RelSV T W E l' v (match SV.free (.tup vs) with | true => SV.tup vs | false => SV.none)
    cases hf : SV.free (.tup vs) with
    | true => exact RelSV.any (sv := .tup vs) h hf
    | false => trivial
  | _ => exact h
theorem RelSV.step_free {E E' : Env} {l : Loc} {v : Value} {sv : SV} (h : RelSV T W E l v sv) (s : Step E E') (hf : sv.free = true) : RelSV T W E' l v sv :=
  h.step s (fun j ho => (SV.free_own hf ho).elim)
def ofConst : Value → SV
  | .int k n => .val false [.i k n]
  | .bool x => .val false [.b x]
  | .string s => .val false [.s s]
  | .slice none 0 0 => .val false [.sl false 0 []]
  | _ => .none
theorem ofConst_slice (A : Option Addr) (n c : Nat) : (ofConst (.slice A n c) = .val false [.sl false 0 []] ∧ A = none ∧ n = 0 ∧ c = 0) ∨ ofConst (.slice A n c) = .none := by
  cases A with
  | some a => exact .inr rfl
  | none =>
    cases n with
    | zero =>
      cases c with
      | zero => exact .inl ⟨rfl, rfl, rfl, rfl⟩
      | succ c => exact .inr rfl
    | succ n => exact .inr rfl
def constOk : Value → Bool
  | .int k n => decide (k.min ≤ n) && decide (n ≤ k.max)
  | .string s => decide (s.size ≤ maxLen)
  | _ => true
def rdv (x : Operand) (k : SV → Pg) : Pg :=
  match x with
  | .tmp t => .get (.slot t) fun v => k (v.2.share (.slot t) v.1)
  | .const v => match constOk v with
    | true => k (ofConst v)
    | false => .fail
  | _ => .fail
theorem rdv_sound {E : Env} (h : Rel T W N E) {x : Operand} {k : SV → Pg} {Q : St → Prop} (hw : (rdv x k).wp Q E.σ) (l : Loc) :
    ∃ sv, RelSV T W E l (E.a.eval x) sv ∧ sv.free = true ∧ (k sv).wp Q E.σ := by
  cases x with
  | tmp t => exact ⟨_, (h.slot t).share (fun j => rfl) l, share_free _, hw⟩
  | const v =>
    have hw' : (match constOk v with | true => k (ofConst v) | false => .fail : Pg).wp Q E.σ := hw
    split at hw'
    · rename_i hc
      refine ⟨_, ?_, ?_, hw'⟩
      · cases v with
        | int k n =>
          simp only [constOk, Bool.and_eq_true, decide_eq_true_eq] at hc
          exact ⟨_, rfl, rfl, hc⟩
        | bool x => exact ⟨_, rfl, rfl⟩
        | string s =>
          simp only [constOk, decide_eq_true_eq] at hc
          exact ⟨_, rfl, rfl, hc⟩
        | slice A n c =>
          rcases ofConst_slice A n c with ⟨e, rfl, rfl, rfl⟩ | e
          · rw [e]
            exact ⟨_, rfl, .nil 0 none 0 (Nat.zero_le _)⟩
          · rw [e]
            trivial
        | _ => trivial
      · cases v with
        | slice A n c => rcases ofConst_slice A n c with ⟨e, _⟩ | e <;> rw [e] <;> rfl
        | _ => rfl
    · exact hw'.elim
  | _ => exact hw.elim
end Go.Proofs.YtaecbmjmcpdgdaaGreat.Ab
namespace Go.Proofs.YtaecbmjmcpdgdaaGreat.Ab
open Go.RowKit
variable {P : Program} {T : Tab} {W : Base} {N : Nat}
theorem Step.refl (E : Env) : Step E E := ⟨fun _ => ⟨Nat.le_refl _, fun _ _ => rfl⟩, fun _ _ => rfl, Keeps.refl _ _, fun _ _ h => h⟩
theorem Step.trans {A B C : Env} (h : Step A B) (k : Step B C) : Step A C := by
  refine ⟨fun q => ?_, fun t hg => ?_, ⟨Nat.le_trans h.keep.1 k.keep.1, fun b hb hn => ?_⟩, fun b hb hx => h.less b hb (k.less b (Nat.lt_of_lt_of_le hb h.keep.1) hx)⟩
  · obtain ⟨a1, a2⟩ := h.ver q
    obtain ⟨b1, b2⟩ := k.ver q
    refine ⟨Nat.le_trans a1 b1, fun e i => ?_⟩
    rw [b2 (by omega) i, a2 (by omega) i]
  · obtain ⟨a1, _⟩ := h.ver (.gen t)
    obtain ⟨b1, _⟩ := k.ver (.gen t)
    rw [k.gen t (by omega), h.gen t (by omega)]
  · rw [k.keep.2 b (Nat.lt_of_lt_of_le hb h.keep.1) (fun hx => hn (h.less b hb hx)), h.keep.2 b hb hn]
def Env.turn (E : Env) (q : Loc) (ag : Bool) (cs : List CV) (i : Nat) (c : CV) (bk' : Loc → Nat → Nat → Prop) : Env :=
  { E with σ := updm E.σ q (.val ag (cs.set i c)), bk := bk' }
section turn
variable {E : Env} {q : Loc} {ag : Bool} {cs : List CV} {i : Nat} {c : CV} {bk' : Loc → Nat → Nat → Prop}
theorem turn_ver (l : Loc) : ((E.turn q ag cs i c bk').σ l).1 = (E.σ l).1 := by
  show (updw 0 _ _ _ l).1 = _
  unfold updw; split
  · rename_i h; simp [h]
  · rfl
theorem turn_other {l : Loc} (h : l ≠ q) : (E.turn q ag cs i c bk').σ l = E.σ l := by
  show updw 0 _ _ _ l = _; simp [updw, h]
theorem turn_same : ((E.turn q ag cs i c bk').σ q).2 = .val ag (cs.set i c) := by
  show (updw 0 _ _ _ q).2 = _; simp [updw]
theorem turn_alive (hq : (E.σ q).2 = .val ag cs) {t : Nat} : (E.turn q ag cs i c bk').alive t ↔ E.alive t := by
  unfold Env.alive
  by_cases e : Loc.gen t = q
  · rw [e, turn_same, hq]; simp
  · rw [turn_other e]
theorem turn_gen (hq : (E.σ q).2 = .val ag cs) {t m : Nat} : ((E.turn q ag cs i c bk').σ (.gen t)).2 = .num m ↔ (E.σ (.gen t)).2 = .num m := by
  by_cases e : Loc.gen t = q
  · rw [e, turn_same, hq]; simp
  · rw [turn_other e]
theorem turn_at (hq : (E.σ q).2 = .val ag cs) (l : Loc) (j : Nat) : (E.turn q ag cs i c bk').at_ l j = E.at_ l j := by
  cases l with
  | slot t => rfl
  | gen t => rfl
  | cell t j' => exact Env.cellAt_congr (fun m => turn_gen hq) (fun _ _ => rfl)
theorem turn_step (hq : (E.σ q).2 = .val ag cs) (hX : ∀ l j b, bk' l j b → ∃ l0 j0, E.bk l0 j0 b) : Step E (E.turn q ag cs i c bk') := by
  refine ⟨fun l => ⟨by rw [turn_ver]; exact Nat.le_refl _, fun _ j => turn_at hq l j⟩, fun t _ => rfl, Keeps.refl _ _, fun b _ hb => ?_⟩
  rcases hb with hb | ⟨t, ht, rfl⟩ | ⟨l, j, hl⟩
  · exact .inl hb
  · exact .inr (.inl ⟨t, (turn_alive hq).1 ht, rfl⟩)
  · exact .inr (.inr (hX l j b hl))
theorem Rel.turn {e0 : TypeId} {rows0 : List (List D)} (h : Rel T W N E) (hq : (E.σ q).2 = .val ag cs) (hi : cs[i]? = some (.sl true e0 rows0)) (hX : ∀ l j b, bk' l j b → ∃ l0 j0, E.bk l0 j0 b)
    (hinj : ∀ l j l' j' b, bk' l j b → bk' l' j' b → l = l' ∧ j = j')
    (hsame : ∀ l j, (E.σ l).2.OwnAt j → ¬ (l = q ∧ j = i) → bk' l j = E.bk l j)
    (hnew : Step E (E.turn q ag cs i c bk') → ∀ u, E.at_ q i = some u → RelCV T W E q i u (.sl true e0 rows0) → RelCV T W (E.turn q ag cs i c bk') q i u c) : Rel T W N (E.turn q ag cs i c bk') := by
  have s : Step E (E.turn q ag cs i c bk') := turn_step hq hX
  have hal : ∀ t, (E.turn q ag cs i c bk').alive t ↔ E.alive t := fun t => turn_alive hq
  refine ⟨h.base, h.x0, h.defers, h.size, fun t => ?_, fun t m j hm hj => ?_, fun t ha => h.bxlo t ((hal t).1 ha), fun t t' ha hb he => h.bxinj t t' ((hal t).1 ha) ((hal t').1 hb) he, fun l j b hb => ?_, hinj, fun l j b t hb ha => ?_, h.pin, h.glob.move s.keep s.less⟩
  · by_cases e : Loc.slot t = q
    · have h0 := h.slot t
      rw [e, turn_same]
      rw [e, hq] at h0
      have hat : ∀ j, E.at_ q j = (E.a.tmps.getD t undef).cells[j]? := fun j => by rw [← e]; rfl
      cases ag with
      | true =>
        obtain ⟨arr, h1, h2, h3⟩ := h0
        refine ⟨arr, h1, by simpa using h2, fun j c' hc' => ?_⟩
        rw [List.getElem?_set] at hc'
        split at hc'
        · rename_i hij
          subst hij
          split at hc'
          · obtain rfl := Option.some.inj hc'
            obtain ⟨u, hu, hr⟩ := h3 i _ hi
            exact ⟨u, hu, hnew s u (by rw [hat, h1]; exact hu) hr⟩
          · cases hc'
        · rename_i hij
          obtain ⟨u, hu, hr⟩ := h3 j c' hc'
          exact ⟨u, hu, hr.step s (fun e' rows he => ⟨hsame q j (by rw [hq]; exact .val _ _ j e' rows (he ▸ hc')) (fun hh => hij hh.2.symm), fun _ _ => rfl⟩)⟩
      | false =>
        obtain ⟨c0, rfl, h2⟩ := h0
        cases i with
        | zero =>
          refine ⟨c, rfl, ?_⟩
          obtain rfl : c0 = .sl true e0 rows0 := Option.some.inj hi
          exact hnew s _ (by rw [hat, h2.cells1]; rfl) h2
        | succ i => cases hi
    · rw [turn_other e]
      exact (h.slot t).step s (fun j ho => ⟨hsame (.slot t) j ho (fun hh => e hh.1), fun _ _ => rfl⟩)
  · have hm' : (E.σ (.gen t)).2 = .num m := (turn_gen hq).1 hm
    obtain ⟨c0, v, e1, e2, e3, e4⟩ := h.cell t m j hm' hj
    by_cases e : Loc.cell t j = q
    · rw [e] at e1 e4
      rw [hq] at e1
      simp only [SV.val.injEq] at e1
      obtain ⟨rfl, rfl⟩ := e1
      have hat : E.at_ q 0 = some v := by rw [← e, Env.at_cell hm' hj]; exact e2
      rw [e, turn_same]
      cases i with
      | zero =>
        obtain rfl : c0 = .sl true e0 rows0 := Option.some.inj hi
        exact ⟨c, v, rfl, e2, e3, hnew s v hat e4⟩
      | succ i => cases hi
    · rw [turn_other e]
      exact ⟨c0, v, e1, e2, e3, e4.step s (fun e' rows he => ⟨hsame (.cell t j) 0 (by rw [e1]; exact .val _ _ 0 e' rows (by rw [he]; rfl)) (fun hh => e hh.1), fun _ _ => rfl⟩)⟩
  · obtain ⟨l0, j0, h0⟩ := hX l j b hb
    exact h.owlo l0 j0 b h0
  · obtain ⟨l0, j0, h0⟩ := hX l j b hb
    exact h.owbx l0 j0 b t h0 ((hal t).1 ha)
end turn
def lookAt (q : Loc) (i n : Nat) (k : Bool → List CV → Bool → TypeId → List (List D) → Pg) : Pg :=
  .get q fun v => if v.1 = n then
    match v.2 with
    | .val ag cs => match cs[i]? with
      | some (.sl o e rows) => k ag cs o e rows
      | _ => .fail
    | _ => .fail
  else .fail
def look (q : Loc) (i n : Nat) (k : Bool → List CV → Bool → TypeId → List (List D) → Pg) : Pg :=
  match q with
  | .slot t => lookAt (.slot t) i n k
  | .cell t j => .get (.gen t) fun g => match g.2 with
    | .num m => if j < m then lookAt (.cell t j) i n k else .fail
    | _ => .fail
  | .gen _ => .fail
theorem lookAt_spec {q : Loc} {i n : Nat} {k : Bool → List CV → Bool → TypeId → List (List D) → Pg} {Q : St → Prop} {σ : St} (hw : (lookAt q i n k).wp Q σ) :
    (σ q).1 = n ∧ ∃ ag cs o e rows, (σ q).2 = .val ag cs ∧ cs[i]? = some (.sl o e rows) ∧ (k ag cs o e rows).wp Q σ := by
  unfold lookAt at hw
  simp only [Pg.wp] at hw
  split at hw
  · rename_i hn
    refine ⟨hn, ?_⟩
    split at hw
    · rename_i ag cs hv
      split at hw
      · rename_i o e rows hc
        exact ⟨ag, cs, o, e, rows, hv, hc, hw⟩
      · exact hw.elim
    · exact hw.elim
  · exact hw.elim
theorem look_sound {E : Env} (h : Rel T W N E) {q : Loc} {i n : Nat} {k : Bool → List CV → Bool → TypeId → List (List D) → Pg} {Q : St → Prop} (hw : (look q i n k).wp Q E.σ)
    {l : Loc} {j : Nat} {u : Value} (hal : RelCV T W E l j u (.al q i n)) :
    ∃ ag cs o e rows, (E.σ q).2 = .val ag cs ∧ cs[i]? = some (.sl o e rows) ∧ E.at_ q i = some u ∧ RelCV T W E q i u (.sl o e rows) ∧ (k ag cs o e rows).wp Q E.σ := by
  cases q with
  | slot t =>
    obtain ⟨hn, ag, cs, o, e, rows, h1, h2, h3⟩ := lookAt_spec (show (lookAt (.slot t) i n k).wp Q E.σ from hw)
    have hat : E.at_ (.slot t) i = some u := hal.2 hn
    refine ⟨ag, cs, o, e, rows, h1, h2, hat, ?_, h3⟩
    have hs := h.slot t
    rw [h1] at hs
    cases ag with
    | true =>
      obtain ⟨arr, e1, e2, e3⟩ := hs
      obtain ⟨u', hu', hr⟩ := e3 i _ h2
      have : E.at_ (.slot t) i = some u' := by show (E.a.tmps.getD t undef).cells[i]? = _; rw [e1]; exact hu'
      rw [hat] at this
      obtain rfl := Option.some.inj this
      exact hr
    | false =>
      obtain ⟨c, rfl, hr⟩ := hs
      cases i with
      | succ i => cases h2
      | zero =>
        obtain rfl : c = .sl o e rows := Option.some.inj h2
        have hc : (E.a.tmps.getD t undef).cells = #[E.a.tmps.getD t undef] := by
          cases o with
          | true => exact hr.cells1
          | false => exact RdR.cells (hr : RdR T _ _ _ _ _)
        have : E.at_ (.slot t) 0 = some (E.a.tmps.getD t undef) := by show (E.a.tmps.getD t undef).cells[0]? = _; rw [hc]; rfl
        rw [hat] at this
        obtain rfl := Option.some.inj this
        exact hr
  | cell t j' =>
    unfold look at hw
    simp only [Pg.wp] at hw
    split at hw
    · rename_i m hm
      split at hw
      · rename_i hjm
        obtain ⟨hn, ag, cs, o, e, rows, h1, h2, h3⟩ := lookAt_spec hw
        have hat : E.at_ (.cell t j') i = some u := hal.2 hn
        refine ⟨ag, cs, o, e, rows, h1, h2, hat, ?_, h3⟩
        obtain ⟨c, v, e1, e2, e3, e4⟩ := h.cell t m j' hm hjm
        rw [h1] at e1
        simp only [SV.val.injEq] at e1
        obtain ⟨rfl, rfl⟩ := e1
        cases i with
        | succ i => cases h2
        | zero =>
          obtain rfl : c = .sl o e rows := Option.some.inj h2
          have : E.at_ (.cell t j') 0 = some v := (Env.at_cell hm hjm).trans e2
          rw [hat] at this
          obtain rfl := Option.some.inj this
          exact e4
      · exact hw.elim
    · exact hw.elim
  | gen t => exact hw.elim
theorem Rel.freeze {E : Env} (h : Rel T W N E) {q : Loc} {ag : Bool} {cs : List CV} {i : Nat} {e : TypeId} {rows : List (List D)} (hq : (E.σ q).2 = .val ag cs) (hi : cs[i]? = some (.sl true e rows)) :
    Rel T W N (E.turn q ag cs i (.sl false e rows) fun l j => if l = q ∧ j = i then noB else E.bk l j) ∧
    (∀ u, RelCV T W E q i u (.sl true e rows) → RdR T E.w (E.turn q ag cs i (.sl false e rows) fun l j => if l = q ∧ j = i then noB else E.bk l j).X (.l e) u (.l rows)) := by
  have hX : ∀ l j b, (fun l j => if l = q ∧ j = i then noB else E.bk l j : Loc → Nat → Nat → Prop) l j b → ∃ l0 j0, E.bk l0 j0 b := by
    intro l j b hb
    have hb : (if l = q ∧ j = i then noB else E.bk l j) b := hb
    split at hb
    · cases hb
    · exact ⟨l, j, hb⟩
  have key : ∀ u, RelCV T W E q i u (.sl true e rows) → RdR T E.w (E.turn q ag cs i (.sl false e rows) fun l j => if l = q ∧ j = i then noB else E.bk l j).X (.l e) u (.l rows) := by
    intro u hu
    refine OwnF.shared hu (turn_step hq hX).less fun b hbk hx => ?_
    rcases hx with hx | ⟨t, ht, rfl⟩ | ⟨l, j, hl⟩
    · have h1 := W.x0lt b (h.x0 ▸ hx)
      rcases (h.owlo q i b hbk).1 with h2 | h2
      · omega
      · exact W.lentx b h2 (h.x0 ▸ hx)
    · exact h.owbx q i _ t hbk ((turn_alive hq).1 ht) rfl
    · simp only [Env.turn] at hl
      split at hl
      · cases hl
      · rename_i hne
        obtain ⟨h1, h2⟩ := h.owinj q i l j b hbk hl
        exact hne ⟨h1.symm, h2.symm⟩
  refine ⟨h.turn hq hi hX (fun l j l' j' b hb hb' => ?_) (fun l j _ hne => by simp only [if_neg hne]) (fun _ u _ hu => key u hu), key⟩
  split at hb
  · cases hb
  · split at hb'
    · cases hb'
    · exact h.owinj l j l' j' b hb hb'
theorem Rel.ghost {E : Env} (h : Rel T W N E) {ag : Bool} {cs : List CV} {j : Nat} {e : TypeId} {rows : List (List D)} (hq : (E.σ (.slot N)).2 = .val ag cs) (hj : cs[j]? = some (.sl true e rows)) : False := by
  have hs := h.slot N
  have hu : E.a.tmps.getD N undef = undef := by simp [h.size]
  rw [hu, hq] at hs
  cases ag with
  | true =>
    obtain ⟨arr, e1, _⟩ := hs
    cases e1
  | false =>
    obtain ⟨c, rfl, hr⟩ := hs
    cases j with
    | succ j => cases hj
    | zero =>
      obtain rfl : c = .sl true e rows := Option.some.inj hj
      obtain ⟨A, c', e1⟩ := OwnF.slice hr
      cases e1
theorem Rel.ghostA {E : Env} (h : Rel T W N E) {j : Nat} (ho : (E.σ (.slot N)).2.OwnAt j) : False := by
  cases hs : (E.σ (.slot N)).2 with
  | val ag cs =>
    rw [hs] at ho
    cases ho with
    | val _ _ _ e rows hc => exact h.ghost hs hc
  | tup vs =>
    have hs' := h.slot N
    have hu : E.a.tmps.getD N undef = undef := by simp [h.size]
    rw [hu, hs] at hs'
    obtain ⟨arr, e1, e2, _⟩ := hs'
    cases e1
    rw [hs] at ho
    cases ho with
    | tup _ a i p e rows hp hc =>
      have hl : vs.length = 0 := e2.symm
      rw [List.length_eq_zero_iff.1 hl] at hp
      cases hp
  | _ => rw [hs] at ho; cases ho
def takeBk (E : Env) (N : Nat) (q : Loc) (i j0 : Nat) : Loc → Nat → Nat → Prop := fun l j => if l = q ∧ j = i then noB else if l = .slot N ∧ j = j0 then E.bk q i else E.bk l j
theorem Rel.take {E : Env} (h : Rel T W N E) {q : Loc} {ag : Bool} {cs : List CV} {i j0 : Nat} {e : TypeId} {rows : List (List D)} (hq : (E.σ q).2 = .val ag cs) (hi : cs[i]? = some (.sl true e rows)) :
    Rel T W N (E.turn q ag cs i .dead (takeBk E N q i j0)) ∧ Step E (E.turn q ag cs i .dead (takeBk E N q i j0)) ∧
    (∀ u, RelCV T W E q i u (.sl true e rows) → RelCV T W (E.turn q ag cs i .dead (takeBk E N q i j0)) (.slot N) j0 u (.sl true e rows)) := by
  have hqN : ¬ (Loc.slot N = q ∧ j0 = i) := by
    rintro ⟨rfl, rfl⟩
    exact h.ghost hq hi
  have hX : ∀ l j b, takeBk E N q i j0 l j b → ∃ l0 j0, E.bk l0 j0 b := by
    intro l j b hb
    unfold takeBk at hb
    split at hb
    · cases hb
    · split at hb
      · exact ⟨q, i, hb⟩
      · exact ⟨l, j, hb⟩
  have s := turn_step (E := E) (q := q) (i := i) (c := .dead) hq hX
  refine ⟨h.turn hq hi hX (fun l j l' j' b hb hb' => ?_) (fun l j hown hne => ?_) (fun _ u _ _ => trivial), s, fun u hu => OwnF.move hu s.keep s.less ?_ (fun _ _ => rfl)⟩
  · unfold takeBk at hb hb'
    split at hb
    · cases hb
    · rename_i n1
      split at hb'
      · cases hb'
      · rename_i n2
        split at hb
        · rename_i g1
          split at hb'
          · rename_i g2; exact ⟨g1.1.trans g2.1.symm, g1.2.trans g2.2.symm⟩
          · obtain ⟨a1, a2⟩ := h.owinj q i l' j' b hb hb'
            exact absurd ⟨a1.symm, a2.symm⟩ n2
        · split at hb'
          · obtain ⟨a1, a2⟩ := h.owinj l j q i b hb hb'
            exact absurd ⟨a1, a2⟩ n1
          · exact h.owinj l j l' j' b hb hb'
  · unfold takeBk
    rw [if_neg hne]
    split
    · rename_i g
      rw [g.1] at hown
      exact (h.ghostA hown).elim
    · rfl
  · show takeBk E N q i j0 (.slot N) j0 = _
    unfold takeBk
    rw [if_neg hqN, if_pos ⟨rfl, rfl⟩]
def CV.set : CV → Bool
  | .al .. | .dead => false
  | _ => true
def CV.free : CV → Bool
  | .sl true _ _ => false
  | _ => true
def CellsR (T : Tab) (W : Base) (E : Env) (l : Loc) (j : Nat) (cs : List CV) (us : List Value) : Prop :=
  cs.length = us.length ∧ ∀ (i : Nat) c u, cs[i]? = some c → us[i]? = some u → RelCV T W E l (j + i) u c
def mov1 (c : CV) (k : CV → Pg) : Pg :=
  match c with
  | .al q i n => look q i n fun ag cs o e rows => match o with
    | true => .set 0 q (.val ag (cs.set i .dead)) (k (.sl true e rows))
    | false => k (.sl false e rows)
  | .dead => .fail
  | c => k c
def movs : List CV → (List CV → Pg) → Pg
  | [], k => k []
  | c :: r, k => mov1 c fun c' => movs r fun r' => k (c' :: r')
def pub1 (c : CV) (k : CV → Pg) : Pg :=
  match c with
  | .al q i n => look q i n fun ag cs o e rows => match o with
    | true => .set 0 q (.val ag (cs.set i (.sl false e rows))) (k (.sl false e rows))
    | false => k (.sl false e rows)
  | .dead => .fail
  | c => k c
def pubs : List CV → (List CV → Pg) → Pg
  | [], k => k []
  | c :: r, k => pub1 c fun c' => pubs r fun r' => k (c' :: r')
structure Same (E E' : Env) : Prop where
  a : E'.a = E.a
  w : E'.w = E.w
  β : E'.β = E.β
  step : Step E E'
theorem Same.refl (E : Env) : Same E E := ⟨rfl, rfl, rfl, .refl E⟩
theorem Same.trans {A B C : Env} (h : Same A B) (k : Same B C) : Same A C := ⟨k.a.trans h.a, k.w.trans h.w, k.β.trans h.β, h.step.trans k.step⟩
theorem mov1_sound {E : Env} (h : Rel T W N E) {c : CV} {k : CV → Pg} {Q : St → Prop} {j : Nat} {u : Value} (hc : RelCV T W E (.slot N) j u c) (hf : c.free = true) (hw : (mov1 c k).wp Q E.σ) :
    ∃ E' c', Rel T W N E' ∧ Same E E' ∧ RelCV T W E' (.slot N) j u c' ∧ c'.set = true ∧ (∀ j', j' ≠ j → E'.bk (.slot N) j' = E.bk (.slot N) j') ∧ (k c').wp Q E'.σ := by
  cases c with
  | al q i n =>
    obtain ⟨ag, cs, o, e, rows, h1, h2, h3, h4, h5⟩ := look_sound h (show (look q i n _).wp Q E.σ from hw) hc
    cases o with
    | true =>
      obtain ⟨r1, r2, r3⟩ := h.take (j0 := j) h1 h2
      refine ⟨_, _, r1, ⟨rfl, rfl, rfl, r2⟩, r3 u h4, rfl, fun j' hj' => ?_, h5⟩
      show takeBk E N q i j (.slot N) j' = _
      unfold takeBk
      split
      · rename_i g
        obtain ⟨rfl, rfl⟩ := g
        exact (h.ghost h1 h2).elim
      · rw [if_neg (fun g => hj' g.2)]
    | false => exact ⟨E, .sl false e rows, h, .refl E, h4, rfl, fun _ _ => rfl, h5⟩
  | dead => exact hw.elim
  | sl own e rows =>
    cases own with
    | true => cases hf
    | false => exact ⟨E, _, h, .refl E, hc, rfl, fun _ _ => rfl, hw⟩
  | i k' n => exact ⟨E, _, h, .refl E, hc, rfl, fun _ _ => rfl, hw⟩
  | b x => exact ⟨E, _, h, .refl E, hc, rfl, fun _ _ => rfl, hw⟩
  | s x => exact ⟨E, _, h, .refl E, hc, rfl, fun _ _ => rfl, hw⟩
theorem movs_sound : ∀ {cs : List CV} {k : List CV → Pg} {Q : St → Prop} {E : Env} {j : Nat} {us : List Value}, Rel T W N E → CellsR T W E (.slot N) j cs us → cs.all CV.free = true → (movs cs k).wp Q E.σ →
    ∃ E' cs', Rel T W N E' ∧ Same E E' ∧ CellsR T W E' (.slot N) j cs' us ∧ cs'.all CV.set = true ∧ (∀ j', j' < j ∨ j + cs.length ≤ j' → E'.bk (.slot N) j' = E.bk (.slot N) j') ∧ (k cs').wp Q E'.σ
  | [], k, Q, E, j, us, h, hc, _, hw => ⟨E, [], h, .refl E, hc, rfl, fun _ _ => rfl, hw⟩
  | c :: r, k, Q, E, j, us, h, hc, hf, hw => by
    cases us with
    | nil => exact absurd hc.1 (by simp)
    | cons u us =>
      simp only [List.all_cons, Bool.and_eq_true] at hf
      obtain ⟨E1, c', h1, s1, r1, t1, b1, w1⟩ := mov1_sound h (hc.2 0 c u rfl rfl) hf.1 hw
      have hr : CellsR T W E1 (.slot N) (j + 1) r us := by
        refine ⟨by simpa using hc.1, fun i c0 u0 hc0 hu0 => ?_⟩
        have := hc.2 (i + 1) c0 u0 (by simpa using hc0) (by simpa using hu0)
        rw [show j + 1 + i = j + (i + 1) by omega]
        exact this.step s1.step (fun e rows he => by
          have := List.all_eq_true.1 hf.2 c0 (List.mem_of_getElem? hc0)
          rw [he] at this; cases this)
      obtain ⟨E2, r', h2, s2, r2, t2, b2, w2⟩ := movs_sound h1 hr hf.2 w1
      refine ⟨E2, c' :: r', h2, s1.trans s2, ⟨by simp [r2.1], fun i c0 u0 hc0 hu0 => ?_⟩, by simp [t1, t2], fun j' hj' => by
        simp only [List.length_cons] at hj'
        exact (b2 j' (by omega)).trans (b1 j' (by omega)), w2⟩
      cases i with
      | zero =>
        obtain rfl := Option.some.inj hc0
        obtain rfl := Option.some.inj hu0
        exact r1.step s2.step (fun e rows _ => ⟨b2 j (by omega), fun b _ => by rw [s2.w]⟩)
      | succ i =>
        have := r2.2 i c0 u0 (by simpa using hc0) (by simpa using hu0)
        rw [show j + (i + 1) = j + 1 + i by omega]
        exact this
theorem pub1_sound {E : Env} (h : Rel T W N E) {c : CV} {k : CV → Pg} {Q : St → Prop} {l : Loc} {j : Nat} {u : Value} (hc : RelCV T W E l j u c) (hf : c.free = true) (hw : (pub1 c k).wp Q E.σ) :
    ∃ E' c', Rel T W N E' ∧ Same E E' ∧ RelCV T W E' l j u c' ∧ c'.set = true ∧ c'.free = true ∧ (k c').wp Q E'.σ := by
  cases c with
  | al q i n =>
    obtain ⟨ag, cs, o, e, rows, h1, h2, h3, h4, h5⟩ := look_sound h (show (look q i n _).wp Q E.σ from hw) hc
    cases o with
    | true =>
      obtain ⟨r1, r2⟩ := h.freeze h1 h2
      refine ⟨_, .sl false e rows, r1, ⟨rfl, rfl, rfl, turn_step h1 fun l j b hb => ?_⟩, r2 u h4, rfl, rfl, h5⟩
      split at hb
      · cases hb
      · exact ⟨l, j, hb⟩
    | false => exact ⟨E, .sl false e rows, h, .refl E, h4, rfl, rfl, h5⟩
  | dead => exact hw.elim
  | sl own e rows =>
    cases own with
    | true => cases hf
    | false => exact ⟨E, _, h, .refl E, hc, rfl, rfl, hw⟩
  | i k' n => exact ⟨E, _, h, .refl E, hc, rfl, rfl, hw⟩
  | b x => exact ⟨E, _, h, .refl E, hc, rfl, rfl, hw⟩
  | s x => exact ⟨E, _, h, .refl E, hc, rfl, rfl, hw⟩
theorem pubs_sound : ∀ {cs : List CV} {k : List CV → Pg} {Q : St → Prop} {E : Env} {l : Loc} {j : Nat} {us : List Value}, Rel T W N E → CellsR T W E l j cs us → cs.all CV.free = true → (pubs cs k).wp Q E.σ →
    ∃ E' cs', Rel T W N E' ∧ Same E E' ∧ CellsR T W E' l j cs' us ∧ cs'.all CV.set = true ∧ cs'.all CV.free = true ∧ (k cs').wp Q E'.σ
  | [], k, Q, E, l, j, us, h, hc, _, hw => ⟨E, [], h, .refl E, hc, rfl, rfl, hw⟩
  | c :: r, k, Q, E, l, j, us, h, hc, hf, hw => by
    cases us with
    | nil => exact absurd hc.1 (by simp)
    | cons u us =>
      simp only [List.all_cons, Bool.and_eq_true] at hf
      obtain ⟨E1, c', h1, s1, r1, t1, f1, w1⟩ := pub1_sound h (hc.2 0 c u rfl rfl) hf.1 hw
      have hr : CellsR T W E1 l (j + 1) r us := by
        refine ⟨by simpa using hc.1, fun i c0 u0 hc0 hu0 => ?_⟩
        have := hc.2 (i + 1) c0 u0 (by simpa using hc0) (by simpa using hu0)
        rw [show j + 1 + i = j + (i + 1) by omega]
        exact this.step s1.step (fun e rows he => by
          have := List.all_eq_true.1 hf.2 c0 (List.mem_of_getElem? hc0)
          rw [he] at this; cases this)
      obtain ⟨E2, r', h2, s2, r2, t2, f2, w2⟩ := pubs_sound h1 hr hf.2 w1
      refine ⟨E2, c' :: r', h2, s1.trans s2, ⟨by simp [r2.1], fun i c0 u0 hc0 hu0 => ?_⟩, by simp [t1, t2], by simp [f1, f2], w2⟩
      cases i with
      | zero =>
        obtain rfl := Option.some.inj hc0
        obtain rfl := Option.some.inj hu0
        exact r1.step s2.step (fun e rows he => by rw [he] at f1; cases f1)
      | succ i =>
        have := r2.2 i c0 u0 (by simpa using hc0) (by simpa using hu0)
        rw [show j + (i + 1) = j + 1 + i by omega]
        exact this
end Go.Proofs.YtaecbmjmcpdgdaaGreat.Ab
namespace Go.Proofs.YtaecbmjmcpdgdaaGreat.Ab
open Go.RowKit
variable {P : Program} {T : Tab} {W : Base} {N : Nat}
theorem RelCV.lay {E E' : Env} {l l' : Loc} {j j' : Nat} {u : Value} {c : CV} (h : RelCV T W E l j u c) (s : Step E E') (hb : E'.bk l' j' = E.bk l j) (hw : E'.w = E.w) : RelCV T W E' l' j' u c := by
  cases c with
  | sl own e rows =>
    cases own with
    | true => exact OwnF.move h s.keep s.less hb (fun _ _ => by rw [hw])
    | false => exact RelCV.step (c := .sl false e rows) (l := l) (j := j) h s (fun _ _ he => by cases he)
  | i k n => exact h
  | b x => exact h
  | s x => exact h
  | al q i n => exact RelCV.step (c := .al q i n) (l := l) (j := j) h s (fun _ _ he => by cases he)
  | dead => trivial
theorem RelSV.lay {E E' : Env} {l l' : Loc} {v : Value} {sv : SV} (h : RelSV T W E l v sv) (s : Step E E') (hb : ∀ j, E'.bk l' j = E.bk l j) (hw : E'.w = E.w) : RelSV T W E' l' v sv := by
  cases sv with
  | val ag cs =>
    cases ag with
    | true =>
      obtain ⟨arr, h1, h2, h3⟩ := h
      refine ⟨arr, h1, h2, fun j c hc => ?_⟩
      obtain ⟨u, hu, hr⟩ := h3 j c hc
      exact ⟨u, hu, hr.lay s (hb j) hw⟩
    | false =>
      obtain ⟨c, rfl, h2⟩ := h
      exact ⟨c, rfl, h2.lay s (hb 0) hw⟩
  | none => exact (RelSV.step_free (sv := .none) h s rfl).any rfl
  | tup vs =>
    obtain ⟨arr, h1, h2, h3⟩ := h
    refine ⟨arr, h1, h2, fun j p hp0 => ?_⟩
    obtain ⟨u, hu, hr⟩ := h3 j p hp0
    refine ⟨u, hu, fun hp => ?_, fun hp => ?_⟩
    · obtain ⟨brr, e1, e2, e3⟩ := hr.1 hp
      refine ⟨brr, e1, e2, fun i c hc => ?_⟩
      obtain ⟨x, hx, hpl, hr'⟩ := e3 i c hc
      exact ⟨x, hx, hpl, hr'.lay s (hb _) hw⟩
    · obtain ⟨c, e1, hpl, hr'⟩ := hr.2 hp
      exact ⟨c, e1, hpl, hr'.lay s (hb _) hw⟩
  | ptr t g off => exact (RelSV.step_free (l := l) (sv := .ptr t g off) h s rfl).any (l := l) rfl
  | rptr cs => exact (RelSV.step_free (l := l) (sv := .rptr cs) h s rfl).any (l := l) rfl
  | optr q j n k c off => exact (RelSV.step_free (l := l) (sv := .optr q j n k c off) h s rfl).any (l := l) rfl
  | num m => trivial
def Env.lay (E : Env) (N d : Nat) (v : Value) (sv : SV) : Env :=
  { E with σ := upd E.σ (.slot d) sv, a := E.a.put (some d) v, bk := fun l j => if l = .slot d then E.bk (.slot N) j else if l = .slot N then noB else E.bk l j }
theorem Env.lay_alive {E : Env} {N d : Nat} {v : Value} {sv : SV} {t : Nat} : (E.lay N d v sv).alive t ↔ E.alive t := by
  unfold Env.alive Env.lay; simp only [upd_other (show Loc.gen t ≠ Loc.slot d by simp)]
theorem Env.lay_step {E : Env} {d : Nat} {v : Value} {sv : SV} : Step E (E.lay N d v sv) := by
  refine ⟨fun q => ?_, fun t _ => rfl, Keeps.refl _ _, fun b _ hb => ?_⟩
  · by_cases e : q = .slot d
    · subst e
      show (E.σ _).1 ≤ (upd E.σ _ _ _).1 ∧ ((upd E.σ _ _ _).1 = _ → _)
      rw [upd_same]
      exact ⟨by simp, fun h => absurd h (by simp)⟩
    · show (E.σ _).1 ≤ (upd E.σ _ _ _).1 ∧ _
      rw [upd_other e]
      refine ⟨Nat.le_refl _, fun _ i => ?_⟩
      cases q with
      | slot t =>
        have : t ≠ d := fun h => e (by rw [h])
        show ((E.a.put (some d) v).tmps.getD t undef).cells[i]? = _
        rw [getD_put_ne this]; rfl
      | cell t j => exact Env.cellAt_congr (fun m => by show (upd _ _ _ _).2 = _ ↔ _; rw [upd_other (by simp)]) (fun _ _ => rfl)
      | gen t => rfl
  · rcases hb with hb | ⟨t, ht, rfl⟩ | ⟨l, j, hl⟩
    · exact .inl hb
    · exact .inr (.inl ⟨t, Env.lay_alive.1 ht, rfl⟩)
    · refine .inr (.inr ?_)
      simp only [Env.lay] at hl
      split at hl
      · exact ⟨_, j, hl⟩
      · split at hl
        · cases hl
        · exact ⟨l, j, hl⟩
theorem Rel.lay {E : Env} (h : Rel T W N E) {d : Nat} {v : Value} {sv : SV} (hd : d < N) (hv : RelSV T W E (.slot N) v sv) : Rel T W N (E.lay N d v sv) := by
  have s : Step E (E.lay N d v sv) := Env.lay_step
  have hdN : (Loc.slot N) ≠ (Loc.slot d) := by simp; omega
  refine h.next s h.base (by rw [← h.defers]; rfl) (by rw [← h.size]; exact size_put) (fun t => ?_) (fun t m j hm hj => ?_) (fun t ha => h.bxlo t (Env.lay_alive.1 ha)) (fun t t' ha hb he => h.bxinj t t' (Env.lay_alive.1 ha) (Env.lay_alive.1 hb) he) (fun l j b hb => ?_) (fun l j l' j' b hb hb' => ?_) (fun l j b t hb ha => ?_)
  · by_cases e : t = d
    · subst e
      right
      have e1 : (E.lay N t v sv).a.tmps.getD t undef = v := getD_put_same (by rw [h.size]; exact hd)
      have e2 : ((E.lay N t v sv).σ (.slot t)).2 = sv := by show (upd _ _ _ _).2 = _; rw [upd_same]
      rw [e1, e2]
      exact hv.lay s (fun j => by simp [Env.lay]) rfl
    · by_cases eN : t = N
      · subst eN
        right
        have e2 : ((E.lay t d v sv).σ (.slot t)).2 = (E.σ (.slot t)).2 := by show (upd _ _ _ _).2 = _; rw [upd_other (by simpa using e)]
        have e1 : (E.lay t d v sv).a.tmps.getD t undef = E.a.tmps.getD t undef := getD_put_ne e
        rw [e1, e2]
        exact (h.slot t).step s (fun j ho => (h.ghostA ho).elim)
      · left
        refine ⟨?_, getD_put_ne e, fun j => ⟨?_, fun _ _ => rfl⟩⟩
        · show (upd _ _ _ _).2 = _; rw [upd_other (by simpa using e)]
        · simp [Env.lay, e, eN]
  · left
    refine ⟨?_, ?_, rfl, rfl, by simp [Env.lay], fun _ _ => rfl⟩
    · rw [← hm]; show _ = (upd _ _ _ _).2; rw [upd_other (by simp)]
    · show (upd _ _ _ _).2 = _; rw [upd_other (by simp)]
  · simp only [Env.lay] at hb
    split at hb
    · exact h.owlo _ j b hb
    · split at hb
      · cases hb
      · exact h.owlo l j b hb
  · simp only [Env.lay] at hb hb'
    split at hb
    · rename_i g1
      split at hb'
      · rename_i g2
        exact ⟨g1.trans g2.symm, (h.owinj _ j _ j' b hb hb').2⟩
      · split at hb'
        · cases hb'
        · rename_i n2
          exact absurd (h.owinj _ j l' j' b hb hb').1.symm n2
    · split at hb
      · cases hb
      · rename_i n1
        split at hb'
        · exact absurd (h.owinj l j _ j' b hb hb').1 n1
        · split at hb'
          · cases hb'
          · exact h.owinj l j l' j' b hb hb'
  · simp only [Env.lay] at hb
    split at hb
    · exact h.owbx _ j b t hb (Env.lay_alive.1 ha)
    · split at hb
      · cases hb
      · exact h.owbx l j b t hb (Env.lay_alive.1 ha)
def zeroV : CT → Value
  | .i k => .int k 0
  | .b => .bool false
  | .s => .string ByteArray.empty
  | .l _ => .slice none 0 0
def valOf : CT → D → Value
  | .i k, .i n => .int k n
  | .b, .b x => .bool x
  | .s, .s x => .string x
  | _, _ => undef
def valsOf : List CT → List D → List Value
  | ct :: r, d :: ds => valOf ct d :: valsOf r ds
  | _, _ => []
def eqD : CT → D → D → Bool
  | .i _, .i a, .i b => a == b
  | .b, .b a, .b b => a == b
  | .s, .s a, .s b => a.toList == b.toList
  | _, _, _ => false
def eqDs : List CT → List D → List D → Bool
  | ct :: r, a :: as, b :: bs => eqD ct a b && eqDs r as bs
  | _, _, _ => true
def fitD : CT → D → Bool
  | .i _, .i _ => true
  | .b, .b _ => true
  | .s, .s _ => true
  | _, _ => false
def fitDs : List CT → List D → Bool
  | ct :: r, d :: ds => fitD ct d && fitDs r ds
  | [], [] => true
  | _, _ => false
def EqFact (P : Program) (t : TypeId) (cts : List CT) : Prop :=
  P.eqGuardType P.depth t = false ∧ ∀ (w : World) (a b : List D), fitDs cts a = true → fitDs cts b = true → (Op.equalIn 10000 t (.agg (valsOf cts a).toArray) (.agg (valsOf cts b).toArray)).run P w = .ok (eqDs cts a b) w
structure TyOk (P : Program) (T : Tab) (t : TypeId) (ty : Ty) : Prop where
  info : ∃ i, P.info? t = some i ∧ i.size = ty.cts.length ∧ i.bytes = ty.bytes ∧ i.zero = some (if ty.agg then .agg (ty.cts.map zeroV).toArray else (ty.cts.map zeroV).headD undef)
  elems : ∀ e, CT.l e ∈ ty.cts → (T e).isSome
  str : ty.agg = true → ∃ fs, P.underlying t = some (.struct fs) ∧ fs.size = ty.offs.length ∧ ∀ (f off sz : Nat), ty.offs[f]? = some (off, sz) → ∃ fd, fs[f]? = some fd ∧ fd.offset = off ∧ P.cellsOf fd.type = sz ∧ sz ≠ 0
  eqf : ty.eq = true → EqFact P t ty.cts
  one : ty.agg = false → ∃ c, ty.cts = [c] ∧ match c with
    | .i k => P.underlying t = some (.int k)
    | .b => P.underlying t = some .bool
    | .s => P.underlying t = some .string
    | .l e => P.underlying t = some (.slice e)
def TabOk (P : Program) (T : Tab) : Prop := ∀ t ty, T t = some ty → TyOk P T t ty
theorem TyOk.cellsOf {t : TypeId} {ty : Ty} (h : TyOk P T t ty) : P.cellsOf t = ty.cts.length := by
  obtain ⟨i, h1, h2, _⟩ := h.info
  simp [Program.cellsOf, h1, h2]
theorem TyOk.size {t : TypeId} {ty : Ty} (h : TyOk P T t ty) : (P.info? t).map (·.size) = some ty.cts.length := by
  obtain ⟨i, h1, h2, _⟩ := h.info
  simp [h1, h2]
def dstSet (N : Nat) (o : Oper) (sv : SV) : Pg :=
  match o.dst with
  | some d => .lt d N (.setF 1 (.slot d) sv .done)
  | none => .done
def OpOk (P : Program) (T : Tab) (W : Base) (N : Nat) (o : Oper) (p : Pg) : Prop :=
  ∀ (E : Env) (Q : St → Prop) (K : Act → World → Prop) (Qx : Exit → Act → World → Prop), Rel T W N E → p.wp Q E.σ → (∀ E', Rel T W N E' → Q E'.σ → K E'.a E'.w) → o.wp P E.a E.w K Qx
theorem sound_value {E : Env} {o : Oper} {Q : St → Prop} {K : Act → World → Prop} {Qx : Exit → Act → World → Prop} {v : Value} {sv : SV} (h : Rel T W N E)
    (hrun : (execOp E.a.eval o).run P E.w = .ok (.value v) E.w) (hv : RelSV T W E (.slot N) v sv) (hw : (dstSet N o sv).wp Q E.σ) (hK : ∀ E', Rel T W N E' → Q E'.σ → K E'.a E'.w) : o.wp P E.a E.w K Qx := by
  unfold Oper.wp
  rw [hrun, Oper.upon_value]
  unfold dstSet at hw
  simp only [Pg.setF_eq] at hw
  split at hw
  · rename_i d hd
    rw [hd]
    exact hK (E.lay N d v sv) (h.lay (Pg.lt_wp hw).1 hv) (Pg.lt_wp hw).2
  · rename_i hd
    rw [hd]
    exact hK E h hw
theorem Same.run {E E' : Env} (s : Same E E') {o : Oper} {K : Act → World → Prop} {Qx : Exit → Act → World → Prop} (h : o.wp P E'.a E'.w K Qx) : o.wp P E.a E.w K Qx := by
  rw [← s.a, ← s.w]; exact h
def stepMove (N : Nat) (o : Oper) (x : Operand) : Pg := rdv x fun sv => dstSet N o sv
theorem move_ok {o : Oper} {x : Operand} (ho : o.op = .move x) : OpOk P T W N o (stepMove N o x) := by
  intro E Q K Qx h hw hK
  obtain ⟨sv, h1, _, h3⟩ := rdv_sound h hw (.slot N)
  exact sound_value h (by simp [execOp, ho]) h1 h3 hK
theorem RelSV.cellsR {E : Env} {l : Loc} {v : Value} {cs : List CV} (h : RelSV T W E l v (.val true cs)) : ∃ us : List Value, v = .agg us.toArray ∧ CellsR T W E l 0 cs us := by
  obtain ⟨arr, h1, h2, h3⟩ := h
  refine ⟨arr.toList, by simp [h1], by simp [h2], fun i c u hc hu => ?_⟩
  obtain ⟨u', hu', hr⟩ := h3 i c hc
  have : arr[i]? = some u := by simpa using hu
  rw [this] at hu'
  obtain rfl := Option.some.inj hu'
  rw [Nat.zero_add]; exact hr
theorem CellsR.relSV {E : Env} {l : Loc} {cs : List CV} {us : List Value} (h : CellsR T W E l 0 cs us) : RelSV T W E l (.agg us.toArray) (.val true cs) := by
  refine ⟨us.toArray, rfl, by simp [h.1], fun j c hc => ?_⟩
  have hj : j < us.length := by rw [← h.1]; exact (List.getElem?_eq_some_iff.1 hc).1
  have := h.2 j c us[j] hc (List.getElem?_eq_getElem hj)
  rw [Nat.zero_add] at this
  exact ⟨us[j], by simp [hj], this⟩
def SV.cellsFree : SV → Bool
  | .val _ cs => cs.all CV.free
  | _ => true
theorem cellsFree_of_free {sv : SV} (h : sv.free = true) : sv.cellsFree = true := by
  cases sv with
  | val ag cs =>
    refine List.all_eq_true.2 fun c hc => ?_
    have := List.all_eq_true.1 h c hc
    cases c with
    | sl own e rows => cases own <;> first | rfl | exact this
    | _ => rfl
  | _ => rfl
def older (o : Oper) (cs : List CV) : Bool := match o.dst with
  | some d => cs.any fun c => match c with
    | .al (.slot t) _ _ => decide (t < d)
    | _ => false
  | none => false
def takes (o : Oper) (cs : List CV) (k : List CV → Pg) : Pg := match older o cs with
  | true => pubs cs k
  | false => movs cs k
theorem takes_sound {o : Oper} {cs : List CV} {k : List CV → Pg} {Q : St → Prop} {E : Env} {us : List Value} (h : Rel T W N E) (hc : CellsR T W E (.slot N) 0 cs us) (hf : cs.all CV.free = true) (hw : (takes o cs k).wp Q E.σ) :
    ∃ E' cs', Rel T W N E' ∧ Same E E' ∧ CellsR T W E' (.slot N) 0 cs' us ∧ (k cs').wp Q E'.σ := by
  unfold takes at hw
  split at hw
  · obtain ⟨E', cs', r1, s1, c1, _, _, w1⟩ := pubs_sound h hc hf hw
    exact ⟨E', cs', r1, s1, c1, w1⟩
  · obtain ⟨E', cs', r1, s1, c1, _, _, w1⟩ := movs_sound h hc hf hw
    exact ⟨E', cs', r1, s1, c1, w1⟩
def stepAssign (N : Nat) (o : Oper) (x : Operand) : Pg :=
  rdv x fun sv => match sv with
    | .val ag cs => takes o cs fun cs' => dstSet N o (.val ag cs')
    | sv => dstSet N o sv
theorem assign_ok {o : Oper} {x : Operand} (ho : o.op = .assign x) : OpOk P T W N o (stepAssign N o x) := by
  intro E Q K Qx h hw hK
  obtain ⟨sv, h1, h2, h3⟩ := rdv_sound h hw (.slot N)
  have hrun : (execOp E.a.eval o).run P E.w = .ok (.value (E.a.eval x)) E.w := by simp [execOp, ho]
  cases sv with
  | val ag cs =>
    have hf : cs.all CV.free = true := cellsFree_of_free h2
    cases ag with
    | true =>
      obtain ⟨us, e1, e2⟩ := h1.cellsR
      obtain ⟨E', cs', r1, s1, c1, w1⟩ := takes_sound h e2 hf h3
      refine s1.run (sound_value r1 (v := E.a.eval x) (by rw [s1.a, s1.w]; exact hrun) ?_ w1 hK)
      rw [e1]; exact c1.relSV
    | false =>
      obtain ⟨c, rfl, e2⟩ := h1
      have hc : CellsR T W E (.slot N) 0 [c] [E.a.eval x] := ⟨rfl, fun i c0 u0 hc0 hu0 => by
        cases i with
        | zero =>
          obtain rfl := Option.some.inj hc0
          obtain rfl := Option.some.inj hu0
          exact e2
        | succ i => cases hc0⟩
      obtain ⟨E', cs', r1, s1, c1, w1⟩ := takes_sound h hc hf h3
      refine s1.run (sound_value r1 (v := E.a.eval x) (by rw [s1.a, s1.w]; exact hrun) ?_ w1 hK)
      have hl := c1.1
      match cs', hl with
      | [c'], _ => exact ⟨c', rfl, c1.2 0 c' _ rfl rfl⟩
  | none => exact sound_value h hrun h1 h3 hK
  | tup vs => exact sound_value h hrun h1 h3 hK
  | ptr t g off => exact sound_value h hrun h1 h3 hK
  | rptr cs => exact sound_value h hrun h1 h3 hK
  | optr q j n k c off => exact sound_value h hrun h1 h3 hK
  | num m => exact sound_value h hrun h1 h3 hK
def stepNil (T : Tab) (N : Nat) (o : Oper) : Pg :=
  match T o.type with
  | some ty => match ty.cts with
    | [.l e] => match T e with
      | some _ => dstSet N o (.val false [.sl true e []])
      | none => .fail
    | _ => .fail
  | none => .fail
theorem nil_ok {o : Oper} (ho : o.op = .assign (.const (.slice none 0 0))) : OpOk P T W N o (stepNil T N o) := by
  intro E Q K Qx h hw hK
  unfold stepNil at hw
  split at hw
  · rename_i ty hty
    split at hw
    · rename_i e hc
      split at hw
      · rename_i te hte
        have hN : ∀ j b, E.bk (.slot N) j b → True := fun _ _ _ => trivial
        unfold Oper.wp
        rw [show (execOp E.a.eval o).run P E.w = .ok (.value (.slice none 0 0)) E.w by simp [execOp, ho, Act.eval], Oper.upon_value]
        unfold dstSet at hw
        simp only [Pg.setF_eq] at hw
        split at hw
        · rename_i d hd
          rw [hd]
          exact hK (E.put d (.slice none 0 0) (.val false [.sl true e []])) (h.put (Pg.lt_wp hw).1 fun s => ⟨_, rfl, OwnF.nil hte fun b hb => by
            have hb : (if Loc.slot d = Loc.slot d then noB else E.bk (.slot d) 0) b := hb
            rw [if_pos rfl] at hb
            exact hb⟩) (Pg.lt_wp hw).2
        · rename_i hd
          rw [hd]
          exact hK E h hw
      · exact hw.elim
    · exact hw.elim
  · exact hw.elim
end Go.Proofs.YtaecbmjmcpdgdaaGreat.Ab
