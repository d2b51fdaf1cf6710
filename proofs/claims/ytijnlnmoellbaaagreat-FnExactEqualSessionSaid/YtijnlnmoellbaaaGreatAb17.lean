/- Whole bodies: what is asked over abstract states is enough for the model's run. No program in sight. -/
import Derived.Test.YtijnlnmoellbaaaGreatAb16
namespace Go.Proofs.YtijnlnmoellbaaaGreat.Ab
open Go.RowKit
set_option linter.unusedVariables false
variable {P : Program} {T : Tab} {W : Base} {N : Nat}

/-! What is forgotten at a loop's head -/
def CV.noAl : CV → CV
  | .al .. => .dead
  | c => c
def keepSV (bs : List Nat) : SV → SV
  | .val ag cs => .val ag (cs.map CV.noAl)
  | .tup vs => .tup vs
  | .ptr t g p => if bs.contains t then .ptr t g p else .none
  | .rptr ps => .rptr ps
  | _ => .none
/-- Slots ts and variables bs are kept; all else is forgotten. -/
def keep (ts bs : List Nat) (σ : St) : St := fun l => match l with
  | .slot t => if ts.contains t then (0, keepSV bs (σ l).2) else (0, .none)
  | .gen t => if bs.contains t then σ l else (0, .none)
  | .cell t j => if bs.contains t then match (σ (.gen t)).2 with
    | .num m => if j < m then (0, keepSV bs (σ l).2) else (0, .none)
    | _ => (0, .none)
    else (0, .none)
def Env.keep (E : Env) (ts bs : List Nat) : Env :=
  { E with σ := Ab.keep ts bs E.σ, bk := fun l j => match l with
      | .slot t => if ts.contains t then E.bk l j else none
      | .cell t _ => if bs.contains t then E.bk l j else none
      | .gen _ => none }
section keep
variable {E : Env} {ts bs : List Nat}
theorem keep_alive {t : Nat} : (E.keep ts bs).alive t ↔ bs.contains t = true ∧ E.alive t := by
  unfold Env.alive
  show (∃ m, (Ab.keep ts bs E.σ (.gen t)).2 = .num m) ↔ _
  unfold Ab.keep
  simp only
  split
  · rename_i h; exact ⟨fun h' => ⟨h, h'⟩, fun h' => h'.2⟩
  · rename_i h; exact ⟨fun ⟨m, hm⟩ => (by cases hm), fun h' => absurd h'.1 h⟩
theorem keep_bk {l : Loc} {j b : Nat} (h : (E.keep ts bs).bk l j = some b) : E.bk l j = some b := by
  cases l <;> simp only [Env.keep] at h
  · split at h
    · exact h
    · cases h
  · split at h
    · exact h
    · cases h
  · cases h
theorem keep_X {b : Nat} (h : (E.keep ts bs).X b) : E.X b := by
  rcases h with h | ⟨t, ht, rfl⟩ | ⟨l, j, hl⟩
  · exact .inl h
  · exact .inr (.inl ⟨t, (keep_alive.1 ht).2, rfl⟩)
  · exact .inr (.inr ⟨l, j, keep_bk hl⟩)
theorem RelCV.keep {l : Loc} {j : Nat} {v : Value} {c : CV} (h : RelCV T W E l j v c) (hb : (E.keep ts bs).bk l j = E.bk l j) : RelCV T W (E.keep ts bs) l j v c.noAl := by
  have hx : ∀ b, b < E.w.heap.size → (E.keep ts bs).X b → E.X b := fun b _ hb => keep_X hb
  cases c with
  | sl own e rows =>
    cases own with
    | true => exact ⟨Own.move (w' := E.w) h.1 (Keeps.refl _ _) hx (fun _ _ => rfl), h.2.trans hb.symm⟩
    | false => exact RdR.move (h : RdR T E.w E.X _ _ _) (Keeps.refl _ _) hx
  | i k n => exact h
  | b x => exact h
  | s x => exact h
  | al q i n => trivial
  | dead => trivial
theorem RelSV.keep {l : Loc} {v : Value} {sv : SV} (h : RelSV T W E l v sv) (hb : ∀ j, (E.keep ts bs).bk l j = E.bk l j) : RelSV T W (E.keep ts bs) l v (keepSV bs sv) := by
  have hx : ∀ b, b < E.w.heap.size → (E.keep ts bs).X b → E.X b := fun b _ hb => keep_X hb
  cases sv with
  | none => trivial
  | val ag cs =>
    cases ag with
    | true =>
      obtain ⟨arr, h1, h2, h3⟩ := h
      refine ⟨arr, h1, by simpa using h2, fun j c hc => ?_⟩
      rw [List.getElem?_map] at hc
      cases hcs : cs[j]? with
      | none => rw [hcs] at hc; cases hc
      | some c0 =>
        rw [hcs] at hc
        obtain rfl := Option.some.inj hc
        obtain ⟨u, hu, hr⟩ := h3 j c0 hcs
        exact ⟨u, hu, hr.keep (hb j)⟩
    | false =>
      obtain ⟨c, rfl, h2⟩ := h
      exact ⟨_, rfl, h2.keep (hb 0)⟩
  | tup vs =>
    obtain ⟨arr, h1, h2, h3⟩ := h
    have pl : ∀ {c : CV} {l j x}, c.plain = true → RelCV T W E l j x c → RelCV T W (E.keep ts bs) l j x c := fun {c l j x} hp hr => by
      cases c with
      | sl own e rows =>
        cases own with
        | true => cases hp
        | false => exact RdR.move (hr : RdR T E.w E.X _ _ _) (Keeps.refl _ _) hx
      | i k n => exact hr
      | b x => exact hr
      | s x => exact hr
      | al q i n => cases hp
      | dead => trivial
    refine ⟨arr, h1, h2, fun j p hp => ?_⟩
    obtain ⟨u, hu, hr⟩ := h3 j p hp
    refine ⟨u, hu, fun hp => ?_, fun hp => ?_⟩
    · obtain ⟨brr, e1, e2, e3⟩ := hr.1 hp
      refine ⟨brr, e1, e2, fun i c hc => ?_⟩
      obtain ⟨x, hx', hpl, hr'⟩ := e3 i c hc
      exact ⟨x, hx', hpl, pl hpl hr'⟩
    · obtain ⟨c, e1, hpl, hr'⟩ := hr.2 hp
      exact ⟨c, e1, hpl, pl hpl hr'⟩
  | ptr t g p =>
    unfold keepSV
    simp only
    split
    · rename_i hc
      have e : (E.keep ts bs).σ (.gen t) = E.σ (.gen t) := by show Ab.keep ts bs E.σ (.gen t) = _; unfold Ab.keep; simp only [hc, if_true]
      obtain ⟨h1, h2⟩ := h
      exact ⟨by rw [e]; exact h1, fun hg => h2 (by rw [e] at hg; exact hg)⟩
    · trivial
  | rptr ps =>
    obtain ⟨b, o, h1, h2, h3, h4⟩ := h
    refine ⟨b, o, h1, fun hb => h2 (keep_X hb), h3, fun j p hp => ?_⟩
    obtain ⟨u, hu, hr⟩ := h4 j p hp
    exact ⟨u, hu, RdR.move hr (Keeps.refl _ _) hx⟩
  | optr q j n k c off => trivial
  | num m => trivial
theorem Rel.keep (h : Rel T W N E) : Rel T W N (E.keep ts bs) := by
  refine ⟨h.base, h.x0, h.defers, h.size, fun t => ?_, fun t m j hm hj => ?_, fun t ha => h.bxlo t (keep_alive.1 ha).2, fun t t' ha ha' he => h.bxinj t t' (keep_alive.1 ha).2 (keep_alive.1 ha').2 he, fun l j b hb => h.owlo l j b (keep_bk hb), fun l j l' j' b hb hb' => h.owinj _ _ _ _ _ (keep_bk hb) (keep_bk hb'), fun l j b t hb ha => h.owbx _ _ _ _ (keep_bk hb) (keep_alive.1 ha).2, h.pin⟩
  · by_cases hc : ts.contains t = true
    · have e : ((E.keep ts bs).σ (.slot t)).2 = keepSV bs (E.σ (.slot t)).2 := by show (Ab.keep ts bs E.σ (.slot t)).2 = _; unfold Ab.keep; simp only [hc, if_true]
      rw [e]
      exact (h.slot t).keep (fun j => by simp only [Env.keep, hc, if_true])
    · have e : ((E.keep ts bs).σ (.slot t)).2 = .none := by show (Ab.keep ts bs E.σ (.slot t)).2 = _; unfold Ab.keep; simp only [hc]; rfl
      rw [e]
      trivial
  · obtain ⟨hc, ha⟩ := keep_alive.1 ⟨m, hm⟩
    have eg : (E.keep ts bs).σ (.gen t) = E.σ (.gen t) := by show Ab.keep ts bs E.σ (.gen t) = _; unfold Ab.keep; simp only [hc, if_true]
    rw [eg] at hm
    obtain ⟨c, v, e1, e2, e3, e4⟩ := h.cell t m j hm hj
    refine ⟨c.noAl, v, ?_, e2, e3, e4.keep (by simp only [Env.keep, hc, if_true])⟩
    show (Ab.keep ts bs E.σ (.cell t j)).2 = _
    unfold Ab.keep
    simp only [hc, if_true, hm, hj, e1, keepSV, List.map_cons, List.map_nil]
end keep

/-! Bodies -/
def thenA (next : St → Prop) (Q : Exit → St → Prop) : Exit → St → Prop
  | .normal, σ => next σ
  | e, σ => Q e σ
def inBlockA (id : Nat) (Q : Exit → St → Prop) : Exit → St → Prop
  | .exit id', σ => if id' = id then Q .normal σ else Q (.exit id') σ
  | e, σ => Q e σ
/-- What is asked of a body. -/
def awp (T : Tab) (env : FuncId → Option FSpec) (N : Nat) : Code → (Exit → St → Prop) → St → Prop
  | .skip, Q, σ => Q .normal σ
  | .region _ ops false, Q, σ => rops T env N ops ops.toList (Q .normal) σ
  | .region _ ops true, Q, σ => lowEdges ops = true ∧ drops T env N ops (Q .normal) ops.toList [] σ
  | .seq a b, Q, σ => awp T env N a (thenA (awp T env N b Q) Q) σ
  | .cond (.tmp t) x y, Q, σ => match (σ (.slot t)).2 with
    | .val false [.b v] => (v = true → awp T env N x Q σ) ∧ (v = false → awp T env N y Q σ)
    | _ => False
  | .block id c, Q, σ => awp T env N c (inBlockA id Q) σ
  | .exit id, Q, σ => Q (.exit id) σ
  | .ret, Q, σ => Q .ret σ
  | .loop c, Q, σ => ∃ (ts bs : List Nat) (I : Nat → St → Prop), (∃ n, I n (keep ts bs σ)) ∧ ∀ n σ, I n σ → awp T env N c (thenA (fun σ' => ∃ m, m < n ∧ I m (keep ts bs σ')) Q) σ
  | _, _, _ => False
theorem QC.mono {Q Q' : Exit → St → Prop} (h : ∀ e σ, Q e σ → Q' e σ) : ∀ e a w, QC T W N Q e a w → QC T W N Q' e a w := fun _ _ _ ⟨E, a, b, c, d⟩ => ⟨E, a, b, c, h _ _ d⟩
theorem awp_ok (hT : TabOk P T) {env : FuncId → Option FSpec} (hE : EnvOk P T env) (hm : P.follows .mixedOrders = true) : ∀ (c : Code) {Q : Exit → St → Prop} {E : Env}, Rel T W N E → awp T env N c Q E.σ → c.wp P (QC T W N Q) E.a E.w
  | .skip, Q, E, h, hw => wp_skip ⟨E, h, rfl, rfl, hw⟩
  | .region _ ops false, Q, E, h, hw => wp_region_list (rops_ok hT hE h hw)
  | .region _ ops true, Q, E, h, hw => drops_ok hT hE hm h hw.1 hw.2
  | .seq a b, Q, E, h, hw => by
    refine wp_seq (wp_mono (awp_ok hT hE hm a h (hw : awp T env N a (thenA (awp T env N b Q) Q) E.σ)) fun e a' w' hq => ?_)
    obtain ⟨E', h', rfl, rfl, hq⟩ := hq
    cases e with
    | normal => exact awp_ok hT hE hm b h' hq
    | exit id => exact ⟨E', h', rfl, rfl, hq⟩
    | goto l => exact ⟨E', h', rfl, rfl, hq⟩
    | ret => exact ⟨E', h', rfl, rfl, hq⟩
    | panic ch => exact ⟨E', h', rfl, rfl, hq⟩
    | outgrown => exact ⟨E', h', rfl, rfl, hq⟩
  | .cond (.tmp t) x y, Q, E, h, hw => by
    have hs := h.slot t
    unfold awp at hw
    split at hw
    · rename_i v hv
      rw [hv] at hs
      have hb : E.a.eval (.tmp t) = .bool v := hs.bool
      cases v with
      | true => exact wp_cond_true hb (awp_ok hT hE hm x h (hw.1 rfl))
      | false => exact wp_cond_false hb (awp_ok hT hE hm y h (hw.2 rfl))
    · exact hw.elim
  | .block id c, Q, E, h, hw => by
    refine wp_block (wp_mono (awp_ok hT hE hm c h (hw : awp T env N c (inBlockA id Q) E.σ)) fun e a' w' hq => ?_)
    obtain ⟨E', h', rfl, rfl, hq⟩ := hq
    cases e with
    | exit id' =>
      simp only [inBlockA] at hq
      simp only [Exit.inBlock]
      split
      · rename_i hi; rw [if_pos hi] at hq; exact ⟨E', h', rfl, rfl, hq⟩
      · rename_i hi; rw [if_neg hi] at hq; exact ⟨E', h', rfl, rfl, hq⟩
    | normal => exact ⟨E', h', rfl, rfl, hq⟩
    | goto l => exact ⟨E', h', rfl, rfl, hq⟩
    | ret => exact ⟨E', h', rfl, rfl, hq⟩
    | panic ch => exact ⟨E', h', rfl, rfl, hq⟩
    | outgrown => exact ⟨E', h', rfl, rfl, hq⟩
  | .exit id, Q, E, h, hw => wp_exit ⟨E, h, rfl, rfl, hw⟩
  | .ret, Q, E, h, hw => wp_ret ⟨E, h, rfl, rfl, hw⟩
  | .loop c, Q, E, h, hw => by
    obtain ⟨ts, bs, I, ⟨n0, h0⟩, hround⟩ := (hw : ∃ (ts bs : List Nat) (I : Nat → St → Prop), (∃ n, I n (keep ts bs E.σ)) ∧ ∀ n σ, I n σ → awp T env N c (thenA (fun σ' => ∃ m, m < n ∧ I m (keep ts bs σ')) Q) σ)
    let G : Nat → Act → World → Prop := fun n a w => ∃ E', Rel T W N E' ∧ E'.a = a ∧ E'.w = w ∧ I n E'.σ
    have least : ∀ a w, (∃ n, G n a w) → ∃ n, G n a w ∧ ∀ m, m < n → ¬ G m a w := by
      intro a w ⟨n, hn⟩
      induction n using Nat.strongRecOn with
      | _ n ih =>
        by_cases hx : ∃ m, m < n ∧ G m a w
        · obtain ⟨m, hm', hg⟩ := hx; exact ih m hm' hg
        · exact ⟨n, hn, fun m hm' hg => hx ⟨m, hm', hg⟩⟩
    let M : Act → World → Nat := fun a w => open Classical in if h : ∃ n, G n a w then (least a w h).choose else 0
    have hM : ∀ a w n, G n a w → G (M a w) a w ∧ M a w ≤ n := by
      intro a w n hg
      have hex : ∃ n, G n a w := ⟨n, hg⟩
      have hs := (least a w hex).choose_spec
      have e : M a w = (least a w hex).choose := by simp only [M]; rw [dif_pos hex]
      rw [e]
      exact ⟨hs.1, Nat.le_of_not_lt fun hlt => hs.2 n hlt hg⟩
    refine wp_loop (fun a w => ∃ n, G n a w) M ⟨n0, E.keep ts bs, h.keep, rfl, rfl, h0⟩ fun a w ⟨n, hg⟩ => ?_
    obtain ⟨⟨E', h', rfl, rfl, hI⟩, _⟩ := hM a w n hg
    refine wp_mono (awp_ok hT hE hm c h' (hround _ E'.σ hI)) fun e a' w' hq => ?_
    obtain ⟨E2, h2, rfl, rfl, hq⟩ := hq
    cases e with
    | normal =>
      obtain ⟨m, hlt, hI2⟩ := hq
      have hg2 : G m E2.a E2.w := ⟨E2.keep ts bs, h2.keep, rfl, rfl, hI2⟩
      refine ⟨⟨_, hg2⟩, ?_⟩
      have := (hM _ _ _ hg2).2
      omega
    | exit id => exact ⟨E2, h2, rfl, rfl, hq⟩
    | goto l => exact ⟨E2, h2, rfl, rfl, hq⟩
    | ret => exact ⟨E2, h2, rfl, rfl, hq⟩
    | panic ch => exact ⟨E2, h2, rfl, rfl, hq⟩
    | outgrown => exact ⟨E2, h2, rfl, rfl, hq⟩
  | .cond (.const _) _ _, _, _, _, hw => hw.elim
  | .cond (.global _) _ _, _, _, _, hw => hw.elim
  | .cond (.func _) _ _, _, _, _, hw => hw.elim
  | .rangeFunc .., _, _, _, hw => hw.elim
  | .scope _, _, _, _, hw => hw.elim
  | .label _, _, _, _, hw => hw.elim
  | .goto _, _, _, _, hw => hw.elim
  | .refuse _, _, _, _, hw => hw.elim

theorem Pg.wp_mono : ∀ (p : Pg) {Q Q' : St → Prop} {σ : St}, (∀ σ, Q σ → Q' σ) → p.wp Q σ → p.wp Q' σ
  | .done, _, _, _, h, hw => h _ hw
  | .fail, _, _, _, _, hw => hw.elim
  | .get l k, _, _, σ, h, hw => wp_mono (k (σ l)) h hw
  | .set b l x k, _, _, _, h, hw => wp_mono k h hw
  | .chk c k, _, _, _, h, hw => ⟨hw.1, wp_mono k h hw.2⟩
  | .br x a b, _, _, _, h, hw => ⟨fun e => wp_mono a h (hw.1 e), fun e => wp_mono b h (hw.2 e)⟩
theorem Pg.wpl_mono : ∀ (p : Pg) {rs ws : List Loc} {K K' : List Loc → List Loc → St → Prop} {σ : St}, (∀ rs ws σ, K rs ws σ → K' rs ws σ) → p.wpl rs ws K σ → p.wpl rs ws K' σ
  | .done, _, _, _, _, _, h, hw => h _ _ _ hw
  | .fail, _, _, _, _, _, _, hw => hw.elim
  | .get l k, _, _, _, _, σ, h, hw => wpl_mono (k (σ l)) h hw
  | .set b l x k, _, _, _, _, _, h, hw => wpl_mono k h hw
  | .chk c k, _, _, _, _, _, h, hw => ⟨hw.1, wpl_mono k h hw.2⟩
  | .br x a b, _, _, _, _, _, h, hw => ⟨fun e => wpl_mono a h (hw.1 e), fun e => wpl_mono b h (hw.2 e)⟩
theorem rops_mono {env : FuncId → Option FSpec} {ops : Array Oper} {Q Q' : St → Prop} (h : ∀ σ, Q σ → Q' σ) : ∀ {l : List Oper} {σ : St}, rops T env N ops l Q σ → rops T env N ops l Q' σ
  | [], _, hw => h _ hw
  | _ :: _, _, hw => Pg.wp_mono _ (fun _ hw => rops_mono h hw) hw
theorem drops_mono {env : FuncId → Option FSpec} {ops : Array Oper} {Q Q' : St → Prop} (h : ∀ σ, Q σ → Q' σ) : ∀ {l : List Oper} {log : List (List Loc × List Loc)} {σ : St}, drops T env N ops Q l log σ → drops T env N ops Q' l log σ
  | [], _, _, hw => ⟨hw.1, h _ hw.2⟩
  | _ :: _, _, _, hw => Pg.wpl_mono _ (fun _ _ _ hw => drops_mono h hw) hw
theorem awp_mono {env : FuncId → Option FSpec} : ∀ (c : Code) {Q Q' : Exit → St → Prop} {σ : St}, (∀ e σ, Q e σ → Q' e σ) → awp T env N c Q σ → awp T env N c Q' σ
  | .skip, _, _, _, h, hw => h _ _ hw
  | .region _ ops false, Q, Q', _, h, hw => rops_mono (Q := Q .normal) (Q' := Q' .normal) (h _) hw
  | .region _ ops true, Q, Q', _, h, hw => ⟨hw.1, drops_mono (Q := Q .normal) (Q' := Q' .normal) (h _) hw.2⟩
  | .seq a b, Q, Q', σ, h, hw => awp_mono a (fun e σ hq => by
      cases e with
      | normal => exact awp_mono b h hq
      | _ => exact h _ _ hq) (hw : awp T env N a (thenA (awp T env N b Q) Q) σ)
  | .cond (.tmp t) x y, Q, Q', σ, h, hw => by
    unfold awp at hw ⊢
    split at hw
    · exact ⟨fun e => awp_mono x h (hw.1 e), fun e => awp_mono y h (hw.2 e)⟩
    · exact hw.elim
  | .block id c, Q, Q', σ, h, hw => awp_mono c (fun e σ hq => by
      cases e with
      | exit id' =>
        simp only [inBlockA] at hq ⊢
        split
        · rename_i hi; rw [if_pos hi] at hq; exact h _ _ hq
        · rename_i hi; rw [if_neg hi] at hq; exact h _ _ hq
      | _ => exact h _ _ hq) (hw : awp T env N c (inBlockA id Q) σ)
  | .exit id, _, _, _, h, hw => h _ _ hw
  | .ret, _, _, _, h, hw => h _ _ hw
  | .loop c, Q, Q', σ, h, hw => by
    obtain ⟨ts, bs, I, h0, hr⟩ := (hw : ∃ (ts bs : List Nat) (I : Nat → St → Prop), (∃ n, I n (keep ts bs σ)) ∧ ∀ n σ, I n σ → awp T env N c (thenA (fun σ' => ∃ m, m < n ∧ I m (keep ts bs σ')) Q) σ)
    refine ⟨ts, bs, I, h0, fun n σ hI => awp_mono c (fun e σ hq => ?_) (hr n σ hI)⟩
    cases e with
    | normal => exact hq
    | _ => exact h _ _ hq
  | .cond (.const _) _ _, _, _, _, _, hw => hw.elim
  | .cond (.global _) _ _, _, _, _, _, hw => hw.elim
  | .cond (.func _) _ _, _, _, _, _, hw => hw.elim
  | .rangeFunc .., _, _, _, _, hw => hw.elim
  | .scope _, _, _, _, _, hw => hw.elim
  | .label _, _, _, _, _, hw => hw.elim
  | .goto _, _, _, _, _, hw => hw.elim
  | .refuse _, _, _, _, _, hw => hw.elim
/-! Loops, by what is kept at their heads -/
/-- What is kept: the slots' values; of each variable its version and its cells. -/
abbrev Snap := List SV × List (Nat × List SV)
def cellsOf (bs : List Nat) (σ : St) (t : Nat) : List SV :=
  match (σ (.gen t)).2 with
  | .num m => (List.range m).map fun j => keepSV bs (σ (.cell t j)).2
  | _ => []
def snap (ts bs : List Nat) (σ : St) : Snap := (ts.map fun t => keepSV bs (σ (.slot t)).2, bs.map fun t => ((σ (.gen t)).1, cellsOf bs σ t))
def slotOf : List Nat → List SV → Nat → SV
  | t :: ts, s :: ss, x => if x = t then s else slotOf ts ss x
  | _, _, _ => .none
def boxOf : List Nat → List (Nat × List SV) → Nat → Option (Nat × List SV)
  | t :: ts, s :: ss, x => if x = t then some s else boxOf ts ss x
  | _, _, _ => none
def ofSnap (ts bs : List Nat) (s : Snap) : St := fun l => match l with
  | .slot t => (0, slotOf ts s.1 t)
  | .gen t => match boxOf bs s.2 t with
    | some (g, cs) => (g, .num cs.length)
    | none => (0, .none)
  | .cell t j => match boxOf bs s.2 t with
    | some (_, cs) => (0, cs.getD j .none)
    | none => (0, .none)
theorem slotOf_map (f : Nat → SV) (x : Nat) : ∀ (ts : List Nat), slotOf ts (ts.map f) x = if ts.contains x then f x else .none
  | [] => rfl
  | t :: ts => by
    simp only [List.map_cons, slotOf, slotOf_map f x ts, List.contains_cons]
    by_cases h : x = t
    · subst h; simp
    · simp [h]
theorem boxOf_map (f : Nat → Nat × List SV) (x : Nat) : ∀ (ts : List Nat), boxOf ts (ts.map f) x = if ts.contains x then some (f x) else none
  | [] => rfl
  | t :: ts => by
    simp only [List.map_cons, boxOf, boxOf_map f x ts, List.contains_cons]
    by_cases h : x = t
    · subst h; simp
    · simp [h]
/-- Each kept variable is there. -/
def Alive (bs : List Nat) (σ : St) : Prop := bs.all (fun t => match (σ (.gen t)).2 with | .num _ => true | _ => false) = true
theorem keep_eq {ts bs : List Nat} {σ : St} (h : Alive bs σ) : keep ts bs σ = ofSnap ts bs (snap ts bs σ) := by
  funext l
  cases l with
  | slot t =>
    show (if _ then _ else _) = (0, slotOf ts (ts.map _) t)
    rw [slotOf_map]
    split <;> rfl
  | gen t =>
    show (if _ then _ else _) = (match boxOf bs (bs.map _) t with | some (g, cs) => (g, SV.num cs.length) | none => (0, SV.none))
    rw [boxOf_map]
    split
    · rename_i hc
      have := List.all_eq_true.1 h t (by simpa using hc)
      cases hg : (σ (.gen t)).2 with
      | num m => simp only [cellsOf, hg, List.length_map, List.length_range]; rw [← hg]
      | _ => rw [hg] at this; cases this
    · rfl
  | cell t j =>
    show (if _ then _ else _) = (match boxOf bs (bs.map _) t with | some (_, cs) => (0, cs.getD j SV.none) | none => (0, SV.none))
    rw [boxOf_map]
    split
    · rename_i hc
      have := List.all_eq_true.1 h t (by simpa using hc)
      cases hg : (σ (.gen t)).2 with
      | num m =>
        simp only [cellsOf, hg]
        split
        · rename_i hj
          simp [List.getD_eq_getElem?_getD, hj]
        · rename_i hj
          simp [List.getD_eq_getElem?_getD, hj]
      | _ => rw [hg] at this; cases this
    · rfl
theorem awp_loop {env : FuncId → Option FSpec} {c : Code} {Q : Exit → St → Prop} {σ : St} (ts bs : List Nat) (I : Nat → Snap → Prop) (h0 : Alive bs σ ∧ ∃ n, I n (snap ts bs σ))
    (hr : ∀ n s, I n s → awp T env N c (thenA (fun σ' => Alive bs σ' ∧ ∃ m, m < n ∧ I m (snap ts bs σ')) Q) (ofSnap ts bs s)) : awp T env N (.loop c) Q σ := by
  refine ⟨ts, bs, fun n σ => ∃ s, σ = ofSnap ts bs s ∧ I n s, ?_, fun n σ ⟨s, hs, hI⟩ => ?_⟩
  · obtain ⟨ha, n, hn⟩ := h0
    exact ⟨n, _, keep_eq ha, hn⟩
  · subst hs
    refine awp_mono c ?_ (hr n s hI)
    intro e σ' hq
    cases e with
    | normal =>
      obtain ⟨ha, m, hlt, hm⟩ := hq
      exact ⟨m, hlt, _, keep_eq ha, hm⟩
    | _ => exact hq
end Go.Proofs.YtijnlnmoellbaaaGreat.Ab
