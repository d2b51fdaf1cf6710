/- One operation of whatever kind; guards; regions in order, and regions whose order is open. No program in sight. -/
import Derived.Test.YtijnlnmoellbaaaGreatAb15b
import Derived.Tactics
namespace Go.Proofs.YtijnlnmoellbaaaGreat.Ab
open Go.RowKit
variable {P : Program} {T : Tab} {W : Base} {N : Nat}

def stepBuiltin (T : Tab) (N : Nat) (o : Oper) (b : Builtin) (xs : List Operand) (ts : List TypeId) : Pg :=
  match b, xs, ts with
  | .len, [x], [t] => stepLen T N o t x
  | .append, [x, y], [t, t'] => if t' = t then stepAppend T N o t x y else .fail
  | _, _, _ => .fail
def stepOp (T : Tab) (env : FuncId → Option FSpec) (N : Nat) (o : Oper) : Pg :=
  match o.op with
  | .move x => stepMove N o x
  | .assign (.const (.slice none 0 0)) => stepNil T N o
  | .assign x => stepAssign N o x
  | .pick c a b => stepPick N o c a b
  | .unOp op _ x => stepUn N o op x
  | .binOp op t x y _ => stepBinAny T N o op t x y
  | .extract x i => stepExtract N o x i
  | .fieldAddr t x f => stepField T N o t x f
  | .indexAddr t x i => stepIndexAddr T N o t x i
  | .index t x i => stepIndex T N o t x i
  | .load t x => stepLoad T N o t x
  | .convert src dst x => stepConv T N o src dst x
  | .alloc t => stepAlloc T N o t
  | .box t x => stepBox T N o t x
  | .store t x (.const (.slice none 0 0)) => stepStoreNil T o t x
  | .store t x y => stepStoreAny T o t x y
  | .build t ps => stepBuild T N o t ps.toList
  | .buildSlice t len ps => stepSlice0 T N o t len ps.toList
  | .makeSlice t l c => stepMake T N o t l c
  | .call { callee := .builtin b, args := xs, argTypes := ts } => stepBuiltin T N o b xs.toList ts.toList
  | .call { callee := .value (.func f), args := xs, argTypes := _ } => match env f with
    | some s => stepCallAny T N o s xs.toList
    | none => .fail
  | _ => .fail
def EnvOk (P : Program) (T : Tab) (env : FuncId → Option FSpec) : Prop := ∀ f s, env f = some s → FOk P T f s
theorem fail_ok {o : Oper} : OpOk P T W N o .fail := fun _ _ _ _ _ hw _ => hw.elim
theorem builtin_ok (hT : TabOk P T) {o : Oper} {b : Builtin} {xs : Array Operand} {ts : Array TypeId} (ho : o.op = .call { callee := .builtin b, args := xs, argTypes := ts }) : OpOk P T W N o (stepBuiltin T N o b xs.toList ts.toList) := by
  unfold stepBuiltin
  split
  · rename_i x t hx ht
    obtain rfl : xs = #[x] := by apply Array.ext'; simpa using hx
    obtain rfl : ts = #[t] := by apply Array.ext'; simpa using ht
    exact len_ok hT ho
  · rename_i x y t t' hx ht
    obtain rfl : xs = #[x, y] := by apply Array.ext'; simpa using hx
    obtain rfl : ts = #[t, t'] := by apply Array.ext'; simpa using ht
    split
    · rename_i he
      subst he
      exact append_ok hT ho
    · exact fail_ok
  · exact fail_ok
theorem op_ok (hT : TabOk P T) {env : FuncId → Option FSpec} (hE : EnvOk P T env) (o : Oper) : OpOk P T W N o (stepOp T env N o) := by
  unfold stepOp
  split
  · rename_i h; exact move_ok h
  · rename_i h; exact nil_ok h
  · rename_i h; exact assign_ok h
  · rename_i h; exact pick_ok h
  · rename_i h; exact un_ok h
  · rename_i h; exact binAny_ok hT h
  · rename_i h; exact extract_ok h
  · rename_i h; exact field_ok hT h
  · rename_i h; exact indexAddr_ok hT h
  · rename_i h; exact index_ok hT h
  · rename_i h; exact load_ok hT h
  · rename_i h; exact conv_ok hT h
  · rename_i h; exact alloc_ok hT h
  · rename_i h; exact box_ok h
  · rename_i h; exact storeNil_ok hT h
  · rename_i h; exact storeAny_ok hT h
  · rename_i h; exact build_ok hT h
  · rename_i h; exact buildSlice_ok hT h
  · rename_i h; exact make_ok hT h
  · rename_i h; exact builtin_ok hT h
  · rename_i h
    split
    · rename_i s hs
      exact callAny_ok (hE _ s hs) h
    · exact fail_ok
  · exact fail_ok

/-! Guards -/
def skipDst (N : Nat) (o : Oper) : Pg :=
  match o.dst with
  | some d => .lt d N (.set 1 (.slot d) (.tup []) .done)
  | none => .done
def stepAt (T : Tab) (env : FuncId → Option FSpec) (N : Nat) (ops : Array Oper) (o : Oper) : Pg :=
  match o.guard with
  | none => stepOp T env N o
  | some (j, want) => match (ops[j]?).bind (·.dst) with
    | some g => .get (.slot g) fun v => match v.2 with
      | .val false [.b x] => match want with
        | true => .br x (stepOp T env N o) (skipDst N o)
        | false => .br x (skipDst N o) (stepOp T env N o)
      | .tup [] => skipDst N o
      | _ => .fail
    | none => .fail
theorem skip_ok {E : Env} {o : Oper} {Q : St → Prop} {K : Act → World → Prop} (h : Rel T W N E) (hw : (skipDst N o).wp Q E.σ) (hK : ∀ E', Rel T W N E' → Q E'.σ → K E'.a E'.w) : K (E.a.put o.dst undef) E.w := by
  unfold skipDst at hw
  split at hw
  · rename_i d hd
    rw [hd]
    exact hK (E.lay N d undef (.tup [])) (h.lay (Pg.lt_wp hw).1 ⟨#[], rfl, rfl, fun j p hp => by simp at hp⟩) (Pg.lt_wp hw).2
  · rename_i hd
    rw [hd]
    exact hK E h hw
theorem at_ok (hT : TabOk P T) {env : FuncId → Option FSpec} (hE : EnvOk P T env) {ops : Array Oper} {E : Env} {o : Oper} {Q : St → Prop} {K : Act → World → Prop} {Qx : Exit → Act → World → Prop} (h : Rel T W N E) (hw : (stepAt T env N ops o).wp Q E.σ)
    (hK : ∀ E', Rel T W N E' → Q E'.σ → K E'.a E'.w) : if Region.wanted o (yielded ops E.a.tmps) then o.wp P E.a E.w K Qx else K (E.a.put o.dst undef) E.w := by
  unfold stepAt at hw
  split at hw
  · rename_i hg
    rw [if_pos (by simp [Region.wanted, hg])]
    exact op_ok hT hE o E Q K Qx h hw hK
  · rename_i j want hg
    split at hw
    · rename_i g hj
      have hs := h.slot g
      simp only [Pg.wp] at hw
      split at hw
      · rename_i x hv
        rw [hv] at hs
        have hb : E.a.tmps.getD g undef = .bool x := hs.bool
        have hy : yielded ops E.a.tmps j = some x := by
          unfold yielded
          rw [hj]
          have hlt : g < E.a.tmps.size := by
            rcases Nat.lt_or_ge g E.a.tmps.size with h' | h'
            · exact h'
            · simp [h'] at hb; cases hb
          have : E.a.tmps[g]? = some (.bool x) := by
            simp [hlt] at hb
            simp [hlt, hb]
          simp [this]
        cases want <;> cases x
        · rw [if_pos (by simp [Region.wanted, hg, hy])]
          exact op_ok hT hE o E Q K Qx h (hw.2 rfl) hK
        · rw [if_neg (by simp [Region.wanted, hg, hy])]
          exact skip_ok h (hw.1 rfl) hK
        · rw [if_neg (by simp [Region.wanted, hg, hy])]
          exact skip_ok h (hw.2 rfl) hK
        · rw [if_pos (by simp [Region.wanted, hg, hy])]
          exact op_ok hT hE o E Q K Qx h (hw.1 rfl) hK
      · rename_i hv
        rw [hv] at hs
        obtain ⟨arr, e1, e2, _⟩ := hs
        have hu : E.a.tmps.getD g undef = .tuple arr := e1
        have hy : yielded ops E.a.tmps j = none := by
          unfold yielded
          rw [hj]
          cases ht : E.a.tmps[g]? with
          | none => simp [ht]
          | some u =>
            have : u = .tuple arr := by
              rw [← hu]
              simp [ht]
            simp [ht, this]
        rw [if_neg (by simp [Region.wanted, hg, hy])]
        exact skip_ok h hw hK
      · exact hw.elim
    · exact hw.elim

/-! Regions in order -/
def rops (T : Tab) (env : FuncId → Option FSpec) (N : Nat) (ops : Array Oper) : List Oper → (St → Prop) → St → Prop
  | [], Q, σ => Q σ
  | o :: r, Q, σ => (stepAt T env N ops o).wp (rops T env N ops r Q) σ
/-- A post over abstract states, of the model's states. -/
def QC (T : Tab) (W : Base) (N : Nat) (Q : Exit → St → Prop) : Exit → Act → World → Prop := fun e a w => ∃ E, Rel T W N E ∧ E.a = a ∧ E.w = w ∧ Q e E.σ
theorem rops_ok (hT : TabOk P T) {env : FuncId → Option FSpec} (hE : EnvOk P T env) {ops : Array Oper} {Q : Exit → St → Prop} : ∀ {l : List Oper} {E : Env}, Rel T W N E → rops T env N ops l (Q .normal) E.σ → wpList P ops (QC T W N Q) l E.a E.w
  | [], E, h, hw => ⟨E, h, rfl, rfl, hw⟩
  | o :: r, E, h, hw => by
    unfold wpList
    have := at_ok hT hE (K := wpList P ops (QC T W N Q) r) (Qx := QC T W N Q) h hw (fun E' h' hq => rops_ok hT hE h' hq)
    split
    · rename_i hwant; rw [if_pos hwant] at this; exact .inl this
    · rename_i hwant; rw [if_neg hwant] at this; exact this

/-! Regions whose order is open -/
def Pg.wpl : Pg → List Loc → List Loc → (List Loc → List Loc → St → Prop) → St → Prop
  | .done, rs, ws, K, σ => K rs ws σ
  | .fail, _, _, _, _ => False
  | .get l k, rs, ws, K, σ => (k (σ l)).wpl (l :: rs) ws K σ
  | .set b l x k, rs, ws, K, σ => k.wpl (l :: rs) (l :: ws) K (updw b σ l x)
  | .chk c k, rs, ws, K, σ => c ∧ k.wpl rs ws K σ
  | .br x a b, rs, ws, K, σ => (x = true → a.wpl rs ws K σ) ∧ (x = false → b.wpl rs ws K σ)
theorem Pg.wpl_exec : ∀ (p : Pg) {rs ws : List Loc} {K : List Loc → List Loc → St → Prop} {σ : St}, p.wpl rs ws K σ →
    ∃ σ', p.exec σ = some σ' ∧ K ((p.reads σ).reverse ++ rs) ((p.writes σ).reverse ++ ws) σ'
  | .done, rs, ws, K, σ, h => ⟨σ, rfl, h⟩
  | .fail, _, _, _, _, h => h.elim
  | .get l k, rs, ws, K, σ, h => by
    obtain ⟨σ', h1, h2⟩ := wpl_exec (k (σ l)) h
    exact ⟨σ', h1, by simpa [reads, writes] using h2⟩
  | .set b l x k, rs, ws, K, σ, h => by
    obtain ⟨σ', h1, h2⟩ := wpl_exec k h
    exact ⟨σ', h1, by simpa [reads, writes] using h2⟩
  | .chk c k, rs, ws, K, σ, h => by
    obtain ⟨σ', h1, h2⟩ := wpl_exec k h.2
    exact ⟨σ', by simp only [exec]; rw [if_pos h.1]; exact h1, by simpa [reads, writes] using h2⟩
  | .br true a b, rs, ws, K, σ, h => wpl_exec a (h.1 rfl)
  | .br false a b, rs, ws, K, σ, h => wpl_exec b (h.2 rfl)
def befB (ops : Array Oper) (i j : Nat) : Bool :=
  match ops[j]? with
  | some o => o.after.any fun e => Region.binds .any e && e.on == i
  | none => false
def disj (a b : List Loc) : Bool := a.all fun l => !b.contains l
/-- No two operations without an edge between them touch what the other writes. -/
def logOk (ops : Array Oper) (log : List (List Loc × List Loc)) : Bool :=
  log.zipIdx.all fun (x, i) => log.zipIdx.all fun (y, j) => if i < j then befB ops i j || (disj x.2 y.1 && disj y.2 x.1) else true
def lowEdges (ops : Array Oper) : Bool := ops.toList.zipIdx.all fun (o, i) => o.after.all fun e => !Region.binds .any e || e.on < i
def drops (T : Tab) (env : FuncId → Option FSpec) (N : Nat) (ops : Array Oper) (Q : St → Prop) : List Oper → List (List Loc × List Loc) → St → Prop
  | [], log, σ => logOk ops log = true ∧ Q σ
  | o :: r, log, σ => (stepAt T env N ops o).wpl [] [] (fun rs ws => drops T env N ops Q r (log ++ [(rs, ws)])) σ
theorem drops_runs {env : FuncId → Option FSpec} {ops : Array Oper} {Q : St → Prop} : ∀ {l : List Oper} {log : List (List Loc × List Loc)} {σ : St}, drops T env N ops Q l log σ →
    ∃ σs : Nat → St, σs 0 = σ ∧ (∀ (i : Nat) o, l[i]? = some o → (stepAt T env N ops o).exec (σs i) = some (σs (i + 1))) ∧
      ∃ log', log'.length = l.length ∧ (∀ (i : Nat) o x, l[i]? = some o → log'[i]? = some x → x = (((stepAt T env N ops o).reads (σs i)).reverse, ((stepAt T env N ops o).writes (σs i)).reverse)) ∧ logOk ops (log ++ log') = true ∧ Q (σs l.length)
  | [], log, σ, h => ⟨fun _ => σ, rfl, fun i o h => by simp at h, [], rfl, fun i o x h => by simp at h, by simpa using h.1, h.2⟩
  | o :: r, log, σ, h => by
    obtain ⟨σ', h1, h2⟩ := Pg.wpl_exec _ h
    obtain ⟨σs, a1, a2, log', a3, a4, a5, a6⟩ := drops_runs h2
    refine ⟨fun i => match i with | 0 => σ | i + 1 => σs i, rfl, fun i o' ho => ?_, _ :: log', by simp [a3], fun i o' x ho hx => ?_, by simpa using a5, a6⟩
    · cases i with
      | zero =>
        obtain rfl := Option.some.inj ho
        show _ = some (σs 0)
        rw [a1]; exact h1
      | succ i => exact a2 i o' (by simpa using ho)
    · cases i with
      | zero =>
        obtain rfl := Option.some.inj ho
        obtain rfl := Option.some.inj hx
        simp
      | succ i => exact a4 i o' x (by simpa using ho) (by simpa using hx)
theorem disj_spec {a b : List Loc} (h : disj a b = true) : ∀ l ∈ a, l ∉ b := by
  intro l hl hb
  have := List.all_eq_true.1 h l hl
  simp at this
  exact this hb
theorem Rel.drew {E : Env} (h : Rel T W N E) : Rel T W N { E with w := E.w.drew } := by
  have s : Step E { E with w := E.w.drew } := ⟨fun q => ⟨Nat.le_refl _, fun _ i => rfl⟩, fun _ _ => rfl, ⟨Nat.le_refl _, fun _ _ _ => rfl⟩, fun b _ hb => hb⟩
  exact h.next s h.base.drew h.defers h.size (fun t => .inl ⟨rfl, rfl, fun j => ⟨rfl, fun _ _ => rfl⟩⟩) (fun t m j hm hj => .inl ⟨hm, rfl, rfl, rfl, rfl, fun _ _ => rfl⟩) h.bxlo h.bxinj h.owlo h.owinj h.owbx
theorem drops_ok (hT : TabOk P T) {env : FuncId → Option FSpec} (hE : EnvOk P T env) (hm : P.follows .mixedOrders = true) {id : Nat} {ops : Array Oper} {Q : Exit → St → Prop} {E : Env} (h : Rel T W N E) (hlow : lowEdges ops = true)
    (hw : drops T env N ops (Q .normal) ops.toList [] E.σ) : (Code.region id ops true).wp P (QC T W N Q) E.a E.w := by
  refine wp_region_any hm ?_
  obtain ⟨σs, a1, a2, log, a3, a4, a5, a6⟩ := drops_runs hw
  let p : Nat → Pg := fun i => match ops[i]? with | some o => stepAt T env N ops o | none => .done
  have hp : ∀ {i o}, ops[i]? = some o → p i = stepAt T env N ops o := fun {i o} ho => by simp only [p, ho]
  have run : ∀ i, i < ops.size → (p i).exec (σs i) = some (σs (i + 1)) := fun i hi => by
    have ho : ops[i]? = some ops[i] := Array.getElem?_eq_getElem hi
    rw [hp ho]
    exact a2 i _ (by rw [Array.getElem?_toList]; exact ho)
  let bef : Nat → Nat → Prop := fun i j => befB ops i j = true
  have apart : ∀ i k, i < k → k < ops.size → ¬ bef i k → (∀ l ∈ (p i).writes (σs i), l ∉ (p k).reads (σs k)) ∧ (∀ l ∈ (p k).writes (σs k), l ∉ (p i).reads (σs i)) := by
    intro i k hik hk hb
    have hoi : ops[i]? = some ops[i] := Array.getElem?_eq_getElem (by omega)
    have hok : ops[k]? = some ops[k] := Array.getElem?_eq_getElem hk
    have hli : i < log.length := by rw [a3]; simp; omega
    have hlk : k < log.length := by rw [a3]; simpa using hk
    have xi := a4 i _ _ (by rw [Array.getElem?_toList]; exact hoi) (List.getElem?_eq_getElem hli)
    have xk := a4 k _ _ (by rw [Array.getElem?_toList]; exact hok) (List.getElem?_eq_getElem hlk)
    unfold logOk at a5
    rw [List.nil_append] at a5
    have m1 := List.all_eq_true.1 a5 (log[i], i) (List.mem_iff_getElem?.2 ⟨i, by simp [hli]⟩)
    have m2 := List.all_eq_true.1 m1 (log[k], k) (List.mem_iff_getElem?.2 ⟨k, by simp [hlk]⟩)
    simp only [hik, if_true, Bool.or_eq_true, Bool.and_eq_true] at m2
    obtain ⟨d1, d2⟩ := m2.resolve_left hb
    rw [xi, xk] at d1 d2
    rw [hp hoi, hp hok]
    exact ⟨fun l hl hr => disj_spec d1 l (by simpa using hl) (by simpa using hr), fun l hl hr => disj_spec d2 l (by simpa using hl) (by simpa using hr)⟩
  have key : ∀ (fuel : Nat) (listed : Array Bool) (E : Env), Rel T W N E → listed.size = ops.size → After ops.size p σs (fun i => listed.getD i false = true) E.σ →
      (∀ i, i < ops.size → listed.getD i false = true → ∀ k, k < ops.size → bef k i → listed.getD k false = true) →
      ((List.range ops.size).filter fun i => !listed.getD i false).length ≤ fuel → wpAny P .any ops (QC T W N Q) fuel listed E.a E.w := by
    have done : ∀ (listed : Array Bool) (E : Env), Rel T W N E → listed.size = ops.size → After ops.size p σs (fun i => listed.getD i false = true) E.σ → Region.ready .any ops listed = [] → QC T W N Q .normal E.a E.w := by
      intro listed E h hs haf hr
      have all : ∀ i, i < ops.size → listed.getD i false = true := by
        intro i
        induction i using Nat.strongRecOn with
        | _ i ih =>
          intro hi
          refine Classical.byContradiction fun hn => ?_
          have hmem : i ∈ Region.ready .any ops listed := by
            rw [mem_ready]
            have hlt : i < listed.size := by omega
            refine ⟨by simp [hlt] at hn ⊢; exact hn, ops[i], Array.getElem?_eq_getElem hi, fun e he hb => ?_⟩
            have := List.all_eq_true.1 hlow (ops[i], i) (List.mem_iff_getElem?.2 ⟨i, by simp [hi]⟩)
            have := Array.all_eq_true_iff_forall_mem.1 this e he
            simp [hb] at this
            exact ih e.on this (by omega)
          rw [hr] at hmem
          cases hmem
      have := haf.all run all
      refine ⟨E, h, rfl, rfl, ?_⟩
      rw [this]
      simpa using a6
    intro fuel
    induction fuel with
    | zero =>
      intro listed E h hs haf hcl hc
      have hr : Region.ready .any ops listed = [] := by
        refine List.eq_nil_iff_forall_not_mem.2 fun i hi => ?_
        rw [mem_ready] at hi
        obtain ⟨h0, o, ho, _⟩ := hi
        have hlt : i < ops.size := (Array.getElem?_eq_some_iff.1 ho).1
        have hf : listed.getD i false = false := by
          have : i < listed.size := by omega
          simp [this] at h0 ⊢; exact h0
        have : i ∈ (List.range ops.size).filter fun i => !listed.getD i false := by rw [List.mem_filter]; exact ⟨List.mem_range.2 hlt, by rw [hf]; rfl⟩
        have hlen := List.length_pos_of_mem this
        omega
      exact ⟨hr, done listed E h hs haf hr⟩
    | succ fuel ih =>
      intro listed E h hs haf hcl hc
      refine ⟨done listed E h hs haf, fun i hi => ?_⟩
      have hi' := mem_ready.1 hi
      obtain ⟨h0, o, ho, hall⟩ := hi'
      have hlt : i < ops.size := (Array.getElem?_eq_some_iff.1 ho).1
      have hli : i < listed.size := by omega
      have hf : listed.getD i false = false := by simp [hli] at h0 ⊢; exact h0
      have hS' : ∀ k, (listed.setIfInBounds i true).getD k false = true ↔ listed.getD k false = true ∨ k = i := by
        intro k
        by_cases e : i = k
        · subst e; simp [hli]
        · rw [getD_set_ne false e]
          exact ⟨.inl, fun h => h.resolve_right (fun h => e h.symm)⟩
      have hready : ∀ k, k < ops.size → bef k i → listed.getD k false = true := by
        intro k hk hb
        simp only [bef, befB, ho, Array.any_eq_true'] at hb
        obtain ⟨e, he, hb⟩ := hb
        simp only [Bool.and_eq_true, beq_iff_eq] at hb
        have := hall e he hb.1
        rw [hb.2] at this; exact this
      obtain ⟨σ', x1, x2⟩ := haf.step run (S' := fun k => (listed.setIfInBounds i true).getD k false = true) (bef := bef) hlt (by rw [hf]; simp) hS' hready hcl apart
      rw [hp ho] at x1
      unfold wpOp
      simp only [ho]
      have hwp : (stepAt T env N ops o).wp (fun s => s = σ') E.σ := Pg.exec_wp _ x1 rfl
      have := at_ok hT hE (K := wpAny P .any ops (QC T W N Q) fuel (listed.setIfInBounds i true)) (Qx := QC T W N Q) h hwp (fun E' h' hq => by
        refine ih _ E' h' (by simpa using hs) (by rw [hq]; exact x2) (fun k hk hkS m hmlt hb => ?_) ?_
        · rw [hS'] at hkS ⊢
          rcases hkS with hkS | rfl
          · exact .inl (hcl k hk hkS m hmlt hb)
          · exact .inl (hready m hmlt hb)
        · have hsub : ((List.range ops.size).filter fun k => !(listed.setIfInBounds i true).getD k false).length < ((List.range ops.size).filter fun k => !listed.getD k false).length := by
            have e1 : ((List.range ops.size).filter fun k => !(listed.setIfInBounds i true).getD k false) = ((List.range ops.size).filter fun k => !listed.getD k false).filter fun k => k != i := by
              rw [List.filter_filter]
              refine List.filter_congr fun k _ => ?_
              by_cases e : i = k
              · subst e; simp [hli]
              · rw [getD_set_ne false e]
                have : (k != i) = true := by simpa using fun h => e h.symm
                simp [this]
            rw [e1]
            refine List.length_filter_lt_length_iff_exists.2 ⟨i, ?_, by simp⟩
            rw [List.mem_filter]
            exact ⟨List.mem_range.2 hlt, by rw [hf]; rfl⟩
          omega)
      split
      · rename_i hwant; rw [if_pos hwant] at this; exact .inl this
      · rename_i hwant; rw [if_neg hwant] at this; exact this
  have h' : Rel T W N { E with w := E.w.drew } := h.drew
  refine key ops.size (Array.replicate ops.size false) { E with w := E.w.drew } h' (by simp) ?_ (fun i hi hs => by simp [hi] at hs) ?_
  · have := After.start (n := ops.size) (p := p) (σs := σs)
    rw [a1] at this
    refine ⟨fun l hl => this.first l (fun _ _ h => h.elim), fun i hi hs => ?_⟩
    simp [hi] at hs
  · exact Nat.le_trans (List.length_filter_le _ _) (by simp)
end Go.Proofs.YtijnlnmoellbaaaGreat.Ab
