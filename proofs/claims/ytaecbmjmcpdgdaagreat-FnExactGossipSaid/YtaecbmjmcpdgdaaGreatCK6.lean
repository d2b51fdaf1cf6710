/- One operation of whatever kind; guards; regions in order, and regions whose order is open. No program in sight. Whole bodies: what is asked over abstract states is enough for the model's run. No program in sight. From what is asked of a body to the contract of the function. No program in sight. From what is asked of a body to the contract of a function that a variable is lent to. No program in sight. What is asked of a body settles one end: so a function that returns something has a description. No program in sight. Bodies parted: behind a part, what is not needed is forgotten. No program in sight. -/
import Derived.Test.YtaecbmjmcpdgdaaGreatCKq
import Derived.Tactics
set_option linter.unusedVariables false
set_option linter.unusedSimpArgs false
namespace Go.Proofs.YtaecbmjmcpdgdaaGreat.Ab
noncomputable section
open Go.RowKit
variable {P : Program} {T : Tab} {W : Base} {N : Nat}
def stepBuiltin (T : Tab) (N : Nat) (o : Oper) (b : Builtin) (xs : List Operand) (ts : List TypeId) : Pg :=
  match b, xs, ts with
  | .len, [x], [t] => stepLen T N o t x
  | .append, [x, y], [t, t'] => if t' = t then stepAppend T N o t x y else stepAppendS T N o t t' x y
  | .max, [x, y], _ => stepMax N o x y
  | .min, [x, y], _ => stepMin N o x y
  | _, _, _ => .fail
def stepConvAny (T : Tab) (N : Nat) (o : Oper) (src dst : TypeId) (x : Operand) : Pg :=
  match T src, T dst with
  | some ts, some td => match ts.cts, td.cts with
    | [.l _], [.s] => stepStr T N o src dst x
    | [.s], [.l _] => stepBytes T N o src dst x
    | _, _ => stepConv T N o src dst x
  | _, _ => .fail
theorem convAny_ok (hT : TabOk P T) {o : Oper} {src dst : TypeId} {x : Operand} (ho : o.op = .convert src dst x) : OpOk P T W N o (stepConvAny T N o src dst x) := by
  unfold stepConvAny
  split
  · split
    · exact str_ok hT ho
    · exact bytes_ok hT ho
    · exact conv_ok hT ho
  · exact fun _ _ _ _ _ hw _ => hw.elim
def stepOp (T : Tab) (env : FuncId → Option FSpec) (N : Nat) (o : Oper) : Pg :=
  match o.op with
  | .move x => stepMoveT N o x
  | .assign (.const (.slice none 0 0)) => stepNil T N o
  | .assign x => stepAssign N o x
  | .pick c a b => stepPick N o c a b
  | .unOp op _ x => stepUn N o op x
  | .binOp .and _ x y _ => stepBits N o .and x y
  | .binOp .or _ x y _ => stepBits N o .or x y
  | .binOp .xor _ x y _ => stepBits N o .xor x y
  | .binOp .shr _ x y _ => stepBits N o .shr x y
  | .binOp op t x y _ => stepBinAny T N o op t x y
  | .nilCheck x => stepNilCheck N o x
  | .slice t x lo hi none => stepSliceAny T N o t x lo hi
  | .extract x i => stepExtract N o x i
  | .fieldAddr t x f => stepField T N o t x f
  | .indexAddr t x i => stepIndexAddr T N o t x i
  | .index t x i => stepIndex T N o t x i
  | .load t (.global g) => stepLoadG T N o t g
  | .load t x => stepLoad T N o t x
  | .convert src dst x => stepConvAny T N o src dst x
  | .alloc t => stepAlloc T N o t
  | .box t x => stepBox T N o t x
  | .store t x (.const (.slice none 0 0)) => stepStoreNil T o t x
  | .store t x y => stepStoreAny2 T o t x y
  | .build t ps => stepBuild T N o t ps.toList
  | .buildSlice t len ps => stepSlice2 T N o t len ps.toList
  | .makeSlice t l c => stepMake T N o t l c
  | .call { callee := .builtin b, args := xs, argTypes := ts } => stepBuiltin T N o b xs.toList ts.toList
  | .call { callee := .value (.func f), args := xs, argTypes := _ } => match env f with
    | some s => stepCallAny T N o s xs.toList
    | none => .fail
  | _ => .fail
def EnvOk (P : Program) (T : Tab) (env : FuncId → Option FSpec) : Prop := ∀ f s, env f = some s → FOk P T f s
theorem fail_ok {o : Oper} : OpOk P T W N o .fail := fun _ _ _ _ _ hw _ => hw.elim
theorem builtin_ok (hT : TabOk P T) {o : Oper} {b : Builtin} {xs : Array Operand} {ts : Array TypeId} (ho : o.op = .call { callee := .builtin b, args := xs, argTypes := ts }) : OpOk P T W N o (stepBuiltin T N o b xs.toList ts.toList) := by
  unfold stepBuiltin
  split
  · rename_i x t hx ht
    obtain rfl : xs = #[x] := by apply Array.ext'; simpa using hx
    obtain rfl : ts = #[t] := by apply Array.ext'; simpa using ht
    exact len_ok hT ho
  · rename_i x y t t' hx ht
    obtain rfl : xs = #[x, y] := by apply Array.ext'; simpa using hx
    obtain rfl : ts = #[t, t'] := by apply Array.ext'; simpa using ht
    split
    · rename_i he
      subst he
      exact append_ok hT ho
    · exact appendS_ok hT ho
  · rename_i x y hx
    obtain rfl : xs = #[x, y] := by apply Array.ext'; simpa using hx
    exact max_ok ho
  · rename_i x y hx
    obtain rfl : xs = #[x, y] := by apply Array.ext'; simpa using hx
    exact min_ok ho
  · exact fail_ok
theorem op_ok (hT : TabOk P T) {env : FuncId → Option FSpec} (hE : EnvOk P T env) (o : Oper) : OpOk P T W N o (stepOp T env N o) := by
  unfold stepOp
  split
  · rename_i h; exact moveT_ok h
  · rename_i h; exact nil_ok h
  · rename_i h; exact assign_ok h
  · rename_i h; exact pick_ok h
  · rename_i h; exact un_ok h
  · rename_i h; exact bits_ok h
  · rename_i h; exact bits_ok h
  · rename_i h; exact bits_ok h
  · rename_i h; exact bits_ok h
  · rename_i h; exact binAny_ok hT h
  · rename_i h; exact nilCheck_ok h
  · rename_i h; exact sliceAny_ok hT h
  · rename_i h; exact extract_ok h
  · rename_i h; exact field_ok hT h
  · rename_i h; exact indexAddr_ok hT h
  · rename_i h; exact index_ok hT h
  · rename_i h; exact loadG_ok hT h
  · rename_i h; exact load_ok hT h
  · rename_i h; exact convAny_ok hT h
  · rename_i h; exact alloc_ok hT h
  · rename_i h; exact box_ok h
  · rename_i h; exact storeNil_ok hT h
  · rename_i h; exact storeAny2_ok hT h
  · rename_i h; exact build_ok hT h
  · rename_i h; exact buildSlice2_ok hT h
  · rename_i h; exact make_ok hT h
  · rename_i h; exact builtin_ok hT h
  · rename_i h
    split
    · rename_i s hs
      exact callAny_ok (hE _ s hs) h
    · exact fail_ok
  · exact fail_ok
def skipDst (N : Nat) (o : Oper) : Pg :=
  match o.dst with
  | some d => .lt d N (.set 1 (.slot d) (.tup []) .done)
  | none => .done
def stepAt (T : Tab) (env : FuncId → Option FSpec) (N : Nat) (ops : Array Oper) (o : Oper) : Pg :=
  match o.guard with
  | none => stepOp T env N o
  | some (j, want) => match (ops[j]?).bind (·.dst) with
    | some g => .get (.slot g) fun v => match v.2 with
      | .val false [.b x] => match want with
        | true => .br x (stepOp T env N o) (skipDst N o)
        | false => .br x (skipDst N o) (stepOp T env N o)
      | .tup [] => skipDst N o
      | _ => .fail
    | none => .fail
theorem skip_ok {E : Env} {o : Oper} {Q : St → Prop} {K : Act → World → Prop} (h : Rel T W N E) (hw : (skipDst N o).wp Q E.σ) (hK : ∀ E', Rel T W N E' → Q E'.σ → K E'.a E'.w) : K (E.a.put o.dst undef) E.w := by
  unfold skipDst at hw
  split at hw
  · rename_i d hd
    rw [hd]
    exact hK (E.lay N d undef (.tup [])) (h.lay (Pg.lt_wp hw).1 ⟨#[], rfl, rfl, fun j p hp => by simp at hp⟩) (Pg.lt_wp hw).2
  · rename_i hd
    rw [hd]
    exact hK E h hw
theorem at_ok (hT : TabOk P T) {env : FuncId → Option FSpec} (hE : EnvOk P T env) {ops : Array Oper} {E : Env} {o : Oper} {Q : St → Prop} {K : Act → World → Prop} {Qx : Exit → Act → World → Prop} (h : Rel T W N E) (hw : (stepAt T env N ops o).wp Q E.σ)
    (hK : ∀ E', Rel T W N E' → Q E'.σ → K E'.a E'.w) : if Region.wanted o (yielded ops E.a.tmps) then o.wp P E.a E.w K Qx else K (E.a.put o.dst undef) E.w := by
  unfold stepAt at hw
  split at hw
  · rename_i hg
    rw [if_pos (by simp [Region.wanted, hg])]
    exact op_ok hT hE o E Q K Qx h hw hK
  · rename_i j want hg
    split at hw
    · rename_i g hj
      have hs := h.slot g
      simp only [Pg.wp] at hw
      split at hw
      · rename_i x hv
        rw [hv] at hs
        have hb : E.a.tmps.getD g undef = .bool x := hs.bool
        have hy : yielded ops E.a.tmps j = some x := by
          unfold yielded
          rw [hj]
          have hlt : g < E.a.tmps.size := by
            rcases Nat.lt_or_ge g E.a.tmps.size with h' | h'
            · exact h'
            · simp [h'] at hb; cases hb
          have : E.a.tmps[g]? = some (.bool x) := by
            simp [hlt] at hb
            simp [hlt, hb]
          simp [this]
        cases want <;> cases x
        · rw [if_pos (by simp [Region.wanted, hg, hy])]
          exact op_ok hT hE o E Q K Qx h (hw.2 rfl) hK
        · rw [if_neg (by simp [Region.wanted, hg, hy])]
          exact skip_ok h (hw.1 rfl) hK
        · rw [if_neg (by simp [Region.wanted, hg, hy])]
          exact skip_ok h (hw.2 rfl) hK
        · rw [if_pos (by simp [Region.wanted, hg, hy])]
          exact op_ok hT hE o E Q K Qx h (hw.1 rfl) hK
      · rename_i hv
        rw [hv] at hs
        obtain ⟨arr, e1, e2, _⟩ := hs
        have hu : E.a.tmps.getD g undef = .tuple arr := e1
        have hy : yielded ops E.a.tmps j = none := by
          unfold yielded
          rw [hj]
          cases ht : E.a.tmps[g]? with
          | none => simp [ht]
          | some u =>
            have : u = .tuple arr := by
              rw [← hu]
              simp [ht]
            simp [ht, this]
        rw [if_neg (by simp [Region.wanted, hg, hy])]
        exact skip_ok h hw hK
      · exact hw.elim
    · exact hw.elim
def rops (T : Tab) (env : FuncId → Option FSpec) (N : Nat) (ops : Array Oper) : List Oper → (St → Prop) → St → Prop
  | [], Q, σ => Q σ
  | o :: r, Q, σ => (stepAt T env N ops o).wp (rops T env N ops r Q) σ
def QC (T : Tab) (W : Base) (N : Nat) (Q : Exit → St → Prop) : Exit → Act → World → Prop := fun e a w => ∃ E, Rel T W N E ∧ E.a = a ∧ E.w = w ∧ Q e E.σ
theorem rops_ok (hT : TabOk P T) {env : FuncId → Option FSpec} (hE : EnvOk P T env) {ops : Array Oper} {Q : Exit → St → Prop} : ∀ {l : List Oper} {E : Env}, Rel T W N E → rops T env N ops l (Q .normal) E.σ → wpList P ops (QC T W N Q) l E.a E.w
  | [], E, h, hw => ⟨E, h, rfl, rfl, hw⟩
  | o :: r, E, h, hw => by
    unfold wpList
    have := at_ok hT hE (K := wpList P ops (QC T W N Q) r) (Qx := QC T W N Q) h hw (fun E' h' hq => rops_ok hT hE h' hq)
    split
    · rename_i hwant; rw [if_pos hwant] at this; exact .inl this
    · rename_i hwant; rw [if_neg hwant] at this; exact this
def Pg.wpl : Pg → List Loc → List Loc → (List Loc → List Loc → St → Prop) → St → Prop
  | .done, rs, ws, K, σ => K rs ws σ
  | .fail, _, _, _, _ => False
  | .get l k, rs, ws, K, σ => (k (σ l)).wpl (l :: rs) ws K σ
  | .set b l x k, rs, ws, K, σ => k.wpl (l :: rs) (l :: ws) K (updw b σ l x)
  | .chk c k, rs, ws, K, σ => c ∧ k.wpl rs ws K σ
  | .br x a b, rs, ws, K, σ => (x = true → a.wpl rs ws K σ) ∧ (x = false → b.wpl rs ws K σ)
theorem Pg.wpl_exec : ∀ (p : Pg) {rs ws : List Loc} {K : List Loc → List Loc → St → Prop} {σ : St}, p.wpl rs ws K σ →
    ∃ σ', p.exec σ = some σ' ∧ K ((p.reads σ).reverse ++ rs) ((p.writes σ).reverse ++ ws) σ'
  | .done, rs, ws, K, σ, h => ⟨σ, rfl, h⟩
  | .fail, _, _, _, _, h => h.elim
  | .get l k, rs, ws, K, σ, h => by
    obtain ⟨σ', h1, h2⟩ := wpl_exec (k (σ l)) h
    exact ⟨σ', h1, by simpa [reads, writes] using h2⟩
  | .set b l x k, rs, ws, K, σ, h => by
    obtain ⟨σ', h1, h2⟩ := wpl_exec k h
    exact ⟨σ', h1, by simpa [reads, writes] using h2⟩
  | .chk c k, rs, ws, K, σ, h => by
    obtain ⟨σ', h1, h2⟩ := wpl_exec k h.2
    exact ⟨σ', by simp only [exec]; rw [if_pos h.1]; exact h1, by simpa [reads, writes] using h2⟩
  | .br true a b, rs, ws, K, σ, h => wpl_exec a (h.1 rfl)
  | .br false a b, rs, ws, K, σ, h => wpl_exec b (h.2 rfl)
def disj (a b : List Loc) : Bool := a.all fun l => !b.contains l
def dirs (o : Oper) : List Nat := (o.after.toList.filter fun e => Region.binds .any e).map fun e => e.on
def ancs : List Oper → List (List Nat) → List (List Nat)
  | [], acc => acc
  | o :: r, acc => ancs r (acc ++ [dirs o ++ (dirs o).flatMap fun k => acc.getD k []])
theorem ancs_keep : ∀ (l : List Oper) (acc : List (List Nat)) (k : Nat), k < acc.length → (ancs l acc).getD k [] = acc.getD k []
  | [], _, _, _ => rfl
  | o :: r, acc, k, hk => by
    rw [ancs, ancs_keep r _ k (by rw [List.length_append]; omega)]
    rw [List.getD_eq_getElem?_getD, List.getElem?_append_left hk, ← List.getD_eq_getElem?_getD]
theorem ancs_spec : ∀ (l : List Oper) (acc : List (List Nat)) (i j : Nat), acc.length ≤ j → i ∈ (ancs l acc).getD j [] →
    ∃ o, l[j - acc.length]? = some o ∧ (i ∈ dirs o ∨ ∃ k ∈ dirs o, i ∈ (ancs l acc).getD k [])
  | [], acc, i, j, hj, hi => by
    rw [ancs, List.getD_eq_getElem?_getD, List.getElem?_eq_none (by omega)] at hi
    cases hi
  | o :: r, acc, i, j, hj, hi => by
    rw [ancs] at hi ⊢
    by_cases e : j = acc.length
    · subst e
      rw [ancs_keep r _ _ (by rw [List.length_append, List.length_singleton]; omega), List.getD_eq_getElem?_getD, List.getElem?_append_right (Nat.le_refl _), Nat.sub_self] at hi
      have hi : i ∈ dirs o ++ (dirs o).flatMap fun k => acc.getD k [] := hi
      refine ⟨o, by simp, ?_⟩
      rcases List.mem_append.1 hi with hi | hi
      · exact .inl hi
      · obtain ⟨k, hk, hik⟩ := List.mem_flatMap.1 hi
        refine .inr ⟨k, hk, ?_⟩
        by_cases hlt : k < acc.length
        · rw [ancs_keep r _ _ (by rw [List.length_append]; omega), List.getD_eq_getElem?_getD, List.getElem?_append_left hlt, ← List.getD_eq_getElem?_getD]
          exact hik
        · rw [List.getD_eq_getElem?_getD, List.getElem?_eq_none (by omega)] at hik
          cases hik
    · obtain ⟨o', h1, h2⟩ := ancs_spec r _ i j (by rw [List.length_append, List.length_singleton]; omega) hi
      refine ⟨o', ?_, h2⟩
      rw [List.length_append, List.length_singleton] at h1
      rw [show j - acc.length = (j - (acc.length + 1)) + 1 by omega, List.getElem?_cons_succ]
      exact h1
def logOk (ops : Array Oper) (log : List (List Loc × List Loc)) : Bool :=
  (fun an : List (List Nat) => log.zipIdx.all fun (x, i) => log.zipIdx.all fun (y, j) => if i < j then (an.getD j []).contains i || (disj x.2 y.1 && disj y.2 x.1) else true) (ancs ops.toList [])
def lowEdges (ops : Array Oper) : Bool := ops.toList.zipIdx.all fun (o, i) => o.after.all fun e => !Region.binds .any e || e.on < i
def drops (T : Tab) (env : FuncId → Option FSpec) (N : Nat) (ops : Array Oper) (Q : St → Prop) : List Oper → List (List Loc × List Loc) → St → Prop
  | [], log, σ => logOk ops log = true ∧ Q σ
  | o :: r, log, σ => (stepAt T env N ops o).wpl [] [] (fun rs ws => drops T env N ops Q r (log ++ [(rs, ws)])) σ
theorem drops_runs {env : FuncId → Option FSpec} {ops : Array Oper} {Q : St → Prop} : ∀ {l : List Oper} {log : List (List Loc × List Loc)} {σ : St}, drops T env N ops Q l log σ →
    ∃ σs : Nat → St, σs 0 = σ ∧ (∀ (i : Nat) o, l[i]? = some o → (stepAt T env N ops o).exec (σs i) = some (σs (i + 1))) ∧
      ∃ log', log'.length = l.length ∧ (∀ (i : Nat) o x, l[i]? = some o → log'[i]? = some x → x = (((stepAt T env N ops o).reads (σs i)).reverse, ((stepAt T env N ops o).writes (σs i)).reverse)) ∧ logOk ops (log ++ log') = true ∧ Q (σs l.length)
  | [], log, σ, h => ⟨fun _ => σ, rfl, fun i o h => by simp at h, [], rfl, fun i o x h => by simp at h, by simpa using h.1, h.2⟩
  | o :: r, log, σ, h => by
    obtain ⟨σ', h1, h2⟩ := Pg.wpl_exec _ h
    obtain ⟨σs, a1, a2, log', a3, a4, a5, a6⟩ := drops_runs h2
    refine ⟨fun i => match i with | 0 => σ | i + 1 => σs i, rfl, fun i o' ho => ?_, _ :: log', by simp [a3], fun i o' x ho hx => ?_, by simpa using a5, a6⟩
    · cases i with
      | zero =>
        obtain rfl := Option.some.inj ho
        show _ = some (σs 0)
        rw [a1]; exact h1
      | succ i => exact a2 i o' (by simpa using ho)
    · cases i with
      | zero =>
        obtain rfl := Option.some.inj ho
        obtain rfl := Option.some.inj hx
        simp
      | succ i => exact a4 i o' x (by simpa using ho) (by simpa using hx)
theorem disj_spec {a b : List Loc} (h : disj a b = true) : ∀ l ∈ a, l ∉ b := by
  intro l hl hb
  have := List.all_eq_true.1 h l hl
  simp at this
  exact this hb
theorem Rel.drew {E : Env} (h : Rel T W N E) : Rel T W N { E with w := E.w.drew } := by
  have s : Step E { E with w := E.w.drew } := ⟨fun q => ⟨Nat.le_refl _, fun _ i => rfl⟩, fun _ _ => rfl, ⟨Nat.le_refl _, fun _ _ _ => rfl⟩, fun b _ hb => hb⟩
  exact h.next s h.base.drew h.defers h.size (fun t => .inl ⟨rfl, rfl, fun j => ⟨rfl, fun _ _ => rfl⟩⟩) (fun t m j hm hj => .inl ⟨hm, rfl, rfl, rfl, rfl, fun _ _ => rfl⟩) h.bxlo h.bxinj h.owlo h.owinj h.owbx
theorem drops_ok (hT : TabOk P T) {env : FuncId → Option FSpec} (hE : EnvOk P T env) (hm : P.follows .mixedOrders = true) {id : Nat} {ops : Array Oper} {Q : Exit → St → Prop} {E : Env} (h : Rel T W N E) (hlow : lowEdges ops = true)
    (hw : drops T env N ops (Q .normal) ops.toList [] E.σ) : (Code.region id ops true).wp P (QC T W N Q) E.a E.w := by
  refine wp_region_any hm ?_
  obtain ⟨σs, a1, a2, log, a3, a4, a5, a6⟩ := drops_runs hw
  let p : Nat → Pg := fun i => match ops[i]? with | some o => stepAt T env N ops o | none => .done
  have hp : ∀ {i o}, ops[i]? = some o → p i = stepAt T env N ops o := fun {i o} ho => by simp only [p, ho]
  have run : ∀ i, i < ops.size → (p i).exec (σs i) = some (σs (i + 1)) := fun i hi => by
    have ho : ops[i]? = some ops[i] := Array.getElem?_eq_getElem hi
    rw [hp ho]
    exact a2 i _ (by rw [Array.getElem?_toList]; exact ho)
  let bef : Nat → Nat → Prop := fun i j => i ∈ (ancs ops.toList []).getD j []
  have apart : ∀ i k, i < k → k < ops.size → ¬ bef i k → (∀ l ∈ (p i).writes (σs i), l ∉ (p k).reads (σs k)) ∧ (∀ l ∈ (p k).writes (σs k), l ∉ (p i).reads (σs i)) := by
    intro i k hik hk hb
    have hoi : ops[i]? = some ops[i] := Array.getElem?_eq_getElem (by omega)
    have hok : ops[k]? = some ops[k] := Array.getElem?_eq_getElem hk
    have hli : i < log.length := by rw [a3]; simp; omega
    have hlk : k < log.length := by rw [a3]; simpa using hk
    have xi := a4 i _ _ (by rw [Array.getElem?_toList]; exact hoi) (List.getElem?_eq_getElem hli)
    have xk := a4 k _ _ (by rw [Array.getElem?_toList]; exact hok) (List.getElem?_eq_getElem hlk)
    unfold logOk at a5
    rw [List.nil_append] at a5
    have m1 := List.all_eq_true.1 a5 (log[i], i) (List.mem_iff_getElem?.2 ⟨i, by simp [hli]⟩)
    have m2 := List.all_eq_true.1 m1 (log[k], k) (List.mem_iff_getElem?.2 ⟨k, by simp [hlk]⟩)
    simp only [hik, if_true, Bool.or_eq_true, Bool.and_eq_true] at m2
    obtain ⟨d1, d2⟩ := m2.resolve_left (fun hc => hb (List.contains_iff_mem.1 hc))
    rw [xi, xk] at d1 d2
    rw [hp hoi, hp hok]
    exact ⟨fun l hl hr => disj_spec d1 l (by simpa using hl) (by simpa using hr), fun l hl hr => disj_spec d2 l (by simpa using hl) (by simpa using hr)⟩
  have key : ∀ (fuel : Nat) (listed : Array Bool) (E : Env), Rel T W N E → listed.size = ops.size → After ops.size p σs (fun i => listed.getD i false = true) E.σ →
      (∀ i, i < ops.size → listed.getD i false = true → ∀ k, k < ops.size → bef k i → listed.getD k false = true) →
      ((List.range ops.size).filter fun i => !listed.getD i false).length ≤ fuel → wpAny P .any ops (QC T W N Q) fuel listed E.a E.w := by
    have done : ∀ (listed : Array Bool) (E : Env), Rel T W N E → listed.size = ops.size → After ops.size p σs (fun i => listed.getD i false = true) E.σ → Region.ready .any ops listed = [] → QC T W N Q .normal E.a E.w := by
      intro listed E h hs haf hr
      have all : ∀ i, i < ops.size → listed.getD i false = true := by
        intro i
        induction i using Nat.strongRecOn with
        | _ i ih =>
          intro hi
          refine Classical.byContradiction fun hn => ?_
          have hmem : i ∈ Region.ready .any ops listed := by
            rw [mem_ready]
            have hlt : i < listed.size := by omega
            refine ⟨by simp [hlt] at hn ⊢; exact hn, ops[i], Array.getElem?_eq_getElem hi, fun e he hb => ?_⟩
            have := List.all_eq_true.1 hlow (ops[i], i) (List.mem_iff_getElem?.2 ⟨i, by simp [hi]⟩)
            have := Array.all_eq_true_iff_forall_mem.1 this e he
            simp [hb] at this
            exact ih e.on this (by omega)
          rw [hr] at hmem
          cases hmem
      have := haf.all run all
      refine ⟨E, h, rfl, rfl, ?_⟩
      rw [this]
      simpa using a6
    intro fuel
    induction fuel with
    | zero =>
      intro listed E h hs haf hcl hc
      have hr : Region.ready .any ops listed = [] := by
        refine List.eq_nil_iff_forall_not_mem.2 fun i hi => ?_
        rw [mem_ready] at hi
        obtain ⟨h0, o, ho, _⟩ := hi
        have hlt : i < ops.size := (Array.getElem?_eq_some_iff.1 ho).1
        have hf : listed.getD i false = false := by
          have : i < listed.size := by omega
          simp [this] at h0 ⊢; exact h0
        have : i ∈ (List.range ops.size).filter fun i => !listed.getD i false := by rw [List.mem_filter]; exact ⟨List.mem_range.2 hlt, by rw [hf]; rfl⟩
        have hlen := List.length_pos_of_mem this
        omega
      exact ⟨hr, done listed E h hs haf hr⟩
    | succ fuel ih =>
      intro listed E h hs haf hcl hc
      refine ⟨done listed E h hs haf, fun i hi => ?_⟩
      have hi' := mem_ready.1 hi
      obtain ⟨h0, o, ho, hall⟩ := hi'
      have hlt : i < ops.size := (Array.getElem?_eq_some_iff.1 ho).1
      have hli : i < listed.size := by omega
      have hf : listed.getD i false = false := by simp [hli] at h0 ⊢; exact h0
      have hS' : ∀ k, (listed.setIfInBounds i true).getD k false = true ↔ listed.getD k false = true ∨ k = i := by
        intro k
        by_cases e : i = k
        · subst e; simp [hli]
        · rw [getD_set_ne false e]
          exact ⟨.inl, fun h => h.resolve_right (fun h => e h.symm)⟩
      have hready : ∀ k, k < ops.size → bef k i → listed.getD k false = true := by
        intro k hk hb
        have direct : ∀ m, m ∈ dirs o → listed.getD m false = true := fun m hm => by
          obtain ⟨e, he, rfl⟩ := List.mem_map.1 hm
          have := List.mem_filter.1 he
          exact hall e (by simpa using this.1) this.2
        obtain ⟨o', ho', hb⟩ := ancs_spec ops.toList [] k i (Nat.zero_le _) hb
        rw [List.length_nil, Nat.sub_zero, Array.getElem?_toList, ho] at ho'
        obtain rfl := Option.some.inj ho'
        rcases hb with hb | ⟨m, hm, hb⟩
        · exact direct k hb
        · have hlm : m < ops.size := by
            have := List.all_eq_true.1 hlow (o, i) (List.mem_iff_getElem?.2 ⟨i, by rw [List.getElem?_zipIdx, Array.getElem?_toList, ho]; simp⟩)
            obtain ⟨e, he, rfl⟩ := List.mem_map.1 hm
            have he := List.mem_filter.1 he
            have := Array.all_eq_true_iff_forall_mem.1 this e (by simpa using he.1)
            rw [he.2] at this
            simp at this
            omega
          exact hcl m hlm (direct m hm) k hk hb
      obtain ⟨σ', x1, x2⟩ := haf.step run (S' := fun k => (listed.setIfInBounds i true).getD k false = true) (bef := bef) hlt (by rw [hf]; simp) hS' hready hcl apart
      rw [hp ho] at x1
      unfold wpOp
      simp only [ho]
      have hwp : (stepAt T env N ops o).wp (fun s => s = σ') E.σ := Pg.exec_wp _ x1 rfl
      have := at_ok hT hE (K := wpAny P .any ops (QC T W N Q) fuel (listed.setIfInBounds i true)) (Qx := QC T W N Q) h hwp (fun E' h' hq => by
        refine ih _ E' h' (by simpa using hs) (by rw [hq]; exact x2) (fun k hk hkS m hmlt hb => ?_) ?_
        · rw [hS'] at hkS ⊢
          rcases hkS with hkS | rfl
          · exact .inl (hcl k hk hkS m hmlt hb)
          · exact .inl (hready m hmlt hb)
        · have hsub : ((List.range ops.size).filter fun k => !(listed.setIfInBounds i true).getD k false).length < ((List.range ops.size).filter fun k => !listed.getD k false).length := by
            have e1 : ((List.range ops.size).filter fun k => !(listed.setIfInBounds i true).getD k false) = ((List.range ops.size).filter fun k => !listed.getD k false).filter fun k => k != i := by
              rw [List.filter_filter]
              refine List.filter_congr fun k _ => ?_
              by_cases e : i = k
              · subst e; simp [hli]
              · rw [getD_set_ne false e]
                have : (k != i) = true := by simpa using fun h => e h.symm
                simp [this]
            rw [e1]
            refine List.length_filter_lt_length_iff_exists.2 ⟨i, ?_, by simp⟩
            rw [List.mem_filter]
            exact ⟨List.mem_range.2 hlt, by rw [hf]; rfl⟩
          omega)
      split
      · rename_i hwant; rw [if_pos hwant] at this; exact .inl this
      · rename_i hwant; rw [if_neg hwant] at this; exact this
  have h' : Rel T W N { E with w := E.w.drew } := h.drew
  refine key ops.size (Array.replicate ops.size false) { E with w := E.w.drew } h' (by simp) ?_ (fun i hi hs => by simp [hi] at hs) ?_
  · have := After.start (n := ops.size) (p := p) (σs := σs)
    rw [a1] at this
    refine ⟨fun l hl => this.first l (fun _ _ h => h.elim), fun i hi hs => ?_⟩
    simp [hi] at hs
  · exact Nat.le_trans (List.length_filter_le _ _) (by simp)
end
end Go.Proofs.YtaecbmjmcpdgdaaGreat.Ab
namespace Go.Proofs.YtaecbmjmcpdgdaaGreat.Ab
noncomputable section
open Go.RowKit
set_option linter.unusedVariables false
variable {P : Program} {T : Tab} {W : Base} {N : Nat}
def CV.noAl : CV → CV
  | .al .. => .dead
  | c => c
def keepSV (bs : List Nat) : SV → SV
  | .val ag cs => .val ag (cs.map CV.noAl)
  | .tup vs => .tup vs
  | .ptr t g p => if bs.contains t then .ptr t g p else .none
  | .rptr ps => .rptr ps
  | _ => .none
def keep (ts bs : List Nat) (σ : St) : St := fun l => match l with
  | .slot t => if ts.contains t then (0, keepSV bs (σ l).2) else (0, .none)
  | .gen t => if bs.contains t then σ l else (0, .none)
  | .cell t j => if bs.contains t then match (σ (.gen t)).2 with
    | .num m => if j < m then (0, keepSV bs (σ l).2) else (0, .none)
    | _ => (0, .none)
    else (0, .none)
def Env.keep (E : Env) (ts bs : List Nat) : Env :=
  { E with σ := Ab.keep ts bs E.σ, bk := fun l j => match l with
      | .slot t => if ts.contains t then E.bk l j else noB
      | .cell t _ => if bs.contains t then E.bk l j else noB
      | .gen _ => noB }
section keep
variable {E : Env} {ts bs : List Nat}
theorem keep_alive {t : Nat} : (E.keep ts bs).alive t ↔ bs.contains t = true ∧ E.alive t := by
  unfold Env.alive
  show (∃ m, (Ab.keep ts bs E.σ (.gen t)).2 = .num m) ↔ _
  unfold Ab.keep
  simp only
  split
  · rename_i h; exact ⟨fun h' => ⟨h, h'⟩, fun h' => h'.2⟩
  · rename_i h; exact ⟨fun ⟨m, hm⟩ => (by cases hm), fun h' => absurd h'.1 h⟩
theorem keep_bk {l : Loc} {j b : Nat} (h : (E.keep ts bs).bk l j b) : E.bk l j b := by
  cases l <;> simp only [Env.keep] at h
  · split at h
    · exact h
    · cases h
  · split at h
    · exact h
    · cases h
  · cases h
theorem keep_X {b : Nat} (h : (E.keep ts bs).X b) : E.X b := by
  rcases h with h | ⟨t, ht, rfl⟩ | ⟨l, j, hl⟩
  · exact .inl h
  · exact .inr (.inl ⟨t, (keep_alive.1 ht).2, rfl⟩)
  · exact .inr (.inr ⟨l, j, keep_bk hl⟩)
theorem RelCV.keep {l : Loc} {j : Nat} {v : Value} {c : CV} (h : RelCV T W E l j v c) (hb : (E.keep ts bs).bk l j = E.bk l j) : RelCV T W (E.keep ts bs) l j v c.noAl := by
  have hx : ∀ b, b < E.w.heap.size → (E.keep ts bs).X b → E.X b := fun b _ hb => keep_X hb
  cases c with
  | sl own e rows =>
    cases own with
    | true => exact OwnF.move (w' := E.w) h (Keeps.refl _ _) hx hb (fun _ _ => rfl)
    | false => exact RdR.move (h : RdR T E.w E.X _ _ _) (Keeps.refl _ _) hx
  | i k n => exact h
  | b x => exact h
  | s x => exact h
  | al q i n => trivial
  | dead => trivial
theorem RelSV.keep {l : Loc} {v : Value} {sv : SV} (h : RelSV T W E l v sv) (hb : ∀ j, (E.keep ts bs).bk l j = E.bk l j) : RelSV T W (E.keep ts bs) l v (keepSV bs sv) := by
  have hx : ∀ b, b < E.w.heap.size → (E.keep ts bs).X b → E.X b := fun b _ hb => keep_X hb
  cases sv with
  | none => trivial
  | val ag cs =>
    cases ag with
    | true =>
      obtain ⟨arr, h1, h2, h3⟩ := h
      refine ⟨arr, h1, by simpa using h2, fun j c hc => ?_⟩
      rw [List.getElem?_map] at hc
      cases hcs : cs[j]? with
      | none => rw [hcs] at hc; cases hc
      | some c0 =>
        rw [hcs] at hc
        obtain rfl := Option.some.inj hc
        obtain ⟨u, hu, hr⟩ := h3 j c0 hcs
        exact ⟨u, hu, hr.keep (hb j)⟩
    | false =>
      obtain ⟨c, rfl, h2⟩ := h
      exact ⟨_, rfl, h2.keep (hb 0)⟩
  | tup vs =>
    obtain ⟨arr, h1, h2, h3⟩ := h
    have pl : ∀ {c : CV} {j i x}, tupC i c → RelCV T W E l j x c → RelCV T W (E.keep ts bs) l j x c := fun {c j i x} hp hr => by
      cases c with
      | sl own e rows =>
        cases own with
        | true => exact OwnF.move (w' := E.w) hr (Keeps.refl _ _) hx (hb j) (fun _ _ => rfl)
        | false => exact RdR.move (hr : RdR T E.w E.X _ _ _) (Keeps.refl _ _) hx
      | i k n => exact hr
      | b x => exact hr
      | s x => exact hr
      | al q i n => exact Bool.noConfusion hp.1
      | dead => trivial
    refine ⟨arr, h1, h2, fun j p hp => ?_⟩
    obtain ⟨u, hu, hr⟩ := h3 j p hp
    refine ⟨u, hu, fun hp => ?_, fun hp => ?_⟩
    · obtain ⟨brr, e1, e2, e3⟩ := hr.1 hp
      refine ⟨brr, e1, e2, fun i c hc => ?_⟩
      obtain ⟨x, hx', hpl, hr'⟩ := e3 i c hc
      exact ⟨x, hx', hpl, pl hpl hr'⟩
    · obtain ⟨c, e1, hpl, hr'⟩ := hr.2 hp
      exact ⟨c, e1, hpl, pl hpl hr'⟩
  | ptr t g p =>
    unfold keepSV
    simp only
    split
    · rename_i hc
      have e : (E.keep ts bs).σ (.gen t) = E.σ (.gen t) := by show Ab.keep ts bs E.σ (.gen t) = _; unfold Ab.keep; simp only [hc, if_true]
      obtain ⟨h1, h2⟩ := h
      exact ⟨by rw [e]; exact h1, fun hg => h2 (by rw [e] at hg; exact hg)⟩
    · trivial
  | rptr ps =>
    obtain ⟨b, o, h1, h2, h3, h4⟩ := h
    refine ⟨b, o, h1, fun hb => h2 (keep_X hb), h3, fun j p hp => ?_⟩
    obtain ⟨u, hu, hr⟩ := h4 j p hp
    exact ⟨u, hu, RdR.move hr (Keeps.refl _ _) hx⟩
  | optr q j n k c off => trivial
  | num m => trivial
theorem Rel.keep (h : Rel T W N E) : Rel T W N (E.keep ts bs) := by
  refine ⟨h.base, h.x0, h.defers, h.size, fun t => ?_, fun t m j hm hj => ?_, fun t ha => h.bxlo t (keep_alive.1 ha).2, fun t t' ha ha' he => h.bxinj t t' (keep_alive.1 ha).2 (keep_alive.1 ha').2 he, fun l j b hb => h.owlo l j b (keep_bk hb), fun l j l' j' b hb hb' => h.owinj _ _ _ _ _ (keep_bk hb) (keep_bk hb'), fun l j b t hb ha => h.owbx _ _ _ _ (keep_bk hb) (keep_alive.1 ha).2, h.pin, h.glob.move (Keeps.refl _ _) (fun b _ hb => keep_X hb)⟩
  · by_cases hc : ts.contains t = true
    · have e : ((E.keep ts bs).σ (.slot t)).2 = keepSV bs (E.σ (.slot t)).2 := by show (Ab.keep ts bs E.σ (.slot t)).2 = _; unfold Ab.keep; simp only [hc, if_true]
      rw [e]
      exact (h.slot t).keep (fun j => by simp only [Env.keep, hc, if_true])
    · have e : ((E.keep ts bs).σ (.slot t)).2 = .none := by show (Ab.keep ts bs E.σ (.slot t)).2 = _; unfold Ab.keep; simp only [hc]; rfl
      rw [e]
      trivial
  · obtain ⟨hc, ha⟩ := keep_alive.1 ⟨m, hm⟩
    have eg : (E.keep ts bs).σ (.gen t) = E.σ (.gen t) := by show Ab.keep ts bs E.σ (.gen t) = _; unfold Ab.keep; simp only [hc, if_true]
    rw [eg] at hm
    obtain ⟨c, v, e1, e2, e3, e4⟩ := h.cell t m j hm hj
    refine ⟨c.noAl, v, ?_, e2, e3, e4.keep (by simp only [Env.keep, hc, if_true])⟩
    show (Ab.keep ts bs E.σ (.cell t j)).2 = _
    unfold Ab.keep
    simp only [hc, if_true, hm, hj, e1, keepSV, List.map_cons, List.map_nil]
end keep
def thenA (next : St → Prop) (Q : Exit → St → Prop) : Exit → St → Prop
  | .normal, σ => next σ
  | e, σ => Q e σ
def inBlockA (id : Nat) (Q : Exit → St → Prop) : Exit → St → Prop
  | .exit id', σ => if id' = id then Q .normal σ else Q (.exit id') σ
  | e, σ => Q e σ
def awp (T : Tab) (env : FuncId → Option FSpec) (N : Nat) : Code → (Exit → St → Prop) → St → Prop
  | .skip, Q, σ => Q .normal σ
  | .region _ ops false, Q, σ => rops T env N ops ops.toList (Q .normal) σ
  | .region _ ops true, Q, σ => lowEdges ops = true ∧ drops T env N ops (Q .normal) ops.toList [] σ
  | .seq a b, Q, σ => awp T env N a (thenA (awp T env N b Q) Q) σ
  | .cond (.tmp t) x y, Q, σ => match (σ (.slot t)).2 with
    | .val false [.b v] => (v = true → awp T env N x Q σ) ∧ (v = false → awp T env N y Q σ)
    | _ => False
  | .block id c, Q, σ => awp T env N c (inBlockA id Q) σ
  | .exit id, Q, σ => Q (.exit id) σ
  | .ret, Q, σ => Q .ret σ
  | .loop c, Q, σ => ∃ (ts bs : List Nat) (I : Nat → St → Prop), (∃ n, I n (keep ts bs σ)) ∧ ∀ n σ, I n σ → awp T env N c (thenA (fun σ' => ∃ m, m < n ∧ I m (keep ts bs σ')) Q) σ
  | _, _, _ => False
theorem QC.mono {Q Q' : Exit → St → Prop} (h : ∀ e σ, Q e σ → Q' e σ) : ∀ e a w, QC T W N Q e a w → QC T W N Q' e a w := fun _ _ _ ⟨E, a, b, c, d⟩ => ⟨E, a, b, c, h _ _ d⟩
theorem awp_ok (hT : TabOk P T) {env : FuncId → Option FSpec} (hE : EnvOk P T env) (hm : P.follows .mixedOrders = true) : ∀ (c : Code) {Q : Exit → St → Prop} {E : Env}, Rel T W N E → awp T env N c Q E.σ → c.wp P (QC T W N Q) E.a E.w
  | .skip, Q, E, h, hw => wp_skip ⟨E, h, rfl, rfl, hw⟩
  | .region _ ops false, Q, E, h, hw => wp_region_list (rops_ok hT hE h hw)
  | .region _ ops true, Q, E, h, hw => drops_ok hT hE hm h hw.1 hw.2
  | .seq a b, Q, E, h, hw => by
    refine wp_seq (wp_mono (awp_ok hT hE hm a h (hw : awp T env N a (thenA (awp T env N b Q) Q) E.σ)) fun e a' w' hq => ?_)
    obtain ⟨E', h', rfl, rfl, hq⟩ := hq
    cases e with
    | normal => exact awp_ok hT hE hm b h' hq
    | exit id => exact ⟨E', h', rfl, rfl, hq⟩
    | goto l => exact ⟨E', h', rfl, rfl, hq⟩
    | ret => exact ⟨E', h', rfl, rfl, hq⟩
    | panic ch => exact ⟨E', h', rfl, rfl, hq⟩
    | outgrown => exact ⟨E', h', rfl, rfl, hq⟩
  | .cond (.tmp t) x y, Q, E, h, hw => by
    have hs := h.slot t
    unfold awp at hw
    split at hw
    · rename_i v hv
      rw [hv] at hs
      have hb : E.a.eval (.tmp t) = .bool v := hs.bool
      cases v with
      | true => exact wp_cond_true hb (awp_ok hT hE hm x h (hw.1 rfl))
      | false => exact wp_cond_false hb (awp_ok hT hE hm y h (hw.2 rfl))
    · exact hw.elim
  | .block id c, Q, E, h, hw => by
    refine wp_block (wp_mono (awp_ok hT hE hm c h (hw : awp T env N c (inBlockA id Q) E.σ)) fun e a' w' hq => ?_)
    obtain ⟨E', h', rfl, rfl, hq⟩ := hq
    cases e with
    | exit id' =>
      simp only [inBlockA] at hq
      simp only [Exit.inBlock]
      split
      · rename_i hi; rw [if_pos hi] at hq; exact ⟨E', h', rfl, rfl, hq⟩
      · rename_i hi; rw [if_neg hi] at hq; exact ⟨E', h', rfl, rfl, hq⟩
    | normal => exact ⟨E', h', rfl, rfl, hq⟩
    | goto l => exact ⟨E', h', rfl, rfl, hq⟩
    | ret => exact ⟨E', h', rfl, rfl, hq⟩
    | panic ch => exact ⟨E', h', rfl, rfl, hq⟩
    | outgrown => exact ⟨E', h', rfl, rfl, hq⟩
  | .exit id, Q, E, h, hw => wp_exit ⟨E, h, rfl, rfl, hw⟩
  | .ret, Q, E, h, hw => wp_ret ⟨E, h, rfl, rfl, hw⟩
  | .loop c, Q, E, h, hw => by
    obtain ⟨ts, bs, I, ⟨n0, h0⟩, hround⟩ := (hw : ∃ (ts bs : List Nat) (I : Nat → St → Prop), (∃ n, I n (keep ts bs E.σ)) ∧ ∀ n σ, I n σ → awp T env N c (thenA (fun σ' => ∃ m, m < n ∧ I m (keep ts bs σ')) Q) σ)
    let G : Nat → Act → World → Prop := fun n a w => ∃ E', Rel T W N E' ∧ E'.a = a ∧ E'.w = w ∧ I n E'.σ
    have least : ∀ a w, (∃ n, G n a w) → ∃ n, G n a w ∧ ∀ m, m < n → ¬ G m a w := by
      intro a w ⟨n, hn⟩
      induction n using Nat.strongRecOn with
      | _ n ih =>
        by_cases hx : ∃ m, m < n ∧ G m a w
        · obtain ⟨m, hm', hg⟩ := hx; exact ih m hm' hg
        · exact ⟨n, hn, fun m hm' hg => hx ⟨m, hm', hg⟩⟩
    let M : Act → World → Nat := fun a w => open Classical in if h : ∃ n, G n a w then (least a w h).choose else 0
    have hM : ∀ a w n, G n a w → G (M a w) a w ∧ M a w ≤ n := by
      intro a w n hg
      have hex : ∃ n, G n a w := ⟨n, hg⟩
      have hs := (least a w hex).choose_spec
      have e : M a w = (least a w hex).choose := by simp only [M]; rw [dif_pos hex]
      rw [e]
      exact ⟨hs.1, Nat.le_of_not_lt fun hlt => hs.2 n hlt hg⟩
    refine wp_loop (fun a w => ∃ n, G n a w) M ⟨n0, E.keep ts bs, h.keep, rfl, rfl, h0⟩ fun a w ⟨n, hg⟩ => ?_
    obtain ⟨⟨E', h', rfl, rfl, hI⟩, _⟩ := hM a w n hg
    refine wp_mono (awp_ok hT hE hm c h' (hround _ E'.σ hI)) fun e a' w' hq => ?_
    obtain ⟨E2, h2, rfl, rfl, hq⟩ := hq
    cases e with
    | normal =>
      obtain ⟨m, hlt, hI2⟩ := hq
      have hg2 : G m E2.a E2.w := ⟨E2.keep ts bs, h2.keep, rfl, rfl, hI2⟩
      refine ⟨⟨_, hg2⟩, ?_⟩
      have := (hM _ _ _ hg2).2
      omega
    | exit id => exact ⟨E2, h2, rfl, rfl, hq⟩
    | goto l => exact ⟨E2, h2, rfl, rfl, hq⟩
    | ret => exact ⟨E2, h2, rfl, rfl, hq⟩
    | panic ch => exact ⟨E2, h2, rfl, rfl, hq⟩
    | outgrown => exact ⟨E2, h2, rfl, rfl, hq⟩
  | .cond (.const _) _ _, _, _, _, hw => hw.elim
  | .cond (.global _) _ _, _, _, _, hw => hw.elim
  | .cond (.func _) _ _, _, _, _, hw => hw.elim
  | .rangeFunc .., _, _, _, hw => hw.elim
  | .scope _, _, _, _, hw => hw.elim
  | .label _, _, _, _, hw => hw.elim
  | .goto _, _, _, _, hw => hw.elim
  | .refuse _, _, _, _, hw => hw.elim
theorem Pg.wp_mono : ∀ (p : Pg) {Q Q' : St → Prop} {σ : St}, (∀ σ, Q σ → Q' σ) → p.wp Q σ → p.wp Q' σ
  | .done, _, _, _, h, hw => h _ hw
  | .fail, _, _, _, _, hw => hw.elim
  | .get l k, _, _, σ, h, hw => wp_mono (k (σ l)) h hw
  | .set b l x k, _, _, _, h, hw => wp_mono k h hw
  | .chk c k, _, _, _, h, hw => ⟨hw.1, wp_mono k h hw.2⟩
  | .br x a b, _, _, _, h, hw => ⟨fun e => wp_mono a h (hw.1 e), fun e => wp_mono b h (hw.2 e)⟩
theorem Pg.wpl_mono : ∀ (p : Pg) {rs ws : List Loc} {K K' : List Loc → List Loc → St → Prop} {σ : St}, (∀ rs ws σ, K rs ws σ → K' rs ws σ) → p.wpl rs ws K σ → p.wpl rs ws K' σ
  | .done, _, _, _, _, _, h, hw => h _ _ _ hw
  | .fail, _, _, _, _, _, _, hw => hw.elim
  | .get l k, _, _, _, _, σ, h, hw => wpl_mono (k (σ l)) h hw
  | .set b l x k, _, _, _, _, _, h, hw => wpl_mono k h hw
  | .chk c k, _, _, _, _, _, h, hw => ⟨hw.1, wpl_mono k h hw.2⟩
  | .br x a b, _, _, _, _, _, h, hw => ⟨fun e => wpl_mono a h (hw.1 e), fun e => wpl_mono b h (hw.2 e)⟩
theorem rops_mono {env : FuncId → Option FSpec} {ops : Array Oper} {Q Q' : St → Prop} (h : ∀ σ, Q σ → Q' σ) : ∀ {l : List Oper} {σ : St}, rops T env N ops l Q σ → rops T env N ops l Q' σ
  | [], _, hw => h _ hw
  | _ :: _, _, hw => Pg.wp_mono _ (fun _ hw => rops_mono h hw) hw
theorem drops_mono {env : FuncId → Option FSpec} {ops : Array Oper} {Q Q' : St → Prop} (h : ∀ σ, Q σ → Q' σ) : ∀ {l : List Oper} {log : List (List Loc × List Loc)} {σ : St}, drops T env N ops Q l log σ → drops T env N ops Q' l log σ
  | [], _, _, hw => ⟨hw.1, h _ hw.2⟩
  | _ :: _, _, _, hw => Pg.wpl_mono _ (fun _ _ _ hw => drops_mono h hw) hw
theorem awp_mono {env : FuncId → Option FSpec} : ∀ (c : Code) {Q Q' : Exit → St → Prop} {σ : St}, (∀ e σ, Q e σ → Q' e σ) → awp T env N c Q σ → awp T env N c Q' σ
  | .skip, _, _, _, h, hw => h _ _ hw
  | .region _ ops false, Q, Q', _, h, hw => rops_mono (Q := Q .normal) (Q' := Q' .normal) (h _) hw
  | .region _ ops true, Q, Q', _, h, hw => ⟨hw.1, drops_mono (Q := Q .normal) (Q' := Q' .normal) (h _) hw.2⟩
  | .seq a b, Q, Q', σ, h, hw => awp_mono a (fun e σ hq => by
      cases e with
      | normal => exact awp_mono b h hq
      | _ => exact h _ _ hq) (hw : awp T env N a (thenA (awp T env N b Q) Q) σ)
  | .cond (.tmp t) x y, Q, Q', σ, h, hw => by
    unfold awp at hw ⊢
    split at hw
    · exact ⟨fun e => awp_mono x h (hw.1 e), fun e => awp_mono y h (hw.2 e)⟩
    · exact hw.elim
  | .block id c, Q, Q', σ, h, hw => awp_mono c (fun e σ hq => by
      cases e with
      | exit id' =>
        simp only [inBlockA] at hq ⊢
        split
        · rename_i hi; rw [if_pos hi] at hq; exact h _ _ hq
        · rename_i hi; rw [if_neg hi] at hq; exact h _ _ hq
      | _ => exact h _ _ hq) (hw : awp T env N c (inBlockA id Q) σ)
  | .exit id, _, _, _, h, hw => h _ _ hw
  | .ret, _, _, _, h, hw => h _ _ hw
  | .loop c, Q, Q', σ, h, hw => by
    obtain ⟨ts, bs, I, h0, hr⟩ := (hw : ∃ (ts bs : List Nat) (I : Nat → St → Prop), (∃ n, I n (keep ts bs σ)) ∧ ∀ n σ, I n σ → awp T env N c (thenA (fun σ' => ∃ m, m < n ∧ I m (keep ts bs σ')) Q) σ)
    refine ⟨ts, bs, I, h0, fun n σ hI => awp_mono c (fun e σ hq => ?_) (hr n σ hI)⟩
    cases e with
    | normal => exact hq
    | _ => exact h _ _ hq
  | .cond (.const _) _ _, _, _, _, _, hw => hw.elim
  | .cond (.global _) _ _, _, _, _, _, hw => hw.elim
  | .cond (.func _) _ _, _, _, _, _, hw => hw.elim
  | .rangeFunc .., _, _, _, _, hw => hw.elim
  | .scope _, _, _, _, _, hw => hw.elim
  | .label _, _, _, _, _, hw => hw.elim
  | .goto _, _, _, _, _, hw => hw.elim
  | .refuse _, _, _, _, _, hw => hw.elim
abbrev Snap := List SV × List (Nat × List SV)
def cellsOf (bs : List Nat) (σ : St) (t : Nat) : List SV :=
  match (σ (.gen t)).2 with
  | .num m => (List.range m).map fun j => keepSV bs (σ (.cell t j)).2
  | _ => []
def snap (ts bs : List Nat) (σ : St) : Snap := (ts.map fun t => keepSV bs (σ (.slot t)).2, bs.map fun t => ((σ (.gen t)).1, cellsOf bs σ t))
def slotOf : List Nat → List SV → Nat → SV
  | t :: ts, s :: ss, x => if x = t then s else slotOf ts ss x
  | _, _, _ => .none
def boxOf : List Nat → List (Nat × List SV) → Nat → Option (Nat × List SV)
  | t :: ts, s :: ss, x => if x = t then some s else boxOf ts ss x
  | _, _, _ => none
def ofSnap (ts bs : List Nat) (s : Snap) : St := fun l => match l with
  | .slot t => (0, slotOf ts s.1 t)
  | .gen t => match boxOf bs s.2 t with
    | some (g, cs) => (g, .num cs.length)
    | none => (0, .none)
  | .cell t j => match boxOf bs s.2 t with
    | some (_, cs) => (0, cs.getD j .none)
    | none => (0, .none)
theorem slotOf_map (f : Nat → SV) (x : Nat) : ∀ (ts : List Nat), slotOf ts (ts.map f) x = if ts.contains x then f x else .none
  | [] => rfl
  | t :: ts => by
    simp only [List.map_cons, slotOf, slotOf_map f x ts, List.contains_cons]
    by_cases h : x = t
    · subst h; simp
    · simp [h]
theorem boxOf_map (f : Nat → Nat × List SV) (x : Nat) : ∀ (ts : List Nat), boxOf ts (ts.map f) x = if ts.contains x then some (f x) else none
  | [] => rfl
  | t :: ts => by
    simp only [List.map_cons, boxOf, boxOf_map f x ts, List.contains_cons]
    by_cases h : x = t
    · subst h; simp
    · simp [h]
def Alive (bs : List Nat) (σ : St) : Prop := bs.all (fun t => match (σ (.gen t)).2 with | .num _ => true | _ => false) = true
theorem keep_eq {ts bs : List Nat} {σ : St} (h : Alive bs σ) : keep ts bs σ = ofSnap ts bs (snap ts bs σ) := by
  funext l
  cases l with
  | slot t =>
    show (if _ then _ else _) = (0, slotOf ts (ts.map _) t)
    rw [slotOf_map]
    split <;> rfl
  | gen t =>
    show (if _ then _ else _) = (match boxOf bs (bs.map _) t with | some (g, cs) => (g, SV.num cs.length) | none => (0, SV.none))
    rw [boxOf_map]
    split
    · rename_i hc
      have := List.all_eq_true.1 h t (by simpa using hc)
      cases hg : (σ (.gen t)).2 with
      | num m => simp only [cellsOf, hg, List.length_map, List.length_range]; rw [← hg]
      | _ => rw [hg] at this; cases this
    · rfl
  | cell t j =>
    show (if _ then _ else _) = (match boxOf bs (bs.map _) t with | some (_, cs) => (0, cs.getD j SV.none) | none => (0, SV.none))
    rw [boxOf_map]
    split
    · rename_i hc
      have := List.all_eq_true.1 h t (by simpa using hc)
      cases hg : (σ (.gen t)).2 with
      | num m =>
        simp only [cellsOf, hg]
        split
        · rename_i hj
          simp [List.getD_eq_getElem?_getD, hj]
        · rename_i hj
          simp [List.getD_eq_getElem?_getD, hj]
      | _ => rw [hg] at this; cases this
    · rfl
theorem awp_loop {env : FuncId → Option FSpec} {c : Code} {Q : Exit → St → Prop} {σ : St} (ts bs : List Nat) (I : Nat → Snap → Prop) (h0 : Alive bs σ ∧ ∃ n, I n (snap ts bs σ))
    (hr : ∀ n s, I n s → awp T env N c (thenA (fun σ' => Alive bs σ' ∧ ∃ m, m < n ∧ I m (snap ts bs σ')) Q) (ofSnap ts bs s)) : awp T env N (.loop c) Q σ := by
  refine ⟨ts, bs, fun n σ => ∃ s, σ = ofSnap ts bs s ∧ I n s, ?_, fun n σ ⟨s, hs, hI⟩ => ?_⟩
  · obtain ⟨ha, n, hn⟩ := h0
    exact ⟨n, _, keep_eq ha, hn⟩
  · subst hs
    refine awp_mono c ?_ (hr n s hI)
    intro e σ' hq
    cases e with
    | normal =>
      obtain ⟨ha, m, hlt, hm⟩ := hq
      exact ⟨m, hlt, _, keep_eq ha, hm⟩
    | _ => exact hq
end
end Go.Proofs.YtaecbmjmcpdgdaaGreat.Ab
namespace Go.Proofs.YtaecbmjmcpdgdaaGreat.Ab
noncomputable section
open Go.RowKit
variable {P : Program} {T : Tab} {W : Base} {N : Nat}
def init (args : List SV) : St := fun l => match l with
  | .slot t => (0, args.getD t .none)
  | _ => (0, .none)
def rdRes (T : Tab) (r : ResultVar) (k : SV → Pg) : Pg :=
  match r with
  | .tmp t => rdv (.tmp t) k
  | .cell a t => match T t with
    | some ty => rdv (.tmp a) fun sv => match sv with
      | .ptr b g p => .get (.gen b) fun v => if v.1 = g then match v.2 with
          | .num m => if p + ty.cts.length ≤ m then getCells b p ty.cts.length fun cs => k (.val ty.agg cs) else .fail
          | _ => .fail
        else .fail
      | _ => .fail
    | none => .fail
def resVal (r : ResultVar) (tmps : Array Value) : Sem Value :=
  match r with
  | .tmp t => pure (tmps.getD t undef)
  | .cell a t => do loadVar t (← asAddr (tmps.getD a undef))
theorem value_inv {s : Sem Value} {w : World} {v : Value} (h : (do pure (Next.value (← s)) : Sem Next).run P w = .ok (.value v) w) : s.run P w = .ok v w := by
  rw [Sem.run_bind] at h
  cases hs : s.run P w with
  | ok u w' =>
    rw [hs] at h
    simp only [Result.andThen_ok, Sem.run_pure, Result.ok.injEq, Next.value.injEq] at h
    rw [h.1, h.2]
  | halt x w' => rw [hs] at h; cases h
theorem rdRes_sound (hT : TabOk P T) {E : Env} (h : Rel T W N E) {r : ResultVar} {k : SV → Pg} {Q : St → Prop} (hw : (rdRes T r k).wp Q E.σ) :
    ∃ v sv, (resVal r E.a.tmps).run P E.w = .ok v E.w ∧ RelSV T W E (.slot N) v sv ∧ sv.free = true ∧ (k sv).wp Q E.σ := by
  cases r with
  | tmp t =>
    obtain ⟨sv, h1, f1, h3⟩ := rdv_sound h (show (rdv (.tmp t) k).wp Q E.σ from hw) (.slot N)
    exact ⟨E.a.eval (.tmp t), sv, rfl, h1, f1, h3⟩
  | cell a t =>
    unfold rdRes at hw
    simp only at hw
    split at hw
    · rename_i ty hty
      obtain ⟨sv, h1, f1, h3⟩ := rdv_sound h hw (.slot N)
      split at h3
      · rename_i b g p
        obtain ⟨e1, e2⟩ := h1
        simp only [Pg.wp] at h3
        split at h3
        · rename_i hg
          split at h3
          · rename_i m hm
            split at h3
            · rename_i hpm
              obtain ⟨cs, us, c1, c2, c3, c4, c5⟩ := getCells_sound h hm hpm h3
              obtain ⟨v, r1, r2⟩ := run_load (W := W) (N := N) hT (o := { dst := none, op := .load t (.tmp a), type := 0, pos := "", after := #[], guard := none }) rfl hty (e2 hg) c1 c2 c4
              refine ⟨v, _, ?_, r2, ?_, c5⟩
              · have hl := value_inv r1
                have hx : E.a.tmps.getD a undef = .pointer (some ⟨E.β b, p, none⟩) := e2 hg
                have hx' : E.a.eval (.tmp a) = .pointer (some ⟨E.β b, p, none⟩) := hx
                rw [hx'] at hl
                simp only [Instr.loadAt, Instr.sureAddr, Sem.run_bind, Sem.run_pure, Result.andThen_ok] at hl
                simp only [resVal, hx, asAddr, Sem.run_bind, Sem.run_pure, Result.andThen_ok]
                exact hl
              · refine List.all_eq_true.2 fun c hc => ?_
                have := List.all_eq_true.1 c3 c hc
                cases c with
                | sl own e rows => cases own <;> first | rfl | cases this
                | _ => rfl
            · exact h3.elim
          · exact h3.elim
        · exact h3.elim
      · exact h3.elim
    · exact hw.elim
def fins : List CV → List CV → (List CV → Pg) → Pg
  | [], [], k => k []
  | c :: r, e :: es, k => (match e with | .sl true _ _ => mov1 c | _ => pub1 c) fun c' => c'.force fun c' => fins r es fun r' => k (c' :: r')
  | _, _, _ => .fail
theorem fins_sound : ∀ {cs es : List CV} {k : List CV → Pg} {Q : St → Prop} {E : Env} {j : Nat} {us : List Value}, Rel T W N E → CellsR T W E (.slot N) j cs us → cs.all CV.free = true → (fins cs es k).wp Q E.σ →
    ∃ E' cs', Rel T W N E' ∧ Same E E' ∧ CellsR T W E' (.slot N) j cs' us ∧ cs'.all CV.set = true ∧ (∀ j', j' < j → E'.bk (.slot N) j' = E.bk (.slot N) j') ∧ (k cs').wp Q E'.σ
  | [], [], k, Q, E, j, us, h, hc, _, hw => ⟨E, [], h, .refl E, hc, rfl, fun _ _ => rfl, hw⟩
  | [], _ :: _, k, Q, E, j, us, h, hc, _, hw => hw.elim
  | _ :: _, [], k, Q, E, j, us, h, hc, _, hw => hw.elim
  | c :: r, e :: es, k, Q, E, j, us, h, hc, hf, hw => by
    cases us with
    | nil => exact absurd hc.1 (by simp)
    | cons u us =>
      simp only [List.all_cons, Bool.and_eq_true] at hf
      have one : ∃ E1 c', Rel T W N E1 ∧ Same E E1 ∧ RelCV T W E1 (.slot N) j u c' ∧ c'.set = true ∧ (∀ j', j' < j → E1.bk (.slot N) j' = E.bk (.slot N) j') ∧ ((fun c' => fins r es fun r' => k (c' :: r')) c').wp Q E1.σ := by
        have mv : ∀ {k' : CV → Pg}, (mov1 c k').wp Q E.σ → ∃ E1 c', Rel T W N E1 ∧ Same E E1 ∧ RelCV T W E1 (.slot N) j u c' ∧ c'.set = true ∧ (∀ j', j' < j → E1.bk (.slot N) j' = E.bk (.slot N) j') ∧ (k' c').wp Q E1.σ := fun hw => by
          obtain ⟨E1, c', a1, a2, a3, a4, a5, a6⟩ := mov1_sound h (hc.2 0 c u rfl rfl) hf.1 hw
          exact ⟨E1, c', a1, a2, a3, a4, fun j' hj' => a5 j' (by omega), a6⟩
        have pb : ∀ {k' : CV → Pg}, (pub1 c k').wp Q E.σ → ∃ E1 c', Rel T W N E1 ∧ Same E E1 ∧ RelCV T W E1 (.slot N) j u c' ∧ c'.set = true ∧ (∀ j', j' < j → E1.bk (.slot N) j' = E.bk (.slot N) j') ∧ (k' c').wp Q E1.σ := fun {k'} hw => by
          cases c with
          | al q i n =>
            obtain ⟨ag, cs, o, e', rows, h1, h2, h3, h4, h5⟩ := look_sound h (show (look q i n _).wp Q E.σ from hw) (hc.2 0 _ u rfl rfl)
            cases o with
            | true =>
              obtain ⟨r1, r2⟩ := h.freeze h1 h2
              refine ⟨_, .sl false e' rows, r1, ⟨rfl, rfl, rfl, turn_step h1 fun l j b hb => ?_⟩, r2 u h4, rfl, fun j' _ => ?_, h5⟩
              · split at hb
                · cases hb
                · exact ⟨l, j, hb⟩
              · show (if _ then _ else _) = _
                split
                · rename_i g
                  obtain ⟨g1, g2⟩ := g
                  rw [← g1] at h1
                  rw [← g2] at h2
                  exact (h.ghost h1 h2).elim
                · rfl
            | false => exact ⟨E, .sl false e' rows, h, .refl E, h4, rfl, fun _ _ => rfl, h5⟩
          | dead => exact hw.elim
          | sl own e' rows =>
            cases own with
            | true => cases hf.1
            | false => exact ⟨E, .sl false e' rows, h, .refl E, hc.2 0 _ u rfl rfl, rfl, fun _ _ => rfl, hw⟩
          | i k'' n => exact ⟨E, .i k'' n, h, .refl E, hc.2 0 _ u rfl rfl, rfl, fun _ _ => rfl, hw⟩
          | b x => exact ⟨E, .b x, h, .refl E, hc.2 0 _ u rfl rfl, rfl, fun _ _ => rfl, hw⟩
          | s x => exact ⟨E, .s x, h, .refl E, hc.2 0 _ u rfl rfl, rfl, fun _ _ => rfl, hw⟩
        simp only [fins, CV.force_eq] at hw
        cases e with
        | sl own e' rows =>
          cases own with
          | true => exact mv hw
          | false => exact pb hw
        | i k'' n => exact pb hw
        | b x => exact pb hw
        | s x => exact pb hw
        | al q i n => exact pb hw
        | dead => exact pb hw
      obtain ⟨E1, c', h1, s1, r1, t1, b1, w1⟩ := one
      have hr : CellsR T W E1 (.slot N) (j + 1) r us := by
        refine ⟨by simpa using hc.1, fun i c0 u0 hc0 hu0 => ?_⟩
        have := hc.2 (i + 1) c0 u0 (by simpa using hc0) (by simpa using hu0)
        rw [show j + 1 + i = j + (i + 1) by omega]
        exact this.step s1.step (fun e rows he => by
          have := List.all_eq_true.1 hf.2 c0 (List.mem_of_getElem? hc0)
          rw [he] at this; cases this)
      obtain ⟨E2, r', h2, s2, r2, t2, b2, w2⟩ := fins_sound h1 hr hf.2 w1
      refine ⟨E2, c' :: r', h2, s1.trans s2, ⟨by simp [r2.1], fun i c0 u0 hc0 hu0 => ?_⟩, by simp [t1, t2], fun j' hj' => (b2 j' (by omega)).trans (b1 j' hj'), w2⟩
      cases i with
      | zero =>
        obtain rfl := Option.some.inj hc0
        obtain rfl := Option.some.inj hu0
        exact r1.step s2.step (fun e rows _ => ⟨b2 j (by omega), fun b _ => by rw [s2.w]⟩)
      | succ i =>
        have := r2.2 i c0 u0 (by simpa using hc0) (by simpa using hu0)
        rw [show j + (i + 1) = j + 1 + i by omega]
        exact this
def rets (T : Tab) : List (Bool × List CV) → List ResultVar → (List (Bool × List CV) → Pg) → Pg
  | _, [], k => k []
  | [], _ :: _, _ => .fail
  | x :: xs, r :: rs, k => rdRes T r fun sv => match sv with
    | .val ag cs => if cs.length ≤ 1024 then fins cs x.2 fun cs' => rets T xs rs fun vs => k ((ag, cs') :: vs) else .fail
    | _ => .fail
def retPg (T : Tab) (rs : List ResultVar) (ex : SV) : Pg :=
  match rs, ex with
  | [r], .val ag' es => rdRes T r fun sv => match sv with
    | .val ag cs => if ag = ag' then fins cs es fun cs' => .chk (cs' = es) .done else .fail
    | _ => .fail
  | [_], _ => .fail
  | rs, .tup vs => rets T vs rs fun vs' => .chk (vs' = vs) .done
  | _, _ => .fail
theorem ArgC.resC {w : World} {X : Nat → Prop} {bk : Nat → Nat → Prop} {j i : Nat} {u : Value} {c : CV} (h : ArgC T w X u c) : tupC i c ∧ ResC T w X bk j u c := by
  cases c with
  | sl own e rows =>
    cases own with
    | true => exact h.elim
    | false => exact ⟨.plain rfl _, h⟩
  | i k n => exact ⟨.plain rfl _, h⟩
  | b x => exact ⟨.plain rfl _, h⟩
  | s x => exact ⟨.plain rfl _, h⟩
  | al q i n => exact h.elim
  | dead => exact h.elim
theorem ResC.less {w : World} {X X' : Nat → Prop} {bk bk' : Nat → Nat → Prop} {j j' : Nat} {v : Value} {c : CV} (h : ResC T w X bk j v c) (hx : ∀ b, b < w.heap.size → X' b → X b) (hb : bk' j' = bk j) : ResC T w X' bk' j' v c := by
  cases c with
  | sl own e rows =>
    cases own with
    | true => exact OwnF.move (h : OwnF T w X (bk j) e v rows) (Keeps.refl _ _) hx hb (fun _ _ => rfl)
    | false => exact RdR.move (h : RdR T w X _ _ _) (Keeps.refl _ _) hx
  | _ => exact h
theorem TupR.less {w : World} {X X' : Nat → Prop} {bk bk' : Nat → Nat → Prop} {j : Nat} {u : Value} {p : Bool × List CV} (h : TupR T w X bk j u p) (hx : ∀ b, b < w.heap.size → X' b → X b) (hb : ∀ (i : Nat) e rows, p.2[i]? = some (.sl true e rows) → bk' (tix j i) = bk (tix j i)) : TupR T w X' bk' j u p := by
  have key : ∀ (i : Nat) c x, p.2[i]? = some c → ResC T w X bk (tix j i) x c → ResC T w X' bk' (tix j i) x c := by
    intro i c x hc hr
    cases c with
    | sl own e rows =>
      cases own with
      | true => exact hr.less hx (hb i e rows hc)
      | false => exact RdR.move (hr : RdR T w X _ _ _) (Keeps.refl _ _) hx
    | _ => exact hr
  refine ⟨fun hp => ?_, fun hp => ?_⟩
  · obtain ⟨us, e1, e2, e3⟩ := h.1 hp
    exact ⟨us, e1, e2, fun i c x hc hu => ⟨(e3 i c x hc hu).1, key i c x hc (e3 i c x hc hu).2⟩⟩
  · obtain ⟨c, e1, e2, e3⟩ := h.2 hp
    exact ⟨c, e1, e2, key 0 c u (by rw [e1]; rfl) e3⟩
theorem rets_sound (hT : TabOk P T) : ∀ {xs : List (Bool × List CV)} {rs : List ResultVar} {E : Env} {k : List (Bool × List CV) → Pg} {Q : St → Prop} (a : Nat), Rel T W N E → (rets T xs rs k).wp Q E.σ →
    ∃ E' vs us, Rel T W N E' ∧ Same E E' ∧ (rs.mapM fun r => resVal r E.a.tmps).run P E.w = .ok us E.w ∧ vs.length = us.length ∧ us.length = rs.length ∧
      (∀ (j : Nat) p u, vs[j]? = some p → us[j]? = some u → TupR T E'.w E'.X (E'.bk (.slot N)) (a + j) u p) ∧ (∀ i, i < 1024 * a → E'.bk (.slot N) i = E.bk (.slot N) i) ∧ (k vs).wp Q E'.σ
  | xs, [], E, k, Q, a, h, hw => ⟨E, [], [], h, .refl E, rfl, rfl, rfl, fun j p u h => by simp at h, fun _ _ => rfl, by cases xs <;> exact hw⟩
  | [], _ :: _, E, k, Q, a, h, hw => hw.elim
  | x :: xs, r :: rs, E, k, Q, a, h, hw => by
    obtain ⟨v, sv, h0, h1, f1, h3⟩ := rdRes_sound hT h (show (rdRes T r _).wp Q E.σ from hw)
    split at h3
    · rename_i ag cs
      obtain ⟨us, u1, u2, u3⟩ := h1.operand
      have one : ∃ E1 cs', Rel T W N E1 ∧ Same E E1 ∧ TupR T E1.w E1.X (E1.bk (.slot N)) a v (ag, cs') ∧ (∀ i, i < 1024 * a → E1.bk (.slot N) i = E.bk (.slot N) i) ∧ cs'.length ≤ 1024 ∧ (rets T xs rs fun vs => k ((ag, cs') :: vs)).wp Q E1.σ := by
        split at h3
        · rename_i hlen
          have u1' : CellsR T W E (.slot N) (tix a 0) cs us := ⟨u1.1, fun i c u hc' hu => (u1.2 i c u hc' hu).any (fun e rows he => by
            have := List.all_eq_true.1 (cellsFree_of_free f1) c (List.mem_of_getElem? hc')
            rw [he] at this; cases this)⟩
          obtain ⟨E1, cs', r1, s1, c1, t1, b1, w1⟩ := fins_sound h u1' (cellsFree_of_free f1) h3
          have hl : cs'.length ≤ 1024 := by have := c1.1; have := u1.1; omega
          have hc : ∀ (i : Nat) c u, cs'[i]? = some c → us[i]? = some u → tupC i c ∧ ResC T E1.w E1.X (E1.bk (.slot N)) (tix a i) u c := by
            intro i c u hc hu
            have hr := c1.2 i c u hc hu
            have hs := List.all_eq_true.1 t1 c (List.mem_of_getElem? hc)
            rw [show tix a 0 + i = tix a i by unfold tix; omega] at hr
            refine ⟨⟨?_, .inr (by have := (List.getElem?_eq_some_iff.1 hc).1; omega)⟩, hr.resC hs (fun _ _ h => h) rfl⟩
            cases c with
            | al q i n => cases hs
            | _ => rfl
          refine ⟨E1, cs', r1, s1, ⟨fun hp => ⟨us, u2 hp, c1.1, hc⟩, fun hp => ?_⟩, fun i hi => b1 i (by unfold tix; omega), hl, w1⟩
          obtain ⟨hu, c0, hc0⟩ := u3 hp
          subst hu
          have hl1 := c1.1
          match cs', hl1, hc with
          | [c'], _, hc => exact ⟨c', rfl, hc 0 c' v rfl rfl⟩
        · exact h3.elim
      obtain ⟨E1, cs', r1, s1, c1, b1, p2, w1⟩ := one
      obtain ⟨E2, vs, us', r2, s2, m2, l2, l3, b2, k2, w2⟩ := rets_sound hT (a + 1) r1 w1
      refine ⟨E2, (ag, cs') :: vs, v :: us', r2, s1.trans s2, ?_, by simp [l2], by simp [l3], fun j p u hp hu => ?_, fun i hi => (k2 i (by omega)).trans (b1 i hi), w2⟩
      · rw [s1.a, s1.w] at m2
        rw [List.mapM_cons]
        simp only [Sem.run_bind, h0, Result.andThen_ok, m2]
        rfl
      · cases j with
        | zero =>
          obtain rfl := Option.some.inj hp
          obtain rfl := Option.some.inj hu
          rw [s2.w]
          refine TupR.less (j := a) c1 (fun b hb hx => s2.step.less b hb hx) fun i e rows hi => k2 _ ?_
          have hi' := (List.getElem?_eq_some_iff.1 hi).1
          simp only at hi'
          unfold tix
          omega
        | succ j =>
          have := b2 j p u (by simpa using hp) (by simpa using hu)
          rwa [show a + 1 + j = a + (j + 1) by omega] at this
    · exact h3.elim
theorem results_eq {fn : Func} {tmps : Array Value} {w : World} {us : List Value} (h : (fn.results.toList.mapM fun r => resVal r tmps).run P w = .ok us w) : (results fn tmps).run P w = .ok (if us.length = 1 then us.headD undef else .tuple us.toArray) w := by
  have hf : results fn tmps = (do let vs ← fn.results.mapM (fun r => resVal r tmps); pure (if h : vs.size = 1 then vs[0] else .tuple vs)) := by
    unfold results
    congr 1
  have hm : (fn.results.mapM fun r => resVal r tmps).run P w = Result.ok us.toArray w := by
    rw [Array.mapM_eq_mapM_toList]
    simp only [map_eq_pure_bind, Sem.run_bind, h]
    rfl
  rw [hf, Sem.run_bind, hm]
  simp only [Result.andThen_ok]
  match us with
  | [] => rfl
  | [u] => rfl
  | u :: u' :: r => simp
inductive WfD (T : Tab) : CT → D → Prop
  | int (k n) : inK k n → WfD T (.i k) (.i n)
  | bool (x) : WfD T .b (.b x)
  | str (x) : x.size ≤ maxLen → WfD T .s (.s x)
  | nil (e) : WfD T (.l e) (.l [])
  | sl (e : TypeId) (ty : Ty) (rows : List (List D)) : T e = some ty → rows.length ≤ maxLen → (∀ (k : Nat) (row : List D), rows[k]? = some row → row.length = ty.cts.length) →
      (∀ (k j : Nat) ct d (row : List D), rows[k]? = some row → ty.cts[j]? = some ct → row[j]? = some d → WfD T ct d) → WfD T (.l e) (.l rows)
theorem RdR.wf {w : World} {X : Nat → Prop} {ct : CT} {v : Value} {d : D} (h : RdR T w X ct v d) : WfD T ct d := by
  induction h with
  | int k n h => exact .int k n h
  | bool x => exact .bool x
  | str x h => exact .str x h
  | nil e A c h => exact .nil e
  | sl e ty b o c rows vs h1 h2 h3 h4 h5 h6 h7 _ ih => exact .sl e ty rows h1 (Nat.le_trans h2 h3) h7 ih
def WfC (T : Tab) : CV → Prop
  | .i k n => inK k n
  | .b _ => True
  | .s x => x.size ≤ maxLen
  | .sl false e rows => WfD T (.l e) (.l rows)
  | _ => False
def WfSV (T : Tab) : SV → Prop
  | .val _ cs => ∀ c ∈ cs, WfC T c
  | _ => False
theorem ArgC.wf {w : World} {X : Nat → Prop} {v : Value} {c : CV} (h : ArgC T w X v c) : WfC T c := by
  cases c with
  | sl own e rows =>
    cases own with
    | true => exact h
    | false => exact RdR.wf h
  | i k n => exact h.2
  | b x => trivial
  | s x => exact h.2
  | al q i n => exact h
  | dead => exact h
theorem ArgR.wf {w : World} {X : Nat → Prop} {v : Value} {a : SV} (h : ArgR T w X v a) : WfSV T a := by
  cases a with
  | val ag cs =>
    cases ag with
    | true =>
      obtain ⟨us, h1, h2, h3⟩ := h
      intro c hc
      obtain ⟨i, hi⟩ := List.getElem?_of_mem hc
      have hlt : i < us.length := by rw [← h2]; exact (List.getElem?_eq_some_iff.1 hi).1
      exact (h3 i c us[i] hi (List.getElem?_eq_getElem hlt)).wf
    | false =>
      obtain ⟨c, rfl, h2⟩ := h
      intro c' hc
      obtain rfl : c' = c := by simpa using hc
      exact h2.wf
  | _ => exact h
theorem fokG (hT : TabOk P T) {f : FuncId} {fn : Func} {c : Code} {s : FSpec} (hf : P.funcs[f]? = some fn) (hb : fn.body = some c)
    (hcall : ∀ args w, (callFunc f args).run P w = .ok (.enter f args) w) (hN : fn.ntmps = N)
    (h : ∀ args, s.pre args → (∀ a ∈ args, WfSV T a) → args.length ≤ N ∧ ∀ (W : Base) (E : Env), Rel T W N E → E.σ = init args → c.wp P (QC T W N (fun e σ => (e = .normal ∨ e = .ret) ∧ (retPg T fn.results.toList (s.res args)).wp (fun _ => True) σ)) E.a E.w) (hbx : s.bx = false := by rfl) : FOk P T f s := by
  refine ⟨hcall, fun hb => (by rw [hbx] at hb; cases hb), fun _ w X args vals hX hargs hgl hpre => ?_, fun hb => (by rw [hbx] at hb; cases hb)⟩
  obtain ⟨hlen, hw⟩ := h args hpre (fun a ha => by
    obtain ⟨i, hi⟩ := List.getElem?_of_mem ha
    have hlt : i < vals.length := by rw [← hargs.1]; exact (List.getElem?_eq_some_iff.1 hi).1
    exact (hargs.2 i a vals[i] hi (List.getElem?_eq_getElem hlt)).wf)
  have hvl : vals.length ≤ N := by rw [← hargs.1]; exact hlen
  refine calls_of_wp hf hb ?_
  let W : Base := { toWorld := w, x0 := X, x0lt := hX, lent := fun _ => False, lentx := fun _ h => h.elim, pin := none }
  let E : Env := { σ := init args, a := { tmps := vals.toArray ++ Array.replicate (fn.ntmps - vals.toArray.size) undef, defers := [] }, w := w, β := fun _ => 0, bk := fun _ _ => noB, x0 := X }
  have hEX : ∀ b, E.X b → X b := fun b hb => by
    rcases hb with hb | ⟨t, ⟨m, hm⟩, _⟩ | ⟨l, j, hl⟩
    · exact hb
    · cases hm
    · cases hl
  have hal : ∀ t, ¬ E.alive t := fun t ⟨m, hm⟩ => by cases hm
  have hcv : ∀ {v c l j}, ArgC T w X v c → RelCV T W E l j v c := fun {v c l j} hc => by
    cases c with
    | sl own e rows =>
      cases own with
      | true => exact hc.elim
      | false => exact RdR.move (hc : RdR T w X _ _ _) (Keeps.refl _ _) (fun b _ hb => hEX b hb)
    | i k n => exact hc
    | b x => exact hc
    | s x => exact hc
    | al q i n => exact hc.elim
    | dead => exact hc.elim
  have hrel : Rel T W N E := by
    refine ⟨Kept.refl W, rfl, rfl, ?_, fun t => ?_, fun t m j hm => (hal t ⟨m, hm⟩).elim, fun t ha => (hal t ha).elim, fun t _ ha => (hal t ha).elim, fun l j b hb => (by cases hb), fun l j l' j' b hb => (by cases hb), fun l j b t hb => (by cases hb), fun b hb => (by cases hb), hgl.move (Keeps.refl _ _) (fun b _ hb => hEX b hb)⟩
    · show (vals.toArray ++ Array.replicate (fn.ntmps - vals.toArray.size) undef).size = N
      rw [Array.size_append, Array.size_replicate, hN]
      simp; omega
    · show RelSV T W E (.slot t) _ (args.getD t .none)
      by_cases ht : t < args.length
      · have hv : t < vals.length := by rw [← hargs.1]; exact ht
        have hA := hargs.2 t args[t] vals[t] (List.getElem?_eq_getElem ht) (List.getElem?_eq_getElem hv)
        have e1 : args.getD t .none = args[t] := by simp [List.getD_eq_getElem?_getD, List.getElem?_eq_getElem ht]
        have e2 : E.a.tmps.getD t undef = vals[t] := by
          show (vals.toArray ++ _).getD t undef = _
          rw [Array.getD_eq_getD_getElem?, Array.getElem?_append_left (by simpa using hv)]
          simp [hv]
        rw [e1, e2]
        cases ha : args[t] with
        | val ag cs =>
          rw [ha] at hA
          cases ag with
          | true =>
            obtain ⟨us, g1, g2, g3⟩ := hA
            refine ⟨us.toArray, g1, by simp [g2], fun j c hc => ?_⟩
            have hj : j < us.length := by rw [← g2]; exact (List.getElem?_eq_some_iff.1 hc).1
            exact ⟨us[j], by simp [hj], hcv (g3 j c us[j] hc (List.getElem?_eq_getElem hj))⟩
          | false =>
            obtain ⟨c, g1, g2⟩ := hA
            exact ⟨c, g1, hcv g2⟩
        | _ => rw [ha] at hA; exact hA.elim
      · have e1 : args.getD t .none = .none := by simp [List.getD_eq_getElem?_getD, List.getElem?_eq_none (Nat.le_of_not_lt ht)]
        rw [e1]
        trivial
  have := hw W E hrel rfl
  refine wp_mono this fun e a w' hq => ?_
  obtain ⟨E', h', rfl, rfl, he, hr⟩ := hq
  have hbelow : Below w.heap.size w E'.w := ⟨h'.base.os, h'.base.tape, h'.base.output, h'.base.size, fun k hk => h'.base.block k hk (fun h => h)⟩
  have post : E'.a.defers = [] ∧ ∃ v, (results fn E'.a.tmps).run P E'.w = .ok v E'.w ∧ ∃ v' bk, Ending.returned v = .returned v' ∧ Below w.heap.size w E'.w ∧ ResR T E'.w (fun b => X b ∨ ∃ j, bk j b) bk v' (s.res args) ∧
      (∀ j b, bk j b → w.heap.size ≤ b ∧ b < E'.w.heap.size) ∧ ∀ j j' b, bk j b → bk j' b → j = j' := by
    refine ⟨h'.defers, ?_⟩
    unfold retPg at hr
    split at hr
    · rename_i r ag' es hrs hex
      obtain ⟨v, sv, g0, g1, g2, g3⟩ := rdRes_sound hT h' hr
      split at g3
      · rename_i ag cs
        split at g3
        · rename_i hag
          subst hag
          obtain ⟨us, u1, u2, u3⟩ := g1.operand
          obtain ⟨E2, cs', r1, s1, c1, t1, _, w1⟩ := fins_sound h' u1 (cellsFree_of_free g2) g3
          have hcs : cs' = es := w1.1
          subst hcs
          rw [hex]
          have hres : (results fn E'.a.tmps).run P E'.w = .ok v E'.w := by
            have hm1 : (fn.results.toList.mapM fun r => resVal r E'.a.tmps).run P E'.w = .ok [v] E'.w := by
              rw [hrs, List.mapM_cons]
              simp only [Sem.run_bind, g0, Result.andThen_ok, List.mapM_nil, Sem.run_pure]
            exact results_eq hm1
          have hX2 : ∀ b, (X b ∨ ∃ j, E2.bk (.slot N) j b) → E2.X b := fun b hb => by
            rcases hb with hb | ⟨j, hj⟩
            · left
              have : E2.x0 = X := r1.x0
              rw [this]; exact hb
            · exact .inr (.inr ⟨_, j, hj⟩)
          have hcell : ∀ (i : Nat) c u, cs'[i]? = some c → us[i]? = some u → ResC T E'.w (fun b => X b ∨ ∃ j, E2.bk (.slot N) j b) (E2.bk (.slot N)) i u c := by
            intro i c u hc hu
            have hrc := c1.2 i c u hc hu
            rw [Nat.zero_add] at hrc
            have hset := List.all_eq_true.1 t1 c (List.mem_of_getElem? hc)
            rw [← s1.w]
            cases c with
            | sl own e' rows =>
              cases own with
              | true => exact OwnF.move hrc (Keeps.refl _ _) (fun b _ hb => hX2 b hb) rfl (fun _ _ => rfl)
              | false => exact RdR.move (hrc : RdR T E2.w E2.X _ _ _) (Keeps.refl _ _) (fun b _ hb => hX2 b hb)
            | i k n => exact hrc
            | b x => exact hrc
            | s x => exact hrc
            | al q i n => cases hset
            | dead => cases hset
          refine ⟨v, hres, v, E2.bk (.slot N), rfl, hbelow, ?_, fun j b hj => by have := r1.owlo _ _ _ hj; rw [s1.w] at this; exact ⟨this.1.resolve_right (fun h => h), this.2⟩, fun j j' b hj hj' => (r1.owinj _ _ _ _ _ hj hj').2⟩
          cases ag with
          | true => exact ⟨us, u2 rfl, c1.1, hcell⟩
          | false =>
            have hus := (u3 rfl).1
            subst hus
            match cs', c1.1 with
            | [c'], _ => exact ⟨c', rfl, hcell 0 c' v rfl rfl⟩
        · exact g3.elim
      · exact g3.elim
    · exact hr.elim
    · rename_i vs hex hrs
      obtain ⟨E2, vs', us, r1, s1, m1, l1, l2, b1, _, w1⟩ := rets_sound hT 0 h' hr
      have hvs : vs' = vs := w1.1
      subst hvs
      rw [hex]
      have hlen1 : us.length ≠ 1 := by
        intro hu
        obtain ⟨r, hr1⟩ := List.length_eq_one_iff.1 (l2.symm.trans hu)
        exact hrs r hr1
      refine ⟨_, results_eq m1, .tuple us.toArray, E2.bk (.slot N), by rw [if_neg hlen1], hbelow, ⟨us, rfl, l1, fun j p u hp hu => ?_⟩, fun j b hj => by have := r1.owlo _ _ _ hj; rw [s1.w] at this; exact ⟨this.1.resolve_right (fun h => h), this.2⟩, fun j j' b hj hj' => (r1.owinj _ _ _ _ _ hj hj').2⟩
      have := b1 j p u hp hu
      rw [s1.w, Nat.zero_add] at this
      exact this.less (fun b hb hx => by
        rcases hx with hx | ⟨j, hj⟩
        · left
          have : E2.x0 = X := r1.x0
          rw [this]; exact hx
        · exact .inr (.inr ⟨_, j, hj⟩)) fun _ _ _ _ => rfl
    · exact hr.elim
  rcases he with rfl | rfl
  · exact post
  · exact post
theorem fok (hT : TabOk P T) {env : FuncId → Option FSpec} (hE : EnvOk P T env) (hm : P.follows .mixedOrders = true) {f : FuncId} {fn : Func} {c : Code} {s : FSpec} (hf : P.funcs[f]? = some fn) (hb : fn.body = some c)
    (hcall : ∀ args w, (callFunc f args).run P w = .ok (.enter f args) w) (hN : fn.ntmps = N)
    (h : ∀ args, s.pre args → (∀ a ∈ args, WfSV T a) → args.length ≤ N ∧ awp T env N c (fun e σ => (e = .normal ∨ e = .ret) ∧ (retPg T fn.results.toList (s.res args)).wp (fun _ => True) σ) (init args)) (hbx : s.bx = false := by rfl) : FOk P T f s :=
  fokG hT hf hb hcall hN (fun args h1 h2 => ⟨(h args h1 h2).1, fun _ _ hr he => awp_ok hT hE hm c hr (he ▸ (h args h1 h2).2)⟩) hbx
theorem TyOk.mkAgg {t : TypeId} {ty : Ty} {fs : Array Field} (hi : (P.info? t).map (fun i => (i.size, i.bytes, i.zero)) = some (ty.cts.length, ty.bytes, some (.agg (ty.cts.map zeroV).toArray))) (hag : ty.agg = true)
    (he : ty.cts.all (fun c => match c with | .l e => (T e).isSome | _ => true) = true) (hu : P.underlying t = some (.struct fs)) (hl : fs.size = ty.offs.length)
    (hf : (fs.toList.zip ty.offs).all (fun (f, (o, s)) => f.offset == o && P.cellsOf f.type == s && s != 0) = true) (hq : ty.eq = true → EqFact P t ty.cts) : TyOk P T t ty := by
  cases hinf : P.info? t with
  | none => rw [hinf] at hi; cases hi
  | some i =>
    rw [hinf] at hi
    simp only [Option.map_some, Option.some.injEq, Prod.mk.injEq] at hi
    refine ⟨⟨i, hinf, hi.1, hi.2.1, by rw [hag, hi.2.2]; rfl⟩, fun e hm => by have := List.all_eq_true.1 he _ hm; exact this, fun _ => ⟨fs, hu, hl, fun f off sz ho => ?_⟩, hq, fun h => by rw [hag] at h; cases h⟩
    have hlt : f < fs.size := by rw [hl]; exact (List.getElem?_eq_some_iff.1 ho).1
    have hfs : fs[f]? = some fs[f] := Array.getElem?_eq_getElem hlt
    have hz : (fs.toList.zip ty.offs)[f]? = some (fs[f], (off, sz)) := by
      rw [List.getElem?_zip_eq_some]
      exact ⟨by rw [Array.getElem?_toList]; exact hfs, ho⟩
    have := List.all_eq_true.1 hf _ (List.mem_of_getElem? hz)
    simp only [Bool.and_eq_true, beq_iff_eq, bne_iff_ne, ne_eq] at this
    exact ⟨_, hfs, this.1.1, this.1.2, this.2⟩
theorem TyOk.mkOne {t : TypeId} {ty : Ty} {c : CT} (hu : match c with | .i k => P.underlying t = some (.int k) | .b => P.underlying t = some .bool | .s => P.underlying t = some .string | .l e => P.underlying t = some (.slice e)) (hq : ty.eq = false) (hi : (P.info? t).map (fun i => (i.size, i.bytes, i.zero)) = some (ty.cts.length, ty.bytes, some (zeroV c))) (hag : ty.agg = false) (hc : ty.cts = [c])
    (he : ty.cts.all (fun c => match c with | .l e => (T e).isSome | _ => true) = true) : TyOk P T t ty := by
  cases hinf : P.info? t with
  | none => rw [hinf] at hi; cases hi
  | some i =>
    rw [hinf] at hi
    simp only [Option.map_some, Option.some.injEq, Prod.mk.injEq] at hi
    exact ⟨⟨i, hinf, hi.1, hi.2.1, by rw [hag, hi.2.2, hc]; rfl⟩, fun e hm => by have := List.all_eq_true.1 he _ hm; exact this, fun h => (by rw [hag] at h; cases h), (fun h => by rw [hq] at h; cases h), fun _ => ⟨c, hc, hu⟩⟩
def tabOf (l : List (TypeId × Ty)) (gl : List (Nat × List (CT × D)) := []) (ifs : List (Nat × Bool) := []) : Tab := ⟨fun t => (l.find? (·.1 == t)).map (·.2), gl, ifs, false⟩
theorem tabOk {l : List (TypeId × Ty)} {gl : List (Nat × List (CT × D))} {ifs : List (Nat × Bool)} (h : ∀ p ∈ l, TyOk P (tabOf l gl ifs) p.1 p.2) : TabOk P (tabOf l gl ifs) := by
  intro t ty ht
  unfold tabOf at ht
  simp only at ht
  cases hf : l.find? (·.1 == t) with
  | none => rw [hf] at ht; cases ht
  | some p =>
    rw [hf] at ht
    obtain rfl := Option.some.inj ht
    have h1 := List.find?_some hf
    have h2 := List.mem_of_find?_eq_some hf
    have : p.1 = t := by simpa using h1
    rw [← this]
    exact h p h2
end
end Go.Proofs.YtaecbmjmcpdgdaaGreat.Ab
namespace Go.Proofs.YtaecbmjmcpdgdaaGreat.Ab
noncomputable section
open Go.RowKit
set_option linter.unusedVariables false
variable {P : Program} {T : Tab} {W : Base} {N : Nat}
end
end Go.Proofs.YtaecbmjmcpdgdaaGreat.Ab
namespace Go.Proofs.YtaecbmjmcpdgdaaGreat.Ab
noncomputable section
open Go.RowKit
set_option linter.unusedVariables false
variable {P : Program} {T : Tab} {W : Base} {N : Nat}
theorem Pg.exec_wpl : ∀ (p : Pg) {rs ws : List Loc} {K : List Loc → List Loc → St → Prop} {σ σ' : St}, p.exec σ = some σ' → K ((p.reads σ).reverse ++ rs) ((p.writes σ).reverse ++ ws) σ' → p.wpl rs ws K σ
  | .done, rs, ws, K, σ, σ', h, hk => by obtain rfl := Option.some.inj h; exact hk
  | .fail, _, _, _, _, _, h, _ => by cases h
  | .get l k, rs, ws, K, σ, σ', h, hk => exec_wpl (k (σ l)) (rs := l :: rs) (ws := ws) (K := K) (h : (k (σ l)).exec σ = some σ') (by simpa [reads, writes] using hk)
  | .set b l x k, rs, ws, K, σ, σ', h, hk => exec_wpl k (rs := l :: rs) (ws := l :: ws) (K := K) (h : k.exec (updw b σ l x) = some σ') (by simpa [reads, writes] using hk)
  | .chk c k, rs, ws, K, σ, σ', h, hk => by
    simp only [exec] at h
    split at h
    · rename_i hc; exact ⟨hc, exec_wpl k h hk⟩
    · cases h
  | .br true a b, rs, ws, K, σ, σ', h, hk => ⟨fun _ => exec_wpl a h hk, fun h => by cases h⟩
  | .br false a b, rs, ws, K, σ, σ', h, hk => ⟨fun h => (by cases h), fun _ => exec_wpl b h hk⟩
variable {env : FuncId → Option FSpec}
theorem rops_det {ops : Array Oper} : ∀ {l : List Oper} {Q : St → Prop} {σ : St}, rops T env N ops l Q σ → ∃ σ', Q σ' ∧ ∀ Q' : St → Prop, Q' σ' → rops T env N ops l Q' σ
  | [], Q, σ, h => ⟨σ, h, fun _ h => h⟩
  | o :: r, Q, σ, h => by
    obtain ⟨σ1, h1, h2⟩ := Pg.wp_exec _ h
    obtain ⟨σ', h3, h4⟩ := rops_det h2
    exact ⟨σ', h3, fun Q' hq => Pg.exec_wp _ h1 (h4 Q' hq)⟩
theorem drops_det {ops : Array Oper} : ∀ {l : List Oper} {log : List (List Loc × List Loc)} {Q : St → Prop} {σ : St}, drops T env N ops Q l log σ → ∃ σ', Q σ' ∧ ∀ Q' : St → Prop, Q' σ' → drops T env N ops Q' l log σ
  | [], log, Q, σ, h => ⟨σ, h.2, fun _ hq => ⟨h.1, hq⟩⟩
  | o :: r, log, Q, σ, h => by
    obtain ⟨σ1, h1, h2⟩ := Pg.wpl_exec _ h
    obtain ⟨σ', h3, h4⟩ := drops_det h2
    exact ⟨σ', h3, fun Q' hq => Pg.exec_wpl _ h1 (h4 Q' hq)⟩
inductive LoopTo (body : St → Exit → St → Prop) (k : St → St) (e : Exit) (σ' : St) : Nat → St → Prop
  | stop (σ) : body σ e σ' → e ≠ .normal → LoopTo body k e σ' 0 σ
  | next (n σ σ1) : body σ .normal σ1 → LoopTo body k e σ' n (k σ1) → LoopTo body k e σ' (n + 1) σ
theorem awp_det : ∀ (c : Code) {Q : Exit → St → Prop} {σ : St}, awp T env N c Q σ → ∃ e σ', Q e σ' ∧ ∀ Q' : Exit → St → Prop, Q' e σ' → awp T env N c Q' σ
  | .skip, Q, σ, h => ⟨.normal, σ, h, fun _ h => h⟩
  | .region _ ops false, Q, σ, h => by
    obtain ⟨σ', h1, h2⟩ := rops_det (h : rops T env N ops ops.toList (Q .normal) σ)
    exact ⟨.normal, σ', h1, fun Q' hq => h2 (Q' .normal) hq⟩
  | .region _ ops true, Q, σ, h => by
    obtain ⟨σ', h1, h2⟩ := drops_det h.2
    exact ⟨.normal, σ', h1, fun Q' hq => ⟨h.1, h2 (Q' .normal) hq⟩⟩
  | .seq a b, Q, σ, h => by
    obtain ⟨e1, σ1, h1, h2⟩ := awp_det a (h : awp T env N a (thenA (awp T env N b Q) Q) σ)
    cases e1 with
    | normal =>
      obtain ⟨e2, σ2, h3, h4⟩ := awp_det b (h1 : awp T env N b Q σ1)
      exact ⟨e2, σ2, h3, fun Q' hq => h2 (thenA (awp T env N b Q') Q') (h4 Q' hq)⟩
    | exit id => exact ⟨.exit id, σ1, h1, fun Q' hq => h2 (thenA (awp T env N b Q') Q') hq⟩
    | goto l => exact ⟨.goto l, σ1, h1, fun Q' hq => h2 (thenA (awp T env N b Q') Q') hq⟩
    | ret => exact ⟨.ret, σ1, h1, fun Q' hq => h2 (thenA (awp T env N b Q') Q') hq⟩
    | panic ch => exact ⟨.panic ch, σ1, h1, fun Q' hq => h2 (thenA (awp T env N b Q') Q') hq⟩
    | outgrown => exact ⟨.outgrown, σ1, h1, fun Q' hq => h2 (thenA (awp T env N b Q') Q') hq⟩
  | .cond (.tmp t) x y, Q, σ, h => by
    unfold awp at h
    split at h
    · rename_i v hv
      cases v with
      | true =>
        obtain ⟨e, σ', h1, h2⟩ := awp_det x (h.1 rfl)
        exact ⟨e, σ', h1, fun Q' hq => by unfold awp; rw [hv]; exact ⟨fun _ => h2 Q' hq, fun h => by cases h⟩⟩
      | false =>
        obtain ⟨e, σ', h1, h2⟩ := awp_det y (h.2 rfl)
        exact ⟨e, σ', h1, fun Q' hq => by unfold awp; rw [hv]; exact ⟨fun h => (by cases h), fun _ => h2 Q' hq⟩⟩
    · exact h.elim
  | .block id c, Q, σ, h => by
    obtain ⟨e, σ', h1, h2⟩ := awp_det c (h : awp T env N c (inBlockA id Q) σ)
    cases e with
    | exit id' =>
      by_cases hi : id' = id
      · refine ⟨.normal, σ', by simpa [inBlockA, hi] using h1, fun Q' hq => h2 (inBlockA id Q') (by simpa [inBlockA, hi] using hq)⟩
      · refine ⟨.exit id', σ', by simpa [inBlockA, hi] using h1, fun Q' hq => h2 (inBlockA id Q') (by simpa [inBlockA, hi] using hq)⟩
    | normal => exact ⟨.normal, σ', h1, fun Q' hq => h2 (inBlockA id Q') hq⟩
    | goto l => exact ⟨.goto l, σ', h1, fun Q' hq => h2 (inBlockA id Q') hq⟩
    | ret => exact ⟨.ret, σ', h1, fun Q' hq => h2 (inBlockA id Q') hq⟩
    | panic ch => exact ⟨.panic ch, σ', h1, fun Q' hq => h2 (inBlockA id Q') hq⟩
    | outgrown => exact ⟨.outgrown, σ', h1, fun Q' hq => h2 (inBlockA id Q') hq⟩
  | .exit id, Q, σ, h => ⟨.exit id, σ, h, fun _ h => h⟩
  | .ret, Q, σ, h => ⟨.ret, σ, h, fun _ h => h⟩
  | .loop c, Q, σ, h => by
    obtain ⟨ts, bs, I, ⟨n0, h0⟩, hr⟩ := (h : ∃ (ts bs : List Nat) (I : Nat → St → Prop), (∃ n, I n (keep ts bs σ)) ∧ ∀ n σ, I n σ → awp T env N c (thenA (fun σ' => ∃ m, m < n ∧ I m (keep ts bs σ')) Q) σ)
    let body : St → Exit → St → Prop := fun σ e σ1 => ∀ Q' : Exit → St → Prop, Q' e σ1 → awp T env N c Q' σ
    have key : ∀ n σ, I n σ → ∃ e σ' m, Q e σ' ∧ LoopTo body (keep ts bs) e σ' m σ := by
      intro n
      induction n using Nat.strongRecOn with
      | _ n ih =>
        intro σ hI
        obtain ⟨e1, σ1, h1, h2⟩ := awp_det c (hr n σ hI)
        by_cases he : e1 = .normal
        · subst he
          obtain ⟨m, hm, hI2⟩ := (h1 : ∃ m, m < n ∧ I m (keep ts bs σ1))
          obtain ⟨e, σ', k, hq, hl⟩ := ih m hm _ hI2
          exact ⟨e, σ', k + 1, hq, .next k σ σ1 h2 hl⟩
        · refine ⟨e1, σ1, 0, ?_, .stop σ h2 he⟩
          cases e1 with
          | normal => exact absurd rfl he
          | _ => exact h1
    obtain ⟨e, σ', m, hq, hl⟩ := key n0 _ h0
    refine ⟨e, σ', hq, fun Q' hq' => ⟨ts, bs, fun n σ => LoopTo body (keep ts bs) e σ' n σ, ⟨m, hl⟩, fun n σ hI => ?_⟩⟩
    cases hI with
    | stop _ hb he =>
      refine hb _ ?_
      cases e with
      | normal => exact absurd rfl he
      | _ => exact hq'
    | next k _ σ1 hb hl2 => exact hb _ ⟨k, Nat.lt_succ_self _, hl2⟩
  | .cond (.const _) _ _, _, _, h => h.elim
  | .cond (.global _) _ _, _, _, h => h.elim
  | .cond (.func _) _ _, _, _, h => h.elim
  | .rangeFunc .., _, _, h => h.elim
  | .scope _, _, _, h => h.elim
  | .label _, _, _, h => h.elim
  | .goto _, _, _, h => h.elim
  | .refuse _, _, _, h => h.elim
end
end Go.Proofs.YtaecbmjmcpdgdaaGreat.Ab
namespace Go.Proofs.YtaecbmjmcpdgdaaGreat.Ab
noncomputable section
open Go.RowKit
set_option linter.unusedVariables false
variable {P : Program} {T : Tab} {N : Nat}
def Lead (P : Program) (T : Tab) (N : Nat) (c : Code) (σ : St) (e : Exit) (σ' : St) : Prop :=
  ∀ (W : Base) (E : Env) (Q : Exit → St → Prop), Rel T W N E → E.σ = σ → Q e σ' → c.wp P (QC T W N Q) E.a E.w
def Snd (P : Program) (T : Tab) (N : Nat) (c : Code) (Q : Exit → St → Prop) (σ : St) : Prop := ∃ e σ', Q e σ' ∧ Lead P T N c σ e σ'
section
variable {env : FuncId → Option FSpec} (hT : TabOk P T) (hE : EnvOk P T env) (hm : P.follows .mixedOrders = true)
include hT hE hm
theorem Snd.of_awp {c : Code} {Q : Exit → St → Prop} {σ : St} (h : awp T env N c Q σ) : Snd P T N c Q σ := by
  obtain ⟨e, σ', h1, h2⟩ := awp_det c h
  refine ⟨e, σ', h1, fun W E Q' hr he hq => ?_⟩
  subst he
  exact awp_ok hT hE hm c hr (h2 Q' hq)
theorem Snd.seq {a b : Code} {Q : Exit → St → Prop} {σ : St} (h : awp T env N a (thenA (Snd P T N b Q) Q) σ) : Snd P T N (.seq a b) Q σ := by
  obtain ⟨e1, σ1, h1, h2⟩ := awp_det a h
  by_cases hn : e1 = .normal
  · subst hn
    obtain ⟨e, σ', h3, h4⟩ := (h1 : Snd P T N b Q σ1)
    refine ⟨e, σ', h3, fun W E Q' hr he hq => ?_⟩
    subst he
    refine wp_seq (wp_mono (awp_ok hT hE hm a hr (h2 (fun e s => e = .normal ∧ s = σ1) ⟨rfl, rfl⟩)) fun e' a' w' hqc => ?_)
    obtain ⟨E', hr', rfl, rfl, rfl, hs⟩ := hqc
    exact h4 W E' Q' hr' hs hq
  · refine ⟨e1, σ1, ?_, fun W E Q' hr he hq => ?_⟩
    · cases e1 with
      | normal => exact absurd rfl hn
      | _ => exact h1
    · subst he
      refine wp_seq (wp_mono (awp_ok hT hE hm a hr (h2 (fun e s => e = e1 ∧ s = σ1) ⟨rfl, rfl⟩)) fun e' a' w' hqc => ?_)
      obtain ⟨E', hr', rfl, rfl, rfl, rfl⟩ := hqc
      cases e' with
      | normal => exact absurd rfl hn
      | _ => exact ⟨E', hr', rfl, rfl, hq⟩
end
end
end Go.Proofs.YtaecbmjmcpdgdaaGreat.Ab
