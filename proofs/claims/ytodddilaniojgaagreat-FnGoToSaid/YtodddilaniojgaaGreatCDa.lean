/- Functions that draw: a lent cursor over the code's bytes, results of which some facts are known. No program in sight. Sizes of data: what the laws' measures say. No program in sight but for the table of types. Drawn values: what is known of them, in plain Lean. No program in sight. Small facts for draws of texts. No program in sight. -/
import Derived.Test.YtodddilaniojgaaGreatCTa
import Derived.Test.YtodddilaniojgaaGreatCPb
namespace Go.Proofs.YtodddilaniojgaaGreat.Ab
open Go.RowKit
set_option linter.unusedVariables false
theorem fokBA {P : Program} {T : Tab} {N : Nat} {α : Type} [Inhabited α] (R : List SV → α → SV) (U : List SV → α → List CV) (hT : TabOk P T) {env : FuncId → Option FSpec} (hE : EnvOk P T env) (hm : P.follows .mixedOrders = true) {f : FuncId} {fn : Func} {c : Code} {pre : List SV → Prop} {post : List SV → α → Prop} (hf : P.funcs[f]? = some fn) (hb : fn.body = some c)
    (hcall : ∀ args w, (callFunc f args).run P w = .ok (.enter f args) w) (hN : fn.ntmps = N)
    (h : ∀ cs args, pre (.tup [(true, cs)] :: args) → (∀ a ∈ args, WfSV T a) → args.length + 1 ≤ N ∧ awp T env N c (fun e σ => (e = .normal ∨ e = .ret) ∧ ∃ x, post (.tup [(true, cs)] :: args) x ∧ (retB T N fn.results.toList (R (.tup [(true, cs)] :: args) x) (U (.tup [(true, cs)] :: args) x)).wp (fun _ => True) σ) (initB N cs args)) :
    ∃ g : List SV → α, FOk P T f { pre := pre, res := fun a => R a (g a), bx := true, upd := fun a => U a (g a) } ∧ ∀ cs args, pre (.tup [(true, cs)] :: args) → (∀ a ∈ args, WfSV T a) → post (.tup [(true, cs)] :: args) (g (.tup [(true, cs)] :: args)) := by
  have each : ∀ a : List SV, ∃ r : α, ∀ cs args, a = .tup [(true, cs)] :: args → pre a → (∀ a ∈ args, WfSV T a) → post a r ∧ args.length + 1 ≤ N ∧ awp T env N c (fun e σ => (e = .normal ∨ e = .ret) ∧ (retB T N fn.results.toList (R a r) (U a r)).wp (fun _ => True) σ) (initB N cs args) := by
    intro a
    by_cases hp : ∃ cs args, a = .tup [(true, cs)] :: args ∧ pre a ∧ ∀ a ∈ args, WfSV T a
    · obtain ⟨cs, args, rfl, hp1, hp2⟩ := hp
      obtain ⟨h1, h2⟩ := h cs args hp1 hp2
      obtain ⟨e, σ', ⟨he, r, h3, h4⟩, h5⟩ := awp_det c h2
      refine ⟨r, fun cs' args' he' _ _ => ?_⟩
      have he2 := he'
      simp only [List.cons.injEq, SV.tup.injEq, Prod.mk.injEq, true_and, and_true] at he2
      obtain ⟨rfl, rfl⟩ := he2
      exact ⟨h3, h1, h5 (fun e σ => (e = .normal ∨ e = .ret) ∧ (retB T N fn.results.toList (R _ r) (U _ r)).wp (fun _ => True) σ) ⟨he, h4⟩⟩
    · exact ⟨default, fun cs args he h1 h2 => absurd ⟨cs, args, he, h1, h2⟩ hp⟩
  refine ⟨fun a => (each a).choose, fokB (s := { pre := pre, res := fun a => R a (each a).choose, bx := true, upd := fun a => U a (each a).choose }) hT hE hm hf hb hcall hN (fun cs args h1 h2 => ?_), fun cs args h1 h2 => ((each _).choose_spec cs args rfl h1 h2).1⟩
  exact ((each _).choose_spec cs args rfl h1 h2).2
abbrev curC (e : TypeId) (rows : List (List D)) (i h : Int) : List CV := [.sl false e rows, .i .i64 i, .i .i64 h]
abbrev curA (e : TypeId) (rows : List (List D)) (i h : Int) : SV := .tup [(true, curC e rows i h)]
def CurOk (rows : List (List D)) (i : Int) : Prop := 0 ≤ i ∧ i ≤ rows.length ∧ rows.length ≤ 1048576
def preC (e : TypeId) (args : List SV) : Prop := ∃ rows i h, CurOk rows i ∧ args = [curA e rows i h]
def preCN (e : TypeId) (ok : Int → Prop) (args : List SV) : Prop := ∃ rows i h n, CurOk rows i ∧ ok n ∧ args = [curA e rows i h, .val false [.i .i64 n]]
def curU (e : TypeId) (args : List SV) (i h : Int) : List CV := match args with
  | .tup [(_, [.sl _ _ rows, _, _])] :: _ => curC e rows i h
  | _ => []
def rowsOf (args : List SV) : List (List D) := match args with
  | .tup [(_, [.sl _ _ rows, _, _])] :: _ => rows
  | _ => []
theorem and255' (a : Int) : 0 ≤ andI .i64 a 255 ∧ andI .i64 a 255 ≤ 255 := by
  have h : (BitVec.ofInt 64 a &&& BitVec.ofInt 64 255).toNat ≤ 255 := by
    rw [BitVec.toNat_and]
    exact Nat.le_trans Nat.and_le_right (by decide)
  rw [andI_eq]
  show 0 ≤ IntKind.i64.wrap ((BitVec.ofInt 64 a &&& BitVec.ofInt 64 255).toNat : Int) ∧ IntKind.i64.wrap ((BitVec.ofInt 64 a &&& BitVec.ofInt 64 255).toNat : Int) ≤ 255
  rw [wrap_i64_in (by omega) (by omega)]
  omega
def byteH (h : Int) : Int := IntKind.i64.wrap (IntKind.i64.wrap (h * 6364136223846793005) + 1442695040888963407)
noncomputable def byteX (h : Int) : Int := andI .i64 (xorI .i64 (shrI .i64 (byteH h) 33) (shrI .i64 (byteH h) 45)) 255
def byteB (rows : List (List D)) (i : Int) : Int := IntKind.i64.wrap ((rows.getD i.toNat []).getD 0 default).int
noncomputable def byteR (rows : List (List D)) (i h : Int) : Int := if i < rows.length then andI .i64 (IntKind.i64.wrap (byteX h + byteB rows i)) 255 else byteX h
def byteI (rows : List (List D)) (i : Int) : Int := if i < rows.length then i + 1 else i
theorem byteR_in (rows : List (List D)) (i h : Int) : 0 ≤ byteR rows i h ∧ byteR rows i h ≤ 255 := by
  unfold byteR byteX
  split
  · exact and255' _
  · exact and255' _
theorem byteI_ok {rows : List (List D)} {i : Int} (h : CurOk rows i) : CurOk rows (byteI rows i) := by
  obtain ⟨h1, h2, h3⟩ := h
  unfold byteI
  split
  · exact ⟨by omega, by omega, h3⟩
  · exact ⟨h1, h2, h3⟩
theorem shr33 (y : Int) : IntKind.i64.min ≤ shrI .i64 (IntKind.i64.wrap y) 33 ∧ shrI .i64 (IntKind.i64.wrap y) 33 ≤ IntKind.i64.max := by
  rw [shrI_eq]
  have e : (2 : Int) ^ min (Int.toNat 33) IntKind.i64.bits = 8589934592 := by decide
  have h1 : IntKind.i64.min = -9223372036854775808 := by decide
  have h2 : IntKind.i64.max = 9223372036854775807 := by decide
  rw [e, h1, h2, Int.fdiv_eq_ediv_of_nonneg _ (by decide), IntKind.wrap_i64]
  omega
theorem shr45 (y : Int) : IntKind.i64.min ≤ shrI .i64 (IntKind.i64.wrap y) 45 ∧ shrI .i64 (IntKind.i64.wrap y) 45 ≤ IntKind.i64.max := by
  rw [shrI_eq]
  have e : (2 : Int) ^ min (Int.toNat 45) IntKind.i64.bits = 35184372088832 := by decide
  have h1 : IntKind.i64.min = -9223372036854775808 := by decide
  have h2 : IntKind.i64.max = 9223372036854775807 := by decide
  rw [e, h1, h2, Int.fdiv_eq_ediv_of_nonneg _ (by decide), IntKind.wrap_i64]
  omega
noncomputable def spByte (e : TypeId) : FSpec where
  pre := preC e
  bx := true
  res args := match args with
    | [.tup [(_, [.sl _ _ rows, .i _ i, .i _ h])]] => .val false [.i .i64 (byteR rows i h)]
    | _ => .none
  upd args := match args with
    | [.tup [(_, [.sl _ _ rows, .i _ i, .i _ h])]] => curC e rows (byteI rows i) (byteH h)
    | _ => []
noncomputable def belowR (rows : List (List D)) (i h n : Int) : Int := (byteR rows i h).tmod n
theorem belowR_in {rows : List (List D)} {i h n : Int} (hn : 1 ≤ n ∧ n ≤ 256) : 0 ≤ belowR rows i h n ∧ belowR rows i h n < n := by
  have hb := byteR_in rows i h
  unfold belowR
  rw [Int.tmod_eq_emod_of_nonneg hb.1]
  exact ⟨Int.emod_nonneg _ (by omega), Int.emod_lt_of_pos _ (by omega)⟩
def smallN (n : Int) : Prop := 1 ≤ n ∧ n ≤ 256
theorem belowK {rows : List (List D)} {i h n : Int} (hn : smallN n) : IntKind.i64.min ≤ (byteR rows i h).tmod n ∧ (byteR rows i h).tmod n ≤ IntKind.i64.max := by
  have h1 : IntKind.i64.min = -9223372036854775808 := by decide
  have h2 : IntKind.i64.max = 9223372036854775807 := by decide
  have h3 := belowR_in (rows := rows) (i := i) (h := h) hn
  have h4 := hn.2
  unfold belowR at h3
  rw [h1, h2]
  omega
noncomputable def spBelow (e : TypeId) : FSpec where
  pre := preCN e smallN
  bx := true
  res args := match args with
    | [.tup [(_, [.sl _ _ rows, .i _ i, .i _ h])], .val _ [.i _ n]] => .val false [.i .i64 (belowR rows i h n)]
    | _ => .none
  upd args := match args with
    | [.tup [(_, [.sl _ _ rows, .i _ i, .i _ h])], .val _ [.i _ n]] => curC e rows (byteI rows i) (byteH h)
    | _ => []
noncomputable def spOnce (e : TypeId) : FSpec where
  pre := preCN e smallN
  bx := true
  res args := match args with
    | [.tup [(_, [.sl _ _ rows, .i _ i, .i _ h])], .val _ [.i _ n]] => .val false [.b (decide (belowR rows i h n = 0))]
    | _ => .none
  upd := (spBelow e).upd
noncomputable def spPick (e l : TypeId) : FSpec where
  pre args := ∃ rows i h list, CurOk rows i ∧ smallN (list.length : Int) ∧ args = [curA e rows i h, argS l list]
  bx := true
  res args := match args with
    | [.tup [(_, [.sl _ _ rows, .i _ i, .i _ h])], .val _ [.sl _ _ list]] => .val false [.s ((list.getD (belowR rows i h list.length).toNat []).getD 0 default).str]
    | _ => .none
  upd args := match args with
    | [.tup [(_, [.sl _ _ rows, .i _ i, .i _ h])], _] => curC e rows (byteI rows i) (byteH h)
    | _ => []
theorem resByte_yes {rows : List (List D)} {i h : Int} (hi : decide (i < (rows.length : Int)) = true) : andI .i64 (IntKind.i64.wrap (byteX h + byteB rows i)) 255 = byteR rows i h := by
  rw [byteR, if_pos (of_decide_eq_true hi)]
theorem resByte_no {rows : List (List D)} {i h : Int} (hi : decide (i < (rows.length : Int)) = false) : byteX h = byteR rows i h := by
  rw [byteR, if_neg (of_decide_eq_false hi)]
theorem curI_yes {e : TypeId} {rows : List (List D)} {i h : Int} (ok : CurOk rows i) (hi : decide (i < (rows.length : Int)) = true) : curC e rows (IntKind.i64.wrap (i + 1)) (byteH h) = curC e rows (byteI rows i) (byteH h) := by
  obtain ⟨h1, h2, h3⟩ := ok
  rw [byteI, if_pos (of_decide_eq_true hi), wrap_i64_in (by omega) (by omega)]
theorem curI_no {e : TypeId} {rows : List (List D)} {i h : Int} (hi : decide (i < (rows.length : Int)) = false) : curC e rows i (byteH h) = curC e rows (byteI rows i) (byteH h) := by
  rw [byteI, if_neg (of_decide_eq_false hi)]
end Go.Proofs.YtodddilaniojgaaGreat.Ab
namespace Go.Proofs.YtodddilaniojgaaGreat.Ab
open Go.RowKit
set_option linter.unusedVariables false
mutual
def wD : D → Nat
  | .s x => x.size
  | .l rows => rows.length + wRows rows
  | .i _ => 0
  | .b _ => 0
def wRow : List D → Nat
  | [] => 0
  | d :: r => wD d + wRow r
def wRows : List (List D) → Nat
  | [] => 0
  | r :: rs => wRow r + wRows rs
end
theorem wRows_append : ∀ (a b : List (List D)), wRows (a ++ b) = wRows a + wRows b
  | [], b => by simp [wRows]
  | r :: rs, b => by simp only [List.cons_append, wRows, wRows_append rs b]; omega
theorem WfRow.str {cts : List CT} {r : List D} (h : WfRow T cts r) {j : Nat} (hj : cts[j]? = some .s) : (r.getD j default).str.size ≤ maxLen := by
  have hl : j < r.length := by rw [h.1]; exact (List.getElem?_eq_some_iff.1 hj).1
  have e1 : r[j]? = some (r.getD j default) := by simp [List.getD_eq_getElem?_getD, List.getElem?_eq_getElem hl]
  obtain ⟨x, h1, h2⟩ := (h.2 j _ _ hj e1).str'
  rw [h1]
  exact h2
theorem resI {x y : Int} (h : x = y) : [CV.i .i64 x] = [CV.i .i64 y] := by rw [h]
end Go.Proofs.YtodddilaniojgaaGreat.Ab
namespace Go.Proofs.YtodddilaniojgaaGreat.Ab
open Go.RowKit
set_option linter.unusedVariables false
structure VL where
  k : Int
  n : Int
  s : Int
  t : ByteArray
  l : List (List D)
  c : List (List D)
  r : List (List D)
instance : Inhabited VL := ⟨⟨0, 0, 0, ByteArray.empty, [], [], []⟩⟩
abbrev VL.row (x : VL) : List D := [.i x.k, .i x.n, .i x.s, .s x.t, .l x.l, .l x.c, .l x.r]
abbrev VL.own (V S R : TypeId) (x : VL) : SV := .val true [.i .i64 x.k, .i .i64 x.n, .i .i64 x.s, .s x.t, .sl true V x.l, .sl true S x.c, .sl true R x.r]
def VL.ok (T : Tab) (V S R : TypeId) (B : Nat) (x : VL) : Prop :=
  inK .i64 x.k ∧ inK .i64 x.n ∧ inK .i64 x.s ∧ x.t.size + x.l.length + wRows x.l + x.c.length + wRows x.c + x.r.length + wRows x.r ≤ B ∧ WfD T (.l V) (.l x.l) ∧ WfD T (.l S) (.l x.c) ∧ WfD T (.l R) (.l x.r)
theorem VL.ok.wf {T : Tab} {V S R : TypeId} {B : Nat} {x : VL} (h : x.ok T V S R B) (hB : B ≤ 1099511627776) : WfRow T [.i .i64, .i .i64, .i .i64, .s, .l V, .l S, .l R] x.row := by
  obtain ⟨h1, h2, h3, h4, h5, h6, h7⟩ := h
  have hs : x.t.size ≤ maxLen := by simp only [maxLen]; omega
  refine ⟨rfl, fun j ct d hc hd => ?_⟩
  match j with
  | 0 => cases hc; cases hd; exact .int _ _ h1
  | 1 => cases hc; cases hd; exact .int _ _ h2
  | 2 => cases hc; cases hd; exact .int _ _ h3
  | 3 => cases hc; cases hd; exact .str _ hs
  | 4 => cases hc; cases hd; exact h5
  | 5 => cases hc; cases hd; exact h6
  | 6 => cases hc; cases hd; exact h7
  | j + 7 => simp at hc
theorem VL.w (x : VL) : wRow x.row = x.t.size + x.l.length + wRows x.l + x.c.length + wRows x.c + x.r.length + wRows x.r := by
  simp only [wRow, wD]; omega
theorem VL.ok.mono {T : Tab} {V S R : TypeId} {B B' : Nat} {x : VL} (h : x.ok T V S R B) (hB : B ≤ B') : x.ok T V S R B' := by
  obtain ⟨h1, h2, h3, h4, h5⟩ := h
  exact ⟨h1, h2, h3, by omega, h5⟩
def LS (T : Tab) (e : TypeId) (B : Nat) (l : List (List D)) : Prop := l.length + wRows l ≤ B ∧ WfD T (.l e) (.l l)
theorem WfD.add {T : Tab} {e : TypeId} {te : Ty} {l : List (List D)} {r : List D} (h : WfD T (.l e) (.l l)) (he : T e = some te) (hl : l.length + 1 ≤ maxLen) (hr : WfRow T te.cts r) : WfD T (.l e) (.l (l ++ [r])) := by
  refine .sl e te _ he (by simpa using hl) (fun k row hk => ?_) (fun k j ct d row hk hc hd => ?_)
  · rw [List.getElem?_append] at hk
    split at hk
    · cases h with
      | nil => simp at hk
      | sl _ ty _ h1 h2 h3 h4 =>
        rw [he] at h1
        obtain rfl := Option.some.inj h1
        exact h3 k row hk
    · have : k - l.length = 0 := by
        rcases Nat.lt_or_ge (k - l.length) 1 with h' | h'
        · omega
        · rw [List.getElem?_eq_none (by simpa using h')] at hk; cases hk
      rw [this] at hk
      obtain rfl := Option.some.inj hk
      exact hr.1
  · rw [List.getElem?_append] at hk
    split at hk
    · cases h with
      | nil => simp at hk
      | sl _ ty _ h1 h2 h3 h4 =>
        rw [he] at h1
        obtain rfl := Option.some.inj h1
        exact h4 k j ct d row hk hc hd
    · have : k - l.length = 0 := by
        rcases Nat.lt_or_ge (k - l.length) 1 with h' | h'
        · omega
        · rw [List.getElem?_eq_none (by simpa using h')] at hk; cases hk
      rw [this] at hk
      obtain rfl := Option.some.inj hk
      exact hr.2 j ct d hc hd
theorem LS.add {T : Tab} {e : TypeId} {te : Ty} {B b : Nat} {l : List (List D)} {r : List D} (h : LS T e B l) (he : T e = some te) (hB : B < 1099511627776) (hr : WfRow T te.cts r) (hw : wRow r ≤ b) : LS T e (B + 1 + b) (l ++ [r]) := by
  obtain ⟨h1, h2⟩ := h
  refine ⟨?_, h2.add he (by simp only [maxLen]; omega) hr⟩
  rw [wRows_append, List.length_append]
  show l.length + 1 + (wRows l + (wRow r + 0)) ≤ _
  omega
theorem LS.mono {T : Tab} {e : TypeId} {B B' : Nat} {l : List (List D)} (h : LS T e B l) (hB : B ≤ B') : LS T e B' l := ⟨Nat.le_trans h.1 hB, h.2⟩
theorem LS.nil {T : Tab} {e : TypeId} {B : Nat} : LS T e B [] := ⟨Nat.zero_le _, .nil e⟩
theorem LS.len {T : Tab} {e : TypeId} {B : Nat} {l : List (List D)} (h : LS T e B l) : l.length ≤ B := by have := h.1; omega
theorem pick_row {P : List D → Prop} {l : List (List D)} (h0 : P []) (h : ∀ r ∈ l, P r) (k : Nat) : P (l.getD k []) := by
  cases hk : l[k]? with
  | none =>
    have : l.getD k [] = [] := by simp [List.getD, hk]
    rw [this]
    exact h0
  | some r =>
    have : l.getD k [] = r := by simp [List.getD, hk]
    rw [this]
    exact h r (List.mem_of_getElem? hk)
theorem pick_size {P : ByteArray → Prop} {l : List (List D)} (h0 : P ByteArray.empty) (h : ∀ r ∈ l, P (r.getD 0 default).str) (k : Nat) : P ((l.getD k []).getD 0 default).str := pick_row (P := fun r => P (r.getD 0 default).str) h0 h k
theorem pick_int {P : Int → Prop} {l : List (List D)} (h0 : P 0) (h : ∀ r ∈ l, P (r.getD 0 default).int) (k : Nat) : P ((l.getD k []).getD 0 default).int := pick_row (P := fun r => P (r.getD 0 default).int) h0 h k
theorem VL.str_ok {T : Tab} {V S R : TypeId} {B : Nat} {n m : Int} (h : inK .i64 n) (h' : inK .i64 m) : VL.ok T V S R B ⟨4, n, m, ⟨#[]⟩, [], [], []⟩ :=
  ⟨(show inK .i64 4 from ⟨by decide, by decide⟩), h, h', Nat.zero_le _, .nil _, .nil _, .nil _⟩
def TR (b : Nat) (l : List (List D)) : Prop := ∀ r ∈ l, ∃ t, r = [.s t] ∧ t.size ≤ b
theorem TR.nil {b : Nat} : TR b [] := fun r hr => by cases hr
theorem TR.add {b : Nat} {l : List (List D)} {t : ByteArray} (h : TR b l) (ht : t.size ≤ b) : TR b (l ++ [[.s t]]) := by
  intro r hr
  rcases List.mem_append.1 hr with hr | hr
  · exact h r hr
  · obtain rfl := List.mem_singleton.1 hr
    exact ⟨t, rfl, ht⟩
theorem TR.mono {b b' : Nat} {l : List (List D)} (h : TR b l) (hb : b ≤ b') : TR b' l := fun r hr => let ⟨t, h1, h2⟩ := h r hr; ⟨t, h1, Nat.le_trans h2 hb⟩
theorem TR.take {b : Nat} {l : List (List D)} (h : TR b l) (k : Nat) : TR b (l.take k) := fun r hr => h r (List.mem_of_mem_take hr)
theorem TR.drop {b : Nat} {l : List (List D)} (h : TR b l) (k : Nat) : TR b (l.drop k) := fun r hr => h r (List.mem_of_mem_drop hr)
theorem TR.app {b : Nat} {l m : List (List D)} (h : TR b l) (h' : TR b m) : TR b (l ++ m) := by
  intro r hr
  rcases List.mem_append.1 hr with hr | hr
  · exact h r hr
  · exact h' r hr
theorem TR.poke {b : Nat} {l : List (List D)} {t : ByteArray} {k : Nat} (h : TR b l) (hk : k < l.length) (ht : t.size ≤ b) : TR b (pokeRow l k 0 [.s t]) := by
  intro r hr
  unfold pokeRow at hr
  rcases List.mem_or_eq_of_mem_set hr with hr | rfl
  · exact h r hr
  · have hm : l.getD k [] ∈ l := by
      have : l.getD k [] = l[k] := by simp [List.getD, List.getElem?_eq_getElem hk]
      rw [this]
      exact List.getElem_mem _
    obtain ⟨t0, h0, _⟩ := h _ hm
    rw [h0]
    exact ⟨t, rfl, ht⟩
theorem small_in {n : Int} (h : 0 ≤ n ∧ n < 256) : inK .i64 n := by
  have h1 : IntKind.i64.min = -9223372036854775808 := by decide
  have h2 : IntKind.i64.max = 9223372036854775807 := by decide
  exact ⟨by rw [h1]; omega, by rw [h2]; omega⟩
end Go.Proofs.YtodddilaniojgaaGreat.Ab
namespace Go.Proofs.YtodddilaniojgaaGreat.Ab
open Go.RowKit
set_option linter.unusedVariables false
theorem tm_in {a n : Int} (ha : 0 ≤ a) (hn : 1 ≤ n) : 0 ≤ a.tmod n ∧ a.tmod n < n := by
  rw [Int.tmod_eq_emod_of_nonneg ha]
  exact ⟨Int.emod_nonneg _ (by omega), Int.emod_lt_of_pos _ (by omega)⟩
theorem wfI {x : Int} (h : 0 ≤ x ∧ x ≤ 1048577) : inK .i64 x := by
  have h1 : IntKind.i64.min = -9223372036854775808 := by decide
  have h2 : IntKind.i64.max = 9223372036854775807 := by decide
  rw [inK, h1, h2]
  omega
theorem tmK {a n : Int} (ha : 0 ≤ a) (hn : 1 ≤ n ∧ n ≤ 1048577) : IntKind.i64.min ≤ a.tmod n ∧ a.tmod n ≤ IntKind.i64.max := by
  have h := tm_in ha hn.1
  exact wfI ⟨h.1, by omega⟩
theorem big4 {r1 r2 r3 r4 : List (List D)} {i1 i2 i3 i4 h1 h2 h3 h4 : Int} : 0 ≤ IntKind.i64.wrap (IntKind.i64.wrap (IntKind.i64.wrap (IntKind.i64.wrap (byteR r1 i1 h1 * 16777216) + IntKind.i64.wrap (byteR r2 i2 h2 * 65536)) + IntKind.i64.wrap (byteR r3 i3 h3 * 256)) + byteR r4 i4 h4) := by
  have a1 := byteR_in r1 i1 h1
  have a2 := byteR_in r2 i2 h2
  have a3 := byteR_in r3 i3 h3
  have a4 := byteR_in r4 i4 h4
  generalize byteR r1 i1 h1 = x at *
  generalize byteR r2 i2 h2 = y at *
  generalize byteR r3 i3 h3 = z at *
  generalize byteR r4 i4 h4 = w at *
  rw [wrap_i64_in (n := x * 16777216) (by omega) (by omega), wrap_i64_in (n := y * 65536) (by omega) (by omega), wrap_i64_in (n := x * 16777216 + y * 65536) (by omega) (by omega), wrap_i64_in (n := z * 256) (by omega) (by omega), wrap_i64_in (n := x * 16777216 + y * 65536 + z * 256) (by omega) (by omega), wrap_i64_in (by omega) (by omega)]
  omega
theorem cur0 {rows : List (List D)} (h : rows.length ≤ 1048576) : CurOk rows 0 := ⟨by omega, by omega, h⟩
end Go.Proofs.YtodddilaniojgaaGreat.Ab
