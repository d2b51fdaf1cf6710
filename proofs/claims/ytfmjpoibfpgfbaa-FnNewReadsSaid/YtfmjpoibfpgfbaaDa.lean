/- Functions that draw: a lent cursor over the code's bytes, results of which some facts are known. No program in sight. -/
import Derived.Test.YtfmjpoibfpgfbaaTab
import Derived.Test.YtfmjpoibfpgfbaaPB
import Derived.Test.YtfmjpoibfpgfbaaVd
namespace Go.Proofs.Ytfmjpoibfpgfbaa.Ab
open Go.RowKit
set_option linter.unusedVariables false
theorem fokBA {P : Program} {T : Tab} {N : Nat} {α : Type} [Inhabited α] (R : List SV → α → SV) (U : List SV → α → List CV) (hT : TabOk P T) {env : FuncId → Option FSpec} (hE : EnvOk P T env) (hm : P.follows .mixedOrders = true) {f : FuncId} {fn : Func} {c : Code} {pre : List SV → Prop} {post : List SV → α → Prop} (hf : P.funcs[f]? = some fn) (hb : fn.body = some c)
    (hcall : ∀ args w, (callFunc f args).run P w = .ok (.enter f args) w) (hN : fn.ntmps = N)
    (h : ∀ cs args, pre (.tup [(true, cs)] :: args) → (∀ a ∈ args, WfSV T a) → args.length + 1 ≤ N ∧ awp T env N c (fun e σ => (e = .normal ∨ e = .ret) ∧ ∃ x, post (.tup [(true, cs)] :: args) x ∧ (retB T N fn.results.toList (R (.tup [(true, cs)] :: args) x) (U (.tup [(true, cs)] :: args) x)).wp (fun _ => True) σ) (initB N cs args)) :
    ∃ g : List SV → α, FOk P T f { pre := pre, res := fun a => R a (g a), bx := true, upd := fun a => U a (g a) } ∧ ∀ cs args, pre (.tup [(true, cs)] :: args) → (∀ a ∈ args, WfSV T a) → post (.tup [(true, cs)] :: args) (g (.tup [(true, cs)] :: args)) := by
  have each : ∀ a : List SV, ∃ r : α, ∀ cs args, a = .tup [(true, cs)] :: args → pre a → (∀ a ∈ args, WfSV T a) → post a r ∧ args.length + 1 ≤ N ∧ awp T env N c (fun e σ => (e = .normal ∨ e = .ret) ∧ (retB T N fn.results.toList (R a r) (U a r)).wp (fun _ => True) σ) (initB N cs args) := by
    intro a
    by_cases hp : ∃ cs args, a = .tup [(true, cs)] :: args ∧ pre a ∧ ∀ a ∈ args, WfSV T a
    · obtain ⟨cs, args, rfl, hp1, hp2⟩ := hp
      obtain ⟨h1, h2⟩ := h cs args hp1 hp2
      obtain ⟨e, σ', ⟨he, r, h3, h4⟩, h5⟩ := awp_det c h2
      refine ⟨r, fun cs' args' he' _ _ => ?_⟩
      have he2 := he'
      simp only [List.cons.injEq, SV.tup.injEq, Prod.mk.injEq, true_and, and_true] at he2
      obtain ⟨rfl, rfl⟩ := he2
      exact ⟨h3, h1, h5 (fun e σ => (e = .normal ∨ e = .ret) ∧ (retB T N fn.results.toList (R _ r) (U _ r)).wp (fun _ => True) σ) ⟨he, h4⟩⟩
    · exact ⟨default, fun cs args he h1 h2 => absurd ⟨cs, args, he, h1, h2⟩ hp⟩
  refine ⟨fun a => (each a).choose, fokB (s := { pre := pre, res := fun a => R a (each a).choose, bx := true, upd := fun a => U a (each a).choose }) hT hE hm hf hb hcall hN (fun cs args h1 h2 => ?_), fun cs args h1 h2 => ((each _).choose_spec cs args rfl h1 h2).1⟩
  exact ((each _).choose_spec cs args rfl h1 h2).2
/-- The cursor's cells: the code, the place in it, a number. -/
abbrev curC (e : TypeId) (rows : List (List D)) (i h : Int) : List CV := [.sl false e rows, .i .i64 i, .i .i64 h]
abbrev curA (e : TypeId) (rows : List (List D)) (i h : Int) : SV := .tup [(true, curC e rows i h)]
def CurOk (rows : List (List D)) (i : Int) : Prop := 0 ≤ i ∧ i ≤ rows.length ∧ rows.length ≤ 1048576
/-- A draw without other arguments; with a number. -/
def preC (e : TypeId) (args : List SV) : Prop := ∃ rows i h, CurOk rows i ∧ args = [curA e rows i h]
def preCN (e : TypeId) (ok : Int → Prop) (args : List SV) : Prop := ∃ rows i h n, CurOk rows i ∧ ok n ∧ args = [curA e rows i h, .val false [.i .i64 n]]
def curU (e : TypeId) (args : List SV) (i h : Int) : List CV := match args with
  | .tup [(_, [.sl _ _ rows, _, _])] :: _ => curC e rows i h
  | _ => []
def rowsOf (args : List SV) : List (List D) := match args with
  | .tup [(_, [.sl _ _ rows, _, _])] :: _ => rows
  | _ => []
theorem and255' (a : Int) : 0 ≤ andI .i64 a 255 ∧ andI .i64 a 255 ≤ 255 := by
  have h : (BitVec.ofInt 64 a &&& BitVec.ofInt 64 255).toNat ≤ 255 := by
    rw [BitVec.toNat_and]
    exact Nat.le_trans Nat.and_le_right (by decide)
  rw [andI_eq]
  show 0 ≤ IntKind.i64.wrap ((BitVec.ofInt 64 a &&& BitVec.ofInt 64 255).toNat : Int) ∧ IntKind.i64.wrap ((BitVec.ofInt 64 a &&& BitVec.ofInt 64 255).toNat : Int) ≤ 255
  rw [wrap_i64_in (by omega) (by omega)]
  omega
/-! One byte: what it is, where the cursor is afterwards -/
def byteH (h : Int) : Int := IntKind.i64.wrap (IntKind.i64.wrap (h * 6364136223846793005) + 1442695040888963407)
noncomputable def byteX (h : Int) : Int := andI .i64 (xorI .i64 (shrI .i64 (byteH h) 33) (shrI .i64 (byteH h) 45)) 255
def byteB (rows : List (List D)) (i : Int) : Int := IntKind.i64.wrap ((rows.getD i.toNat []).getD 0 default).int
noncomputable def byteR (rows : List (List D)) (i h : Int) : Int := if i < rows.length then andI .i64 (IntKind.i64.wrap (byteX h + byteB rows i)) 255 else byteX h
def byteI (rows : List (List D)) (i : Int) : Int := if i < rows.length then i + 1 else i
theorem byteR_in (rows : List (List D)) (i h : Int) : 0 ≤ byteR rows i h ∧ byteR rows i h ≤ 255 := by
  unfold byteR byteX
  split
  · exact and255' _
  · exact and255' _
theorem byteI_ok {rows : List (List D)} {i : Int} (h : CurOk rows i) : CurOk rows (byteI rows i) := by
  obtain ⟨h1, h2, h3⟩ := h
  unfold byteI
  split
  · exact ⟨by omega, by omega, h3⟩
  · exact ⟨h1, h2, h3⟩
theorem shr33 (y : Int) : IntKind.i64.min ≤ shrI .i64 (IntKind.i64.wrap y) 33 ∧ shrI .i64 (IntKind.i64.wrap y) 33 ≤ IntKind.i64.max := by
  rw [shrI_eq]
  have e : (2 : Int) ^ min (Int.toNat 33) IntKind.i64.bits = 8589934592 := by decide
  have h1 : IntKind.i64.min = -9223372036854775808 := by decide
  have h2 : IntKind.i64.max = 9223372036854775807 := by decide
  rw [e, h1, h2, Int.fdiv_eq_ediv_of_nonneg _ (by decide), IntKind.wrap_i64]
  omega
theorem shr45 (y : Int) : IntKind.i64.min ≤ shrI .i64 (IntKind.i64.wrap y) 45 ∧ shrI .i64 (IntKind.i64.wrap y) 45 ≤ IntKind.i64.max := by
  rw [shrI_eq]
  have e : (2 : Int) ^ min (Int.toNat 45) IntKind.i64.bits = 35184372088832 := by decide
  have h1 : IntKind.i64.min = -9223372036854775808 := by decide
  have h2 : IntKind.i64.max = 9223372036854775807 := by decide
  rw [e, h1, h2, Int.fdiv_eq_ediv_of_nonneg _ (by decide), IntKind.wrap_i64]
  omega
noncomputable def spByte (e : TypeId) : FSpec where
  pre := preC e
  bx := true
  res args := match args with
    | [.tup [(_, [.sl _ _ rows, .i _ i, .i _ h])]] => .val false [.i .i64 (byteR rows i h)]
    | _ => .none
  upd args := match args with
    | [.tup [(_, [.sl _ _ rows, .i _ i, .i _ h])]] => curC e rows (byteI rows i) (byteH h)
    | _ => []
/-- A number below n, for n from 1 to 256. -/
noncomputable def belowR (rows : List (List D)) (i h n : Int) : Int := (byteR rows i h).tmod n
theorem belowR_in {rows : List (List D)} {i h n : Int} (hn : 1 ≤ n ∧ n ≤ 256) : 0 ≤ belowR rows i h n ∧ belowR rows i h n < n := by
  have hb := byteR_in rows i h
  unfold belowR
  rw [Int.tmod_eq_emod_of_nonneg hb.1]
  exact ⟨Int.emod_nonneg _ (by omega), Int.emod_lt_of_pos _ (by omega)⟩
def smallN (n : Int) : Prop := 1 ≤ n ∧ n ≤ 256
theorem belowK {rows : List (List D)} {i h n : Int} (hn : smallN n) : IntKind.i64.min ≤ (byteR rows i h).tmod n ∧ (byteR rows i h).tmod n ≤ IntKind.i64.max := by
  have h1 : IntKind.i64.min = -9223372036854775808 := by decide
  have h2 : IntKind.i64.max = 9223372036854775807 := by decide
  have h3 := belowR_in (rows := rows) (i := i) (h := h) hn
  have h4 := hn.2
  unfold belowR at h3
  rw [h1, h2]
  omega
noncomputable def spBelow (e : TypeId) : FSpec where
  pre := preCN e smallN
  bx := true
  res args := match args with
    | [.tup [(_, [.sl _ _ rows, .i _ i, .i _ h])], .val _ [.i _ n]] => .val false [.i .i64 (belowR rows i h n)]
    | _ => .none
  upd args := match args with
    | [.tup [(_, [.sl _ _ rows, .i _ i, .i _ h])], .val _ [.i _ n]] => curC e rows (byteI rows i) (byteH h)
    | _ => []
noncomputable def spOnce (e : TypeId) : FSpec where
  pre := preCN e smallN
  bx := true
  res args := match args with
    | [.tup [(_, [.sl _ _ rows, .i _ i, .i _ h])], .val _ [.i _ n]] => .val false [.b (decide (belowR rows i h n = 0))]
    | _ => .none
  upd := (spBelow e).upd
/-- One text of a list. -/
noncomputable def spPick (e l : TypeId) : FSpec where
  pre args := ∃ rows i h list, CurOk rows i ∧ smallN (list.length : Int) ∧ args = [curA e rows i h, argS l list]
  bx := true
  res args := match args with
    | [.tup [(_, [.sl _ _ rows, .i _ i, .i _ h])], .val _ [.sl _ _ list]] => .val false [.s ((list.getD (belowR rows i h list.length).toNat []).getD 0 default).str]
    | _ => .none
  upd args := match args with
    | [.tup [(_, [.sl _ _ rows, .i _ i, .i _ h])], _] => curC e rows (byteI rows i) (byteH h)
    | _ => []
theorem resByte_yes {rows : List (List D)} {i h : Int} (hi : decide (i < (rows.length : Int)) = true) : andI .i64 (IntKind.i64.wrap (byteX h + byteB rows i)) 255 = byteR rows i h := by
  rw [byteR, if_pos (of_decide_eq_true hi)]
theorem resByte_no {rows : List (List D)} {i h : Int} (hi : decide (i < (rows.length : Int)) = false) : byteX h = byteR rows i h := by
  rw [byteR, if_neg (of_decide_eq_false hi)]
theorem curI_yes {e : TypeId} {rows : List (List D)} {i h : Int} (ok : CurOk rows i) (hi : decide (i < (rows.length : Int)) = true) : curC e rows (IntKind.i64.wrap (i + 1)) (byteH h) = curC e rows (byteI rows i) (byteH h) := by
  obtain ⟨h1, h2, h3⟩ := ok
  rw [byteI, if_pos (of_decide_eq_true hi), wrap_i64_in (by omega) (by omega)]
theorem curI_no {e : TypeId} {rows : List (List D)} {i h : Int} (hi : decide (i < (rows.length : Int)) = false) : curC e rows i (byteH h) = curC e rows (byteI rows i) (byteH h) := by
  rw [byteI, if_neg (of_decide_eq_false hi)]
end Go.Proofs.Ytfmjpoibfpgfbaa.Ab
