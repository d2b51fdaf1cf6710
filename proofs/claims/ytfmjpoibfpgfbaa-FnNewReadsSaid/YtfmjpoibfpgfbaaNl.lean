/- Descriptions for the law FnNewReads. No program in sight. -/
import Derived.Test.YtfmjpoibfpgfbaaNk
namespace Go.Proofs.Ytfmjpoibfpgfbaa.Ab
noncomputable section
open Go.RowKit
set_option linter.unusedVariables false
def spBig (e : TypeId) : FSpec where
  pre args := ∃ rows : List (List D), args = [argS e rows]
  res args := match args with
    | [.val _ [.sl _ _ rows]] => .val false [.b (decide ((rows.length : Int) > 1048576))]
    | _ => .none
def spSameT (T : Tab) (e : TypeId) : FSpec where
  pre args := ∃ a : List (List D), args = [argS e a, argS e a]
  res _ := .val false [.b true]
def dA (rows : List (List D)) : List (List D) := dr26 rows 0 (hOf (bytesL rows))
def dB (rows : List (List D)) : List (List D) := dr26 rows (dr26I rows 0 (hOf (bytesL rows))) (dr26H rows 0 (hOf (bytesL rows)))
def spDrawNR (e te : TypeId) : FSpec where
  pre args := ∃ rows : List (List D), rows.length ≤ 1048576 ∧ args = [argS e rows]
  res args := match args with
    | [.val _ [.sl _ _ rows]] => .tup [(false, [.sl false te (dA rows)]), (false, [.sl false te (dB rows)])]
    | _ => .none
def lawB (e : TypeId) : FSpec where
  pre args := ∃ rows : List (List D), args = [argS e rows]
  res _ := .val false [.b true]
theorem wf3 {T : Tab} {e1 e2 e3 : TypeId} {a : List (List D)} (h : WfD T (.l e2) (.l a)) : WfRow T [.l e1, .l e2, .l e3] [.l [], .l a, .l []] := by
  refine ⟨rfl, fun j ct d hct hd => ?_⟩
  match j with
  | 0 =>
    obtain rfl : CT.l e1 = ct := by simpa using hct
    obtain rfl : D.l [] = d := by simpa using hd
    exact .nil _
  | 1 =>
    obtain rfl : CT.l e2 = ct := by simpa using hct
    obtain rfl : D.l a = d := by simpa using hd
    exact h
  | 2 =>
    obtain rfl : CT.l e3 = ct := by simpa using hct
    obtain rfl : D.l [] = d := by simpa using hd
    exact .nil _
  | k + 3 => simp at hct
theorem res_same {x : List D} : [CV.b (decide (x = x))] = [CV.b true] := by simp
theorem cur0 {rows : List (List D)} (h : rows.length ≤ 1048576) : CurOk rows 0 := ⟨by omega, by omega, h⟩
theorem dA_ok {rows : List (List D)} (h : rows.length ≤ 1048576) : goodT (dA rows) ∧ keysD (dA rows) ∧ (dA rows).length + wRows (dA rows) ≤ 36 ∧ CurOk rows (dr26I rows 0 (hOf (bytesL rows))) := dr26_ok (cur0 h)
theorem dB_ok {rows : List (List D)} (h : rows.length ≤ 1048576) : goodT (dB rows) ∧ (dB rows).length + wRows (dB rows) ≤ 36 := by
  have := dr26_ok (h := dr26H rows 0 (hOf (bytesL rows))) (dA_ok h).2.2.2
  exact ⟨this.1, this.2.2.1⟩
theorem putTo_ok {a l : List (List D)} (ha : goodT a) (hl : goodT l) (k : Nat) : goodT (putTo a l k) ∧ (putTo a l k).length + wRows (putTo a l k) ≤ a.length + wRows a + (l.length + wRows l) := by
  have h1 : goodT (l.take k) := fun t ht => hl t (List.mem_of_mem_take ht)
  have h2 := putAll_w (l.take k) a ha h1
  have h3 := wRows_le l k
  have h4 : (l.take k).length ≤ l.length := by rw [List.length_take]; omega
  exact ⟨putAll_good _ _ ha h1, Nat.le_trans h2 (by omega)⟩
theorem putTo_end {a b : List (List D)} (ha : goodT a) (hb : goodT b) {i : Int} (h2 : i ≤ (newR a b).length) (h : decide (i < ((newR a b).length : Int)) = false) (h0 : 0 ≤ i) : newR (putTo a (newR a b) i.toNat) b = [] := by
  unfold putTo
  rw [take_all h0 h2 h]
  exact newR_put ha hb
theorem res_len {x : List (List D)} (h : x = []) : [CV.b ((x.length : Int) == 0)] = [CV.b true] := by rw [h]; rfl
theorem no_len {x : List (List D)} (h : x = []) (g : ((x.length : Int) == 0) = false) : False := by rw [h] at g; cases g
theorem wf_good {T : Tab} {e : TypeId} {a : List (List D)} (h : ∀ t ∈ a, WfRow T [.i .i64, .i .i64, .l e] t) {te : TypeId} {ty : Ty} (hT : T te = some ty) (hc : ty.cts = [.i .i64, .i .i64, .l e]) (hl : a.length ≤ maxLen) : WfD T (.l te) (.l a) := by
  refine .sl te ty a hT hl (fun k row hk => by rw [hc]; exact (h row (List.mem_of_getElem? hk)).1) (fun k j ct d row hk hct hd => ?_)
  rw [hc] at hct
  exact (h row (List.mem_of_getElem? hk)).2 j ct d hct hd
/-! The same descriptions of any functions: so that nothing of them is computed in the walk -/
abbrev TS := List (List D)
def spDrawG (e te : TypeId) (gA gB : TS → TS) : FSpec where
  pre args := ∃ rows : List (List D), rows.length ≤ 1048576 ∧ args = [argS e rows]
  res args := match args with
    | [.val _ [.sl _ _ rows]] => .tup [(false, [.sl false te (gA rows)]), (false, [.sl false te (gB rows)])]
    | _ => .none
def spNewG (e : TypeId) (nr : TS → TS → TS) : FSpec where
  pre args := ∃ a b : List (List D), flatTs a ∧ a.length + wRows a ≤ 1048576 ∧ b.length + wRows b ≤ 1048576 ∧ args = [argS e a, argS e b]
  res args := match args with
    | [.val _ [.sl _ _ a], .val _ [.sl _ _ b]] => .val false [.sl true e (nr a b)]
    | _ => .none
def spPutG (e er : TypeId) (pt : TS → Int → Int → TS → TS) : FSpec where
  pre args := ∃ (l : List (List D)) (c v : Int) (rs : List (List D)), flatTs l ∧ flatL rs ∧ inK .i64 c ∧ inK .i64 v ∧ l.length + wRows l + (rs.length + wRows rs) ≤ 1048576 ∧ args = [argS e l, .val false [.i .i64 c], .val false [.i .i64 v], argS er rs]
  res args := match args with
    | [.val _ [.sl _ _ l], .val _ [.i _ c], .val _ [.i _ v], .val _ [.sl _ _ rs]] => .val false [.sl true e (pt l c v rs)]
    | _ => .none
structure LawF (gA gB : TS → TS) (nr : TS → TS → TS) (pt : TS → Int → Int → TS → TS) (pto : TS → TS → Nat → TS) : Prop where
  ga : ∀ rows, rows.length ≤ 1048576 → goodT (gA rows) ∧ (gA rows).length + wRows (gA rows) ≤ 36 ∧ nr (gA rows) (gA rows) = []
  gb : ∀ rows, rows.length ≤ 1048576 → goodT (gB rows) ∧ (gB rows).length + wRows (gB rows) ≤ 36
  ng : ∀ a b, goodT b → goodT (nr a b) ∧ (nr a b).length + wRows (nr a b) ≤ b.length + wRows b
  p0 : ∀ a l, pto a l 0 = a
  pn : ∀ (a l : TS) (i : Int), 0 ≤ i → i < l.length → pto a l (i + 1).toNat = pt (pto a l i.toNat) ((l.getD i.toNat []).getD 0 default).int ((l.getD i.toNat []).getD 1 default).int ((l.getD i.toNat []).getD 2 default).rows
  pg : ∀ a l, goodT a → goodT l → ∀ k, goodT (pto a l k) ∧ (pto a l k).length + wRows (pto a l k) ≤ a.length + wRows a + (l.length + wRows l)
  pe : ∀ a b, goodT a → goodT b → ∀ i : Int, 0 ≤ i → i ≤ (nr a b).length → decide (i < ((nr a b).length : Int)) = false → nr (pto a (nr a b) i.toNat) b = []
theorem lawF : LawF dA dB newR putT putTo where
  ga rows h := ⟨(dA_ok h).1, (dA_ok h).2.2.1, newR_self (dA_ok h).2.1⟩
  gb rows h := dB_ok h
  ng a b h := ⟨newR_good h, newR_w h⟩
  p0 a l := rfl
  pn a l i h0 hi := putTo_next h0 hi
  pg a l ha hl k := putTo_ok ha hl k
  pe a b ha hb i h0 h2 h := putTo_end ha hb h2 h h0
end
end Go.Proofs.Ytfmjpoibfpgfbaa.Ab
