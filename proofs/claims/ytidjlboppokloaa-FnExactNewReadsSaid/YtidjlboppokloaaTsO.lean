/- Copies that own all that they lead to: descriptions. No program in sight. -/
import Derived.Test.YtidjlboppokloaaMr0
namespace Go.Proofs.Ytidjlboppokloaa.Ab
open Go.RowKit
set_option linter.unusedVariables false
def toSO (e e' : TypeId) : FSpec where
  pre args := ∃ a : List (List D), a.length + wRows a ≤ 1048576 ∧ args = [argS e a]
  res args := match args with
    | [.val _ [.sl _ _ a]] => .val false [.sl true e' a]
    | _ => .none
def toGO (T : Tab) (cts cts' : List CT) : FSpec where
  pre args := ∃ a : List D, WfRow T cts a ∧ wRow (csD (rowC cts a)) ≤ 1048576 ∧ args = [argG cts a]
  res args := match args with
    | [.val _ cs] => .val true (rowO cts' (csD cs))
    | _ => .none
def toSOn (e e' : TypeId) (n : Nat) : FSpec where
  pre args := ∃ a : List (List D), SizeOf.sizeOf a < n ∧ a.length + wRows a ≤ 1048576 ∧ args = [argS e a]
  res := (toSO e e').res
def toGOn (T : Tab) (cts cts' : List CT) (n : Nat) : FSpec where
  pre args := ∃ a : List D, WfRow T cts a ∧ SizeOf.sizeOf a < n ∧ wRow (csD (rowC cts a)) ≤ 1048576 ∧ args = [argG cts a]
  res := (toGO T cts cts').res
theorem FOk.liftO {P : Program} {f : FuncId} {s : Nat → FSpec} {s' : FSpec} (h : ∀ n, FOk P Td f (s n)) (hs : ∀ args, s'.pre args → ∃ n, (s n).pre args) (hr : ∀ n, (s n).res = s'.res)
    (hb : ∀ n, (s n).bx = s'.bx := by intro n; rfl) (hu : ∀ n, (s n).upd = s'.upd := by intro n; rfl) (hq : ∀ n, (s n).nb = s'.nb := by intro n; rfl) : FOk P Td f s' := by
  refine ⟨(h 0).1, fun hbx hnb w X b ob cs args vals h1 h2 h3 h4 h5 h6 h7 hgl hpre => ?_, fun hbx w X args vals hX hargs hgl hpre => ?_, fun hbx hnb w X args vals hX hargs hpre => ?_⟩
  · obtain ⟨n, hn⟩ := hs _ hpre
    have := (h n).okb ((hb n).trans hbx) ((hq n).trans hnb) w X b ob cs args vals h1 h2 h3 h4 h5 h6 h7 hgl hn
    rwa [hr n, hu n] at this
  · obtain ⟨n, hn⟩ := hs args hpre
    have := (h n).ok ((hb n).trans hbx) w X args vals hX hargs hgl hn
    rwa [hr n] at this
  · obtain ⟨n, hn⟩ := hs args hpre
    have := (h n).okn ((hb n).trans hbx) ((hq n).trans hnb) w X args vals hX hargs hn
    rwa [hu n] at this
theorem WfD.onT {T : Tab} (b : Bool) {ct : CT} {d : D} (h : WfD T ct d) : WfD (T.on b) ct d := by
  induction h with
  | int k n h => exact .int k n h
  | bool x => exact .bool x
  | str x h => exact .str x h
  | nil e => exact .nil e
  | sl e ty rows h1 h2 h3 h4 ih => exact .sl e ty rows h1 h2 h3 ih
theorem WfD.offT {T : Tab} {b : Bool} {ct : CT} {d : D} (h : WfD (T.on b) ct d) : WfD T ct d := WfD.onT (T := T.on b) T.dp h
theorem WfC.offT {c : CV} (h : WfC Td c) : WfC T c := by
  cases c with
  | sl own e rows => cases own with
    | true => exact h.elim
    | false => exact WfD.offT (b := true) h
  | i k n => exact h
  | b x => exact h
  | s x => exact h
  | _ => exact h.elim
theorem arg0O {ag : Bool} {cs : List CV} {l : List SV} (h : ∀ a ∈ SV.val ag cs :: l, WfSV Td a) {c : CV} (h2 : c ∈ cs) : WfC T c := WfC.offT (h _ (List.mem_cons_self ..) c h2)
theorem arg1O {x : SV} {ag : Bool} {cs : List CV} {l : List SV} (h : ∀ a ∈ x :: SV.val ag cs :: l, WfSV Td a) {c : CV} (h2 : c ∈ cs) : WfC T c := WfC.offT (h _ (List.mem_cons_of_mem _ (List.mem_cons_self ..)) c h2)
end Go.Proofs.Ytidjlboppokloaa.Ab
