/- What holds of plain results holds where slices own all that they lead to. No program in sight. Results that own all that they lead to: what every seat shares. No program in sight. Copies that own all that they lead to: descriptions. No program in sight. -/
import Derived.Test.YtaecbmjmcpdgdaaGreatCK4
import Derived.Test.YtaecbmjmcpdgdaaGreatCEd
namespace Go.Proofs.YtaecbmjmcpdgdaaGreat.Ab
open Go.RowKit
set_option linter.unusedVariables false
def Tab.on (T : Tab) (b : Bool) : Tab := { T with dp := b }
variable {P : Program} {T : Tab} {w w' : World} {X : Nat → Prop}
theorem RdR.on {ct : CT} {v : Value} {d : D} (b : Bool) (h : RdR T w X ct v d) : RdR (T.on b) w X ct v d := by
  induction h with
  | int k n h => exact .int k n h
  | bool x => exact .bool x
  | str x h => exact .str x h
  | nil e A c h => exact .nil e A c h
  | sl e ty b o c rows vs h1 h2 h3 h4 h5 h6 h7 _ ih => exact .sl e ty b o c rows vs h1 h2 h3 h4 h5 h6 h7 ih
theorem RdR.off {ct : CT} {v : Value} {d : D} {b : Bool} (h : RdR (T.on b) w X ct v d) : RdR T w X ct v d := RdR.on (T := T.on b) T.dp h
theorem DeepV.on {F : Nat → Prop} {ct : CT} {v : Value} {d : D} (b : Bool) (h : DeepV T w F ct v d) : DeepV (T.on b) w F ct v d := by
  induction h with
  | flat F ct v d h1 h2 h3 => exact .flat F ct v d h1 h2 (h3.on b)
  | sl F e ty v rows xs G h1 h2 h3 h4 h5 h6 _ ih => exact .sl F e ty v rows xs G h1 h2 h3 h4 h5 h6 ih
theorem DeepV.off {F : Nat → Prop} {ct : CT} {v : Value} {d : D} {b : Bool} (h : DeepV (T.on b) w F ct v d) : DeepV T w F ct v d := DeepV.on (T := T.on b) T.dp h
theorem Own.on {B : Nat} {e : TypeId} {v : Value} {rows : List (List D)} (b : Bool) (h : Own T w X B e v rows) : Own (T.on b) w X B e v rows := by
  obtain ⟨ty, xs, h1, h2, h3, h4⟩ := h
  refine ⟨ty, xs, h1, h2, h3, fun k j ct d row a c f => ?_⟩
  obtain ⟨u, hu, hr⟩ := h4 k j ct d row a c f
  exact ⟨u, hu, hr.on b⟩
theorem GlR.on (b : Bool) (h : GlR T w X) : GlR (T.on b) w X := by
  refine ⟨fun p hp => ?_, h.2⟩
  obtain ⟨h1, h2, h3, h4⟩ := h.1 p hp
  refine ⟨h1, h2, h3, fun j q hj => ?_⟩
  obtain ⟨u, hu, hr⟩ := h4 j q hj
  exact ⟨u, hu, hr.on b⟩
theorem GlR.off {b : Bool} (h : GlR (T.on b) w X) : GlR T w X := GlR.on (T := T.on b) T.dp h
def CV.fl (T : Tab) : CV → Bool
  | .sl true e _ => flatT T e
  | _ => true
def SV.fl (T : Tab) : SV → Bool
  | .val _ cs => cs.all (CV.fl T)
  | .tup vs => vs.all fun p => p.2.all (CV.fl T)
  | _ => true
theorem ArgC.on {v : Value} {c : CV} (b : Bool) (h : ArgC T w X v c) : ArgC (T.on b) w X v c := by
  cases c with
  | sl own e rows => cases own with
    | true => exact h
    | false => exact RdR.on b h
  | _ => exact h
theorem ArgR.on {v : Value} {a : SV} (b : Bool) (h : ArgR T w X v a) : ArgR (T.on b) w X v a := by
  cases a with
  | val ag cs => cases ag with
    | true =>
      obtain ⟨us, h1, h2, h3⟩ := h
      exact ⟨us, h1, h2, fun i c u hc hu => (h3 i c u hc hu).on b⟩
    | false =>
      obtain ⟨c, h1, h2⟩ := h
      exact ⟨c, h1, h2.on b⟩
  | _ => exact h
theorem ArgsR.on {vals : List Value} {args : List SV} (b : Bool) (h : ArgsR T w X vals args) : ArgsR (T.on b) w X vals args := ⟨h.1, fun i a v ha hv => (h.2 i a v ha hv).on b⟩
theorem ArgsR.off {vals : List Value} {args : List SV} {b : Bool} (h : ArgsR (T.on b) w X vals args) : ArgsR T w X vals args := ArgsR.on (T := T.on b) T.dp h
theorem OwnF.on {F : Nat → Prop} {e : TypeId} {v : Value} {rows : List (List D)} (b : Bool) (hf : flatT T e = true) (h : OwnF T w X F e v rows) : OwnF (T.on b) w X F e v rows := by
  obtain ⟨h1, h2⟩ := h.own (by unfold dpT; rw [hf]; simp)
  refine OwnF.of_own ?_ (h1.on b) h2
  show (b && !flatT T e) = false
  rw [hf]; simp
theorem ResC.on {bk : Nat → Nat → Prop} {j : Nat} {v : Value} {c : CV} (b : Bool) (hf : c.fl T = true) (h : ResC T w X bk j v c) : ResC (T.on b) w X bk j v c := by
  cases c with
  | sl own e rows => cases own with
    | true => exact OwnF.on b hf h
    | false => exact RdR.on b h
  | _ => exact h
theorem TupR.on {bk : Nat → Nat → Prop} {j : Nat} {u : Value} {p : Bool × List CV} (b : Bool) (hf : p.2.all (CV.fl T) = true) (h : TupR T w X bk j u p) : TupR (T.on b) w X bk j u p := by
  refine ⟨fun hp => ?_, fun hp => ?_⟩
  · obtain ⟨us, h1, h2, h3⟩ := h.1 hp
    refine ⟨us, h1, h2, fun i c x hc hx => ⟨(h3 i c x hc hx).1, (h3 i c x hc hx).2.on b ?_⟩⟩
    exact List.all_eq_true.1 hf c (List.mem_of_getElem? hc)
  · obtain ⟨c, h1, h2, h3⟩ := h.2 hp
    refine ⟨c, h1, h2, h3.on b ?_⟩
    rw [h1] at hf
    simpa using hf
theorem ResR.on {bk : Nat → Nat → Prop} {v : Value} {r : SV} (b : Bool) (hf : r.fl T = true) (h : ResR T w X bk v r) : ResR (T.on b) w X bk v r := by
  cases r with
  | val ag cs => cases ag with
    | true =>
      obtain ⟨us, h1, h2, h3⟩ := h
      exact ⟨us, h1, h2, fun i c u hc hu => (h3 i c u hc hu).on b (List.all_eq_true.1 hf c (List.mem_of_getElem? hc))⟩
    | false =>
      obtain ⟨c, h1, h2⟩ := h
      refine ⟨c, h1, h2.on b ?_⟩
      rw [h1] at hf
      simpa [SV.fl] using hf
  | tup vs =>
    obtain ⟨arr, h1, h2, h3⟩ := h
    exact ⟨arr, h1, h2, fun j p u hp hu => (h3 j p u hp hu).on b (List.all_eq_true.1 hf p (List.mem_of_getElem? hp))⟩
  | _ => exact h
theorem BoxR.on {k : Nat} {ob : Nat → Nat → Prop} {cs : List CV} (b : Bool) (hf : cs.all (CV.fl T) = true) (h : BoxR T w X k ob cs) : BoxR (T.on b) w X k ob cs := by
  intro j c hc
  obtain ⟨v, h1, h2, h3⟩ := h j c hc
  exact ⟨v, h1, h2, h3.on b (List.all_eq_true.1 hf c (List.mem_of_getElem? hc))⟩
theorem FOk.on {f : FuncId} {s : FSpec} (b : Bool) (h : FOk P T f s) (hr : ∀ args, s.pre args → (s.res args).fl T = true)
    (hb : s.bx = true → ∀ cs args, s.pre (.tup [(true, cs)] :: args) → cs.all (CV.fl T) = true ∧ (s.upd (.tup [(true, cs)] :: args)).all (CV.fl T) = true) : FOk P (T.on b) f s where
  call := h.call
  okb := fun h1 h2 w X k ob cs args vals x1 x2 x3 x4 x5 x6 x7 x8 x9 => by
    have hc := hb h1 cs args x9
    have x6' : BoxR T w (fun x => X x ∨ boxB k ob x) k ob cs := BoxR.on (T := T.on b) T.dp hc.1 x6
    refine (h.okb h1 h2 w X k ob cs args vals x1 x2 x3 x4 x5 x6' x7.off x8.off x9).mono fun e w' ⟨v, bk, ob', he, hE⟩ => ⟨v, bk, ob', he, ?_⟩
    exact ⟨hE.os, hE.tape, hE.output, hE.size, hE.block, hE.res.on b (hr _ x9), hE.box.on b hc.2, hE.bkl, hE.obl, hE.bki, hE.obi, hE.bko⟩
  ok := fun h1 w X args vals x1 x2 x3 x4 => by
    refine (h.ok h1 w X args vals x1 x2.off x3.off x4).mono fun e w' ⟨v, bk, he, hB, hR, rest⟩ => ⟨v, bk, he, hB, hR.on b (hr _ x4), rest⟩
  okn := fun h1 h2 w X args vals x1 x2 x3 => by
    refine (h.okn h1 h2 w X args vals x1 x2.off x3).mono fun e w' ⟨us, et, he, hw, hl, hc⟩ => ⟨us, et, he, hw, hl, fun i c u a1 a2 => (hc i c u a1 a2).on b⟩
theorem TabOk.on {T : Tab} (b : Bool) (h : TabOk P T) : TabOk P (T.on b) := fun t ty ht => by
  have k := h t ty ht
  exact ⟨k.1, k.2, k.3, k.4, k.5⟩
end Go.Proofs.YtaecbmjmcpdgdaaGreat.Ab
namespace Go.Proofs.YtaecbmjmcpdgdaaGreat.Ab
open Go.RowKit
set_option linter.unusedVariables false
set_option maxRecDepth 100000
noncomputable abbrev Td : Tab := T.on true
theorem tabTd : TabOk Tryz.prog Td := TabOk.on true tabT
def ofO : CT → D → CV
  | .l e, d => .sl true e d.rows
  | ct, d => ofD ct d
def rowO (cts : List CT) (row : List D) : List CV := cts.zipIdx.map fun (ct, j) => ofO ct (row.getD j default)
theorem FOk.lends {P : Program} {T : Tab} {f : FuncId} {s : FSpec} (h : FOk P T f s) : FOk P T f { s with nr := true } := ⟨h.call, h.okb, h.ok, h.okn⟩
theorem envD_nil {P : Program} : EnvOk P Td (envL []) := fun f s h => by cases h
theorem envD_cons {P : Program} {g : FuncId} {s : FSpec} {l : List (FuncId × FSpec)} (h : FOk P Td g s) (hl : EnvOk P Td (envL l)) : EnvOk P Td (envL ((g, s) :: l)) := fun f s' hf => by
  simp only [envL] at hf
  split at hf
  · rename_i e; subst e; obtain rfl := Option.some.inj hf; exact h
  · exact hl f s' hf
end Go.Proofs.YtaecbmjmcpdgdaaGreat.Ab
namespace Go.Proofs.YtaecbmjmcpdgdaaGreat.Ab
open Go.RowKit
set_option linter.unusedVariables false
def toSO (e e' : TypeId) : FSpec where
  pre args := ∃ a : List (List D), a.length + wRows a ≤ 1048576 ∧ args = [argS e a]
  res args := match args with
    | [.val _ [.sl _ _ a]] => .val false [.sl true e' a]
    | _ => .none
def toGO (T : Tab) (cts cts' : List CT) : FSpec where
  pre args := ∃ a : List D, WfRow T cts a ∧ wRow (csD (rowC cts a)) ≤ 1048576 ∧ args = [argG cts a]
  res args := match args with
    | [.val _ cs] => .val true (rowO cts' (csD cs))
    | _ => .none
def toSOn (e e' : TypeId) (n : Nat) : FSpec where
  pre args := ∃ a : List (List D), SizeOf.sizeOf a < n ∧ a.length + wRows a ≤ 1048576 ∧ args = [argS e a]
  res := (toSO e e').res
def toGOn (T : Tab) (cts cts' : List CT) (n : Nat) : FSpec where
  pre args := ∃ a : List D, WfRow T cts a ∧ SizeOf.sizeOf a < n ∧ wRow (csD (rowC cts a)) ≤ 1048576 ∧ args = [argG cts a]
  res := (toGO T cts cts').res
theorem FOk.liftO {P : Program} {f : FuncId} {s : Nat → FSpec} {s' : FSpec} (h : ∀ n, FOk P Td f (s n)) (hs : ∀ args, s'.pre args → ∃ n, (s n).pre args) (hr : ∀ n, (s n).res = s'.res)
    (hb : ∀ n, (s n).bx = s'.bx := by intro n; rfl) (hu : ∀ n, (s n).upd = s'.upd := by intro n; rfl) (hq : ∀ n, (s n).nb = s'.nb := by intro n; rfl) : FOk P Td f s' := by
  refine ⟨(h 0).1, fun hbx hnb w X b ob cs args vals h1 h2 h3 h4 h5 h6 h7 hgl hpre => ?_, fun hbx w X args vals hX hargs hgl hpre => ?_, fun hbx hnb w X args vals hX hargs hpre => ?_⟩
  · obtain ⟨n, hn⟩ := hs _ hpre
    have := (h n).okb ((hb n).trans hbx) ((hq n).trans hnb) w X b ob cs args vals h1 h2 h3 h4 h5 h6 h7 hgl hn
    rwa [hr n, hu n] at this
  · obtain ⟨n, hn⟩ := hs args hpre
    have := (h n).ok ((hb n).trans hbx) w X args vals hX hargs hgl hn
    rwa [hr n] at this
  · obtain ⟨n, hn⟩ := hs args hpre
    have := (h n).okn ((hb n).trans hbx) ((hq n).trans hnb) w X args vals hX hargs hn
    rwa [hu n] at this
theorem WfD.onT {T : Tab} (b : Bool) {ct : CT} {d : D} (h : WfD T ct d) : WfD (T.on b) ct d := by
  induction h with
  | int k n h => exact .int k n h
  | bool x => exact .bool x
  | str x h => exact .str x h
  | nil e => exact .nil e
  | sl e ty rows h1 h2 h3 h4 ih => exact .sl e ty rows h1 h2 h3 ih
theorem WfD.offT {T : Tab} {b : Bool} {ct : CT} {d : D} (h : WfD (T.on b) ct d) : WfD T ct d := WfD.onT (T := T.on b) T.dp h
theorem WfC.offT {c : CV} (h : WfC Td c) : WfC T c := by
  cases c with
  | sl own e rows => cases own with
    | true => exact h.elim
    | false => exact WfD.offT (b := true) h
  | i k n => exact h
  | b x => exact h
  | s x => exact h
  | _ => exact h.elim
theorem arg0O {ag : Bool} {cs : List CV} {l : List SV} (h : ∀ a ∈ SV.val ag cs :: l, WfSV Td a) {c : CV} (h2 : c ∈ cs) : WfC T c := WfC.offT (h _ (List.mem_cons_self ..) c h2)
end Go.Proofs.YtaecbmjmcpdgdaaGreat.Ab
