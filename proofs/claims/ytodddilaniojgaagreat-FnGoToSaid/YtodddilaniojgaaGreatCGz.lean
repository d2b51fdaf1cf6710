/- Drawn notebooks, edits and histories: what is known of them, in plain Lean. No program in sight. Functions that change a variable of the caller's, run part by part. No program in sight. -/
import Derived.Test.YtodddilaniojgaaGreatCGy
import Derived.Test.YtodddilaniojgaaGreatCHq
import Derived.Test.YtodddilaniojgaaGreatCDa
namespace Go.Proofs.YtodddilaniojgaaGreat.Ab
open Go.RowKit
set_option linter.unusedVariables false
def CelD (r : List D) : Prop := ∃ (id ve k : Int) (nm cd : ByteArray) (n : Int), r = mkC id ve k nm cd n ∧ ve ≤ 3
theorem CelD.mk (id : Int) {ve : Int} (k : Int) (nm cd : ByteArray) (n : Int) (h : ve ≤ 3) : CelD (mkC id ve k nm cd n) := ⟨id, ve, k, nm, cd, n, rfl, h⟩
theorem CelD.can {l : List (List D)} (h : ∀ r ∈ l, CelD r) : Can l := fun r hr => by
  obtain ⟨a, b, c, s, t, n, rfl, _⟩ := h r hr
  rfl
theorem CelD.vb {l : List (List D)} (h : ∀ r ∈ l, CelD r) : vB 3 l := fun r hr => by
  obtain ⟨a, b, c, s, t, n, rfl, h⟩ := h r hr
  exact h
def EdD (r : List D) : Prop := iAt r 3 ≤ 3 ∧ csD (rowC EE8 r) = r
theorem EdD.eb {l : List (List D)} {K : Int} (h : ∀ r ∈ l, EdD r) (hK : 3 ≤ K) : eB K l := fun r hr => Int.le_trans (h r hr).1 hK
structure EDx where
  k : Int
  at_ : Int
  id : Int
  ve : Int
  kd : Int
  nm : ByteArray
  cd : ByteArray
  n : Int
instance : Inhabited EDx := ⟨⟨0, 0, 0, 0, 0, ByteArray.empty, ByteArray.empty, 0⟩⟩
abbrev EDx.row (x : EDx) : List D := [.i x.k, .i x.at_, .i x.id, .i x.ve, .i x.kd, .s x.nm, .s x.cd, .i x.n]
theorem EdD.mk (x : EDx) (h : x.ve ≤ 3) : EdD x.row := ⟨h, rfl⟩
def mostM (m : List SV) : Int := match m with
  | [_, .val _ [.i _ n]] => n
  | _ => 0
theorem most2 {x : List (List D)} {nb : SV} (h : (x.length : Int) ≤ mostM [nb, .val false [.i .i64 2]]) : x.length ≤ 2 := by
  have h : (x.length : Int) ≤ 2 := h
  omega
theorem small2 (a b : Int) : smallN (([] ++ [[D.i a]] ++ [[D.i b]] : List (List D)).length : Int) := ⟨(by show (1 : Int) ≤ 2; decide), (by show (2 : Int) ≤ 256; decide)⟩
theorem SmH.atn {l ns : List (List D)} {a a' : Int} (h : SmH (l, ns, a)) : SmH (l, ns, a') := ⟨h.1, h.2⟩
theorem at_mem {l : List (List D)} {x : Int} (h0 : 0 ≤ x) (h1 : x < (l.length : Int)) : l.getD x.toNat [] ∈ l := by
  have hk : x.toNat < l.length := by omega
  rw [List.getD_eq_getElem?_getD, List.getElem?_eq_getElem hk]
  exact List.getElem_mem hk
theorem hd_mem {l : List (List D)} (h : smallN (l.length : Int)) : l.getD 0 [] ∈ l := by
  have h1 : 1 ≤ (l.length : Int) := h.1
  have hk : 0 < l.length := by omega
  rw [List.getD_eq_getElem?_getD, List.getElem?_eq_getElem hk]
  exact List.getElem_mem hk
theorem z_HIn {M : Nat} {K : Int} : HIn M K ([], [], 0) := .inl rfl
theorem z_SmH : SmH ([], [], 0) := ⟨by decide, by decide, fun x hx => by cases hx⟩
theorem bent_HIn {M : Nat} {K a : Int} {l ns : List (List D)} (h : a = -1 ∨ a = (ns.length : Int)) : HIn M K (l, ns, a) := by
  refine .inl ?_
  cases e : okH (l, ns, a)
  · rfl
  · have := okH_len e
    have h3 : 0 ≤ a := this.2.2.1
    have h4 : a < (ns.length : Int) := this.2.2.2.1
    omega
end Go.Proofs.YtodddilaniojgaaGreat.Ab
namespace Go.Proofs.YtodddilaniojgaaGreat.Ab
noncomputable section
open Go.RowKit
set_option linter.unusedVariables false
variable {P : Program} {T : Tab} {W : Base} {N : Nat}
theorem fokBS (hT : TabOk P T) {f : FuncId} {fn : Func} {c : Code} {s : FSpec} (hf : P.funcs[f]? = some fn) (hb : fn.body = some c)
    (hcall : ∀ args w, (callFunc f args).run P w = .ok (.enter f args) w) (hN : fn.ntmps = N)
    (h : ∀ cs args, s.pre (.tup [(true, cs)] :: args) → (∀ a ∈ args, WfSV T a) → args.length + 1 ≤ N ∧ Snd P T N c (fun e σ => (e = .normal ∨ e = .ret) ∧ (retB T N fn.results.toList (s.res (.tup [(true, cs)] :: args)) (s.upd (.tup [(true, cs)] :: args))).wp (fun _ => True) σ) (initB N cs args)) (hbx : s.bx = true := by rfl) (hnb : s.nb = false := by rfl) : FOk P T f s := by
  refine ⟨hcall, fun _ _ w X b ob cs args vals hX hbw hXb hob hobi hbox hargs hgl hpre => ?_, fun hb => (by rw [hbx] at hb; cases hb), fun _ hn => (by rw [hnb] at hn; cases hn)⟩
  obtain ⟨hlen, hw⟩ := h cs args hpre (fun a ha => by
    obtain ⟨i, hi⟩ := List.getElem?_of_mem ha
    have hlt : i < vals.length := by rw [← hargs.1]; exact (List.getElem?_eq_some_iff.1 hi).1
    exact (hargs.2 i a vals[i] hi (List.getElem?_eq_getElem hlt)).wf)
  have hvl : vals.length + 1 ≤ N := by rw [← hargs.1]; exact hlen
  refine calls_of_wp hf hb ?_
  let vs : Array Value := (Value.pointer (some ⟨b, 0, none⟩) :: vals).toArray
  have lentx : ∀ x, boxB b ob x → ¬ X x := fun x hx hX' => by
    rcases hx with rfl | ⟨j, hj⟩
    · exact hXb hX'
    · exact (hob j x hj).2.1 hX'
  let W : Base := { toWorld := w, x0 := X, x0lt := hX, lent := boxB b ob, lentx := lentx, pin := some b }
  let E : Env := { σ := initB N cs args, a := { tmps := vs ++ Array.replicate (fn.ntmps - vs.size) undef, defers := [] }, w := w, β := fun _ => b, bk := fun l j => match l with | .cell x i => if x = N ∧ i < cs.length ∧ j = 0 then ob i else noB | _ => noB, x0 := X }
  have hal : ∀ t, E.alive t ↔ t = N := fun t => by
    unfold Env.alive
    show (∃ m, (initB N cs args (.gen t)).2 = .num m) ↔ _
    unfold initB
    simp only
    split
    · rename_i e; exact ⟨fun _ => e, fun _ => ⟨_, rfl⟩⟩
    · rename_i e; exact ⟨fun ⟨m, hm⟩ => (by cases hm), fun h => absurd h e⟩
  have hbk : ∀ {l j x}, E.bk l j x → ∃ i, l = .cell N i ∧ i < cs.length ∧ j = 0 ∧ ob i x := fun {l j x} hl => by
    cases l with
    | cell y i =>
      have hl' : (if y = N ∧ i < cs.length ∧ j = 0 then ob i else noB) x := hl
      split at hl'
      · rename_i hc; exact ⟨i, by rw [hc.1], hc.2.1, hc.2.2, hl'⟩
      · cases hl'
    | slot t => exact (hl : False).elim
    | gen t => exact (hl : False).elim
  have hEX : ∀ x, E.X x → X x ∨ boxB b ob x := fun x hx => by
    rcases hx with hx | ⟨t, ht, rfl⟩ | ⟨l, j, hl⟩
    · exact .inl hx
    · exact .inr (.inl rfl)
    · obtain ⟨i, _, _, _, h4⟩ := hbk hl
      exact .inr (.inr ⟨i, h4⟩)
  have hcv : ∀ {v c l j}, ArgC T w (fun x => X x ∨ boxB b ob x) v c → RelCV T W E l j v c := fun {v c l j} hc => by
    cases c with
    | sl own e rows =>
      cases own with
      | true => exact hc.elim
      | false => exact RdR.move (hc : RdR T w _ _ _ _) (Keeps.refl _ _) (fun b _ hb => hEX b hb)
    | i k n => exact hc
    | b x => exact hc
    | s x => exact hc
    | al q i n => exact hc.elim
    | dead => exact hc.elim
  have hvsz : vs.size = vals.length + 1 := by simp [vs]
  have hrel : Rel T W N E := by
    refine ⟨Kept.refl W, rfl, rfl, ?_, fun t => ?_, fun t m j hm hj => ?_, fun t ha => ⟨.inr (.inl rfl), hbw⟩, fun t t' h1 h2 _ => ((hal t).1 h1).trans ((hal t').1 h2).symm, fun l j x hl => ?_, fun l j l' j' x hl hl' => ?_, fun l j x t hl ha => ?_, fun x hx => Option.some.inj hx, hgl.move (Keeps.refl _ _) (fun b _ hb => hEX b hb)⟩
    · show (vs ++ Array.replicate (fn.ntmps - vs.size) undef).size = N
      rw [Array.size_append, Array.size_replicate, hN, hvsz]
      omega
    · cases t with
      | zero =>
        refine ⟨Nat.zero_le _, fun _ => ?_⟩
        show (vs ++ _).getD 0 undef = _
        rw [Array.getD_eq_getD_getElem?, Array.getElem?_append_left (by rw [hvsz]; omega)]
        simp [vs]; rfl
      | succ t =>
        show RelSV T W E (.slot (t + 1)) _ (args.getD t .none)
        by_cases ht : t < args.length
        · have hv : t < vals.length := by rw [← hargs.1]; exact ht
          have hA := hargs.2 t args[t] vals[t] (List.getElem?_eq_getElem ht) (List.getElem?_eq_getElem hv)
          have e1 : args.getD t .none = args[t] := by simp [List.getD_eq_getElem?_getD, List.getElem?_eq_getElem ht]
          have e2 : E.a.tmps.getD (t + 1) undef = vals[t] := by
            show (vs ++ _).getD (t + 1) undef = _
            rw [Array.getD_eq_getD_getElem?, Array.getElem?_append_left (by rw [hvsz]; omega)]
            simp [vs, hv]
          rw [e1, e2]
          cases ha : args[t] with
          | val ag cs' =>
            rw [ha] at hA
            cases ag with
            | true =>
              obtain ⟨us, g1, g2, g3⟩ := hA
              refine ⟨us.toArray, g1, by simp [g2], fun j c hc => ?_⟩
              have hj : j < us.length := by rw [← g2]; exact (List.getElem?_eq_some_iff.1 hc).1
              exact ⟨us[j], by simp [hj], hcv (g3 j c us[j] hc (List.getElem?_eq_getElem hj))⟩
            | false =>
              obtain ⟨c', g1, g2⟩ := hA
              exact ⟨c', g1, hcv g2⟩
          | _ => rw [ha] at hA; exact hA.elim
        · have e1 : args.getD t .none = .none := by simp [List.getD_eq_getElem?_getD, List.getElem?_eq_none (Nat.le_of_not_lt ht)]
          rw [e1]
          trivial
    · have htN : t = N := (hal t).1 ⟨m, hm⟩
      subst htN
      have hm2 : (initB t cs args (.gen t)).2 = .num m := hm
      simp only [initB, if_true, SV.num.injEq] at hm2
      subst hm2
      obtain ⟨v, v1, v2, v3⟩ := hbox j cs[j] (List.getElem?_eq_getElem hj)
      refine ⟨cs[j], v, ?_, v1, v2, ?_⟩
      · show (initB t cs args (.cell t j)).2 = _
        simp only [initB, if_true, List.getElem?_eq_getElem hj]
      · have hbkj : E.bk (.cell t j) 0 = ob j := by show (if _ then _ else _) = _; rw [if_pos ⟨rfl, hj, rfl⟩]
        cases hcj : cs[j] with
        | sl own e rows =>
          rw [hcj] at v3
          cases own with
          | true => exact OwnF.move (v3 : OwnF T w _ _ e v rows) (Keeps.refl _ _) (fun b _ hb => hEX b hb) hbkj (fun _ _ => rfl)
          | false => exact RdR.move (v3 : RdR T w _ _ _ _) (Keeps.refl _ _) (fun b _ hb => hEX b hb)
        | i k n => rw [hcj] at v3; exact v3
        | b x => rw [hcj] at v3; exact v3
        | s x => rw [hcj] at v3; exact v3
        | al q i n => rw [hcj] at v3; exact v3.elim
        | dead => rw [hcj] at v3; exact v3.elim
    · obtain ⟨i, _, _, _, h4⟩ := hbk hl
      exact ⟨.inr (.inr ⟨i, h4⟩), (hob i x h4).1⟩
    · obtain ⟨i, rfl, _, rfl, h4⟩ := hbk hl
      obtain ⟨i', rfl, _, rfl, h4'⟩ := hbk hl'
      rw [hobi i i' x h4 h4']
      exact ⟨rfl, rfl⟩
    · obtain ⟨i, _, _, _, h4⟩ := hbk hl
      exact (hob i x h4).2.2
  obtain ⟨e_, σ_, hq_, hL_⟩ := hw
  have := hL_ _ _ (fun e σ => (e = .normal ∨ e = .ret) ∧ (retB T N fn.results.toList (s.res (.tup [(true, cs)] :: args)) (s.upd (.tup [(true, cs)] :: args))).wp (fun _ => True) σ) hrel rfl hq_
  refine wp_mono this fun e a w' hq => ?_
  obtain ⟨E', h', rfl, rfl, he, hr⟩ := hq
  have post : E'.a.defers = [] ∧ ∃ v, (results fn E'.a.tmps).run P E'.w = .ok v E'.w ∧ ∃ v' bk ob', Ending.returned v = .returned v' ∧ BoxEnd T w E'.w X b ob bk ob' v' (s.res (.tup [(true, cs)] :: args)) (s.upd (.tup [(true, cs)] :: args)) := by
    refine ⟨h'.defers, ?_⟩
    have fin : ∀ {E3 : Env} {v : Value} {r : SV} {bk : Nat → Nat → Prop} {up : List CV}, Rel T W N E3 → E3.w = E'.w → (E3.σ (.gen N)).2 = .num up.length → BoxR T E3.w E3.X (E3.β N) (E3.obOf N up.length) up →
        (∀ j x, bk j x → E3.bk (.slot N) j x) → ResR T E'.w (fun x => X x ∨ boxB b (E3.obOf N up.length) x ∨ ∃ j, bk j x) bk v r → BoxEnd T w E'.w X b ob bk (E3.obOf N up.length) v r up := fun {E3 v r bk up} r3 ew g3 bx hbk3 hres => by
      have hβ : E3.β N = b := r3.pin b rfl
      have hat : E3.alive N := ⟨_, g3⟩
      have mine : ∀ l j x, E3.bk l j x → (w.heap.size ≤ x ∨ ∃ i, ob i x) ∧ x < E'.w.heap.size := fun l j x hl => by
        have h1 := r3.owlo l j x hl
        rw [ew] at h1
        refine ⟨?_, h1.2⟩
        rcases h1.1 with h1 | rfl | h1
        · exact .inl h1
        · exact absurd hβ.symm (r3.owbx l j _ N hl hat)
        · exact .inr h1
      refine ⟨h'.base.os, h'.base.tape, h'.base.output, h'.base.size, fun k hk hn => h'.base.block k hk hn, hres, ?_, fun j x hj => mine _ _ _ (hbk3 j x hj), fun j x hj => mine _ _ _ (obOf_some hj).2, fun j j' x hj hj' => (r3.owinj _ _ _ _ _ (hbk3 j x hj) (hbk3 j' x hj')).2, fun j j' x hj hj' => ?_, fun j i x hj hi => ?_⟩
      · intro j c hc
        obtain ⟨u, u1, u2, u3⟩ := bx j c hc
        rw [ew, hβ] at u1 u2
        refine ⟨u, u1, u2, ?_⟩
        rw [ew] at u3
        have hx3 : ∀ x, (X x ∨ boxB b (E3.obOf N up.length) x ∨ ∃ j, bk j x) → E3.X x := fun x hx => by
          rcases hx with hx | (rfl | ⟨i, hi⟩) | ⟨i, hi⟩
          · left; have : E3.x0 = X := r3.x0; rw [this]; exact hx
          · exact .inr (.inl ⟨N, hat, hβ.symm⟩)
          · exact .inr (.inr ⟨_, _, (obOf_some hi).2⟩)
          · exact .inr (.inr ⟨_, _, hbk3 i x hi⟩)
        cases c with
        | sl own e rows =>
          cases own with
          | true => exact OwnF.move (u3 : OwnF T E'.w _ _ e u rows) (Keeps.refl _ _) (fun b _ hb => hx3 b hb) rfl (fun _ _ => rfl)
          | false => exact RdR.move (u3 : RdR T E'.w _ _ _ _) (Keeps.refl _ _) (fun b _ hb => hx3 b hb)
        | i k n => exact u3
        | b x => exact u3
        | s x => exact u3
        | al q i n => exact u3.elim
        | dead => exact u3.elim
      · have := (r3.owinj _ _ _ _ _ (obOf_some hj).2 (obOf_some hj').2).1
        simpa using this
      · have := (r3.owinj _ _ _ _ _ (hbk3 j x hj) (obOf_some hi).2).1
        cases this
    unfold retB at hr
    split at hr
    · rename_i r ag' es hrs hex
      obtain ⟨v, sv, g0, g1, g2, g3⟩ := rdRes_sound hT h' hr
      split at g3
      · rename_i ag cs1
        split at g3
        · rename_i hag
          subst hag
          obtain ⟨us, u1, u2, u3⟩ := g1.operand
          obtain ⟨E2, cs', r1, s1, c1, t1, _, w1⟩ := fins_sound h' u1 (cellsFree_of_free g2) g3
          obtain ⟨hcs, w1⟩ := w1
          subst hcs
          obtain ⟨E3, r3, s3, b3, q3, q4⟩ := boxPg_sound r1 w1
          rw [hex]
          have ew : E3.w = E'.w := s3.w.trans s1.w
          have hres : (results fn E'.a.tmps).run P E'.w = .ok v E'.w := by
            have hm1 : (fn.results.toList.mapM fun r => resVal r E'.a.tmps).run P E'.w = .ok [v] E'.w := by
              rw [hrs, List.mapM_cons]
              simp only [Sem.run_bind, g0, Result.andThen_ok, List.mapM_nil, Sem.run_pure]
            exact results_eq hm1
          have hβ : E3.β N = b := r3.pin b rfl
          have hX2 : ∀ x, (X x ∨ boxB b (E3.obOf N (s.upd (.tup [(true, cs)] :: args)).length) x ∨ ∃ j, E3.bk (.slot N) j x) → E3.X x := fun x hx => by
            rcases hx with hx | (rfl | ⟨i, hi⟩) | ⟨i, hi⟩
            · left; have : E3.x0 = X := r3.x0; rw [this]; exact hx
            · exact .inr (.inl ⟨N, ⟨_, q3⟩, hβ.symm⟩)
            · exact .inr (.inr ⟨_, _, (obOf_some hi).2⟩)
            · exact .inr (.inr ⟨_, _, hi⟩)
          have hcell : ∀ (i : Nat) c u, cs'[i]? = some c → us[i]? = some u → ResC T E'.w (fun x => X x ∨ boxB b (E3.obOf N (s.upd (.tup [(true, cs)] :: args)).length) x ∨ ∃ j, E3.bk (.slot N) j x) (E3.bk (.slot N)) i u c := by
            intro i c u hc hu
            have hrc := c1.2 i c u hc hu
            rw [Nat.zero_add] at hrc
            have hset := List.all_eq_true.1 t1 c (List.mem_of_getElem? hc)
            have hrc3 : RelCV T W E3 (.slot N) i u c := hrc.step s3.step (fun e rows _ => ⟨b3 i, fun x _ => by rw [s3.w]⟩)
            rw [← ew]
            exact hrc3.resC hset (fun b _ hb => hX2 b hb) rfl
          refine ⟨v, hres, v, E3.bk (.slot N), E3.obOf N (s.upd (.tup [(true, cs)] :: args)).length, rfl, fin r3 ew q3 q4 (fun _ _ h => h) ?_⟩
          cases ag with
          | true => exact ⟨us, u2 rfl, c1.1, hcell⟩
          | false =>
            have hus := (u3 rfl).1
            subst hus
            match cs', c1.1 with
            | [c'], _ => exact ⟨c', rfl, hcell 0 c' v rfl rfl⟩
        · exact g3.elim
      · exact g3.elim
    · exact hr.elim
    · rename_i vs0 hex hrs
      obtain ⟨E2, vs', us, r1, s1, m1, l1, l2, b1, _, w1⟩ := rets_sound hT 0 h' hr
      obtain ⟨hvs, w1⟩ := w1
      subst hvs
      obtain ⟨E3, r3, s3, b3, q3, q4⟩ := boxPg_sound r1 w1
      rw [hex]
      have ew : E3.w = E'.w := s3.w.trans s1.w
      have hβ : E3.β N = b := r3.pin b rfl
      have hlen1 : us.length ≠ 1 := by
        intro hu
        obtain ⟨r, hr1⟩ := List.length_eq_one_iff.1 (l2.symm.trans hu)
        exact hrs r hr1
      refine ⟨_, results_eq m1, .tuple us.toArray, E3.bk (.slot N), E3.obOf N (s.upd (.tup [(true, cs)] :: args)).length, by rw [if_neg hlen1], fin r3 ew q3 q4 (fun _ _ h => h) ⟨us, rfl, l1, fun j p u hp hu => ?_⟩⟩
      have hb1 := b1 j p u hp hu
      rw [s1.w, Nat.zero_add] at hb1
      refine hb1.less (fun x hx hxx => ?_) fun i _ _ _ => b3 _
      have hx3 : E3.X x := by
        rcases hxx with hx | (rfl | ⟨i, hi⟩) | ⟨i, hi⟩
        · left; have : E3.x0 = X := r3.x0; rw [this]; exact hx
        · exact .inr (.inl ⟨N, ⟨_, q3⟩, hβ.symm⟩)
        · exact .inr (.inr ⟨_, _, (obOf_some hi).2⟩)
        · exact .inr (.inr ⟨_, _, hi⟩)
      exact s3.step.less x (by rw [s1.w]; exact hx) hx3
    · exact hr.elim
  rcases he with rfl | rfl
  · exact post
  · exact post
theorem fokBSA {α : Type} [Inhabited α] (R : List SV → α → SV) (U : List SV → α → List CV) (hT : TabOk P T) {f : FuncId} {fn : Func} {c : Code} {pre : List SV → Prop} {post : List SV → α → Prop} (hf : P.funcs[f]? = some fn) (hb : fn.body = some c)
    (hcall : ∀ args w, (callFunc f args).run P w = .ok (.enter f args) w) (hN : fn.ntmps = N)
    (h : ∀ cs args, pre (.tup [(true, cs)] :: args) → (∀ a ∈ args, WfSV T a) → args.length + 1 ≤ N ∧ Snd P T N c (fun e σ => (e = .normal ∨ e = .ret) ∧ ∃ x, post (.tup [(true, cs)] :: args) x ∧ (retB T N fn.results.toList (R (.tup [(true, cs)] :: args) x) (U (.tup [(true, cs)] :: args) x)).wp (fun _ => True) σ) (initB N cs args)) :
    ∃ g : List SV → α, FOk P T f { pre := pre, res := fun a => R a (g a), bx := true, upd := fun a => U a (g a) } ∧ ∀ cs args, pre (.tup [(true, cs)] :: args) → (∀ a ∈ args, WfSV T a) → post (.tup [(true, cs)] :: args) (g (.tup [(true, cs)] :: args)) := by
  have each : ∀ a : List SV, ∃ r : α, ∀ cs args, a = .tup [(true, cs)] :: args → pre a → (∀ a ∈ args, WfSV T a) → post a r ∧ args.length + 1 ≤ N ∧ Snd P T N c (fun e σ => (e = .normal ∨ e = .ret) ∧ (retB T N fn.results.toList (R a r) (U a r)).wp (fun _ => True) σ) (initB N cs args) := by
    intro a
    by_cases hp : ∃ cs args, a = .tup [(true, cs)] :: args ∧ pre a ∧ ∀ a ∈ args, WfSV T a
    · obtain ⟨cs, args, rfl, hp1, hp2⟩ := hp
      obtain ⟨h1, e, σ', ⟨he, r, h3, h4⟩, h5⟩ := h cs args hp1 hp2
      refine ⟨r, fun cs' args' he' _ _ => ?_⟩
      have he2 := he'
      simp only [List.cons.injEq, SV.tup.injEq, Prod.mk.injEq, true_and, and_true] at he2
      obtain ⟨rfl, rfl⟩ := he2
      exact ⟨h3, h1, e, σ', ⟨he, h4⟩, h5⟩
    · exact ⟨default, fun cs args he h1 h2 => absurd ⟨cs, args, he, h1, h2⟩ hp⟩
  refine ⟨fun a => (each a).choose, fokBS (s := { pre := pre, res := fun a => R a (each a).choose, bx := true, upd := fun a => U a (each a).choose }) hT hf hb hcall hN (fun cs args h1 h2 => ?_), fun cs args h1 h2 => ((each _).choose_spec cs args rfl h1 h2).1⟩
  exact ((each _).choose_spec cs args rfl h1 h2).2
end
end Go.Proofs.YtodddilaniojgaaGreat.Ab
