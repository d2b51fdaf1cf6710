/- More operations that leave the world alone: choices, numbers, texts, addresses, loads. No program in sight. Loads, elements' addresses, texts' bytes, lengths, parts. No program in sight. Variables are made and stored into; an owned slice grows. No program in sight. Stores into variables; an owned slice grows or is made. No program in sight. -/
import Derived.Test.YtaecbmjmcpdgdaaGreatCK1
import Derived.Deep.AppendSrc
set_option linter.unusedVariables false
set_option linter.unusedSimpArgs false
namespace Go.Proofs.YtaecbmjmcpdgdaaGreat.Ab
open Go.RowKit
variable {P : Program} {T : Tab} {W : Base} {N : Nat}
theorem wrap_inK (k : IntKind) (n : Int) : inK k (k.wrap n) := by
  have hp : ∀ (b : Nat), (0 : Int) < 2 ^ b := fun b => Int.pow_pos (by decide)
  cases k <;> simp only [inK, IntKind.min, IntKind.max, IntKind.wrap, IntKind.signed, IntKind.bits] <;> simp <;> (try split) <;> omega
def stepPick (N : Nat) (o : Oper) (c a b : Operand) : Pg :=
  rdv c fun sv => match sv with
    | .val false [.b x] => .br x (rdv a fun sv => dstSet N o sv) (rdv b fun sv => dstSet N o sv)
    | _ => .fail
theorem RelSV.bool {E : Env} {l : Loc} {v : Value} {x : Bool} (h : RelSV T W E l v (.val false [.b x])) : v = .bool x := by
  obtain ⟨c, e, h⟩ := h
  obtain rfl : c = .b x := by simpa using e.symm
  exact h
theorem RelSV.int {E : Env} {l : Loc} {v : Value} {k : IntKind} {n : Int} (h : RelSV T W E l v (.val false [.i k n])) : v = .int k n ∧ inK k n := by
  obtain ⟨c, e, h⟩ := h
  obtain rfl : c = .i k n := by simpa using e.symm
  exact h
theorem RelSV.str {E : Env} {l : Loc} {v : Value} {x : ByteArray} (h : RelSV T W E l v (.val false [.s x])) : v = .string x ∧ x.size ≤ maxLen := by
  obtain ⟨c, e, h⟩ := h
  obtain rfl : c = .s x := by simpa using e.symm
  exact h
theorem RelSV.cell1 {E : Env} {l : Loc} {v : Value} {c : CV} (h : RelSV T W E l v (.val false [c])) : RelCV T W E l 0 v c := by
  obtain ⟨c', e, h⟩ := h
  obtain rfl : c' = c := by simpa using e.symm
  exact h
theorem mkInt (E : Env) (l : Loc) (k : IntKind) (n : Int) (h : inK k n) : RelSV T W E l (.int k n) (.val false [.i k n]) := ⟨_, rfl, rfl, h⟩
theorem mkBool (E : Env) (l : Loc) (x : Bool) : RelSV T W E l (.bool x) (.val false [.b x]) := ⟨_, rfl, rfl⟩
theorem mkStr (E : Env) (l : Loc) (x : ByteArray) (h : x.size ≤ maxLen) : RelSV T W E l (.string x) (.val false [.s x]) := ⟨_, rfl, rfl, h⟩
theorem pick_ok {o : Oper} {c a b : Operand} (ho : o.op = .pick c a b) : OpOk P T W N o (stepPick N o c a b) := by
  intro E Q K Qx h hw hK
  obtain ⟨sv, h1, _f1, h3⟩ := rdv_sound h hw (.slot N)
  split at h3
  · rename_i x
    have hb := h1.bool
    cases x with
    | true =>
      obtain ⟨sv, a1, _f2, a3⟩ := rdv_sound h (h3.1 rfl) (.slot N)
      exact sound_value h (by simp [execOp, ho, hb, asBool]) a1 a3 hK
    | false =>
      obtain ⟨sv, a1, _f2, a3⟩ := rdv_sound h (h3.2 rfl) (.slot N)
      exact sound_value h (by simp [execOp, ho, hb, asBool]) a1 a3 hK
  · exact h3.elim
def stepUn (N : Nat) (o : Oper) (op : UnOp) (x : Operand) : Pg :=
  rdv x fun sv => match op, sv with
    | .not, .val false [.b x] => dstSet N o (.val false [.b (!x)])
    | .neg, .val false [.i k n] => dstSet N o (.val false [.i k (k.wrap (0 - n))])
    | _, _ => .fail
theorem un_ok {o : Oper} {op : UnOp} {t : TypeId} {x : Operand} (ho : o.op = .unOp op t x) : OpOk P T W N o (stepUn N o op x) := by
  intro E Q K Qx h hw hK
  obtain ⟨sv, h1, _f1, h3⟩ := rdv_sound h hw (.slot N)
  split at h3
  · exact sound_value h (by simp [execOp, ho, h1.bool, Op.unary]) (mkBool E _ _) h3 hK
  · exact sound_value h (by simp [execOp, ho, h1.int.1, Op.unary, Op.intArith]) (mkInt E _ _ _ (wrap_inK _ _)) h3 hK
  · exact h3.elim
def cmpI : BinOp → Int → Int → Option Bool
  | .eql, a, b => some (a == b)
  | .neq, a, b => some (a != b)
  | .lss, a, b => some (decide (a < b))
  | .leq, a, b => some (decide (a ≤ b))
  | .gtr, a, b => some (decide (a > b))
  | .geq, a, b => some (decide (a ≥ b))
  | _, _, _ => none
def cmpS : BinOp → ByteArray → ByteArray → Option Bool
  | .eql, a, b => some (a.toList == b.toList)
  | .neq, a, b => some (!(a.toList == b.toList))
  | .lss, a, b => some (Op.bytesLess a.toList b.toList)
  | .leq, a, b => some (Op.bytesLess a.toList b.toList || a.toList == b.toList)
  | .gtr, a, b => some (!(Op.bytesLess a.toList b.toList || a.toList == b.toList))
  | .geq, a, b => some (!Op.bytesLess a.toList b.toList)
  | _, _, _ => none
def stepBin (N : Nat) (o : Oper) (op : BinOp) (x y : Operand) : Pg :=
  rdv x fun sx => rdv y fun sy => match sx, sy with
    | .val false [.i k a], .val false [.i k' b] =>
      if k = k' then match op with
        | .add => dstSet N o (.val false [.i k (k.wrap (a + b))])
        | .sub => dstSet N o (.val false [.i k (k.wrap (a - b))])
        | .mul => dstSet N o (.val false [.i k (k.wrap (a * b))])
        | .quo => .chk (b ≠ 0) (dstSet N o (.val false [.i k (k.wrap (a.tdiv b))]))
        | .rem => .chk (b ≠ 0 ∧ inK k (a.tmod b)) (dstSet N o (.val false [.i k (a.tmod b)]))
        | op => match cmpI op a b with
          | some r => dstSet N o (.val false [.b r])
          | none => .fail
      else .fail
    | .val false [.s a], .val false [.s b] => match op with
      | .add => .chk (a.size + b.size ≤ maxLen) (dstSet N o (.val false [.s (a ++ b)]))
      | op => match cmpS op a b with
        | some r => dstSet N o (.val false [.b r])
        | none => .fail
    | _, _ => .fail
theorem bin_ok {o : Oper} {op : BinOp} {t t' : TypeId} {x y : Operand} (ho : o.op = .binOp op t x y t') : OpOk P T W N o (stepBin N o op x y) := by
  intro E Q K Qx h hw hK
  obtain ⟨sx, h1, _f1, h3⟩ := rdv_sound h hw (.slot N)
  obtain ⟨sy, h4, _f4, h6⟩ := rdv_sound h h3 (.slot N)
  split at h6
  · rename_i k a k' b
    obtain ⟨ea, ia⟩ := h1.int
    obtain ⟨eb, ib⟩ := h4.int
    split at h6
    · rename_i hk
      subst hk
      have hg : ∀ op, (eqGuard op t x y (.int k a) (.int k b)).run P E.w = .ok () E.w := by intro op; cases op <;> simp [eqGuard]
      split at h6
      · exact sound_value h (by simp [execOp, ho, ea, eb, binOp, Op.intArith, hg]) (mkInt E _ _ _ (wrap_inK _ _)) h6 hK
      · exact sound_value h (by simp [execOp, ho, ea, eb, binOp, Op.intArith, hg]) (mkInt E _ _ _ (wrap_inK _ _)) h6 hK
      · exact sound_value h (by simp [execOp, ho, ea, eb, binOp, Op.intArith, hg]) (mkInt E _ _ _ (wrap_inK _ _)) h6 hK
      · exact sound_value h (by simp [execOp, ho, ea, eb, binOp, Op.intDiv, hg, h6.1]) (mkInt E _ _ _ (wrap_inK _ _)) h6.2 hK
      · exact sound_value h (by simp [execOp, ho, ea, eb, binOp, Op.intDiv, hg, h6.1.1]) (mkInt E _ _ _ h6.1.2) h6.2 hK
      · split at h6
        · rename_i r hr
          refine sound_value h (v := .bool r) ?_ (mkBool E _ _) h6 hK
          cases op <;> simp only [cmpI, Option.some.injEq, reduceCtorEq] at hr <;> (subst hr; simp [execOp, ho, ea, eb, binOp, Op.intCmp, hg])
        · exact h6.elim
    · exact h6.elim
  · rename_i a b
    obtain ⟨ea, ia⟩ := h1.str
    obtain ⟨eb, ib⟩ := h4.str
    have hg : ∀ op, (eqGuard op t x y (.string a) (.string b)).run P E.w = .ok () E.w := by intro op; cases op <;> simp [eqGuard]
    split at h6
    · have hs : (a ++ b).size ≤ maxLen := by have := h6.1; simpa using this
      have hlim : ¬ (IntKind.i64.max < ((a.size + b.size : Nat) : Int)) := by
        have := h6.1
        simp only [maxLen] at this
        have hm : IntKind.i64.max = 9223372036854775807 := by decide
        rw [hm]; omega
      refine sound_value h (v := .string (a ++ b)) ?_ (mkStr E _ _ hs) h6.2 hK
      simp only [execOp, ho, ea, eb, Sem.run_bind, hg, Result.andThen_ok, binOp, Op.stringOp]
      rw [if_neg (by simpa using hlim)]
      rfl
    · split at h6
      · rename_i r hr
        refine sound_value h (v := .bool r) ?_ (mkBool E _ _) h6 hK
        cases op <;> simp only [cmpS, Option.some.injEq, reduceCtorEq] at hr <;> (subst hr; simp [execOp, ho, ea, eb, binOp, Op.stringOp, hg])
      · exact h6.elim
  · exact h6.elim
def CV.gone : CV → CV
  | .sl true _ _ => .dead
  | c => c
def stepExtract (N : Nat) (o : Oper) (x : Operand) (i : Nat) : Pg :=
  match x with
  | .tmp t => .get (.slot t) fun v => match v.2 with
    | .tup vs => match vs[i]? with
      | some (ag, cs) => match cs.all CV.free with
        | true => dstSet N o (.val ag cs)
        | false => .chk (cs.length ≤ 1024) (.set 0 (.slot t) (.tup (vs.set i (ag, cs.map CV.gone))) (dstSet N o (.val ag cs)))
      | none => .fail
    | _ => .fail
  | _ => .fail
def untupBk (E : Env) (N t i m : Nat) : Loc → Nat → Nat → Prop := fun l j =>
  if l = .slot t ∧ 1024 * i ≤ j ∧ j < 1024 * i + m then noB else if l = .slot N ∧ j < m then E.bk (.slot t) (tix i j) else E.bk l j
def Env.untup (E : Env) (N t i : Nat) (vs : List (Bool × List CV)) (ag : Bool) (cs : List CV) : Env :=
  { E with σ := updm E.σ (.slot t) (.tup (vs.set i (ag, cs.map CV.gone))), bk := untupBk E N t i cs.length }
theorem CV.gone_own {c : CV} {e : TypeId} {rows : List (List D)} (h : c.gone = .sl true e rows) : False := by
  cases c with
  | sl own e rows => cases own <;> cases h
  | _ => cases h
theorem CV.gone_tup {i j : Nat} {c : CV} (h : tupC i c) : tupC j c.gone := by
  cases c with
  | sl own e rows => cases own <;> exact tupC.plain rfl _
  | al q i n => exact Bool.noConfusion h.1
  | _ => exact tupC.plain rfl _
theorem RelCV.gone {E : Env} {l : Loc} {j : Nat} {v : Value} {c : CV} (h : RelCV T W E l j v c) : RelCV T W E l j v c.gone := by
  cases c with
  | sl own e rows => cases own with
    | true => trivial
    | false => exact h
  | _ => exact h
section untup
variable {E : Env} {t i : Nat} {vs : List (Bool × List CV)} {ag : Bool} {cs : List CV}
theorem untup_other {l : Loc} (h : l ≠ .slot t) : (E.untup N t i vs ag cs).σ l = E.σ l := by
  show updw 0 _ _ _ l = _; simp [updw, h]
theorem untup_same : ((E.untup N t i vs ag cs).σ (.slot t)).2 = .tup (vs.set i (ag, cs.map CV.gone)) := by
  show (updw 0 _ _ _ _).2 = _; simp [updw]
theorem untup_ver (l : Loc) : ((E.untup N t i vs ag cs).σ l).1 = (E.σ l).1 := by
  show (updw 0 _ _ _ l).1 = _
  unfold updw; split
  · rename_i h; simp [h]
  · rfl
theorem untup_bk {l : Loc} {j x : Nat} (h : (E.untup N t i vs ag cs).bk l j x) : (l = .slot N ∧ j < cs.length ∧ E.bk (.slot t) (tix i j) x ∧ ¬ (l = .slot t ∧ 1024 * i ≤ j ∧ j < 1024 * i + cs.length)) ∨ (E.bk l j x ∧ ¬ (l = .slot t ∧ 1024 * i ≤ j ∧ j < 1024 * i + cs.length) ∧ ¬ (l = .slot N ∧ j < cs.length)) := by
  have h : untupBk E N t i cs.length l j x := h
  unfold untupBk at h
  split at h
  · exact h.elim
  · rename_i h1
    split at h
    · rename_i h2; exact .inl ⟨h2.1, h2.2, h, h1⟩
    · rename_i h2; exact .inr ⟨h, h1, h2⟩
theorem untup_alive {t' : Nat} : (E.untup N t i vs ag cs).alive t' ↔ E.alive t' := by
  unfold Env.alive; rw [untup_other (by simp)]
theorem untup_step : Step E (E.untup N t i vs ag cs) := by
  refine ⟨fun l => ⟨by rw [untup_ver]; exact Nat.le_refl _, fun _ j => ?_⟩, fun t _ => rfl, Keeps.refl _ _, fun b _ hb => ?_⟩
  · cases l with
    | slot t => rfl
    | gen t => rfl
    | cell t' j' => exact Env.cellAt_congr (fun m => by rw [untup_other (by simp)]) (fun _ _ => rfl)
  · rcases hb with hb | ⟨t', ht, rfl⟩ | ⟨l, j, hl⟩
    · exact .inl hb
    · exact .inr (.inl ⟨t', untup_alive.1 ht, rfl⟩)
    · rcases untup_bk hl with ⟨_, _, h3, _⟩ | ⟨h1, _⟩
      · exact .inr (.inr ⟨_, _, h3⟩)
      · exact .inr (.inr ⟨_, _, h1⟩)
theorem Rel.untup (h : Rel T W N E) (hq : (E.σ (.slot t)).2 = .tup vs) (hi : vs[i]? = some (ag, cs)) (hm : cs.length ≤ 1024) :
    Rel T W N (E.untup N t i vs ag cs) ∧ ∃ (arr : Array Value) (u : Value), (E.a.tmps.getD t undef) = .tuple arr ∧ arr[i]? = some u ∧ RelSV T W (E.untup N t i vs ag cs) (.slot N) u (.val ag cs) := by
  have s : Step E (E.untup N t i vs ag cs) := untup_step
  have htN : t ≠ N := by
    intro e
    have hs := h.slot t
    have hu : E.a.tmps.getD t undef = undef := by rw [e]; simp [h.size]
    rw [hu, hq] at hs
    obtain ⟨arr, e1, e2, _⟩ := hs
    cases e1
    have hl : vs.length = 0 := e2.symm
    rw [List.length_eq_zero_iff.1 hl] at hi
    cases hi
  have h0 := h.slot t
  rw [hq] at h0
  obtain ⟨arr, h1, h2, h3⟩ := h0
  have hbN : ∀ j, j < cs.length → (E.untup N t i vs ag cs).bk (.slot N) j = E.bk (.slot t) (tix i j) := by
    intro j hj
    show untupBk E N t i cs.length (.slot N) j = _
    unfold untupBk
    rw [if_neg (fun x => htN (by have := x.1; simp at this; exact this.symm)), if_pos ⟨rfl, hj⟩]
  refine ⟨?_, ?_⟩
  · refine ⟨h.base, h.x0, h.defers, h.size, fun t' => ?_, fun t' m j hm' hj => ?_, fun t' ha => h.bxlo t' (untup_alive.1 ha), fun a b ha hb he => h.bxinj a b (untup_alive.1 ha) (untup_alive.1 hb) he, fun l j b hb => ?_, fun l j l' j' b hb hb' => ?_, fun l j b t' hb ha => ?_, h.pin, h.glob.move s.keep s.less⟩
    · by_cases e : t' = t
      · subst e
        rw [untup_same]
        show RelSV T W _ _ (E.a.tmps.getD t' undef) _
        refine ⟨arr, h1, by simpa using h2, fun j p hp => ?_⟩
        rw [List.getElem?_set] at hp
        split at hp
        · rename_i hij
          subst hij
          split at hp
          · obtain rfl := Option.some.inj hp
            obtain ⟨u, hu, hr⟩ := h3 i _ hi
            refine ⟨u, hu, fun hag => ?_, fun hag => ?_⟩
            · obtain ⟨brr, e1, e2, e3⟩ := hr.1 hag
              refine ⟨brr, e1, by simpa using e2, fun k c hc => ?_⟩
              simp only [List.getElem?_map] at hc
              cases hck : cs[k]? with
              | none => rw [hck] at hc; cases hc
              | some c0 =>
                rw [hck] at hc
                obtain rfl := Option.some.inj hc
                obtain ⟨x, hx, hn, hr'⟩ := e3 k c0 hck
                exact ⟨x, hx, CV.gone_tup hn, RelCV.step (c := c0.gone) hr'.gone s fun e rows he => (CV.gone_own he).elim⟩
            · obtain ⟨c0, e1, hn, hr'⟩ := hr.2 hag
              have e1 : cs = [c0] := e1
              exact ⟨c0.gone, by rw [e1]; rfl, CV.gone_tup hn, RelCV.step (c := c0.gone) hr'.gone s fun e rows he => (CV.gone_own he).elim⟩
          · cases hp
        · rename_i hij
          obtain ⟨u, hu, hr⟩ := h3 j p hp
          have hout : ∀ k, k < 1024 → (E.untup N t' i vs ag cs).bk (.slot t') (tix j k) = E.bk (.slot t') (tix j k) := by
            intro k hk
            show untupBk E N t' i cs.length (.slot t') (tix j k) = _
            unfold untupBk tix
            rw [if_neg (by intro x; have := x.2.1; have := x.2.2; omega), if_neg (by intro x; have := x.1; simp at this; exact htN this)]
          have hcl : ∀ k c, tupC k c → ∀ v, RelCV T W E (.slot t') (tix j k) v c → RelCV T W (E.untup N t' i vs ag cs) (.slot t') (tix j k) v c := by
            intro k c hc v hr'
            refine hr'.step s fun e rows he => ?_
            rw [he] at hc
            rcases hc.2 with hp | hk
            · cases hp
            · exact ⟨hout k hk, fun _ _ => rfl⟩
          refine ⟨u, hu, fun hag => ?_, fun hag => ?_⟩
          · obtain ⟨brr, e1, e2, e3⟩ := hr.1 hag
            refine ⟨brr, e1, e2, fun k c hc => ?_⟩
            obtain ⟨x, hx, hn, hr'⟩ := e3 k c hc
            exact ⟨x, hx, hn, hcl k c hn x hr'⟩
          · obtain ⟨c0, e1, hn, hr'⟩ := hr.2 hag
            exact ⟨c0, e1, hn, hcl 0 c0 hn u hr'⟩
      · rw [untup_other (by simpa using e)]
        refine (h.slot t').step s fun j ho => ⟨?_, fun _ _ => rfl⟩
        show untupBk E N t i cs.length (.slot t') j = _
        unfold untupBk
        rw [if_neg (by intro x; have := x.1; simp at this; exact e this)]
        split
        · rename_i g
          have g1 := g.1
          simp at g1
          subst g1
          exact (h.ghostA ho).elim
        · rfl
    · rw [untup_other (by simp)] at hm'
      obtain ⟨c, v, e1, e2, e3, e4⟩ := h.cell t' m j hm' hj
      rw [untup_other (by simp)]
      refine ⟨c, v, e1, e2, e3, e4.step s fun _ _ _ => ⟨?_, fun _ _ => rfl⟩⟩
      show untupBk E N t i cs.length (.cell t' j) 0 = _
      unfold untupBk
      rw [if_neg (by simp), if_neg (by simp)]
    · rcases untup_bk hb with ⟨_, _, h3', _⟩ | ⟨h1', _⟩
      · exact h.owlo _ _ _ h3'
      · exact h.owlo _ _ _ h1'
    · rcases untup_bk hb with ⟨a1, a2, a3, _⟩ | ⟨a1, a2, a3⟩
      · rcases untup_bk hb' with ⟨b1, b2, b3, _⟩ | ⟨b1, b2, b3⟩
        · refine ⟨a1.trans b1.symm, ?_⟩
          have := (h.owinj _ _ _ _ _ a3 b3).2
          unfold tix at this
          omega
        · obtain ⟨c1, c2⟩ := h.owinj _ _ _ _ _ a3 b1
          exact absurd ⟨c1.symm, by rw [← c2]; unfold tix; omega, by rw [← c2]; unfold tix; omega⟩ b2
      · rcases untup_bk hb' with ⟨b1, b2, b3, _⟩ | ⟨b1, b2, b3⟩
        · obtain ⟨c1, c2⟩ := h.owinj _ _ _ _ _ a1 b3
          exact absurd ⟨c1, by rw [c2]; unfold tix; omega, by rw [c2]; unfold tix; omega⟩ a2
        · exact h.owinj _ _ _ _ _ a1 b1
    · rcases untup_bk hb with ⟨_, _, h3', _⟩ | ⟨h1', _⟩
      · exact h.owbx _ _ _ _ h3' (untup_alive.1 ha)
      · exact h.owbx _ _ _ _ h1' (untup_alive.1 ha)
  · obtain ⟨u, hu, hr⟩ := h3 i _ hi
    refine ⟨arr, u, h1, hu, ?_⟩
    cases ag with
    | true =>
      obtain ⟨brr, e1, e2, e3⟩ := hr.1 rfl
      refine ⟨brr, e1, e2, fun k c hc => ?_⟩
      obtain ⟨x, hx, _, hr'⟩ := e3 k c hc
      exact ⟨x, hx, hr'.lay s (hbN k (List.getElem?_eq_some_iff.1 hc).1) rfl⟩
    | false =>
      obtain ⟨c, e1, _, hr'⟩ := hr.2 rfl
      have e1 : cs = [c] := e1
      exact ⟨c, e1, hr'.lay s (hbN 0 (by rw [e1]; exact Nat.zero_lt_one)) rfl⟩
end untup
theorem extract_ok {o : Oper} {x : Operand} {i : Nat} (ho : o.op = .extract x i) : OpOk P T W N o (stepExtract N o x i) := by
  intro E Q K Qx h hw hK
  unfold stepExtract at hw
  split at hw
  · rename_i t
    simp only [Pg.wp] at hw
    split at hw
    · rename_i vs hq
      split at hw
      · rename_i ag cs hi
        split at hw
        · rename_i hfree
          have h0 := h.slot t
          rw [hq] at h0
          obtain ⟨arr, e1, e2, e3⟩ := h0
          obtain ⟨u, hu, hr⟩ := e3 i _ hi
          have e1' : E.a.eval (.tmp t) = .tuple arr := e1
          have hf : ∀ c ∈ cs, ∀ e rows, c ≠ .sl true e rows := by
            intro c hc e rows he
            have := List.all_eq_true.1 hfree c hc
            rw [he] at this
            cases this
          refine sound_value h (v := u) (by simp [execOp, ho, e1', Instr.extract, hu]) ?_ hw hK
          cases ag with
          | true =>
            obtain ⟨brr, f1, f2, f3⟩ := hr.1 rfl
            refine ⟨brr, f1, f2, fun j c hc => ?_⟩
            obtain ⟨x', hx, _, hr'⟩ := f3 j c hc
            exact ⟨x', hx, hr'.any (hf c (List.mem_of_getElem? hc))⟩
          | false =>
            obtain ⟨c, f1, _, hr'⟩ := hr.2 rfl
            have f1 : cs = [c] := f1
            exact ⟨c, f1, hr'.any (hf c (by rw [f1]; simp))⟩
        · obtain ⟨hm, hw'⟩ := hw
          obtain ⟨r1, arr, u, g1, g2, g3⟩ := h.untup hq hi hm
          have g1' : E.a.eval (.tmp t) = .tuple arr := g1
          have hw'' : (dstSet N o (.val ag cs)).wp Q (E.untup N t i vs ag cs).σ := hw'
          have hrun : (execOp E.a.eval o).run P E.w = .ok (.value u) E.w := by simp [execOp, ho, g1', Instr.extract, g2]
          exact sound_value (E := E.untup N t i vs ag cs) r1 (v := u) hrun g3 hw'' hK
      · exact hw.elim
    · exact hw.elim
  · exact hw.elim
def goneT (vs : List (Bool × List CV)) : List (Bool × List CV) := vs.map fun p => (p.1, p.2.map CV.gone)
def retupBk (E : Env) (N t : Nat) : Loc → Nat → Nat → Prop := fun l j => if l = .slot t then noB else if l = .slot N then E.bk (.slot t) j else E.bk l j
def Env.retup (E : Env) (N t : Nat) (vs : List (Bool × List CV)) : Env := { E with σ := updm E.σ (.slot t) (.tup (goneT vs)), bk := retupBk E N t }
section retup
variable {E : Env} {t : Nat} {vs : List (Bool × List CV)}
theorem retup_other {l : Loc} (h : l ≠ .slot t) : (E.retup N t vs).σ l = E.σ l := by
  show updw 0 _ _ _ l = _; simp [updw, h]
theorem retup_same : ((E.retup N t vs).σ (.slot t)).2 = .tup (goneT vs) := by
  show (updw 0 _ _ _ _).2 = _; simp [updw]
theorem retup_ver (l : Loc) : ((E.retup N t vs).σ l).1 = (E.σ l).1 := by
  show (updw 0 _ _ _ l).1 = _
  unfold updw; split
  · rename_i h; simp [h]
  · rfl
theorem retup_bk {l : Loc} {j x : Nat} (h : (E.retup N t vs).bk l j x) : (l = .slot N ∧ l ≠ .slot t ∧ E.bk (.slot t) j x) ∨ (E.bk l j x ∧ l ≠ .slot t ∧ l ≠ .slot N) := by
  have h : retupBk E N t l j x := h
  unfold retupBk at h
  split at h
  · exact h.elim
  · rename_i h1
    split at h
    · rename_i h2; exact .inl ⟨h2, h1, h⟩
    · rename_i h2; exact .inr ⟨h, h1, h2⟩
theorem retup_alive {t' : Nat} : (E.retup N t vs).alive t' ↔ E.alive t' := by
  unfold Env.alive; rw [retup_other (by simp)]
theorem retup_step : Step E (E.retup N t vs) := by
  refine ⟨fun l => ⟨by rw [retup_ver]; exact Nat.le_refl _, fun _ j => ?_⟩, fun t _ => rfl, Keeps.refl _ _, fun b _ hb => ?_⟩
  · cases l with
    | slot t => rfl
    | gen t => rfl
    | cell t' j' => exact Env.cellAt_congr (fun m => by rw [retup_other (by simp)]) (fun _ _ => rfl)
  · rcases hb with hb | ⟨t', ht, rfl⟩ | ⟨l, j, hl⟩
    · exact .inl hb
    · exact .inr (.inl ⟨t', retup_alive.1 ht, rfl⟩)
    · rcases retup_bk hl with ⟨_, _, h3⟩ | ⟨h1, _⟩
      · exact .inr (.inr ⟨_, _, h3⟩)
      · exact .inr (.inr ⟨_, _, h1⟩)
theorem Rel.retup (h : Rel T W N E) (hq : (E.σ (.slot t)).2 = .tup vs) (hne : vs ≠ []) :
    Rel T W N (E.retup N t vs) ∧ ∃ arr : Array Value, E.a.tmps.getD t undef = .tuple arr ∧ RelSV T W (E.retup N t vs) (.slot N) (.tuple arr) (.tup vs) := by
  have s : Step E (E.retup N t vs) := retup_step
  have htN : t ≠ N := by
    intro e
    have hs := h.slot t
    have hu : E.a.tmps.getD t undef = undef := by rw [e]; simp [h.size]
    rw [hu, hq] at hs
    obtain ⟨arr, e1, e2, _⟩ := hs
    cases e1
    exact hne (List.length_eq_zero_iff.1 e2.symm)
  have h0 := h.slot t
  rw [hq] at h0
  obtain ⟨arr, h1, h2, h3⟩ := h0
  have hbN : ∀ j, (E.retup N t vs).bk (.slot N) j = E.bk (.slot t) j := by
    intro j
    show retupBk E N t (.slot N) j = _
    unfold retupBk
    rw [if_neg (fun x => htN (by simp at x; exact x.symm)), if_pos rfl]
  refine ⟨?_, arr, h1, arr, rfl, h2, fun j p hp => ?_⟩
  · refine ⟨h.base, h.x0, h.defers, h.size, fun t' => ?_, fun t' m j hm' hj => ?_, fun t' ha => h.bxlo t' (retup_alive.1 ha), fun a b ha hb he => h.bxinj a b (retup_alive.1 ha) (retup_alive.1 hb) he, fun l j b hb => ?_, fun l j l' j' b hb hb' => ?_, fun l j b t' hb ha => ?_, h.pin, h.glob.move s.keep s.less⟩
    · by_cases e : t' = t
      · subst e
        rw [retup_same]
        show RelSV T W _ _ (E.a.tmps.getD t' undef) _
        refine ⟨arr, h1, by simpa [goneT] using h2, fun j p hp => ?_⟩
        simp only [goneT, List.getElem?_map] at hp
        cases hpj : vs[j]? with
        | none => rw [hpj] at hp; cases hp
        | some p0 =>
          rw [hpj] at hp
          obtain rfl := Option.some.inj hp
          obtain ⟨u, hu, hr⟩ := h3 j _ hpj
          refine ⟨u, hu, fun hag => ?_, fun hag => ?_⟩
          · obtain ⟨brr, e1, e2, e3⟩ := hr.1 hag
            refine ⟨brr, e1, by simpa using e2, fun k c hc => ?_⟩
            simp only [List.getElem?_map] at hc
            cases hck : p0.2[k]? with
            | none => rw [hck] at hc; cases hc
            | some c0 =>
              rw [hck] at hc
              obtain rfl := Option.some.inj hc
              obtain ⟨x, hx, hn, hr'⟩ := e3 k c0 hck
              exact ⟨x, hx, CV.gone_tup hn, RelCV.step (c := c0.gone) hr'.gone s fun e rows he => (CV.gone_own he).elim⟩
          · obtain ⟨c0, e1, hn, hr'⟩ := hr.2 hag
            exact ⟨c0.gone, by simp [e1], CV.gone_tup hn, RelCV.step (c := c0.gone) hr'.gone s fun e rows he => (CV.gone_own he).elim⟩
      · rw [retup_other (by simpa using e)]
        refine (h.slot t').step s fun j ho => ⟨?_, fun _ _ => rfl⟩
        show retupBk E N t (.slot t') j = _
        unfold retupBk
        rw [if_neg (by simpa using e)]
        split
        · rename_i g
          simp at g
          subst g
          exact (h.ghostA ho).elim
        · rfl
    · rw [retup_other (by simp)] at hm'
      obtain ⟨c, v, e1, e2, e3, e4⟩ := h.cell t' m j hm' hj
      rw [retup_other (by simp)]
      refine ⟨c, v, e1, e2, e3, e4.step s fun _ _ _ => ⟨?_, fun _ _ => rfl⟩⟩
      show retupBk E N t (.cell t' j) 0 = _
      unfold retupBk
      rw [if_neg (by simp), if_neg (by simp)]
    · rcases retup_bk hb with ⟨_, _, h3'⟩ | ⟨h1', _⟩
      · exact h.owlo _ _ _ h3'
      · exact h.owlo _ _ _ h1'
    · rcases retup_bk hb with ⟨a1, a2, a3⟩ | ⟨a1, a2, a3⟩
      · rcases retup_bk hb' with ⟨b1, b2, b3⟩ | ⟨b1, b2, b3⟩
        · exact ⟨a1.trans b1.symm, (h.owinj _ _ _ _ _ a3 b3).2⟩
        · exact absurd (h.owinj _ _ _ _ _ a3 b1).1.symm b2
      · rcases retup_bk hb' with ⟨b1, b2, b3⟩ | ⟨b1, b2, b3⟩
        · exact absurd (h.owinj _ _ _ _ _ a1 b3).1 a2
        · exact h.owinj _ _ _ _ _ a1 b1
    · rcases retup_bk hb with ⟨_, _, h3'⟩ | ⟨h1', _⟩
      · exact h.owbx _ _ _ _ h3' (retup_alive.1 ha)
      · exact h.owbx _ _ _ _ h1' (retup_alive.1 ha)
  · obtain ⟨u, hu, hr⟩ := h3 j p hp
    refine ⟨u, hu, fun hag => ?_, fun hag => ?_⟩
    · obtain ⟨brr, e1, e2, e3⟩ := hr.1 hag
      refine ⟨brr, e1, e2, fun k c hc => ?_⟩
      obtain ⟨x, hx, hn, hr'⟩ := e3 k c hc
      exact ⟨x, hx, hn, hr'.lay s (hbN _) rfl⟩
    · obtain ⟨c0, e1, hn, hr'⟩ := hr.2 hag
      exact ⟨c0, e1, hn, hr'.lay s (hbN _) rfl⟩
end retup
def stepMoveT (N : Nat) (o : Oper) (x : Operand) : Pg :=
  match x with
  | .tmp t => .get (.slot t) fun v => match v.2 with
    | .tup (p :: vs) => match (p :: vs).all fun p => p.2.all CV.free with
      | true => rdv x fun sv => dstSet N o sv
      | false => .set 0 (.slot t) (.tup (goneT (p :: vs))) (dstSet N o (.tup (p :: vs)))
    | _ => rdv x fun sv => dstSet N o sv
  | x => rdv x fun sv => dstSet N o sv
theorem moveT_ok {o : Oper} {x : Operand} (ho : o.op = .move x) : OpOk P T W N o (stepMoveT N o x) := by
  intro E Q K Qx h hw hK
  unfold stepMoveT at hw
  split at hw
  · rename_i t
    simp only [Pg.wp] at hw
    split at hw
    · rename_i p vs hq
      split at hw
      · exact move_ok ho E Q K Qx h hw hK
      · obtain ⟨r1, arr, g1, g2⟩ := h.retup hq (List.cons_ne_nil _ _)
        have g1' : E.a.eval (.tmp t) = .tuple arr := g1
        have hrun : (execOp E.a.eval o).run P E.w = .ok (.value (.tuple arr)) E.w := by simp [execOp, ho, g1']
        exact sound_value (E := E.retup N t (p :: vs)) r1 (v := .tuple arr) hrun g2 hw hK
    · exact move_ok ho E Q K Qx h hw hK
  · exact move_ok ho E Q K Qx h hw hK
def stepField (T : Tab) (N : Nat) (o : Oper) (t : TypeId) (x : Operand) (f : Nat) : Pg :=
  match T t with
  | some ty => match ty.agg, ty.offs[f]? with
    | true, some (off, _) => rdv x fun sv => match sv with
      | .ptr b g p => .get (.gen b) fun v => if v.1 = g then dstSet N o (.ptr b g (p + off)) else .fail
      | .rptr cs => dstSet N o (.rptr (cs.drop off))
      | .optr q j n k c p => .get q fun v => if v.1 = n then dstSet N o (.optr q j n k c (p + off)) else .fail
      | _ => .fail
    | _, _ => .fail
  | none => .fail
theorem field_ok (hT : TabOk P T) {o : Oper} {t : TypeId} {x : Operand} {f : Nat} (ho : o.op = .fieldAddr t x f) : OpOk P T W N o (stepField T N o t x f) := by
  intro E Q K Qx h hw hK
  unfold stepField at hw
  split at hw
  · rename_i ty hty
    split at hw
    · rename_i off sz hag hoff
      obtain ⟨sv, h1, _f1, h3⟩ := rdv_sound h hw (.slot N)
      obtain ⟨fs, hu, _, hfs⟩ := (hT t ty hty).str hag
      obtain ⟨fd, hfd, hfo, hsz0, hsz1⟩ := hfs f off sz hoff
      have hsz : P.cellsOf fd.type ≠ 0 := by rw [hsz0]; exact hsz1
      have hplace : ∀ b p, (fieldPlace ⟨b, p, none⟩ fd).run P E.w = .ok ⟨b, p + off, none⟩ E.w := by
        intro b p
        have : (sizeOf fd.type).run P E.w = .ok (P.cellsOf fd.type) E.w := by
          unfold Program.cellsOf at hsz
          cases hi : P.info? fd.type with
          | none => rw [hi] at hsz; exact absurd rfl hsz
          | some i => simp [sizeOf, typeInfo, Program.cellsOf, hi]
        simp only [fieldPlace, Sem.run_bind, this, Result.andThen_ok]
        rw [if_neg hsz, Addr.add_mid, hfo]; rfl
      have hrun : ∀ b p, E.a.eval x = .pointer (some ⟨b, p, none⟩) → (execOp E.a.eval o).run P E.w = .ok (.value (.pointer (some ⟨b, p + off, none⟩))) E.w := by
        intro b p hx
        simp [execOp, ho, hx, Instr.fieldAt, run_underlying hu, hfd, Instr.sureAddr, hplace]
      split at h3
      · rename_i b g p
        obtain ⟨e1, e2⟩ := h1
        simp only [Pg.wp] at h3
        split at h3
        · rename_i hg
          exact sound_value h (sv := .ptr b g (p + off)) (hrun _ _ (e2 hg)) ⟨e1, fun _ => rfl⟩ h3 hK
        · exact h3.elim
      · rename_i cs
        obtain ⟨b, p, e1, e2, e3, e4⟩ := h1
        refine sound_value h (sv := .rptr (cs.drop off)) (hrun _ _ e1) ⟨b, p + off, rfl, e2, e3, fun j q hq => ?_⟩ h3 hK
        have := e4 (off + j) q (by simpa using hq)
        rw [← Nat.add_assoc] at this
        exact this
      · rename_i q j n k c p
        obtain ⟨e1, e2⟩ := h1
        simp only [Pg.wp] at h3
        split at h3
        · rename_i hg
          obtain ⟨b, o', len, cap, f1, f2⟩ := e2 hg
          exact sound_value h (sv := .optr q j n k c (p + off)) (hrun _ _ f2) ⟨e1, fun _ => ⟨b, o', len, cap, f1, by simp [Nat.add_assoc]⟩⟩ h3 hK
        · exact h3.elim
      · exact h3.elim
    · exact hw.elim
  · exact hw.elim
def D.int : D → Int | .i n => n | _ => 0
def D.bool : D → Bool | .b x => x | _ => false
def D.str : D → ByteArray | .s x => x | _ => ByteArray.empty
def D.rows : D → List (List D) | .l r => r | _ => []
def ofD : CT → D → CV
  | .i k, d => .i k d.int
  | .b, d => .b d.bool
  | .s, d => .s d.str
  | .l e, d => .sl false e d.rows
theorem RdR.relCV {E : Env} {ct : CT} {v : Value} {d : D} (h : RdR T E.w E.X ct v d) (l : Loc) (j : Nat) : RelCV T W E l j v (ofD ct d) := by
  cases h with
  | int k n h => exact ⟨rfl, h⟩
  | bool x => rfl
  | str x h => exact ⟨rfl, h⟩
  | nil e A c h => exact RdR.nil e A c h
  | sl e ty b o c rows vs h1 h2 h3 h4 h5 h6 h7 h8 => exact RdR.sl e ty b o c rows vs h1 h2 h3 h4 h5 h6 h7 h8
def CV.toD : CT → CV → Option D
  | .i k, .i k' n => if k = k' then some (.i n) else none
  | .b, .b x => some (.b x)
  | .s, .s x => some (.s x)
  | .l e, .sl false e' rows => if e = e' then some (.l rows) else none
  | _, _ => none
theorem RelCV.rdR {E : Env} {l : Loc} {j : Nat} {v : Value} {c : CV} {ct : CT} {d : D} (h : RelCV T W E l j v c) (hd : c.toD ct = some d) : RdR T E.w E.X ct v d := by
  unfold CV.toD at hd
  split at hd
  · split at hd
    · rename_i hk
      subst hk
      obtain rfl := Option.some.inj hd
      rw [h.1]; exact .int _ _ h.2
    · cases hd
  · obtain rfl := Option.some.inj hd
    rw [(h : v = _)]; exact .bool _
  · obtain rfl := Option.some.inj hd
    rw [h.1]; exact .str _ h.2
  · split at hd
    · rename_i hk
      subst hk
      obtain rfl := Option.some.inj hd
      exact h
    · cases hd
  · cases hd
def toDs : List CT → List CV → Option (List D)
  | [], [] => some []
  | ct :: r, c :: cs => match c.toD ct, toDs r cs with
    | some d, some ds => some (d :: ds)
    | _, _ => none
  | _, _ => none
theorem toDs_spec : ∀ {cts : List CT} {cs : List CV} {ds : List D}, toDs cts cs = some ds → cs.length = cts.length ∧ ds.length = cts.length ∧ ∀ (j : Nat) ct c d, cts[j]? = some ct → cs[j]? = some c → ds[j]? = some d → c.toD ct = some d
  | [], [], ds, h => by
    obtain rfl := Option.some.inj h
    exact ⟨rfl, rfl, fun j ct c d h _ _ => by simp at h⟩
  | [], c :: cs, ds, h => by cases h
  | ct :: r, [], ds, h => by cases h
  | ct :: r, c :: cs, ds, h => by
    simp only [toDs] at h
    split at h
    · rename_i d ds' h1 h2
      obtain rfl := Option.some.inj h
      obtain ⟨a, b, f⟩ := toDs_spec h2
      refine ⟨by simp [a], by simp [b], fun j ct' c' d' e1 e2 e3 => ?_⟩
      cases j with
      | zero =>
        obtain rfl := Option.some.inj e1
        obtain rfl := Option.some.inj e2
        obtain rfl := Option.some.inj e3
        exact h1
      | succ j => exact f j ct' c' d' (by simpa using e1) (by simpa using e2) (by simpa using e3)
    · cases h
def getCells (b : Nat) : Nat → Nat → (List CV → Pg) → Pg
  | _, 0, k => k []
  | p, n + 1, k => .get (.cell b p) fun v => match v.2 with
    | .val false [c] => getCells b (p + 1) n fun r => k (c.share (.cell b p) v.1 0 :: r)
    | _ => .fail
theorem getCells_sound {E : Env} (h : Rel T W N E) {b m : Nat} (hb : (E.σ (.gen b)).2 = .num m) : ∀ {n p : Nat} {k : List CV → Pg} {Q : St → Prop}, p + n ≤ m → (getCells b p n k).wp Q E.σ →
    ∃ cs us, CellsR T W E (.slot N) 0 cs us ∧ cs.length = n ∧ cs.all CV.free = true ∧ (∀ (j : Nat) u, us[j]? = some u → E.w.cell? ⟨E.β b, p + j, none⟩ = some u) ∧ (k cs).wp Q E.σ
  | 0, p, k, Q, _, hw => ⟨[], [], ⟨rfl, fun i c u h => by simp at h⟩, rfl, rfl, fun j u h => by simp at h, hw⟩
  | n + 1, p, k, Q, hp, hw => by
    obtain ⟨c, v, e1, e2, e3, e4⟩ := h.cell b m p hb (by omega)
    simp only [getCells, Pg.wp, e1] at hw
    obtain ⟨cs, us, f1, f2, f3, f4, f5⟩ := getCells_sound h hb (n := n) (p := p + 1) (by omega) hw
    have hsh : RelCV T W E (.slot N) 0 v (c.share (.cell b p) (E.σ (.cell b p)).1 0) := e4.share ((Env.at_cell hb (by omega)).trans e2) _ _
    have hfree : (c.share (.cell b p) (E.σ (.cell b p)).1 0).free = true := by
      cases c with
      | sl own e rows => cases own <;> rfl
      | _ => rfl
    have anyj : ∀ {j j' u c0}, CV.free c0 = true → RelCV T W E (.slot N) j u c0 → RelCV T W E (.slot N) j' u c0 := fun hf hr => hr.any (fun e rows he => by rw [he] at hf; cases hf)
    refine ⟨_ :: cs, v :: us, ⟨by simp [f1.1], fun i c0 u0 hc hu => ?_⟩, by simp [f2], by simp [hfree, f3], fun j u hu => ?_, f5⟩
    · cases i with
      | zero =>
        obtain rfl := Option.some.inj hc
        obtain rfl := Option.some.inj hu
        exact hsh
      | succ i =>
        have := f1.2 i c0 u0 (by simpa using hc) (by simpa using hu)
        exact anyj (List.all_eq_true.1 f3 c0 (List.mem_of_getElem? (by simpa using hc))) this
    · cases j with
      | zero => obtain rfl := Option.some.inj hu; exact e2
      | succ j =>
        have := f4 j u (by simpa using hu)
        rw [show p + (j + 1) = p + 1 + j by omega]; exact this
def rCells : List CT → List (CT × D) → Option (List CV)
  | [], _ => some []
  | ct :: r, (ct', d) :: ps => if ct = ct' then (rCells r ps).map (ofD ct d :: ·) else none
  | _ :: _, [] => none
theorem rCells_spec : ∀ {cts : List CT} {ps : List (CT × D)} {cs : List CV}, rCells cts ps = some cs → cs.length = cts.length ∧ ∀ (j : Nat) c, cs[j]? = some c → ∃ p, ps[j]? = some p ∧ c = ofD p.1 p.2
  | [], ps, cs, h => by obtain rfl := Option.some.inj h; exact ⟨rfl, fun j c h => by simp at h⟩
  | ct :: r, [], cs, h => by cases h
  | ct :: r, (ct', d) :: ps, cs, h => by
    simp only [rCells] at h
    split at h
    · rename_i he
      subst he
      cases hr : rCells r ps with
      | none => rw [hr] at h; cases h
      | some cs' =>
        rw [hr] at h
        obtain rfl := Option.some.inj h
        obtain ⟨a, b⟩ := rCells_spec hr
        refine ⟨by simp [a], fun j c hc => ?_⟩
        cases j with
        | zero => obtain rfl := Option.some.inj hc; exact ⟨_, rfl, rfl⟩
        | succ j => exact b j c (by simpa using hc)
    · cases h
def oCells (cts : List CT) (row : List D) (p n : Nat) : List CV := ((cts.drop p).take n).zipIdx.map fun (ct, j) => ofD ct (row.getD (p + j) default)
def hasL (cts : List CT) : Bool := cts.any fun | .l _ => true | _ => false
def barC (T : Tab) (own : Bool) (e : TypeId) (cts : List CT) : Bool :=
  match own with
  | false => false
  | true => dpT T e && hasL cts
def stepLoad (T : Tab) (N : Nat) (o : Oper) (t : TypeId) (x : Operand) : Pg :=
  match T t with
  | some ty => rdv x fun sv => match sv with
    | .ptr b g p => .get (.gen b) fun v => if v.1 = g then match v.2 with
        | .num m => if p + ty.cts.length ≤ m then getCells b p ty.cts.length fun cs => dstSet N o (.val ty.agg cs) else .fail
        | _ => .fail
      else .fail
    | .rptr ps => match rCells ty.cts ps with
      | some cs => dstSet N o (.val ty.agg cs)
      | none => .fail
    | .optr q j n k c p => look q j n fun _ _ own e rows => match barC T own e ty.cts with
     | true => .fail
     | false => match T e with
      | some te => if te.cts.length = c ∧ (te.cts.drop p).take ty.cts.length = ty.cts then
          .chk (k < rows.length) (dstSet N o (.val ty.agg (oCells te.cts (rows.getD k []) p ty.cts.length))) else .fail
      | none => .fail
    | _ => .fail
  | none => .fail
theorem run_load (hT : TabOk P T) {E : Env} {o : Oper} {t : TypeId} {x : Operand} {ty : Ty} (ho : o.op = .load t x) (hty : T t = some ty) {b p : Nat} (hx : E.a.eval x = .pointer (some ⟨b, p, none⟩))
    {cs : List CV} {us : List Value} (hc : CellsR T W E (.slot N) 0 cs us) (hn : cs.length = ty.cts.length) (hu : ∀ (j : Nat) u, us[j]? = some u → E.w.cell? ⟨b, p + j, none⟩ = some u) :
    ∃ v, (execOp E.a.eval o).run P E.w = .ok (.value v) E.w ∧ RelSV T W E (.slot N) v (.val ty.agg cs) := by
  have ok := hT t ty hty
  have hlen : us.length = ty.cts.length := hc.1 ▸ hn
  cases hag : ty.agg with
  | true =>
    obtain ⟨fs, hu', _⟩ := ok.str hag
    refine ⟨.agg us.toArray, ?_, hc.relSV⟩
    have := run_loadAt_mid (P := P) E.w b p t us _ hu hu' rfl (by rw [hlen]; exact ok.size)
    simp only [execOp, ho, hx, Sem.run_bind, this, Result.andThen_ok]; rfl
  | false =>
    obtain ⟨ct, hct, hund⟩ := ok.one hag
    rw [hct] at hlen hn
    match us, hlen, cs, hn with
    | [u], _, [c], _ =>
      have hcell : E.w.cell? ⟨b, p, none⟩ = some u := hu 0 u rfl
      refine ⟨u, ?_, c, rfl, hc.2 0 c u rfl rfl⟩
      have hagg : (isAgg t).run P E.w = .ok false E.w := by
        unfold isAgg
        cases ct <;> simp only at hund <;> rw [Sem.run_bind, run_underlying hund E.w] <;> rfl
      simp only [execOp, ho, hx, Instr.loadAt, Instr.sureAddr, Sem.run_bind, Sem.run_pure, Result.andThen_ok, loadVar, hagg]
      simp [load, Sem.run, hcell]
end Go.Proofs.YtaecbmjmcpdgdaaGreat.Ab
namespace Go.Proofs.YtaecbmjmcpdgdaaGreat.Ab
open Go.RowKit
variable {P : Program} {T : Tab} {W : Base} {N : Nat}
theorem oCells_get {cts : List CT} {row : List D} {p n j : Nat} {c : CV} (h : (oCells cts row p n)[j]? = some c) : ∃ ct, cts[p + j]? = some ct ∧ j < n ∧ c = ofD ct (row.getD (p + j) default) := by
  unfold oCells at h
  rw [List.getElem?_map, List.getElem?_zipIdx] at h
  cases hc : ((cts.drop p).take n)[j]? with
  | none => rw [hc] at h; cases h
  | some ct =>
    rw [hc] at h
    obtain rfl := Option.some.inj h
    rw [List.getElem?_take] at hc
    split at hc
    · rename_i hj
      exact ⟨ct, by simpa using hc, hj, by simp⟩
    · cases hc
theorem oCells_length {cts : List CT} {row : List D} {p n : Nat} : (oCells cts row p n).length = min n (cts.length - p) := by
  simp [oCells]
theorem slice_row {E : Env} {q : Loc} {i : Nat} {u : Value} {own : Bool} {e : TypeId} {rows : List (List D)} (h : RelCV T W E q i u (.sl own e rows)) {te : Ty} (he : T e = some te) {k : Nat} (hk : k < rows.length) :
    ∃ b o cap, u = .slice (some ⟨b, o, none⟩) rows.length cap ∧ (rows.getD k []).length = te.cts.length ∧
      ∀ (j : Nat) ct, te.cts[j]? = some ct → ∃ v, E.w.cell? ⟨b, o + k * te.cts.length + j, none⟩ = some v ∧ ((own = true → dpT T e = true → ∀ e', ct ≠ .l e') → RdR T E.w E.X ct v ((rows.getD k []).getD j default)) := by
  have hrow : rows[k]? = some (rows.getD k []) := by simp [List.getD_eq_getElem?_getD, List.getElem?_eq_getElem hk]
  cases own with
  | true =>
    cases hdp : dpT T e with
    | false =>
      obtain ⟨⟨ty, xs, h1, h2, h3, h4⟩, _⟩ := OwnF.own h hdp
      rw [he] at h1
      obtain rfl := Option.some.inj h1
      rcases h2.2 with ⟨rfl, hn⟩ | ⟨g, cap, cur, rfl, e2, e3, e4, e5, e6, e7⟩
      · omega
      · have hl := h3 k _ hrow
        refine ⟨g, 0, cap, rfl, hl, fun j ct hct => ?_⟩
        have hj : j < te.cts.length := (List.getElem?_eq_some_iff.1 hct).1
        have hd : (rows.getD k [])[j]? = some ((rows.getD k []).getD j default) := by
          rw [List.getD_eq_getElem?_getD (i := j), List.getElem?_eq_getElem (by omega)]; rfl
        obtain ⟨v, hv, hr⟩ := h4 k j ct _ _ hrow hct hd
        refine ⟨v, ?_, fun _ => hr⟩
        have := h2.cells (g := g) rfl _ v hv
        rw [Addr.add_mid] at this
        rw [Nat.add_assoc]; exact this
    | true =>
      obtain ⟨ty, xs, G, h1, h2, h3, _, _, _, h4⟩ := (OwnF.deep h hdp).inv
      rw [he] at h1
      obtain rfl := Option.some.inj h1
      have hxl := h2.1
      rcases h2.2 with ⟨rfl, hn⟩ | ⟨g, cap, cur, rfl, e2, e3, e4, e5, e6, e7⟩
      · omega
      · have hl := h3 k _ hrow
        refine ⟨g, 0, cap, rfl, hl, fun j ct hct => ?_⟩
        have hj : j < te.cts.length := (List.getElem?_eq_some_iff.1 hct).1
        have hd : (rows.getD k [])[j]? = some ((rows.getD k []).getD j default) := by
          rw [List.getD_eq_getElem?_getD (i := j), List.getElem?_eq_getElem (by omega)]; rfl
        have hlt : k * te.cts.length + j < xs.length := by
          rw [hxl]
          have : k * te.cts.length + te.cts.length ≤ rows.length * te.cts.length := by rw [← Nat.succ_mul]; exact Nat.mul_le_mul_right _ hk
          omega
        have hv : xs[k * te.cts.length + j]? = some (xs.getD (k * te.cts.length + j) undef) := by
          rw [List.getD_eq_getElem?_getD, List.getElem?_eq_getElem hlt]; rfl
        refine ⟨_, ?_, fun hc => (h4 k j ct _ _ hrow hct hd).plainR (hc rfl rfl)⟩
        have := h2.cells (g := g) rfl _ _ hv
        rw [Addr.add_mid] at this
        rw [Nat.add_assoc]; exact this
  | false =>
    have h' : RdR T E.w E.X (.l e) u (.l rows) := h
    cases h' with
    | nil => simp at hk
    | sl _ ty b o c _ vs h1 h2 h3 h4 h5 h6 h7 h8 =>
      rw [he] at h1
      obtain rfl := Option.some.inj h1
      have hl := h7 k _ hrow
      refine ⟨b, o, c, rfl, hl, fun j ct hct => ?_⟩
      have hj : j < te.cts.length := (List.getElem?_eq_some_iff.1 hct).1
      have hd : (rows.getD k [])[j]? = some ((rows.getD k []).getD j default) := by
        rw [List.getD_eq_getElem?_getD (i := j), List.getElem?_eq_getElem (by omega)]; rfl
      exact ⟨_, h6 k j hk hj, fun _ => h8 k j ct _ _ hrow hct hd⟩
theorem OwnF.len {X F : Nat → Prop} {w : World} {u : Value} {e : TypeId} {rows : List (List D)} (h : OwnF T w X F e u rows) : ∃ A cap, u = .slice A rows.length cap ∧ rows.length ≤ cap ∧ cap ≤ maxLen := by
  have key : ∀ {n : Nat} {xs : List Value}, w.ownsRow 0 e n u rows.length xs → ∃ A cap, u = .slice A rows.length cap ∧ rows.length ≤ cap ∧ cap ≤ maxLen := by
    intro n xs h2
    rcases h2.2 with ⟨rfl, hn⟩ | ⟨g, cap, cur, rfl, e2, e3, e4, e5, e6, e7⟩
    · exact ⟨none, 0, by rw [hn], by omega, Nat.zero_le _⟩
    · exact ⟨_, cap, rfl, e4, e5⟩
  cases hd : dpT T e with
  | true =>
    obtain ⟨ty, xs, G, _, h2, _⟩ := (h.deep hd).inv
    exact key h2
  | false =>
    obtain ⟨⟨ty, xs, _, h2, _⟩, _⟩ := h.own hd
    exact key h2
theorem slice_len {E : Env} {q : Loc} {i : Nat} {u : Value} {own : Bool} {e : TypeId} {rows : List (List D)} (h : RelCV T W E q i u (.sl own e rows)) : ∃ A cap, u = .slice A rows.length cap ∧ rows.length ≤ cap ∧ cap ≤ maxLen := by
  cases own with
  | true => exact OwnF.len h
  | false =>
    have h' : RdR T E.w E.X (.l e) u (.l rows) := h
    cases h' with
    | nil _ A c hc => exact ⟨A, c, rfl, Nat.zero_le _, hc⟩
    | sl _ ty b o c _ vs h1 h2 h3 h4 h5 h6 h7 h8 => exact ⟨_, c, rfl, h2, h3⟩
theorem load_ok (hT : TabOk P T) {o : Oper} {t : TypeId} {x : Operand} (ho : o.op = .load t x) : OpOk P T W N o (stepLoad T N o t x) := by
  intro E Q K Qx h hw hK
  unfold stepLoad at hw
  split at hw
  · rename_i ty hty
    obtain ⟨sv, h1, _f1, h3⟩ := rdv_sound h hw (.slot N)
    split at h3
    · rename_i b g p
      obtain ⟨e1, e2⟩ := h1
      simp only [Pg.wp] at h3
      split at h3
      · rename_i hg
        split at h3
        · rename_i m hm
          split at h3
          · rename_i hpm
            obtain ⟨cs, us, c1, c2, c3, c4, c5⟩ := getCells_sound h hm hpm h3
            obtain ⟨v, r1, r2⟩ := run_load hT ho hty (e2 hg) c1 c2 c4
            exact sound_value h r1 r2 c5 hK
          · exact h3.elim
        · exact h3.elim
      · exact h3.elim
    · rename_i ps
      obtain ⟨b, p, e1, e2, e3, e4⟩ := h1
      split at h3
      · rename_i cs hcs
        obtain ⟨a1, a2⟩ := rCells_spec hcs
        have hex : ∀ (l : List CV) (i : Nat), (∀ (j : Nat) c, l[j]? = some c → ∃ q, ps[i + j]? = some q ∧ c = ofD q.1 q.2) →
            ∃ us : List Value, us.length = l.length ∧ (∀ (j : Nat) u, us[j]? = some u → E.w.cell? ⟨b, p + (i + j), none⟩ = some u) ∧ ∀ (j : Nat) c u, l[j]? = some c → us[j]? = some u → ∀ l' j', RelCV T W E l' j' u c := by
          intro l
          induction l with
          | nil => intro i _; exact ⟨[], rfl, fun j u hu => by simp at hu, fun j c u hc => by simp at hc⟩
          | cons c r ih =>
            intro i hl
            obtain ⟨q, hq, rfl⟩ := hl 0 c rfl
            obtain ⟨u, hu, hr⟩ := e4 i q (by simpa using hq)
            obtain ⟨us, b1, b2, b3⟩ := ih (i + 1) (fun j c' hc' => by
              have := hl (j + 1) c' (by simpa using hc')
              rw [show i + 1 + j = i + (j + 1) by omega]; exact this)
            refine ⟨u :: us, by simp [b1], fun j u' hu' => ?_, fun j c' u' hc' hu' l' j' => ?_⟩
            · cases j with
              | zero => obtain rfl := Option.some.inj hu'; exact hu
              | succ j =>
                have := b2 j u' (by simpa using hu')
                rw [show i + (j + 1) = i + 1 + j by omega]; exact this
            · cases j with
              | zero =>
                obtain rfl := Option.some.inj hc'
                obtain rfl := Option.some.inj hu'
                exact hr.relCV l' j'
              | succ j => exact b3 j c' u' (by simpa using hc') (by simpa using hu') l' j'
        obtain ⟨us, b1, b2, b3⟩ := hex cs 0 (fun j c hc => by rw [Nat.zero_add]; exact a2 j c hc)
        obtain ⟨v, r1, r2⟩ := run_load (W := W) (N := N) hT ho hty e1 (cs := cs) (us := us) ⟨b1.symm, fun i c u hc hu => b3 i c u hc hu _ _⟩ a1 (fun j u hu => by have := b2 j u hu; rwa [Nat.zero_add] at this)
        exact sound_value h r1 r2 h3 hK
      · exact h3.elim
    · rename_i q j n k c p
      obtain ⟨e1, e2⟩ := h1
      by_cases hn : (E.σ q).1 = n
      · obtain ⟨b, o', len, cap, f1, f2⟩ := e2 hn
        obtain ⟨ag, cs, own, e, rows, g1, g2, g3, g4, g5⟩ := look_sound h h3 (l := .slot N) (j := 0) ⟨e1, fun _ => f1⟩
        split at g5
        · exact g5.elim
        rename_i hbar
        have hbar' : ∀ (j : Nat) (ct : CT), ty.cts[j]? = some ct → own = true → dpT T e = true → ∀ e', ct ≠ CT.l e' := by
          intro j ct hct ho' hd e' he
          subst ho'
          rw [he] at hct
          unfold barC at hbar
          simp only [hd, Bool.true_and] at hbar
          have : hasL ty.cts = true := by
            unfold hasL
            rw [List.any_eq_true]
            exact ⟨CT.l e', List.mem_of_getElem? hct, rfl⟩
          rw [this] at hbar
          cases hbar
        split at g5
        · rename_i te hte
          split at g5
          · rename_i hc
            obtain ⟨hk, hw'⟩ := g5
            obtain ⟨b', o'', cap', s1, s2, s3⟩ := slice_row g4 hte hk
            simp only [Value.slice.injEq, Option.some.injEq, Addr.mk.injEq] at s1
            obtain ⟨⟨rfl, rfl, _⟩, _, _⟩ := s1
            have hct : ∀ j, j < ty.cts.length → te.cts[p + j]? = ty.cts[j]? := by
              intro j hj
              conv => rhs; rw [← hc.2]
              rw [List.getElem?_take, if_pos hj, List.getElem?_drop]
            have hlen : ty.cts.length ≤ te.cts.length - p := by
              have := congrArg List.length hc.2
              simp at this; omega
            have hex : ∀ j : Nat, j < ty.cts.length → ∃ v, E.w.cell? ⟨b, o' + k * c + p + j, none⟩ = some v ∧ ∀ ct, te.cts[p + j]? = some ct → RdR T E.w E.X ct v ((rows.getD k []).getD (p + j) default) := by
              intro j hj
              obtain ⟨v, hv, hr⟩ := s3 (p + j) _ ((hct j hj).trans (List.getElem?_eq_getElem hj))
              rw [hc.1] at hv
              refine ⟨v, by rw [Nat.add_assoc _ p j]; exact hv, fun ct hct' => ?_⟩
              rw [hct j hj, List.getElem?_eq_getElem hj] at hct'
              obtain rfl := Option.some.inj hct'
              exact hr (hbar' j _ (List.getElem?_eq_getElem hj))
            let us : List Value := (List.range ty.cts.length).map fun j => (E.w.cell? ⟨b, o' + k * c + p + j, none⟩).getD undef
            have hus : ∀ (j : Nat) u, us[j]? = some u → j < ty.cts.length ∧ u = (E.w.cell? ⟨b, o' + k * c + p + j, none⟩).getD undef := by
              intro j u hu
              have hlt : j < us.length := (List.getElem?_eq_some_iff.1 hu).1
              have hj : j < ty.cts.length := by simpa [us] using hlt
              refine ⟨hj, ?_⟩
              simp only [us, List.getElem?_map, List.getElem?_range hj, Option.map_some, Option.some.injEq] at hu
              exact hu.symm
            obtain ⟨v, r1, r2⟩ := run_load (W := W) (N := N) hT ho hty (b := b) (p := o' + k * c + p) f2 (cs := oCells te.cts (rows.getD k []) p ty.cts.length) (us := us)
              ⟨by rw [oCells_length]; simp only [us, List.length_map, List.length_range]; omega, fun i c' u hc' hu => by
                obtain ⟨ct, w1, w2, rfl⟩ := oCells_get hc'
                obtain ⟨hj, rfl⟩ := hus i u hu
                obtain ⟨v, hv, hr⟩ := hex i hj
                rw [hv]
                exact (hr ct w1).relCV _ _⟩
              (by rw [oCells_length]; omega)
              (fun j u hu => by
                obtain ⟨hj, rfl⟩ := hus j u hu
                obtain ⟨v, hv, _⟩ := hex j hj
                rw [hv]; rfl)
            exact sound_value h r1 r2 hw' hK
          · exact g5.elim
        · exact g5.elim
      · exfalso
        cases q with
        | slot t' => exact hn (lookAt_spec (show (lookAt (.slot t') j n _).wp Q E.σ from h3)).1
        | cell t' j' =>
          unfold look at h3
          simp only [Pg.wp] at h3
          split at h3
          · split at h3
            · exact hn (lookAt_spec h3).1
            · exact h3
          · exact h3
        | gen t' => exact h3
    · exact h3.elim
  · exact hw.elim
def elemT (T : Tab) (t : TypeId) : Option (TypeId × Ty) :=
  match T t with
  | some ty => match ty.agg, ty.cts with
    | false, [.l e] => (T e).map fun te => (e, te)
    | _, _ => none
  | none => none
theorem elemT_spec (hT : TabOk P T) {t e : TypeId} {te : Ty} (h : elemT T t = some (e, te)) : P.underlying t = some (.slice e) ∧ TyOk P T e te ∧ T e = some te := by
  unfold elemT at h
  split at h
  · rename_i ty hty
    split at h
    · rename_i e' hag hcts
      cases hte : T e' with
      | none => rw [hte] at h; cases h
      | some te' =>
        rw [hte] at h
        simp only [Option.map_some, Option.some.injEq, Prod.mk.injEq] at h
        obtain ⟨rfl, rfl⟩ := h
        obtain ⟨c, hc, hu⟩ := (hT t ty hty).one hag
        rw [hcts] at hc
        obtain rfl : CT.l e' = c := by simpa using hc
        exact ⟨hu, hT e' te' hte, hte⟩
    · cases h
  · cases h
def stepIndexAddr (T : Tab) (N : Nat) (o : Oper) (t : TypeId) (x i : Operand) : Pg :=
  match elemT T t with
  | some (e0, te) => rdv x fun sv => rdv i fun si => match sv, si with
    | .val false [.sl false e rows], .val false [.i _ n] =>
      if e = e0 then .chk (0 ≤ n ∧ n < rows.length) (dstSet N o (.rptr (te.cts.zipIdx.map fun (ct, j) => (ct, (rows.getD n.toNat []).getD j default)))) else .fail
    | .val false [.al q j v], .val false [.i _ n] => look q j v fun _ _ _ e rows =>
      if e = e0 then .chk (0 ≤ n ∧ n < rows.length) (dstSet N o (.optr q j v n.toNat te.cts.length 0)) else .fail
    | _, _ => .fail
  | none => .fail
theorem run_indexAddr (hT : TabOk P T) {E : Env} {o : Oper} {t : TypeId} {x i : Operand} (ho : o.op = .indexAddr t x i) {e : TypeId} {te : Ty} (ht : elemT T t = some (e, te))
    {b p len cap : Nat} {k : IntKind} {n : Int} (hx : E.a.eval x = .slice (some ⟨b, p, none⟩) len cap) (hi : E.a.eval i = .int k n) (h0 : 0 ≤ n) (h1 : n < len) :
    (execOp E.a.eval o).run P E.w = .ok (.value (.pointer (some ⟨b, p + n.toNat * te.cts.length, none⟩))) E.w := by
  obtain ⟨hu, hte, _⟩ := elemT_spec hT ht
  obtain ⟨inf, i1, i2, _⟩ := hte.info
  simp only [execOp, ho, hx, hi, Instr.indexAt, asIntOf, Sem.run_bind, Sem.run_pure, Result.andThen_ok, run_underlying hu]
  rw [if_pos ⟨h0, h1⟩]
  simp [sizeOf, typeInfo, i1, i2, Addr.add_mid]
theorem RdR.place {T : Tab} {w : World} {X : Nat → Prop} {ct : CT} {v : Value} {d : D} (h : RdR T w X ct v d) : ∀ e b p len cap rows, ct = .l e → v = .slice (some ⟨b, p, none⟩) len cap → d = .l rows → 0 < rows.length → ¬ X b ∧ b < w.heap.size := by
  cases h with
  | sl e ty b o c rows vs h1 h2 h3 h4 h5 h6 h7 h8 =>
    intro _ _ _ _ _ _ _ e2 _ _
    simp only [Value.slice.injEq, Option.some.injEq, Addr.mk.injEq] at e2
    obtain ⟨⟨rfl, _, _⟩, _, _⟩ := e2
    exact ⟨h4, h5⟩
  | nil e A c h =>
    intro _ _ _ _ _ rows _ _ e3 hr
    simp only [D.l.injEq] at e3
    subst e3
    simp at hr
  | int k n h => intro _ _ _ _ _ _ e1; cases e1
  | bool x => intro _ _ _ _ _ _ e1; cases e1
  | str x h => intro _ _ _ _ _ _ e1; cases e1
theorem indexAddr_ok (hT : TabOk P T) {o : Oper} {t : TypeId} {x i : Operand} (ho : o.op = .indexAddr t x i) : OpOk P T W N o (stepIndexAddr T N o t x i) := by
  intro E Q K Qx h hw hK
  unfold stepIndexAddr at hw
  split at hw
  · rename_i e0 te ht
    obtain ⟨_, _, hte⟩ := elemT_spec hT ht
    obtain ⟨sx, h1, _f1, h3⟩ := rdv_sound h hw (.slot N)
    obtain ⟨sy, h4, _f4, h6⟩ := rdv_sound h h3 (.slot N)
    split at h6
    · rename_i e rows k n
      obtain ⟨ei, _⟩ := h4.int
      split at h6
      · rename_i he
        subst he
        obtain ⟨⟨n0, n1⟩, hw'⟩ := h6
        have hk : n.toNat < rows.length := by omega
        have hX := h1.cell1
        have hX' : RdR T E.w E.X (.l e) (E.a.eval x) (.l rows) := hX
        obtain ⟨b, p, cap, s1, s2, s3⟩ := slice_row hX hte hk
        refine sound_value h (run_indexAddr hT ho ht s1 ei n0 n1) ?_ hw' hK
        have hb : ¬ E.X b ∧ b < E.w.heap.size := hX'.place _ _ _ _ _ _ rfl s1 rfl (by omega)
        refine ⟨b, _, rfl, hb.1, hb.2, fun j q hq => ?_⟩
        rw [List.getElem?_map, List.getElem?_zipIdx] at hq
        cases hc : te.cts[j]? with
        | none => rw [hc] at hq; cases hq
        | some ct =>
          rw [hc] at hq
          obtain rfl := Option.some.inj hq
          obtain ⟨v, hv, hr⟩ := s3 j ct hc
          exact ⟨v, hv, by simpa using hr (fun h => by cases h)⟩
      · exact h6.elim
    · rename_i q j v k n
      obtain ⟨ei, _⟩ := h4.int
      have hal := h1.cell1
      obtain ⟨ag, cs, own, e, rows, g1, g2, g3, g4, g5⟩ := look_sound h h6 hal
      split at g5
      · rename_i he
        subst he
        obtain ⟨⟨n0, n1⟩, hw'⟩ := g5
        have hk : n.toNat < rows.length := by omega
        obtain ⟨b, p, cap, s1, s2, s3⟩ := slice_row g4 hte hk
        refine sound_value h (sv := .optr q j v n.toNat te.cts.length 0) (run_indexAddr hT ho ht s1 ei n0 n1) ⟨hal.1, fun _ => ⟨b, p, rows.length, cap, by rw [g3, s1], by simp⟩⟩ hw' hK
      · exact g5.elim
    · exact h6.elim
  · exact hw.elim
def stepIndex (T : Tab) (N : Nat) (o : Oper) (t : TypeId) (x i : Operand) : Pg :=
  match T t with
  | some ty => match ty.agg, ty.cts with
    | false, [.s] => rdv x fun sv => rdv i fun si => match sv, si with
      | .val false [.s a], .val false [.i _ n] => .chk (0 ≤ n ∧ n < a.size) (dstSet N o (.val false [.i .u8 (a.data.getD n.toNat 0).toNat]))
      | _, _ => .fail
    | _, _ => .fail
  | none => .fail
theorem index_ok (hT : TabOk P T) {o : Oper} {t : TypeId} {x i : Operand} (ho : o.op = .index t x i) : OpOk P T W N o (stepIndex T N o t x i) := by
  intro E Q K Qx h hw hK
  unfold stepIndex at hw
  split at hw
  · rename_i ty hty
    split at hw
    · rename_i hag hcts
      obtain ⟨c, hc, hu⟩ := (hT t ty hty).one hag
      rw [hcts] at hc
      obtain rfl : CT.s = c := by simpa using hc
      obtain ⟨sx, h1, _f1, h3⟩ := rdv_sound h hw (.slot N)
      obtain ⟨sy, h4, _f4, h6⟩ := rdv_sound h h3 (.slot N)
      split at h6
      · rename_i a k n
        obtain ⟨ea, _⟩ := h1.str
        obtain ⟨ei, _⟩ := h4.int
        obtain ⟨⟨n0, n1⟩, hw'⟩ := h6
        have hk : n.toNat < a.size := by omega
        have hlt : (a.data.getD n.toNat 0).toNat < 256 := UInt8.toNat_lt _
        refine sound_value h (v := .int .u8 (a.data.getD n.toNat 0).toNat) ?_ (mkInt E _ _ _ ⟨by rw [show IntKind.u8.min = 0 by decide]; exact Int.natCast_nonneg _, by rw [show IntKind.u8.max = 255 by decide]; omega⟩) hw' hK
        have hget : a[n.toNat]? = some (a.data.getD n.toNat 0) := by
          have : n.toNat < a.data.size := hk
          rw [getElem?_pos a n.toNat hk]
          show some (a.data[n.toNat]) = some ((a.data.toList.toArray).getD n.toNat 0)
          rw [Array.getD_eq_getD_getElem?, Array.getElem?_eq_getElem (by simpa using this)]
          rfl
        simp only [execOp, ho, ea, ei, Instr.index, asIntOf, Sem.run_bind, Sem.run_pure, Result.andThen_ok, run_underlying hu]
        rw [if_pos n0, hget]
        rfl
      · exact h6.elim
    · exact hw.elim
  · exact hw.elim
def stepLen (T : Tab) (N : Nat) (o : Oper) (t : TypeId) (x : Operand) : Pg :=
  match T t with
  | some ty => match ty.agg, ty.cts with
    | false, [.s] => rdv x fun sv => match sv with
      | .val false [.s a] => dstSet N o (.val false [.i .i64 a.size])
      | _ => .fail
    | false, [.l _] => rdv x fun sv => match sv with
      | .val false [.sl false _ rows] => dstSet N o (.val false [.i .i64 rows.length])
      | .val false [.al q j v] => look q j v fun _ _ _ _ rows => dstSet N o (.val false [.i .i64 rows.length])
      | _ => .fail
    | _, _ => .fail
  | none => .fail
theorem inK_len {n : Nat} (h : n ≤ maxLen) : inK .i64 n := by
  simp only [maxLen] at h
  have h1 : IntKind.i64.min = -9223372036854775808 := by decide
  have h2 : IntKind.i64.max = 9223372036854775807 := by decide
  exact ⟨by rw [h1]; omega, by rw [h2]; omega⟩
theorem len_ok (hT : TabOk P T) {o : Oper} {t : TypeId} {x : Operand} (ho : o.op = .call { callee := .builtin .len, args := #[x], argTypes := #[t] }) : OpOk P T W N o (stepLen T N o t x) := by
  intro E Q K Qx h hw hK
  unfold stepLen at hw
  split at hw
  · rename_i ty hty
    split at hw
    · rename_i hag hcts
      obtain ⟨c, hc, hu⟩ := (hT t ty hty).one hag
      rw [hcts] at hc
      obtain rfl : CT.s = c := by simpa using hc
      obtain ⟨sx, h1, _f1, h3⟩ := rdv_sound h hw (.slot N)
      split at h3
      · obtain ⟨ea, el⟩ := h1.str
        exact sound_value h (by simp [execOp, ho, ea, resolve, invoke, builtin, Builtin.len_, run_underlying hu, goInt]) (mkInt E _ _ _ (inK_len el)) h3 hK
      · exact h3.elim
    · rename_i e hag hcts
      obtain ⟨c, hc, hu⟩ := (hT t ty hty).one hag
      rw [hcts] at hc
      obtain rfl : CT.l e = c := by simpa using hc
      obtain ⟨sx, h1, _f1, h3⟩ := rdv_sound h hw (.slot N)
      split at h3
      · obtain ⟨A, cap, s1, s2, s3⟩ := slice_len h1.cell1
        exact sound_value h (by simp [execOp, ho, s1, resolve, invoke, builtin, Builtin.len_, run_underlying hu, goInt]) (mkInt E _ _ _ (inK_len (Nat.le_trans s2 s3))) h3 hK
      · obtain ⟨ag, cs, own, e, rows, g1, g2, g3, g4, g5⟩ := look_sound h h3 h1.cell1
        obtain ⟨A, cap, s1, s2, s3⟩ := slice_len g4
        exact sound_value h (by simp [execOp, ho, s1, resolve, invoke, builtin, Builtin.len_, run_underlying hu, goInt]) (mkInt E _ _ _ (inK_len (Nat.le_trans s2 s3))) g5 hK
      · exact h3.elim
    · exact hw.elim
  · exact hw.elim
def stepConv (T : Tab) (N : Nat) (o : Oper) (src dst : TypeId) (x : Operand) : Pg :=
  match T src, T dst with
  | some ts, some td => match ts.agg, ts.cts, td.agg, td.cts with
    | false, [.i _], false, [.i k] => rdv x fun sv => match sv with
      | .val false [.i _ n] => dstSet N o (.val false [.i k (k.wrap n)])
      | _ => .fail
    | _, _, _, _ => .fail
  | _, _ => .fail
theorem conv_ok (hT : TabOk P T) {o : Oper} {src dst : TypeId} {x : Operand} (ho : o.op = .convert src dst x) : OpOk P T W N o (stepConv T N o src dst x) := by
  intro E Q K Qx h hw hK
  unfold stepConv at hw
  split at hw
  · rename_i ts td hts htd
    split at hw
    · rename_i k0 k a1 a2 a3 a4
      obtain ⟨c, hc, hu⟩ := (hT src ts hts).one a1
      rw [a2] at hc
      obtain rfl : CT.i k0 = c := by simpa using hc
      obtain ⟨c', hc', hu'⟩ := (hT dst td htd).one a3
      rw [a4] at hc'
      obtain rfl : CT.i k = c' := by simpa using hc'
      obtain ⟨sx, h1, _f1, h3⟩ := rdv_sound h hw (.slot N)
      split at h3
      · exact sound_value h (by simp [execOp, ho, h1.int.1, convert, run_underlying hu, run_underlying hu', Conv.intToInt]) (mkInt E _ _ _ (wrap_inK _ _)) h3 hK
      · exact h3.elim
    · exact hw.elim
  · exact hw.elim
end Go.Proofs.YtaecbmjmcpdgdaaGreat.Ab
namespace Go.Proofs.YtaecbmjmcpdgdaaGreat.Ab
open Go.RowKit
variable {P : Program} {T : Tab} {W : Base} {N : Nat}
def boxed (b : Nat) : Nat → List CV → St → St
  | _, [], σ => σ
  | p, c :: r, σ => boxed b (p + 1) r (upd σ (.cell b p) (.val false [c]))
def setBox (b : Nat) : Nat → List CV → Pg → Pg
  | _, [], k => k
  | p, c :: r, k => .setF 1 (.cell b p) (.val false [c]) (setBox b (p + 1) r k)
theorem setBox_wp {b : Nat} : ∀ {cs : List CV} {p : Nat} {k : Pg} {Q : St → Prop} {σ : St}, (setBox b p cs k).wp Q σ ↔ k.wp Q (boxed b p cs σ)
  | [], _, _, _, _ => Iff.rfl
  | c :: r, p, k, Q, σ => by
    unfold setBox
    rw [Pg.setF_eq]
    exact setBox_wp (cs := r) (p := p + 1) (k := k) (Q := Q) (σ := upd σ (.cell b p) (.val false [c]))
theorem boxed_out {b : Nat} : ∀ {cs : List CV} {p : Nat} {σ : St} {l : Loc}, (∀ j, j < cs.length → l ≠ .cell b (p + j)) → boxed b p cs σ l = σ l
  | [], _, _, _, _ => rfl
  | c :: r, p, σ, l, h => by
    show boxed b (p + 1) r _ l = _
    rw [boxed_out (fun j hj => by rw [show p + 1 + j = p + (j + 1) by omega]; exact h (j + 1) (by simpa using hj)), upd_other (by simpa using h 0 (by simp))]
theorem boxed_in {b : Nat} : ∀ {cs : List CV} {p : Nat} {σ : St} {j : Nat} {c : CV}, cs[j]? = some c → boxed b p cs σ (.cell b (p + j)) = ((σ (.cell b (p + j))).1 + 1, .val false [c])
  | [], _, _, _, _, h => by simp at h
  | c0 :: r, p, σ, 0, c, h => by
    obtain rfl := Option.some.inj h
    show boxed b (p + 1) r _ _ = _
    rw [boxed_out (fun j hj => by simp; omega)]
    exact upd_same
  | c0 :: r, p, σ, j + 1, c, h => by
    show boxed b (p + 1) r _ _ = _
    rw [show p + (j + 1) = p + 1 + j by omega, boxed_in (by simpa using h), upd_other (by simp; omega)]
def Env.made (E : Env) (N b : Nat) (cs : List CV) (o : Obj) : Env :=
  { x0 := E.x0
    σ := upd (upd (boxed b 0 cs E.σ) (.gen b) (.num cs.length)) (.slot b) (.ptr b ((E.σ (.gen b)).1 + 1) 0)
    a := E.a.put (some b) (.pointer (some ⟨E.w.heap.size, 0, none⟩))
    w := E.w.alloc o
    β := fun t => if t = b then E.w.heap.size else E.β t
    bk := fun l j => match l with
      | .cell t i => if t = b then (if j = 0 ∧ i < cs.length then E.bk (.slot N) i else noB) else E.bk l j
      | .slot t => if t = b ∨ t = N then noB else E.bk l j
      | .gen _ => E.bk l j }
section made
variable {E : Env} {b : Nat} {cs : List CV} {o : Obj}
theorem made_σ : (E.made N b cs o).σ = upd (upd (boxed b 0 cs E.σ) (.gen b) (.num cs.length)) (.slot b) (.ptr b ((E.σ (.gen b)).1 + 1) 0) := rfl
theorem made_gen {t : Nat} : ((E.made N b cs o).σ (.gen t)) = if t = b then ((E.σ (.gen b)).1 + 1, .num cs.length) else E.σ (.gen t) := by
  rw [made_σ, upd_other (by simp)]
  by_cases h : t = b
  · subst h
    rw [if_pos rfl, upd_same, boxed_out (fun j _ => by simp)]
  · rw [if_neg h, upd_other (by simpa using h), boxed_out (fun j _ => by simp)]
theorem made_slot {t : Nat} (h : t ≠ b) : (E.made N b cs o).σ (.slot t) = E.σ (.slot t) := by
  rw [made_σ, upd_other (by simpa using h), upd_other (by simp), boxed_out (fun j _ => by simp)]
theorem made_slot_b : ((E.made N b cs o).σ (.slot b)).2 = .ptr b ((E.σ (.gen b)).1 + 1) 0 := by
  rw [made_σ, upd_same]
theorem made_slot_ver : ((E.made N b cs o).σ (.slot b)).1 = (E.σ (.slot b)).1 + 1 := by
  rw [made_σ, upd_same, upd_other (by simp), boxed_out (fun j _ => by simp)]
theorem made_cell_in {j : Nat} {c : CV} (h : cs[j]? = some c) : (E.made N b cs o).σ (.cell b j) = ((E.σ (.cell b j)).1 + 1, .val false [c]) := by
  rw [made_σ, upd_other (by simp), upd_other (by simp)]
  have := boxed_in (b := b) (p := 0) (σ := E.σ) h
  rwa [Nat.zero_add] at this
theorem made_cell_out {t j : Nat} (h : t ≠ b ∨ cs.length ≤ j) : (E.made N b cs o).σ (.cell t j) = E.σ (.cell t j) := by
  rw [made_σ, upd_other (by simp), upd_other (by simp), boxed_out (fun i hi => by simp; intro _; omega)]
theorem made_alive {t : Nat} : (E.made N b cs o).alive t ↔ t = b ∨ E.alive t := by
  unfold Env.alive
  rw [made_gen]
  by_cases h : t = b
  · simp [h]
  · simp [h]
theorem made_bk {l : Loc} {j x : Nat} (h : (E.made N b cs o).bk l j x) : (∃ i, l = .cell b i ∧ j = 0 ∧ i < cs.length ∧ E.bk (.slot N) i x) ∨ (E.bk l j x ∧ l ≠ .slot N ∧ l ≠ .slot b ∧ ∀ i, l ≠ .cell b i) := by
  cases l with
  | slot t =>
    simp only [Env.made] at h
    split at h
    · cases h
    · rename_i hne
      exact .inr ⟨h, by simp; omega, by simp; omega, fun i => by simp⟩
  | cell t i =>
    simp only [Env.made] at h
    split at h
    · rename_i ht
      subst ht
      split at h
      · rename_i hc
        exact .inl ⟨i, rfl, hc.1, hc.2, h⟩
      · cases h
    · rename_i ht
      exact .inr ⟨h, by simp, by simp, fun i => by simp [ht]⟩
  | gen t => exact .inr ⟨h, by simp, by simp, fun i => by simp⟩
theorem made_step (h : Rel T W N E) (hold : ∀ m, (E.σ (.gen b)).2 = .num m → m = cs.length) : Step E (E.made N b cs o) := by
  refine ⟨fun q => ?_, fun t hg => ?_, ⟨by simp [Env.made], fun k hk _ => Below.heap_alloc _ _ _ hk⟩, fun x hx hX => ?_⟩
  · cases q with
    | slot t =>
      by_cases e : t = b
      · subst e
        rw [made_slot_ver]
        exact ⟨by omega, fun h => absurd h (by omega)⟩
      · rw [made_slot e]
        refine ⟨Nat.le_refl _, fun _ i => ?_⟩
        show ((E.a.put (some b) _).tmps.getD t undef).cells[i]? = _
        rw [getD_put_ne e]; rfl
    | gen t =>
      rw [made_gen]
      by_cases e : t = b
      · subst e; simp
      · simp only [e, if_false]; exact ⟨Nat.le_refl _, fun _ _ => rfl⟩
    | cell t j =>
      by_cases e : t = b
      · subst e
        by_cases hj : j < cs.length
        · rw [made_cell_in (List.getElem?_eq_getElem hj)]
          exact ⟨by simp, fun h => absurd h (by simp)⟩
        · rw [made_cell_out (.inr (by omega))]
          refine ⟨Nat.le_refl _, fun _ i => ?_⟩
          show (E.made N t cs o).cellAt t j ((E.made N t cs o).σ (.gen t)).2 = E.cellAt t j (E.σ (.gen t)).2
          rw [made_gen, if_pos rfl]
          show (if _ then _ else _) = _
          rw [if_neg hj]
          cases hs : (E.σ (.gen t)).2 with
          | num m =>
            have := hold m hs
            show _ = (if _ then _ else _)
            rw [if_neg (by omega)]
          | _ => rfl
      · rw [made_cell_out (.inl e)]
        refine ⟨Nat.le_refl _, fun _ i => ?_⟩
        refine Env.cellAt_congr (fun m => by rw [made_gen, if_neg e]) (fun m hm => ?_)
        have hb : (E.made N b cs o).β t = E.β t := by simp [Env.made, e]
        rw [hb]
        exact World.cell?_of_block (w := E.w) (Below.heap_alloc _ _ _ (h.bxlo t ⟨m, hm⟩).2)
  · rw [made_gen] at hg
    by_cases e : t = b
    · subst e; simp at hg
    · simp [Env.made, e]
  · rcases hX with hX | ⟨t, ht, rfl⟩ | ⟨l, j, hl⟩
    · exact .inl hX
    · rcases made_alive.1 ht with rfl | ht'
      · simp [Env.made] at hx
      · by_cases e : t = b
        · subst e; simp [Env.made] at hx
        · exact .inr (.inl ⟨t, ht', by simp [Env.made, e]⟩)
    · rcases made_bk hl with ⟨i, _, _, _, h4⟩ | ⟨h1, _⟩
      · exact .inr (.inr ⟨_, i, h4⟩)
      · exact .inr (.inr ⟨l, j, h1⟩)
theorem Rel.made (h : Rel T W N E) (hold : ∀ m, (E.σ (.gen b)).2 = .num m → m = cs.length) (hb : b < N) {us : List Value} {et : TypeId} (hc : CellsR T W E (.slot N) 0 cs us) (ho : o = .cells us.toArray et) : Rel T W N (E.made N b cs o) := by
  have s : Step E (E.made N b cs o) := made_step h hold
  have hnew : (E.w.alloc o).heap[E.w.heap.size]? = some o := heap_alloc_new _ _
  have hWle : W.heap.size ≤ E.w.heap.size := h.base.size
  have hbk0 : ∀ {l j x}, (E.made N b cs o).bk l j x → W.mine x ∧ x < E.w.heap.size := fun hl => by
    rcases made_bk hl with ⟨i, _, _, _, h4⟩ | ⟨h1, _⟩
    · exact h.owlo _ _ _ h4
    · exact h.owlo _ _ _ h1
  refine h.next s (h.base.alloc o) (by rw [← h.defers]; rfl) (by rw [← h.size]; exact size_put) (fun t => ?_) (fun t m j hm hj => ?_) (fun t ha => ?_) (fun t t' ha ha' he => ?_)
    (fun l j x hl => ⟨(hbk0 hl).1, by have := (hbk0 hl).2; simp [Env.made]; omega⟩) (fun l j l' j' x hl hl' => ?_) (fun l j x t hl ha => ?_) rfl (by simp only [Env.made]; rw [if_neg (by omega)])
  · by_cases e : t = b
    · subst e
      right
      have e1 : (E.made N t cs o).a.tmps.getD t undef = .pointer (some ⟨E.w.heap.size, 0, none⟩) := getD_put_same (by rw [h.size]; exact hb)
      rw [e1, made_slot_b]
      refine ⟨by rw [made_gen, if_pos rfl]; exact Nat.le_refl _, fun _ => by simp [Env.made]⟩
    · by_cases eN : t = N
      · subst eN
        right
        have e1 : (E.made t b cs o).a.tmps.getD t undef = E.a.tmps.getD t undef := getD_put_ne e
        rw [e1, made_slot e]
        exact (h.slot t).step s (fun j ho => (h.ghostA ho).elim)
      · left
        refine ⟨by rw [made_slot e], getD_put_ne e, fun j => ⟨by simp [Env.made, e, eN], fun x hx => Below.heap_alloc _ _ _ (h.owlo _ _ _ hx).2⟩⟩
  · by_cases e : t = b
    · subst e
      right
      rw [made_gen, if_pos rfl] at hm
      obtain rfl : cs.length = m := by simpa using hm
      have hju : j < us.length := hc.1 ▸ hj
      have hβ : (E.made N t cs o).β t = E.w.heap.size := by simp [Env.made]
      have hcell : (E.made N t cs o).w.cell? ⟨E.w.heap.size, j, none⟩ = some us[j] := by
        show (E.w.alloc o).cell? _ = _
        rw [cell_of_row _ _ _ us.toArray et (0, 0) (by rw [hnew, ho])]
        simp [hju]
      have hfro : (E.made N t cs o).w.frozen? ⟨E.w.heap.size, j, none⟩ = false := by
        show (E.w.alloc o).frozen? _ = _
        unfold World.frozen?
        rw [hnew, ho]
        simp
      refine ⟨cs[j], us[j], by rw [made_cell_in (List.getElem?_eq_getElem hj)], by rw [hβ]; exact hcell, by rw [hβ]; exact hfro, ?_⟩
      have := hc.2 j cs[j] us[j] (List.getElem?_eq_getElem hj) (List.getElem?_eq_getElem hju)
      rw [Nat.zero_add] at this
      cases hcj : cs[j] with
      | sl own e rows =>
        cases own with
        | true =>
          rw [hcj] at this
          refine OwnF.move this s.keep s.less ?_ (fun x hx => Below.heap_alloc _ _ _ (h.owlo _ _ _ hx).2)
          simp [Env.made, hj]
        | false => rw [hcj] at this; exact RelCV.step (l := .slot N) (j := j) (c := .sl false e rows) this s (fun _ _ he => by cases he)
      | i k n => rw [hcj] at this; exact this
      | b x => rw [hcj] at this; exact this
      | s x => rw [hcj] at this; exact this
      | al q i n => rw [hcj] at this; exact RelCV.step (l := .slot N) (j := j) (c := .al q i n) this s (fun _ _ he => by cases he)
      | dead => trivial
    · left
      rw [made_gen, if_neg e] at hm
      have ha : E.alive t := ⟨m, hm⟩
      have hβ : (E.made N b cs o).β t = E.β t := by simp [Env.made, e]
      have hheap : (E.made N b cs o).w.heap[E.β t]? = E.w.heap[E.β t]? := Below.heap_alloc _ _ _ (h.bxlo t ha).2
      refine ⟨hm, by rw [made_cell_out (.inl e)], by rw [hβ]; exact World.cell?_of_block (w := E.w) hheap, by rw [hβ]; exact World.frozen?_of_block (w := E.w) hheap, by simp [Env.made, e], fun x hx => Below.heap_alloc _ _ _ (h.owlo _ _ _ hx).2⟩
  · by_cases e : t = b
    · subst e
      simp only [Env.made, if_true, World.size_alloc]
      exact ⟨.inl hWle, by omega⟩
    · have ha' : E.alive t := (made_alive.1 ha).resolve_left e
      have := h.bxlo t ha'
      simp only [Env.made, e, if_false, World.size_alloc]
      exact ⟨this.1, by omega⟩
  · by_cases e : t = b
    · by_cases e' : t' = b
      · rw [e, e']
      · have := (h.bxlo t' ((made_alive.1 ha').resolve_left e')).2
        simp only [Env.made, e, e', if_true, if_false] at he
        omega
    · by_cases e' : t' = b
      · have := (h.bxlo t ((made_alive.1 ha).resolve_left e)).2
        simp only [Env.made, e, e', if_true, if_false] at he
        omega
      · simp only [Env.made, e, e', if_false] at he
        exact h.bxinj t t' ((made_alive.1 ha).resolve_left e) ((made_alive.1 ha').resolve_left e') he
  · rcases made_bk hl with ⟨i, rfl, rfl, h3, h4⟩ | ⟨h1, n1, n2, n3⟩
    · rcases made_bk hl' with ⟨i', rfl, rfl, h3', h4'⟩ | ⟨h1', n1', n2', n3'⟩
      · obtain ⟨_, rfl⟩ := h.owinj _ _ _ _ _ h4 h4'
        exact ⟨rfl, rfl⟩
      · exact absurd (h.owinj _ _ _ _ _ h4 h1').1.symm n1'
    · rcases made_bk hl' with ⟨i', rfl, rfl, h3', h4'⟩ | ⟨h1', n1', n2', n3'⟩
      · exact absurd (h.owinj _ _ _ _ _ h1 h4').1 n1
      · exact h.owinj _ _ _ _ _ h1 h1'
  · have hx := (hbk0 hl).2
    by_cases e : t = b
    · subst e; simp only [Env.made, if_true]; omega
    · have ha' : E.alive t := (made_alive.1 ha).resolve_left e
      have hβ : (E.made N b cs o).β t = E.β t := by simp [Env.made, e]
      rw [hβ]
      rcases made_bk hl with ⟨i, _, _, _, h4⟩ | ⟨h1, _⟩
      · exact h.owbx _ _ _ _ h4 ha'
      · exact h.owbx _ _ _ _ h1 ha'
end made
end Go.Proofs.YtaecbmjmcpdgdaaGreat.Ab
namespace Go.Proofs.YtaecbmjmcpdgdaaGreat.Ab
open Go.RowKit
variable {P : Program} {T : Tab} {W : Base} {N : Nat}
theorem setCells_frame (b : Nat) : ∀ (vs : List Value) (o : Nat) (w : World), (w.setCells b o vs).os = w.os ∧ (w.setCells b o vs).tape = w.tape ∧ (w.setCells b o vs).output = w.output ∧ (w.setCells b o vs).heap.size = w.heap.size ∧ ∀ k, k ≠ b → (w.setCells b o vs).heap[k]? = w.heap[k]?
  | [], o, w => ⟨rfl, rfl, rfl, rfl, fun _ _ => rfl⟩
  | v :: r, o, w => by
    obtain ⟨a1, a2, a3, a4, a5⟩ := setCells_frame b r (o + 1) (w.setCell ⟨b, o, none⟩ v)
    refine ⟨a1, a2, a3, a4.trans (by simp [World.setCell]), fun k hk => (a5 k hk).trans (Below.heap_setCell _ _ _ _ hk)⟩
def Env.stored (E : Env) (N b p : Nat) (cs : List CV) (us : List Value) : Env :=
  { E with
    σ := boxed b p cs E.σ
    w := E.w.setCells (E.β b) p us
    bk := fun l j => match l with
      | .cell t i => if t = b ∧ p ≤ i ∧ i < p + cs.length then (if j = 0 then E.bk (.slot N) (i - p) else noB) else E.bk l j
      | .slot t => if t = N then noB else E.bk l j
      | .gen _ => E.bk l j }
section stored
variable {E : Env} {b p : Nat} {cs : List CV} {us : List Value}
theorem stored_σ : (E.stored N b p cs us).σ = boxed b p cs E.σ := rfl
theorem stored_gen {t : Nat} : (E.stored N b p cs us).σ (.gen t) = E.σ (.gen t) := by rw [stored_σ, boxed_out (fun j _ => by simp)]
theorem stored_slot {t : Nat} : (E.stored N b p cs us).σ (.slot t) = E.σ (.slot t) := by rw [stored_σ, boxed_out (fun j _ => by simp)]
theorem stored_cell_in {j : Nat} {c : CV} (h : cs[j]? = some c) : (E.stored N b p cs us).σ (.cell b (p + j)) = ((E.σ (.cell b (p + j))).1 + 1, .val false [c]) := by rw [stored_σ, boxed_in h]
theorem stored_cell_out {t i : Nat} (h : ¬ (t = b ∧ p ≤ i ∧ i < p + cs.length)) : (E.stored N b p cs us).σ (.cell t i) = E.σ (.cell t i) := by
  rw [stored_σ, boxed_out (fun j hj => by simp; intro h1; subst h1; intro h2; subst h2; exact h ⟨rfl, by omega, by omega⟩)]
theorem stored_alive {t : Nat} : (E.stored N b p cs us).alive t ↔ E.alive t := by unfold Env.alive; rw [stored_gen]
theorem stored_bk {l : Loc} {j x : Nat} (h : (E.stored N b p cs us).bk l j x) : (∃ i, l = .cell b (p + i) ∧ j = 0 ∧ i < cs.length ∧ E.bk (.slot N) i x) ∨ (E.bk l j x ∧ l ≠ .slot N ∧ ∀ i, i < cs.length → l ≠ .cell b (p + i)) := by
  cases l with
  | slot t =>
    simp only [Env.stored] at h
    split at h
    · cases h
    · rename_i hne
      exact .inr ⟨h, by simpa using hne, fun i _ => by simp⟩
  | cell t i =>
    simp only [Env.stored] at h
    split at h
    · rename_i ht
      obtain ⟨rfl, h1, h2⟩ := ht
      split at h
      · rename_i hj
        exact .inl ⟨i - p, by rw [show p + (i - p) = i by omega], hj, by omega, h⟩
      · cases h
    · rename_i ht
      exact .inr ⟨h, by simp, fun i' hi' e => by simp only [Loc.cell.injEq] at e; exact ht ⟨e.1, by omega, by omega⟩⟩
  | gen t => exact .inr ⟨h, by simp, fun i _ => by simp⟩
theorem Rel.stored (h : Rel T W N E) {m : Nat} (hm : (E.σ (.gen b)).2 = .num m) (hp : p + cs.length ≤ m) (hc : CellsR T W E (.slot N) 0 cs us) : Rel T W N (E.stored N b p cs us) := by
  obtain ⟨f1, f2, f3, f4, f5⟩ := setCells_frame (E.β b) us p E.w
  have hab : E.alive b := ⟨m, hm⟩
  have hsz : (E.stored N b p cs us).w.heap.size = E.w.heap.size := f4
  have hX : ∀ x, x < E.w.heap.size → (E.stored N b p cs us).X x → E.X x := fun x _ hx => by
    rcases hx with hx | ⟨t, ht, rfl⟩ | ⟨l, j, hl⟩
    · exact .inl hx
    · exact .inr (.inl ⟨t, stored_alive.1 ht, rfl⟩)
    · rcases stored_bk hl with ⟨i, _, _, _, h4⟩ | ⟨h1, _⟩
      · exact .inr (.inr ⟨_, _, h4⟩)
      · exact .inr (.inr ⟨_, _, h1⟩)
  have hback : ∀ {l j x}, (E.stored N b p cs us).bk l j x → ∃ l0 j0, E.bk l0 j0 x := fun hl => by
    rcases stored_bk hl with ⟨i, _, _, _, h4⟩ | ⟨h1, _⟩
    · exact ⟨_, _, h4⟩
    · exact ⟨_, _, h1⟩
  have hcellout : ∀ t i, E.alive t → ¬ (t = b ∧ p ≤ i ∧ i < p + cs.length) → (E.stored N b p cs us).w.cell? ⟨E.β t, i, none⟩ = E.w.cell? ⟨E.β t, i, none⟩ := fun t i ha hn => by
    refine World.cell?_setCells_out (E.β b) us p E.w _ (fun hb _ => ?_)
    have : t = b := h.bxinj t b ha hab hb
    have := hc.1
    simp only
    omega
  have s : Step E (E.stored N b p cs us) := by
    refine ⟨fun q => ?_, fun t _ => rfl, ⟨by rw [hsz]; exact Nat.le_refl _, fun x hx hn => f5 x (fun e => hn (.inr (.inl ⟨b, hab, e⟩)))⟩, hX⟩
    cases q with
    | slot t => rw [stored_slot]; exact ⟨Nat.le_refl _, fun _ _ => rfl⟩
    | gen t => rw [stored_gen]; exact ⟨Nat.le_refl _, fun _ _ => rfl⟩
    | cell t i =>
      by_cases hin : t = b ∧ p ≤ i ∧ i < p + cs.length
      · obtain ⟨rfl, h1, h2⟩ := hin
        have := stored_cell_in (N := N) (E := E) (b := t) (p := p) (us := us) (List.getElem?_eq_getElem (show i - p < cs.length by omega))
        rw [show p + (i - p) = i by omega] at this
        rw [this]
        exact ⟨by simp, fun h => absurd h (by simp)⟩
      · rw [stored_cell_out hin]
        refine ⟨Nat.le_refl _, fun _ i' => ?_⟩
        exact Env.cellAt_congr (fun m => by rw [stored_gen]) (fun m' hm' => hcellout t i ⟨m', hm'⟩ hin)
  have hblk : ∀ l j x, E.bk l j x → (E.stored N b p cs us).w.heap[x]? = E.w.heap[x]? := fun l j x hx => f5 x (h.owbx l j x b hx hab)
  refine h.next s ?_ h.defers h.size (fun t => ?_) (fun t m' j hm' hj => ?_) (fun t ha => by rw [hsz]; exact h.bxlo t (stored_alive.1 ha)) (fun t t' ha ha' he => h.bxinj t t' (stored_alive.1 ha) (stored_alive.1 ha') he) (fun l j x hl => ?_) (fun l j l' j' x hl hl' => ?_) (fun l j x t hl ha => ?_)
  · exact h.base.next f1 f2 f3 (by rw [hsz]; exact Nat.le_refl _) (fun k hk hn => f5 k (fun e => hn (e ▸ (h.bxlo b hab).1)))
  · by_cases eN : t = N
    · subst eN
      right
      rw [stored_slot]
      exact (h.slot t).step s (fun j ho => (h.ghostA ho).elim)
    · left
      exact ⟨by rw [stored_slot], rfl, fun j => ⟨by simp [Env.stored, eN], fun x hx => hblk _ _ x hx⟩⟩
  · rw [stored_gen] at hm'
    by_cases hin : t = b ∧ p ≤ j ∧ j < p + cs.length
    · right
      obtain ⟨rfl, h1, h2⟩ := hin
      have hjc : j - p < cs.length := by omega
      have hju : j - p < us.length := hc.1 ▸ hjc
      have hcell : (E.w.setCells (E.β t) p us).cell? ⟨E.β t, p + (j - p), none⟩ = some us[j - p] :=
        World.cell?_setCells_in (E.β t) us p E.w (fun i hi => by
          obtain ⟨c, v, _, e2, _⟩ := h.cell t m (p + i) hm (by have := hc.1; omega)
          rw [e2]; rfl) (j - p) hju
      have hfr : (E.w.setCells (E.β t) p us).frozen? ⟨E.β t, j, none⟩ = false := by
        rw [World.frozen?_setCells]
        obtain ⟨c, v, _, _, e3, _⟩ := h.cell t m' j hm' hj
        exact e3
      rw [show p + (j - p) = j by omega] at hcell
      have hσ := stored_cell_in (N := N) (E := E) (b := t) (p := p) (us := us) (List.getElem?_eq_getElem hjc)
      rw [show p + (j - p) = j by omega] at hσ
      refine ⟨cs[j - p], us[j - p], by rw [hσ], hcell, hfr, ?_⟩
      have := hc.2 (j - p) cs[j - p] us[j - p] (List.getElem?_eq_getElem hjc) (List.getElem?_eq_getElem hju)
      rw [Nat.zero_add] at this
      cases hcj : cs[j - p] with
      | sl own e rows =>
        cases own with
        | true =>
          rw [hcj] at this
          refine OwnF.move this s.keep s.less ?_ (fun x hx => hblk _ _ x hx)
          simp [Env.stored, h1, h2]
        | false => rw [hcj] at this; exact RelCV.step (l := .slot N) (j := j - p) (c := .sl false e rows) this s (fun _ _ he => by cases he)
      | i k n => rw [hcj] at this; exact this
      | b x => rw [hcj] at this; exact this
      | s x => rw [hcj] at this; exact this
      | al q i n => rw [hcj] at this; exact RelCV.step (l := .slot N) (j := j - p) (c := .al q i n) this s (fun _ _ he => by cases he)
      | dead => trivial
    · left
      refine ⟨hm', by rw [stored_cell_out hin], hcellout t j ⟨m', hm'⟩ hin, World.frozen?_setCells _ _ _ _ _, ?_, fun x hx => hblk _ _ x hx⟩
      simp only [Env.stored]
      rw [if_neg hin]
  · obtain ⟨l0, j0, h0⟩ := hback hl
    rw [hsz]; exact h.owlo _ _ _ h0
  · rcases stored_bk hl with ⟨i, rfl, rfl, h3, h4⟩ | ⟨h1, n1, n2⟩
    · rcases stored_bk hl' with ⟨i', rfl, rfl, h3', h4'⟩ | ⟨h1', n1', n2'⟩
      · obtain ⟨_, rfl⟩ := h.owinj _ _ _ _ _ h4 h4'
        exact ⟨rfl, rfl⟩
      · exact absurd (h.owinj _ _ _ _ _ h4 h1').1.symm n1'
    · rcases stored_bk hl' with ⟨i', rfl, rfl, h3', h4'⟩ | ⟨h1', n1', n2'⟩
      · exact absurd (h.owinj _ _ _ _ _ h1 h4').1 n1
      · exact h.owinj _ _ _ _ _ h1 h1'
  · obtain ⟨l0, j0, h0⟩ := hback hl
    exact h.owbx _ _ _ _ h0 (stored_alive.1 ha)
end stored
def Env.grown (E : Env) (N d : Nat) (v : Value) (sv : SV) (w' : World) (F : Nat → Prop) : Env :=
  { E with σ := upd E.σ (.slot d) sv, a := E.a.put (some d) v, w := w', bk := fun l j => if l = .slot d then (if j = 0 then F else noB) else if l = .slot N then noB else E.bk l j }
theorem Rel.grown {E : Env} (h : Rel T W N E) {d : Nat} {v : Value} {e : TypeId} {rows : List (List D)} {w' : World} {F : Nat → Prop} {row : Option Nat} (hd : d < N) (hg : E.w.grownBy w' row) (hrow : ∀ x, row = some x → ∃ j, E.bk (.slot N) j x)
    (hblk : ∀ x, F x → ((∃ j, E.bk (.slot N) j x) ∨ E.w.heap.size ≤ x) ∧ x < w'.heap.size)
    (hown : Step E (E.grown N d v (.val false [.sl true e rows]) w' F) → OwnF T w' (E.grown N d v (.val false [.sl true e rows]) w' F).X F e v rows) :
    Rel T W N (E.grown N d v (.val false [.sl true e rows]) w' F) := by
  generalize hE : E.grown N d v (.val false [.sl true e rows]) w' F = E' at *
  have hσ : E'.σ = upd E.σ (.slot d) (.val false [.sl true e rows]) := by rw [← hE]; rfl
  have hw : E'.w = w' := by rw [← hE]; rfl
  have ha : E'.a = E.a.put (some d) v := by rw [← hE]; rfl
  have hβ : E'.β = E.β := by rw [← hE]; rfl
  have hx0 : E'.x0 = E.x0 := by rw [← hE]; rfl
  have hbk : E'.bk = fun l j => if l = .slot d then (if j = 0 then F else noB) else if l = .slot N then noB else E.bk l j := by rw [← hE]; rfl
  have hdN : (Loc.slot N) ≠ (Loc.slot d) := by simp; omega
  have hal : ∀ {t}, E'.alive t ↔ E.alive t := fun {t} => by
    unfold Env.alive; rw [hσ, upd_other (show Loc.gen t ≠ Loc.slot d by simp)]
  have bkc : ∀ {l j x}, E'.bk l j x → (l = .slot d ∧ j = 0 ∧ F x) ∨ (l ≠ .slot d ∧ l ≠ .slot N ∧ E.bk l j x) := fun {l j x} hl => by
    rw [hbk] at hl
    have hl : (if l = .slot d then (if j = 0 then F else noB) else if l = .slot N then noB else E.bk l j) x := hl
    split at hl
    · rename_i h1
      split at hl
      · rename_i h2; exact .inl ⟨h1, h2, hl⟩
      · cases hl
    · rename_i h1
      split at hl
      · cases hl
      · rename_i h2; exact .inr ⟨h1, h2, hl⟩
  have heap : ∀ x, x < E.w.heap.size → (∀ j, ¬ E.bk (.slot N) j x) → w'.heap[x]? = E.w.heap[x]? := fun x hx hn => hg.block x hx (fun e => by obtain ⟨j, hj⟩ := hrow x e.symm; exact hn j hj)
  have hgb : ∀ j x, E.bk (.slot N) j x → E.X x := fun j x hx => .inr (.inr ⟨_, _, hx⟩)
  have s : Step E E' := by
    refine ⟨fun q => ?_, fun t _ => by rw [hβ], ⟨by rw [hw]; exact hg.size, fun x hx hn => by rw [hw]; exact heap x hx (fun j e => hn (hgb j x e))⟩, fun x hx hX => ?_⟩
    · by_cases e : q = .slot d
      · subst e
        rw [hσ, upd_same]
        exact ⟨by simp, fun h => absurd h (by simp)⟩
      · rw [hσ, upd_other e]
        refine ⟨Nat.le_refl _, fun _ i => ?_⟩
        cases q with
        | slot t =>
          have : t ≠ d := fun h => e (by rw [h])
          show (E'.a.tmps.getD t undef).cells[i]? = _
          rw [ha, getD_put_ne this]; rfl
        | cell t j =>
          refine Env.cellAt_congr (fun m => by rw [hσ, upd_other (by simp)]) (fun m hm => ?_)
          rw [hβ, hw]
          have hat : E.alive t := ⟨m, hm⟩
          exact World.cell?_of_block (w := E.w) (heap _ (h.bxlo t hat).2 (fun j hx => h.owbx _ _ _ t hx hat rfl))
        | gen t => rfl
    · rcases hX with hX | ⟨t, ht, rfl⟩ | ⟨l, j, hl⟩
      · rw [hx0] at hX; exact .inl hX
      · exact .inr (.inl ⟨t, hal.1 ht, by rw [hβ]⟩)
      · rcases bkc hl with ⟨_, _, h3⟩ | ⟨_, _, h3⟩
        · rcases (hblk x h3).1 with ⟨j', h4⟩ | h4
          · exact hgb j' x h4
          · omega
        · exact .inr (.inr ⟨l, j, h3⟩)
  have hkeep : ∀ l j x, l ≠ .slot N → E.bk l j x → E'.w.heap[x]? = E.w.heap[x]? := fun l j x hl hx => by
    rw [hw]; exact heap x (h.owlo _ _ _ hx).2 (fun j' e => hl (h.owinj _ _ _ _ _ hx e).1)
  have hlow : ∀ {l j x}, E'.bk l j x → W.mine x ∧ x < w'.heap.size := fun {l j x} hl => by
    have hsz := hg.size
    have hWs := h.base.size
    rcases bkc hl with ⟨_, _, h3⟩ | ⟨_, _, h3⟩
    · obtain ⟨a, b⟩ := hblk x h3
      refine ⟨?_, b⟩
      rcases a with ⟨_, a⟩ | a
      · exact (h.owlo _ _ _ a).1
      · exact .inl (by omega)
    · have := h.owlo _ _ _ h3
      exact ⟨this.1, by omega⟩
  refine h.next s ?_ (by rw [ha, ← h.defers]; rfl) (by rw [ha, ← h.size]; exact size_put) (fun t => ?_) (fun t m j hm hj => ?_) (fun t hat => ?_) (fun t t' h1 h2 he => h.bxinj t t' (hal.1 h1) (hal.1 h2) (by rw [hβ] at he; exact he)) (fun l j x hl => by rw [hw]; exact hlow hl) (fun l j l' j' x hl hl' => ?_) (fun l j x t hl hat => ?_) hx0 (by rw [hβ])
  · rw [hw]
    exact h.base.grown hg (fun k hk => by obtain ⟨j, hj⟩ := hrow k hk; exact (h.owlo _ _ _ hj).1)
  · by_cases e : t = d
    · subst e
      right
      rw [ha, getD_put_same (by rw [h.size]; exact hd), hσ, upd_same]
      refine ⟨_, rfl, ?_⟩
      show OwnF T E'.w E'.X (E'.bk (.slot t) 0) e v rows
      have hb0 : E'.bk (.slot t) 0 = F := by rw [hbk]; simp
      rw [hw, hb0]; exact hown s
    · by_cases eN : t = N
      · subst eN
        right
        rw [ha, getD_put_ne e, hσ, upd_other (by simpa using e)]
        exact (h.slot t).step s (fun j ho => (h.ghostA ho).elim)
      · left
        refine ⟨by rw [hσ, upd_other (by simpa using e)], by rw [ha, getD_put_ne e], fun j => ⟨by rw [hbk]; simp [e, eN], fun x hx => hkeep _ _ x (by simpa using eN) hx⟩⟩
  · left
    have hm' : (E.σ (.gen t)).2 = .num m := by rw [← hm, hσ, upd_other (by simp)]
    have hat : E.alive t := ⟨m, hm'⟩
    have hh : E'.w.heap[E.β t]? = E.w.heap[E.β t]? := by rw [hw]; exact heap _ (h.bxlo t hat).2 (fun j hx => h.owbx _ _ _ t hx hat rfl)
    refine ⟨hm', by rw [hσ, upd_other (by simp)], by rw [hβ]; exact World.cell?_of_block (w := E.w) hh, by rw [hβ]; exact World.frozen?_of_block (w := E.w) hh, by rw [hbk]; simp, fun x hx => hkeep _ _ x (by simp) hx⟩
  · have := h.bxlo t (hal.1 hat)
    have hsz := hg.size
    rw [hβ, hw]; exact ⟨this.1, by omega⟩
  · rcases bkc hl with ⟨a1, a2, a3⟩ | ⟨a1, a2, a3⟩
    · rcases bkc hl' with ⟨b1, b2, b3⟩ | ⟨b1, b2, b3⟩
      · exact ⟨a1.trans b1.symm, a2.trans b2.symm⟩
      · rcases (hblk x a3).1 with ⟨j0, h4⟩ | h4
        · exact absurd (h.owinj _ _ _ _ _ h4 b3).1.symm b2
        · have := (h.owlo _ _ _ b3).2; omega
    · rcases bkc hl' with ⟨b1, b2, b3⟩ | ⟨b1, b2, b3⟩
      · rcases (hblk x b3).1 with ⟨j0, h4⟩ | h4
        · exact absurd (h.owinj _ _ _ _ _ h4 a3).1.symm a2
        · have := (h.owlo _ _ _ a3).2; omega
      · exact h.owinj _ _ _ _ _ a3 b3
  · have hat' := hal.1 hat
    rw [hβ]
    rcases bkc hl with ⟨a1, a2, a3⟩ | ⟨a1, a2, a3⟩
    · rcases (hblk x a3).1 with ⟨j0, h4⟩ | h4
      · exact h.owbx _ _ _ t h4 hat'
      · have := (h.bxlo t hat').2; omega
    · exact h.owbx _ _ _ t a3 hat'
end Go.Proofs.YtaecbmjmcpdgdaaGreat.Ab
