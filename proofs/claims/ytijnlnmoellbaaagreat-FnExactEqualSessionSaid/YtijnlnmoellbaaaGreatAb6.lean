/- More operations that leave the world alone: choices, numbers, texts, addresses, loads. No program in sight. -/
import Derived.Test.YtijnlnmoellbaaaGreatAb5
namespace Go.Proofs.YtijnlnmoellbaaaGreat.Ab
open Go.RowKit
variable {P : Program} {T : Tab} {W : Base} {N : Nat}

theorem wrap_inK (k : IntKind) (n : Int) : inK k (k.wrap n) := by
  have hp : ∀ (b : Nat), (0 : Int) < 2 ^ b := fun b => Int.pow_pos (by decide)
  cases k <;> simp only [inK, IntKind.min, IntKind.max, IntKind.wrap, IntKind.signed, IntKind.bits] <;> simp <;> (try split) <;> omega

def stepPick (N : Nat) (o : Oper) (c a b : Operand) : Pg :=
  rdv c fun sv => match sv with
    | .val false [.b x] => .br x (rdv a fun sv => dstSet N o sv) (rdv b fun sv => dstSet N o sv)
    | _ => .fail
theorem RelSV.bool {E : Env} {l : Loc} {v : Value} {x : Bool} (h : RelSV T W E l v (.val false [.b x])) : v = .bool x := by
  obtain ⟨c, e, h⟩ := h
  obtain rfl : c = .b x := by simpa using e.symm
  exact h
theorem RelSV.int {E : Env} {l : Loc} {v : Value} {k : IntKind} {n : Int} (h : RelSV T W E l v (.val false [.i k n])) : v = .int k n ∧ inK k n := by
  obtain ⟨c, e, h⟩ := h
  obtain rfl : c = .i k n := by simpa using e.symm
  exact h
theorem RelSV.str {E : Env} {l : Loc} {v : Value} {x : ByteArray} (h : RelSV T W E l v (.val false [.s x])) : v = .string x ∧ x.size ≤ maxLen := by
  obtain ⟨c, e, h⟩ := h
  obtain rfl : c = .s x := by simpa using e.symm
  exact h
theorem RelSV.cell1 {E : Env} {l : Loc} {v : Value} {c : CV} (h : RelSV T W E l v (.val false [c])) : RelCV T W E l 0 v c := by
  obtain ⟨c', e, h⟩ := h
  obtain rfl : c' = c := by simpa using e.symm
  exact h
theorem mkInt (E : Env) (l : Loc) (k : IntKind) (n : Int) (h : inK k n) : RelSV T W E l (.int k n) (.val false [.i k n]) := ⟨_, rfl, rfl, h⟩
theorem mkBool (E : Env) (l : Loc) (x : Bool) : RelSV T W E l (.bool x) (.val false [.b x]) := ⟨_, rfl, rfl⟩
theorem mkStr (E : Env) (l : Loc) (x : ByteArray) (h : x.size ≤ maxLen) : RelSV T W E l (.string x) (.val false [.s x]) := ⟨_, rfl, rfl, h⟩
theorem pick_ok {o : Oper} {c a b : Operand} (ho : o.op = .pick c a b) : OpOk P T W N o (stepPick N o c a b) := by
  intro E Q K Qx h hw hK
  obtain ⟨sv, h1, _f1, h3⟩ := rdv_sound h hw (.slot N)
  split at h3
  · rename_i x
    have hb := h1.bool
    cases x with
    | true =>
      obtain ⟨sv, a1, _f2, a3⟩ := rdv_sound h (h3.1 rfl) (.slot N)
      exact sound_value h (by simp [execOp, ho, hb, asBool]) a1 a3 hK
    | false =>
      obtain ⟨sv, a1, _f2, a3⟩ := rdv_sound h (h3.2 rfl) (.slot N)
      exact sound_value h (by simp [execOp, ho, hb, asBool]) a1 a3 hK
  · exact h3.elim

def stepUn (N : Nat) (o : Oper) (op : UnOp) (x : Operand) : Pg :=
  rdv x fun sv => match op, sv with
    | .not, .val false [.b x] => dstSet N o (.val false [.b (!x)])
    | .neg, .val false [.i k n] => dstSet N o (.val false [.i k (k.wrap (0 - n))])
    | _, _ => .fail
theorem un_ok {o : Oper} {op : UnOp} {t : TypeId} {x : Operand} (ho : o.op = .unOp op t x) : OpOk P T W N o (stepUn N o op x) := by
  intro E Q K Qx h hw hK
  obtain ⟨sv, h1, _f1, h3⟩ := rdv_sound h hw (.slot N)
  split at h3
  · exact sound_value h (by simp [execOp, ho, h1.bool, Op.unary]) (mkBool E _ _) h3 hK
  · exact sound_value h (by simp [execOp, ho, h1.int.1, Op.unary, Op.intArith]) (mkInt E _ _ _ (wrap_inK _ _)) h3 hK
  · exact h3.elim

/-- The result of a comparison of numbers. -/
def cmpI : BinOp → Int → Int → Option Bool
  | .eql, a, b => some (a == b)
  | .neq, a, b => some (a != b)
  | .lss, a, b => some (decide (a < b))
  | .leq, a, b => some (decide (a ≤ b))
  | .gtr, a, b => some (decide (a > b))
  | .geq, a, b => some (decide (a ≥ b))
  | _, _, _ => none
def cmpS : BinOp → ByteArray → ByteArray → Option Bool
  | .eql, a, b => some (a.toList == b.toList)
  | .neq, a, b => some (!(a.toList == b.toList))
  | .lss, a, b => some (Op.bytesLess a.toList b.toList)
  | .leq, a, b => some (Op.bytesLess a.toList b.toList || a.toList == b.toList)
  | .gtr, a, b => some (!(Op.bytesLess a.toList b.toList || a.toList == b.toList))
  | .geq, a, b => some (!Op.bytesLess a.toList b.toList)
  | _, _, _ => none
def stepBin (N : Nat) (o : Oper) (op : BinOp) (x y : Operand) : Pg :=
  rdv x fun sx => rdv y fun sy => match sx, sy with
    | .val false [.i k a], .val false [.i k' b] =>
      if k = k' then match op with
        | .add => dstSet N o (.val false [.i k (k.wrap (a + b))])
        | .sub => dstSet N o (.val false [.i k (k.wrap (a - b))])
        | .mul => dstSet N o (.val false [.i k (k.wrap (a * b))])
        | .quo => .chk (b ≠ 0) (dstSet N o (.val false [.i k (k.wrap (a.tdiv b))]))
        | .rem => .chk (b ≠ 0 ∧ inK k (a.tmod b)) (dstSet N o (.val false [.i k (a.tmod b)]))
        | op => match cmpI op a b with
          | some r => dstSet N o (.val false [.b r])
          | none => .fail
      else .fail
    | .val false [.s a], .val false [.s b] => match op with
      | .add => .chk (a.size + b.size ≤ maxLen) (dstSet N o (.val false [.s (a ++ b)]))
      | op => match cmpS op a b with
        | some r => dstSet N o (.val false [.b r])
        | none => .fail
    | _, _ => .fail
theorem bin_ok {o : Oper} {op : BinOp} {t t' : TypeId} {x y : Operand} (ho : o.op = .binOp op t x y t') : OpOk P T W N o (stepBin N o op x y) := by
  intro E Q K Qx h hw hK
  obtain ⟨sx, h1, _f1, h3⟩ := rdv_sound h hw (.slot N)
  obtain ⟨sy, h4, _f4, h6⟩ := rdv_sound h h3 (.slot N)
  split at h6
  · rename_i k a k' b
    obtain ⟨ea, ia⟩ := h1.int
    obtain ⟨eb, ib⟩ := h4.int
    split at h6
    · rename_i hk
      subst hk
      have hg : ∀ op, (eqGuard op t x y (.int k a) (.int k b)).run P E.w = .ok () E.w := by intro op; cases op <;> simp [eqGuard]
      split at h6
      · exact sound_value h (by simp [execOp, ho, ea, eb, binOp, Op.intArith, hg]) (mkInt E _ _ _ (wrap_inK _ _)) h6 hK
      · exact sound_value h (by simp [execOp, ho, ea, eb, binOp, Op.intArith, hg]) (mkInt E _ _ _ (wrap_inK _ _)) h6 hK
      · exact sound_value h (by simp [execOp, ho, ea, eb, binOp, Op.intArith, hg]) (mkInt E _ _ _ (wrap_inK _ _)) h6 hK
      · exact sound_value h (by simp [execOp, ho, ea, eb, binOp, Op.intDiv, hg, h6.1]) (mkInt E _ _ _ (wrap_inK _ _)) h6.2 hK
      · exact sound_value h (by simp [execOp, ho, ea, eb, binOp, Op.intDiv, hg, h6.1.1]) (mkInt E _ _ _ h6.1.2) h6.2 hK
      · split at h6
        · rename_i r hr
          refine sound_value h (v := .bool r) ?_ (mkBool E _ _) h6 hK
          cases op <;> simp only [cmpI, Option.some.injEq, reduceCtorEq] at hr <;> (subst hr; simp [execOp, ho, ea, eb, binOp, Op.intCmp, hg])
        · exact h6.elim
    · exact h6.elim
  · rename_i a b
    obtain ⟨ea, ia⟩ := h1.str
    obtain ⟨eb, ib⟩ := h4.str
    have hg : ∀ op, (eqGuard op t x y (.string a) (.string b)).run P E.w = .ok () E.w := by intro op; cases op <;> simp [eqGuard]
    split at h6
    · have hs : (a ++ b).size ≤ maxLen := by have := h6.1; simpa using this
      have hlim : ¬ (IntKind.i64.max < ((a.size + b.size : Nat) : Int)) := by
        have := h6.1
        simp only [maxLen] at this
        have hm : IntKind.i64.max = 9223372036854775807 := by decide
        rw [hm]; omega
      refine sound_value h (v := .string (a ++ b)) ?_ (mkStr E _ _ hs) h6.2 hK
      simp only [execOp, ho, ea, eb, Sem.run_bind, hg, Result.andThen_ok, binOp, Op.stringOp]
      rw [if_neg (by simpa using hlim)]
      rfl
    · split at h6
      · rename_i r hr
        refine sound_value h (v := .bool r) ?_ (mkBool E _ _) h6 hK
        cases op <;> simp only [cmpS, Option.some.injEq, reduceCtorEq] at hr <;> (subst hr; simp [execOp, ho, ea, eb, binOp, Op.stringOp, hg])
      · exact h6.elim
  · exact h6.elim

def stepExtract (N : Nat) (o : Oper) (x : Operand) (i : Nat) : Pg :=
  rdv x fun sv => match sv with
    | .tup vs => match vs[i]? with
      | some (ag, cs) => dstSet N o (.val ag cs)
      | none => .fail
    | _ => .fail
theorem extract_ok {o : Oper} {x : Operand} {i : Nat} (ho : o.op = .extract x i) : OpOk P T W N o (stepExtract N o x i) := by
  intro E Q K Qx h hw hK
  obtain ⟨sv, h1, _f1, h3⟩ := rdv_sound h hw (.slot N)
  split at h3
  · split at h3
    · rename_i vs ag cs hi
      obtain ⟨arr, e1, e2, e3⟩ := h1
      obtain ⟨u, hu, hr⟩ := e3 i _ hi
      refine sound_value h (v := u) (by simp [execOp, ho, e1, Instr.extract, hu]) ?_ h3 hK
      cases ag with
      | true =>
        obtain ⟨brr, f1, f2, f3⟩ := hr.1 rfl
        refine ⟨brr, f1, f2, fun j c hc => ?_⟩
        obtain ⟨x', hx, hpl, hr'⟩ := f3 j c hc
        exact ⟨x', hx, hr'.any (fun e rows he => by rw [he] at hpl; cases hpl)⟩
      | false =>
        obtain ⟨c, f1, hpl, hr'⟩ := hr.2 rfl
        exact ⟨c, f1, hr'⟩
    · exact h3.elim
  · exact h3.elim

/-! Addresses -/
def stepField (T : Tab) (N : Nat) (o : Oper) (t : TypeId) (x : Operand) (f : Nat) : Pg :=
  match T t with
  | some ty => match ty.agg, ty.offs[f]? with
    | true, some (off, _) => rdv x fun sv => match sv with
      | .ptr b g p => .get (.gen b) fun v => if v.1 = g then dstSet N o (.ptr b g (p + off)) else .fail
      | .rptr cs => dstSet N o (.rptr (cs.drop off))
      | .optr q j n k c p => .get q fun v => if v.1 = n then dstSet N o (.optr q j n k c (p + off)) else .fail
      | _ => .fail
    | _, _ => .fail
  | none => .fail
theorem field_ok (hT : TabOk P T) {o : Oper} {t : TypeId} {x : Operand} {f : Nat} (ho : o.op = .fieldAddr t x f) : OpOk P T W N o (stepField T N o t x f) := by
  intro E Q K Qx h hw hK
  unfold stepField at hw
  split at hw
  · rename_i ty hty
    split at hw
    · rename_i off sz hag hoff
      obtain ⟨sv, h1, _f1, h3⟩ := rdv_sound h hw (.slot N)
      obtain ⟨fs, hu, _, hfs⟩ := (hT t ty hty).str hag
      obtain ⟨fd, hfd, hfo, hsz0, hsz1⟩ := hfs f off sz hoff
      have hsz : P.cellsOf fd.type ≠ 0 := by rw [hsz0]; exact hsz1
      have hplace : ∀ b p, (fieldPlace ⟨b, p, none⟩ fd).run P E.w = .ok ⟨b, p + off, none⟩ E.w := by
        intro b p
        have : (sizeOf fd.type).run P E.w = .ok (P.cellsOf fd.type) E.w := by
          unfold Program.cellsOf at hsz
          cases hi : P.info? fd.type with
          | none => rw [hi] at hsz; exact absurd rfl hsz
          | some i => simp [sizeOf, typeInfo, Program.cellsOf, hi]
        simp only [fieldPlace, Sem.run_bind, this, Result.andThen_ok]
        rw [if_neg hsz, Addr.add_mid, hfo]; rfl
      have hrun : ∀ b p, E.a.eval x = .pointer (some ⟨b, p, none⟩) → (execOp E.a.eval o).run P E.w = .ok (.value (.pointer (some ⟨b, p + off, none⟩))) E.w := by
        intro b p hx
        simp [execOp, ho, hx, Instr.fieldAt, run_underlying hu, hfd, Instr.sureAddr, hplace]
      split at h3
      · rename_i b g p
        obtain ⟨e1, e2⟩ := h1
        simp only [Pg.wp] at h3
        split at h3
        · rename_i hg
          exact sound_value h (sv := .ptr b g (p + off)) (hrun _ _ (e2 hg)) ⟨e1, fun _ => rfl⟩ h3 hK
        · exact h3.elim
      · rename_i cs
        obtain ⟨b, p, e1, e2, e3, e4⟩ := h1
        refine sound_value h (sv := .rptr (cs.drop off)) (hrun _ _ e1) ⟨b, p + off, rfl, e2, e3, fun j q hq => ?_⟩ h3 hK
        have := e4 (off + j) q (by simpa using hq)
        rw [← Nat.add_assoc] at this
        exact this
      · rename_i q j n k c p
        obtain ⟨e1, e2⟩ := h1
        simp only [Pg.wp] at h3
        split at h3
        · rename_i hg
          obtain ⟨b, o', len, cap, f1, f2⟩ := e2 hg
          exact sound_value h (sv := .optr q j n k c (p + off)) (hrun _ _ f2) ⟨e1, fun _ => ⟨b, o', len, cap, f1, by simp [Nat.add_assoc]⟩⟩ h3 hK
        · exact h3.elim
      · exact h3.elim
    · exact hw.elim
  · exact hw.elim

/-! Data out of cells -/
def D.int : D → Int | .i n => n | _ => 0
def D.bool : D → Bool | .b x => x | _ => false
def D.str : D → ByteArray | .s x => x | _ => ByteArray.empty
def D.rows : D → List (List D) | .l r => r | _ => []
/-- A datum as a cell of its kind. -/
def ofD : CT → D → CV
  | .i k, d => .i k d.int
  | .b, d => .b d.bool
  | .s, d => .s d.str
  | .l e, d => .sl false e d.rows
theorem RdR.relCV {E : Env} {ct : CT} {v : Value} {d : D} (h : RdR T E.w E.X ct v d) (l : Loc) (j : Nat) : RelCV T W E l j v (ofD ct d) := by
  cases h with
  | int k n h => exact ⟨rfl, h⟩
  | bool x => rfl
  | str x h => exact ⟨rfl, h⟩
  | nil e A c h => exact RdR.nil e A c h
  | sl e ty b o c rows vs h1 h2 h3 h4 h5 h6 h7 h8 => exact RdR.sl e ty b o c rows vs h1 h2 h3 h4 h5 h6 h7 h8
theorem ofD_free (ct : CT) (d : D) : (ofD ct d).free = true := by cases ct <;> rfl
/-- The cells of a row, from its kinds. -/
def rowCells : List CT → List D → List CV
  | ct :: r, d :: ds => ofD ct d :: rowCells r ds
  | ct :: r, [] => ofD ct default :: rowCells r []
  | [], _ => []
/-- A cell as a datum of a kind, if it has that kind and owns nothing. -/
def CV.toD : CT → CV → Option D
  | .i k, .i k' n => if k = k' then some (.i n) else none
  | .b, .b x => some (.b x)
  | .s, .s x => some (.s x)
  | .l e, .sl false e' rows => if e = e' then some (.l rows) else none
  | _, _ => none
theorem RelCV.rdR {E : Env} {l : Loc} {j : Nat} {v : Value} {c : CV} {ct : CT} {d : D} (h : RelCV T W E l j v c) (hd : c.toD ct = some d) : RdR T E.w E.X ct v d := by
  unfold CV.toD at hd
  split at hd
  · split at hd
    · rename_i hk
      subst hk
      obtain rfl := Option.some.inj hd
      rw [h.1]; exact .int _ _ h.2
    · cases hd
  · obtain rfl := Option.some.inj hd
    rw [(h : v = _)]; exact .bool _
  · obtain rfl := Option.some.inj hd
    rw [h.1]; exact .str _ h.2
  · split at hd
    · rename_i hk
      subst hk
      obtain rfl := Option.some.inj hd
      exact h
    · cases hd
  · cases hd
def toDs : List CT → List CV → Option (List D)
  | [], [] => some []
  | ct :: r, c :: cs => match c.toD ct, toDs r cs with
    | some d, some ds => some (d :: ds)
    | _, _ => none
  | _, _ => none
theorem toDs_spec : ∀ {cts : List CT} {cs : List CV} {ds : List D}, toDs cts cs = some ds → cs.length = cts.length ∧ ds.length = cts.length ∧ ∀ (j : Nat) ct c d, cts[j]? = some ct → cs[j]? = some c → ds[j]? = some d → c.toD ct = some d
  | [], [], ds, h => by
    obtain rfl := Option.some.inj h
    exact ⟨rfl, rfl, fun j ct c d h _ _ => by simp at h⟩
  | [], c :: cs, ds, h => by cases h
  | ct :: r, [], ds, h => by cases h
  | ct :: r, c :: cs, ds, h => by
    simp only [toDs] at h
    split at h
    · rename_i d ds' h1 h2
      obtain rfl := Option.some.inj h
      obtain ⟨a, b, f⟩ := toDs_spec h2
      refine ⟨by simp [a], by simp [b], fun j ct' c' d' e1 e2 e3 => ?_⟩
      cases j with
      | zero =>
        obtain rfl := Option.some.inj e1
        obtain rfl := Option.some.inj e2
        obtain rfl := Option.some.inj e3
        exact h1
      | succ j => exact f j ct' c' d' (by simpa using e1) (by simpa using e2) (by simpa using e3)
    · cases h

/-! Loads -/
/-- Cells p, p + 1, .. of a variable, named, not copied, where they own. -/
def getCells (b : Nat) : Nat → Nat → (List CV → Pg) → Pg
  | _, 0, k => k []
  | p, n + 1, k => .get (.cell b p) fun v => match v.2 with
    | .val false [c] => getCells b (p + 1) n fun r => k (c.share (.cell b p) v.1 0 :: r)
    | _ => .fail
theorem getCells_sound {E : Env} (h : Rel T W N E) {b m : Nat} (hb : (E.σ (.gen b)).2 = .num m) : ∀ {n p : Nat} {k : List CV → Pg} {Q : St → Prop}, p + n ≤ m → (getCells b p n k).wp Q E.σ →
    ∃ cs us, CellsR T W E (.slot N) 0 cs us ∧ cs.length = n ∧ cs.all CV.free = true ∧ (∀ (j : Nat) u, us[j]? = some u → E.w.cell? ⟨E.β b, p + j, none⟩ = some u) ∧ (k cs).wp Q E.σ
  | 0, p, k, Q, _, hw => ⟨[], [], ⟨rfl, fun i c u h => by simp at h⟩, rfl, rfl, fun j u h => by simp at h, hw⟩
  | n + 1, p, k, Q, hp, hw => by
    obtain ⟨c, v, e1, e2, e3, e4⟩ := h.cell b m p hb (by omega)
    simp only [getCells, Pg.wp, e1] at hw
    obtain ⟨cs, us, f1, f2, f3, f4, f5⟩ := getCells_sound h hb (n := n) (p := p + 1) (by omega) hw
    have hsh : RelCV T W E (.slot N) 0 v (c.share (.cell b p) (E.σ (.cell b p)).1 0) := e4.share ((Env.at_cell hb (by omega)).trans e2) _ _
    have hfree : (c.share (.cell b p) (E.σ (.cell b p)).1 0).free = true := by
      cases c with
      | sl own e rows => cases own <;> rfl
      | _ => rfl
    have anyj : ∀ {j j' u c0}, CV.free c0 = true → RelCV T W E (.slot N) j u c0 → RelCV T W E (.slot N) j' u c0 := fun hf hr => hr.any (fun e rows he => by rw [he] at hf; cases hf)
    refine ⟨_ :: cs, v :: us, ⟨by simp [f1.1], fun i c0 u0 hc hu => ?_⟩, by simp [f2], by simp [hfree, f3], fun j u hu => ?_, f5⟩
    · cases i with
      | zero =>
        obtain rfl := Option.some.inj hc
        obtain rfl := Option.some.inj hu
        exact hsh
      | succ i =>
        have := f1.2 i c0 u0 (by simpa using hc) (by simpa using hu)
        exact anyj (List.all_eq_true.1 f3 c0 (List.mem_of_getElem? (by simpa using hc))) this
    · cases j with
      | zero => obtain rfl := Option.some.inj hu; exact e2
      | succ j =>
        have := f4 j u (by simpa using hu)
        rw [show p + (j + 1) = p + 1 + j by omega]; exact this
/-- Cells behind a pointer into shared memory. -/
def rCells : List CT → List (CT × D) → Option (List CV)
  | [], _ => some []
  | ct :: r, (ct', d) :: ps => if ct = ct' then (rCells r ps).map (ofD ct d :: ·) else none
  | _ :: _, [] => none
theorem rCells_spec : ∀ {cts : List CT} {ps : List (CT × D)} {cs : List CV}, rCells cts ps = some cs → cs.length = cts.length ∧ ∀ (j : Nat) c, cs[j]? = some c → ∃ p, ps[j]? = some p ∧ c = ofD p.1 p.2
  | [], ps, cs, h => by obtain rfl := Option.some.inj h; exact ⟨rfl, fun j c h => by simp at h⟩
  | ct :: r, [], cs, h => by cases h
  | ct :: r, (ct', d) :: ps, cs, h => by
    simp only [rCells] at h
    split at h
    · rename_i he
      subst he
      cases hr : rCells r ps with
      | none => rw [hr] at h; cases h
      | some cs' =>
        rw [hr] at h
        obtain rfl := Option.some.inj h
        obtain ⟨a, b⟩ := rCells_spec hr
        refine ⟨by simp [a], fun j c hc => ?_⟩
        cases j with
        | zero => obtain rfl := Option.some.inj hc; exact ⟨_, rfl, rfl⟩
        | succ j => exact b j c (by simpa using hc)
    · cases h
/-- Cells of a row of an owned slice, from offset p. -/
def oCells (cts : List CT) (row : List D) (p n : Nat) : List CV := ((cts.drop p).take n).zipIdx.map fun (ct, j) => ofD ct (row.getD (p + j) default)
def endLoad (N : Nat) (o : Oper) (ag : Bool) (cs : List CV) : Pg := dstSet N o (.val ag cs)
def stepLoad (T : Tab) (N : Nat) (o : Oper) (t : TypeId) (x : Operand) : Pg :=
  match T t with
  | some ty => rdv x fun sv => match sv with
    | .ptr b g p => .get (.gen b) fun v => if v.1 = g then match v.2 with
        | .num m => if p + ty.cts.length ≤ m then getCells b p ty.cts.length fun cs => dstSet N o (.val ty.agg cs) else .fail
        | _ => .fail
      else .fail
    | .rptr ps => match rCells ty.cts ps with
      | some cs => dstSet N o (.val ty.agg cs)
      | none => .fail
    | .optr q j n k c p => look q j n fun _ _ _ e rows => match T e with
      | some te => if te.cts.length = c ∧ (te.cts.drop p).take ty.cts.length = ty.cts then
          .chk (k < rows.length) (dstSet N o (.val ty.agg (oCells te.cts (rows.getD k []) p ty.cts.length))) else .fail
      | none => .fail
    | _ => .fail
  | none => .fail
theorem run_load (hT : TabOk P T) {E : Env} {o : Oper} {t : TypeId} {x : Operand} {ty : Ty} (ho : o.op = .load t x) (hty : T t = some ty) {b p : Nat} (hx : E.a.eval x = .pointer (some ⟨b, p, none⟩))
    {cs : List CV} {us : List Value} (hc : CellsR T W E (.slot N) 0 cs us) (hn : cs.length = ty.cts.length) (hu : ∀ (j : Nat) u, us[j]? = some u → E.w.cell? ⟨b, p + j, none⟩ = some u) :
    ∃ v, (execOp E.a.eval o).run P E.w = .ok (.value v) E.w ∧ RelSV T W E (.slot N) v (.val ty.agg cs) := by
  have ok := hT t ty hty
  have hlen : us.length = ty.cts.length := hc.1 ▸ hn
  cases hag : ty.agg with
  | true =>
    obtain ⟨fs, hu', _⟩ := ok.str hag
    refine ⟨.agg us.toArray, ?_, hc.relSV⟩
    have := run_loadAt_mid (P := P) E.w b p t us _ hu hu' rfl (by rw [hlen]; exact ok.size)
    simp only [execOp, ho, hx, Sem.run_bind, this, Result.andThen_ok]; rfl
  | false =>
    obtain ⟨ct, hct, hund⟩ := ok.one hag
    rw [hct] at hlen hn
    match us, hlen, cs, hn with
    | [u], _, [c], _ =>
      have hcell : E.w.cell? ⟨b, p, none⟩ = some u := hu 0 u rfl
      refine ⟨u, ?_, c, rfl, hc.2 0 c u rfl rfl⟩
      have hagg : (isAgg t).run P E.w = .ok false E.w := by
        unfold isAgg
        cases ct <;> simp only at hund <;> rw [Sem.run_bind, run_underlying hund E.w] <;> rfl
      simp only [execOp, ho, hx, Instr.loadAt, Instr.sureAddr, Sem.run_bind, Sem.run_pure, Result.andThen_ok, loadVar, hagg]
      simp [load, Sem.run, hcell]
end Go.Proofs.YtijnlnmoellbaaaGreat.Ab
