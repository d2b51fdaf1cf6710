/- Marks: every cell of what is owned takes its own number, or the text of it. No program in sight. The walks of the law's functions that mark what is owned: printed by a program of this claim. -/
import Derived.Test.YtaecbmjmcpdgdaaGreatCKq
import Derived.Test.YtaecbmjmcpdgdaaGreatCEd
import Derived.Test.YtaecbmjmcpdgdaaGreatCTa
import Derived.IntWalk
namespace Go.Proofs.YtaecbmjmcpdgdaaGreat.Ab
open Go.RowKit
set_option linter.unusedVariables false
mutual
def cD : D → Nat
  | .i _ => 1
  | .s _ => 1
  | .b _ => 0
  | .l rows => cRows rows
def cRow : List D → Nat
  | [] => 0
  | d :: r => cD d + cRow r
def cRows : List (List D) → Nat
  | [] => 0
  | r :: rs => cRow r + cRows rs
end
mutual
def mkD (mt : Int → ByteArray) : Int → D → D
  | k, .i _ => .i k
  | k, .s _ => .s (mt k)
  | k, .b x => .b x
  | k, .l rows => .l (mkRows mt k rows)
def mkRow (mt : Int → ByteArray) : Int → List D → List D
  | k, [] => []
  | k, d :: r => mkD mt k d :: mkRow mt (k + cD d) r
def mkRows (mt : Int → ByteArray) : Int → List (List D) → List (List D)
  | k, [] => []
  | k, r :: rs => mkRow mt k r :: mkRows mt (k + cRow r) rs
end
variable {mt : Int → ByteArray}
theorem cRows_append : ∀ a b : List (List D), cRows (a ++ b) = cRows a + cRows b
  | [], b => by simp [cRows]
  | r :: rs, b => by simp only [List.cons_append, cRows, cRows_append rs b]; omega
theorem mkRows_append : ∀ (a b : List (List D)) (k : Int), mkRows mt k (a ++ b) = mkRows mt k a ++ mkRows mt (k + cRows a) b
  | [], b, k => by simp [mkRows, cRows]
  | r :: rs, b, k => by
    simp only [List.cons_append, mkRows, cRows, mkRows_append rs b]
    rw [show k + (cRow r : Int) + (cRows rs : Int) = k + ((cRow r + cRows rs : Nat) : Int) by omega]
theorem mkRows_length : ∀ (a : List (List D)) (k : Int), (mkRows mt k a).length = a.length
  | [], k => by simp [mkRows]
  | r :: rs, k => by simp [mkRows, mkRows_length rs]
mutual
theorem cD_mk : ∀ (d : D) (k : Int), cD (mkD mt k d) = cD d
  | .i _, k => by simp [mkD, cD]
  | .s _, k => by simp [mkD, cD]
  | .b _, k => by simp [mkD, cD]
  | .l rows, k => by simp only [mkD, cD]; exact cRows_mk rows k
theorem cRow_mk : ∀ (d : List D) (k : Int), cRow (mkRow mt k d) = cRow d
  | [], k => by simp [mkRow]
  | d :: r, k => by simp only [mkRow, cRow, cD_mk d k, cRow_mk r]
theorem cRows_mk : ∀ (d : List (List D)) (k : Int), cRows (mkRows mt k d) = cRows d
  | [], k => by simp [mkRows]
  | r :: rs, k => by simp only [mkRows, cRows, cRow_mk r k, cRows_mk rs]
end
theorem cRows_next {a : List (List D)} {i : Nat} (hi : i < a.length) : cRows (a.take (i + 1)) = cRows (a.take i) + cRow (a.getD i []) := by
  rw [List.take_add_one, List.getElem?_eq_getElem hi, cRows_append]
  simp [cRows, List.getD_eq_getElem?_getD, List.getElem?_eq_getElem hi]
theorem cRows_le (a : List (List D)) (i : Nat) : cRows (a.take i) ≤ cRows a := by
  have := cRows_append (a.take i) (a.drop i)
  rw [List.take_append_drop] at this
  omega
def mkAt (mt : Int → ByteArray) (k : Int) (a : List (List D)) (i : Nat) : List (List D) := mkRows mt k (a.take i) ++ a.drop i
theorem mkAt_zero (k : Int) (a : List (List D)) : mkAt mt k a 0 = a := by simp [mkAt, mkRows]
theorem mkAt_all {k : Int} {a : List (List D)} {i : Nat} (h : a.length ≤ i) : mkAt mt k a i = mkRows mt k a := by
  unfold mkAt; rw [List.take_of_length_le h, List.drop_eq_nil_of_le h, List.append_nil]
theorem mkAt_length (k : Int) (a : List (List D)) (i : Nat) : (mkAt mt k a i).length = a.length := by
  unfold mkAt; rw [List.length_append, mkRows_length, ← List.length_append, List.take_append_drop]
theorem mkAt_row {k : Int} {a : List (List D)} {i : Nat} (hi : i < a.length) : (mkAt mt k a i).getD i [] = a.getD i [] := by
  unfold mkAt
  rw [List.getD_eq_getElem?_getD, List.getElem?_append_right (by rw [mkRows_length, List.length_take]; omega), mkRows_length, List.length_take, Nat.min_eq_left (by omega), Nat.sub_self, List.getElem?_drop, Nat.add_zero, ← List.getD_eq_getElem?_getD]
theorem mkAt_next {k : Int} {a : List (List D)} {i : Nat} (hi : i < a.length) {r : List D} (hr : r = mkRow mt (k + cRows (a.take i)) (a.getD i [])) : (mkAt mt k a i).set i r = mkAt mt k a (i + 1) := by
  subst hr
  unfold mkAt
  have hl : (mkRows mt k (a.take i)).length = i := by rw [mkRows_length, List.length_take]; omega
  have h2 : a.getD i [] = a[i] := by simp [List.getD_eq_getElem?_getD, List.getElem?_eq_getElem hi]
  have h1 : a.drop i = a[i] :: a.drop (i + 1) := List.drop_eq_getElem_cons hi
  rw [List.set_append_right _ _ (by omega), hl, Nat.sub_self, h1, List.set_cons_zero, List.take_add_one, List.getElem?_eq_getElem hi, mkRows_append, h2]
  simp [mkRows]
theorem setD_set {rows : List (List D)} {k j : Nat} {d : D} {r : List D} (hk : k < rows.length) : setD (rows.set k r) k j d = rows.set k (r.set j d) := by
  unfold setD
  rw [List.getD_eq_getElem?_getD, List.getElem?_set_self hk, Option.getD_some, List.set_set]
theorem setD_one {rows : List (List D)} {k j : Nat} {d : D} {r : List D} (hr : rows.getD k [] = r) : setD rows k j d = rows.set k (r.set j d) := by
  unfold setD; rw [hr]
theorem mkRows_row {k : Int} {a : List (List D)} {i : Nat} (hi : i < a.length) : (mkRows mt k a).getD i [] = mkRow mt (k + cRows (a.take i)) (a.getD i []) := by
  have h := mkRows_append (mt := mt) (a.take i) (a.drop i) k
  rw [List.take_append_drop] at h
  rw [h, List.getD_eq_getElem?_getD, List.getElem?_append_right (by rw [mkRows_length, List.length_take]; omega), mkRows_length, List.length_take, Nat.min_eq_left (by omega), Nat.sub_self, List.drop_eq_getElem_cons hi]
  simp [mkRows, List.getD_eq_getElem?_getD, List.getElem?_eq_getElem hi]
theorem wD_part {rows : List (List D)} {k j : Nat} {rows2 : List (List D)} (hk : k < rows.length) (hj : (rows.getD k [])[j]? = some (.l rows2)) : wD (.l rows2) < wD (.l rows) := by
  have h1 : wRow (rows.getD k []) ≤ wRows rows := by
    have a := wRows_next (a := rows) (i := (k : Int)) (Int.natCast_nonneg _) (by omega)
    have b := wRows_le rows ((k : Int) + 1).toNat
    rw [Int.toNat_natCast] at a
    omega
  have h2 : ∀ (r : List D) (j : Nat), r[j]? = some (.l rows2) → wD (.l rows2) ≤ wRow r := by
    intro r
    induction r with
    | nil => intro j h; simp at h
    | cons d r ih =>
      intro j h
      cases j with
      | zero => obtain rfl := Option.some.inj h; simp only [wRow]; omega
      | succ j => have := ih j (by simpa using h); simp only [wRow]; omega
  have h3 := h2 _ _ hj
  have h4 : wD (.l rows) = rows.length + wRows rows := by simp [wD]
  omega
structure MkEnd (T : Tab) (w w' : World) (F : Nat → Prop) (e : TypeId) (v : Value) (rows : List (List D)) : Prop where
  os : w'.os = w.os
  tape : w'.tape = w.tape
  output : w'.output = w.output
  size : w.heap.size ≤ w'.heap.size
  block : ∀ b, b < w.heap.size → ¬ F b → w'.heap[b]? = w.heap[b]?
  deep : DeepV T w' F (.l e) v (.l rows)
def MkOk (P : Program) (T : Tab) (mt : Int → ByteArray) (f : FuncId) (e : TypeId) (n : Nat) : Prop :=
  ∀ (w : World) (F : Nat → Prop) (v : Value) (rows : List (List D)) (k : Int), 1 ≤ k → k + cRows rows ≤ 4611686018427387904 → wD (.l rows) < n → GlR T w F → DeepV T w F (.l e) v (.l rows) →
    Calls P f #[v, .int .i64 k] w fun x w' => x = .returned (.int .i64 (k + cRows rows)) ∧ MkEnd T w w' F e v (mkRows mt k rows)
theorem DeepV.wf {T : Tab} {w : World} {F : Nat → Prop} {ct : CT} {v : Value} {d : D} (h : DeepV T w F ct v d) : WfD T ct d := by
  induction h with
  | flat F ct v d h1 h2 h3 => exact h3.wf
  | sl F e ty v rows xs G h1 h2 h3 h4 h5 h6 _ ih =>
    refine .sl e ty rows h1 ?_ h3 ih
    rcases h2.2 with ⟨_, hn⟩ | ⟨g, cap, cur, _, _, _, e4, e5, _⟩
    · omega
    · exact Nat.le_trans e4 e5
theorem DeepV.row {T : Tab} {w : World} {F : Nat → Prop} {e : TypeId} {v : Value} {rows : List (List D)} {ty : Ty} (h : DeepV T w F (.l e) v (.l rows)) (he : T e = Option.some ty) {k : Nat} (hk : k < rows.length) : WfRow T ty.cts (rows.getD k []) := by
  obtain ⟨ty', xs, G, h1, h2, h3, h4, h5, h6, h7⟩ := h.inv
  obtain rfl : ty = ty' := Option.some.inj (he.symm.trans h1)
  have hrow : rows[k]? = Option.some (rows.getD k []) := by simp [List.getD_eq_getElem?_getD, List.getElem?_eq_getElem hk]
  exact ⟨h3 k _ hrow, fun j ct d hc hd => (h7 k j ct d _ hrow hc hd).wf⟩
section
variable {T : Tab} {ct : CT} {cts : List CT} {r : List D} {d : D}
theorem WfRow.cut (h : WfRow T (ct :: cts) r) : ∃ d r', r = d :: r' ∧ WfD T ct d ∧ WfRow T cts r' := by
  match r, h with
  | d :: r', h => exact ⟨d, r', rfl, h.2 0 ct d rfl rfl, by simpa using h.1, fun j ct' d' a b => h.2 (j + 1) ct' d' (by simpa using a) (by simpa using b)⟩
  | [], h => have := h.1; simp at this
theorem WfRow.end_ (h : WfRow T [] r) : r = [] := List.length_eq_zero_iff.1 h.1
theorem WfRow.int_ {k : IntKind} (h : WfRow T (.i k :: cts) r) : ∃ n r', r = .i n :: r' ∧ WfRow T cts r' := by
  obtain ⟨d, r', rfl, hd, hr⟩ := h.cut
  cases hd; exact ⟨_, _, rfl, hr⟩
theorem WfRow.str_ (h : WfRow T (.s :: cts) r) : ∃ x r', r = .s x :: r' ∧ WfRow T cts r' := by
  obtain ⟨d, r', rfl, hd, hr⟩ := h.cut
  cases hd; exact ⟨_, _, rfl, hr⟩
theorem WfRow.sl_ {e : TypeId} (h : WfRow T (.l e :: cts) r) : ∃ x r', r = .l x :: r' ∧ WfRow T cts r' := by
  obtain ⟨d, r', rfl, hd, hr⟩ := h.cut
  cases hd with
  | nil => exact ⟨_, _, rfl, hr⟩
  | sl => exact ⟨_, _, rfl, hr⟩
end
section
variable {T : Tab} {w w1 w2 : World} {F G : Nat → Prop} {e e2 : TypeId} {v u : Value} {rows rows1 rows2 : List (List D)}
theorem MkEnd.refl (h : DeepV T w F (.l e) v (.l rows)) : MkEnd T w w F e v rows := ⟨rfl, rfl, rfl, Nat.le_refl _, fun _ _ _ => rfl, h⟩
theorem MkEnd.store (h : MkEnd T w w1 F e v rows1) {g o : Nat} {x : Value} (hF : F g) (hd : DeepV T (w1.setCell ⟨g, o, none⟩ x) F (.l e) v (.l rows2)) : MkEnd T w (w1.setCell ⟨g, o, none⟩ x) F e v rows2 := by
  refine ⟨h.os, h.tape, h.output, by simpa [World.setCell] using h.size, fun b hb hn => ?_, hd⟩
  have hne : g ≠ b := fun e => hn (e ▸ hF)
  rw [← h.block b hb hn]
  simp [World.setCell, Array.getElem?_modify, hne]
theorem MkEnd.below (h : MkEnd T w w1 F e v rows1) (hb : Below w1.heap.size w1 w2) : MkEnd T w w2 F e v rows1 :=
  ⟨hb.os.trans h.os, hb.tape.trans h.tape, hb.output.trans h.output, Nat.le_trans h.size hb.size, fun b h1 h2 => (hb.block b (Nat.lt_of_lt_of_le h1 h.size)).trans (h.block b h1 h2), h.deep.move fun b hF => hb.block b (h.deep.lt b hF)⟩
theorem MkEnd.call (h : MkEnd T w w1 F e v rows1) (h2 : MkEnd T w1 w2 G e2 u rows2) (hG : ∀ b, G b → F b) {rows3 : List (List D)} (hd : DeepV T w2 F (.l e) v (.l rows3)) : MkEnd T w w2 F e v rows3 :=
  ⟨h2.os.trans h.os, h2.tape.trans h.tape, h2.output.trans h.output, Nat.le_trans h.size h2.size, fun b a c => (h2.block b (Nat.lt_of_lt_of_le a h.size) fun hg => c (hG b hg)).trans (h.block b a c), hd⟩
theorem MkEnd.gl (h : MkEnd T w w1 F e v rows1) (hg : GlR T w F) : GlR T w1 F := hg.move ⟨h.size, h.block⟩ fun _ _ h => h
theorem GlR.less (hg : GlR T w F) (h : ∀ b, G b → F b) : GlR T w G := hg.move ⟨Nat.le_refl _, fun _ _ _ => rfl⟩ fun b _ hb => h b hb
end
theorem inK_pos {k : Int} (h1 : 1 ≤ k) (h2 : k ≤ 4611686018427387904) : inK .i64 k := by
  have e1 : IntKind.i64.min = -9223372036854775808 := by decide
  have e2 : IntKind.i64.max = 9223372036854775807 := by decide
  rw [inK, e1, e2]; omega
def spMT (mt : Int → ByteArray) : FSpec where
  pre args := ∃ k : Int, 1 ≤ k ∧ k ≤ 4611686018427387904 ∧ args = [.val false [.i .i64 k]]
  res args := match args with
    | [.val _ [.i _ k]] => .val false [.s (mt k)]
    | _ => .none
theorem FOk.mark {P : Program} {T : Tab} {f : FuncId} {mt : Int → ByteArray} (h : FOk P T f (spMT mt)) {w : World} {F : Nat → Prop} (hF : ∀ b, F b → b < w.heap.size) (hgl : GlR T w F) {k : Int} (h1 : 1 ≤ k) (h2 : k ≤ 4611686018427387904) :
    Calls P f #[.int .i64 k] w fun e w' => e = .returned (.string (mt k)) ∧ (mt k).size ≤ maxLen ∧ Below w.heap.size w w' := by
  have hk : inK .i64 k := by
    have e1 : IntKind.i64.min = -9223372036854775808 := by decide
    have e2 : IntKind.i64.max = 9223372036854775807 := by decide
    rw [inK, e1, e2]; omega
  refine (h.ok rfl w F [.val false [.i .i64 k]] [.int .i64 k] hF (ArgsR.cons ⟨_, rfl, rfl, hk⟩ ArgsR.nil) hgl ⟨k, h1, h2, rfl⟩).mono ?_
  rintro e w' ⟨v, bk, he, hb, ⟨c, hc, hv⟩, _⟩
  obtain rfl : CV.s (mt k) = c := by simpa using hc
  obtain ⟨rfl, hs⟩ := hv
  exact ⟨he, hs, hb⟩
theorem getD_setk {X : List (List D)} {k : Nat} {r : List D} (hk : k < X.length) : (X.set k r).getD k [] = r := by
  rw [List.getD_eq_getElem?_getD, List.getElem?_set_self hk]; rfl
theorem cell_set {X : List (List D)} {k c : Nat} {r : List D} {d d' : D} (hk : k < X.length) (h : ((X.set k r).getD k [])[c]? = some d) (h2 : r[c]? = some d') : d' = d := by
  rw [getD_setk hk, h2] at h; exact Option.some.inj h
theorem cell_one {X : List (List D)} {k c : Nat} {r : List D} {d d' : D} (hr : X.getD k [] = r) (h : (X.getD k [])[c]? = some d) (h2 : r[c]? = some d') : d' = d := by
  rw [hr, h2] at h; exact Option.some.inj h
end Go.Proofs.YtaecbmjmcpdgdaaGreat.Ab
namespace Go.Proofs.YtaecbmjmcpdgdaaGreat
open Go.RowKit Ab
set_option linter.unusedVariables false
set_option linter.unusedSimpArgs false
set_option maxRecDepth 100000
set_option maxHeartbeats 2000000
theorem mk_40 (mt : Int → ByteArray) (n : Nat) : MkOk Tryz.prog T mt 40 3 n := by
  intro w F v rows k hk hb hn hgl hD
  obtain ⟨A, c, rfl⟩ := hD.slice
  have HD := Lib.hid hD
  have HG := Lib.hid hgl
  have hs := hD.short
  simp only [maxLen] at hs
  clear hD hgl
  go_enter Tryz.func40, Tryz.ntmps40
  go_wp2_with fail
  go_loopw [1, 5] (fun q i wr => ∃ j : Nat, j ≤ rows.length ∧ i = .int .i64 j ∧ q = .int .i64 (k + cRows (rows.take j)) ∧ MkEnd T w wr F 3 (.slice A rows.length c) (mkAt mt k rows j)) (fun _ i _ => rows.length - (intOf i).toNat)
  case atStart => exact ⟨0, Nat.zero_le _, rfl, by simp [cRows], by rw [mkAt_zero]; exact MkEnd.refl HD.out⟩
  case round =>
    obtain ⟨j, hj, rfl, rfl, hE⟩ := hrel
    have HE0 := Lib.hid hE
    clear hE
    by_cases hlt : j < rows.length
    · obtain ⟨g, rfl⟩ := HD.out.some (by omega)
      have q0 : (0 : Int) ≤ (j : Int) := by omega
      have q1 : (j : Int) < (rows.length : Int) := by omega
      obtain ⟨x0, r0, hr, hr0⟩ := WfRow.int_ (HD.out.row (show T 3 = some _ from rfl) hlt)
      obtain rfl := hr0.end_
      clear hr0
      have hc := cRows_next hlt
      have hc2 := cRows_le rows (j + 1)
      rw [hr] at hc
      have hc3 : cRow [.i x0] = 1 + 0 := rfl
      have hq0 : 1 ≤ k + cRows (rows.take j) := by omega
      have hq1 : k + cRows (rows.take j) + cRow [.i x0] ≤ 4611686018427387904 := by omega
      rw [hc3] at hq1
      have hmk := mkAt_next (mt := mt) (k := k) hlt (Eq.symm (congrArg (mkRow mt (k + cRows (rows.take j))) hr))
      have hX := (mkAt_row (mt := mt) (k := k) hlt).trans hr
      have hl : j < (mkAt mt k rows j).length := by rw [mkAt_length]; exact hlt
      have hnext : k + (cRows (rows.take (j + 1)) : Int) = k + cRows (rows.take j) + cRow [.i x0] := by omega
      rw [hc3] at hnext
      obtain ⟨X, hXX⟩ : ∃ X, mkAt mt k rows j = X := ⟨_, rfl⟩
      rw [hXX] at hX hl hmk HE0
      obtain ⟨q, hq⟩ : ∃ q, k + (cRows (rows.take j) : Int) = q := ⟨_, rfl⟩
      rw [hq] at hq0 hq1 hmk hnext ⊢
      clear hc hc2 hXX hc3
      obtain ⟨-, hF, -, ub1, db1, Gb1, cb1, fb1, rb1, Db1, sb1, pb1, wb1⟩ := DeepV.part HE0.out.deep (show T 3 = some _ from rfl) (k := j) (j := 0) hlt rfl (o := j) (by first | rfl | simp)
      have V1 := wb1 (fun e h => by cases h) (.int .i64 (q)) (.i (q)) (.int _ _ (inK_pos (by omega) (by omega)))
      rw [show setD X j 0 (.i (q)) = X.set j [.i (q)] from setD_one hX] at V1
      have H1 := Lib.hid ((HE0.out).store hF V1)
      clear V1 rb1 Db1 sb1 pb1 wb1
      go_wp2
      rw [show X.set j [.i (q)] = mkAt mt k rows (j + 1) from hmk] at H1
      exact ⟨⟨j + 1, hlt, by go_num, congrArg (Value.int IntKind.i64) (by omega), H1.out⟩, by simp [Go.RowKit.intOf]; omega⟩
    · have nlt : ¬ (j : Int) < (rows.length : Int) := by omega
      have ht : rows.take j = rows := List.take_of_length_le (by omega)
      have ha := mkAt_all (mt := mt) (k := k) (a := rows) (i := j) (by omega)
      go_wp2
      go_ret
      exact ⟨rfl, by rw [← ha]; exact HE0.out⟩
theorem mk_56 (mt : Int → ByteArray) (hmt : FOk Tryz.prog T 41 (spMT mt)) (n : Nat) : MkOk Tryz.prog T mt 56 9 n := by
  intro w F v rows k hk hb hn hgl hD
  obtain ⟨A, c, rfl⟩ := hD.slice
  have HD := Lib.hid hD
  have HG := Lib.hid hgl
  have hs := hD.short
  simp only [maxLen] at hs
  clear hD hgl
  go_enter Tryz.func56, Tryz.ntmps56
  go_wp2_with fail
  go_loopw [1, 5] (fun q i wr => ∃ j : Nat, j ≤ rows.length ∧ i = .int .i64 j ∧ q = .int .i64 (k + cRows (rows.take j)) ∧ MkEnd T w wr F 9 (.slice A rows.length c) (mkAt mt k rows j)) (fun _ i _ => rows.length - (intOf i).toNat)
  case atStart => exact ⟨0, Nat.zero_le _, rfl, by simp [cRows], by rw [mkAt_zero]; exact MkEnd.refl HD.out⟩
  case round =>
    obtain ⟨j, hj, rfl, rfl, hE⟩ := hrel
    have HE0 := Lib.hid hE
    clear hE
    by_cases hlt : j < rows.length
    · obtain ⟨g, rfl⟩ := HD.out.some (by omega)
      have q0 : (0 : Int) ≤ (j : Int) := by omega
      have q1 : (j : Int) < (rows.length : Int) := by omega
      obtain ⟨x0, r0, hr, hr0⟩ := WfRow.str_ (HD.out.row (show T 9 = some _ from rfl) hlt)
      obtain rfl := hr0.end_
      clear hr0
      have hc := cRows_next hlt
      have hc2 := cRows_le rows (j + 1)
      rw [hr] at hc
      have hc3 : cRow [.s x0] = 1 + 0 := rfl
      have hq0 : 1 ≤ k + cRows (rows.take j) := by omega
      have hq1 : k + cRows (rows.take j) + cRow [.s x0] ≤ 4611686018427387904 := by omega
      rw [hc3] at hq1
      have hmk := mkAt_next (mt := mt) (k := k) hlt (Eq.symm (congrArg (mkRow mt (k + cRows (rows.take j))) hr))
      have hX := (mkAt_row (mt := mt) (k := k) hlt).trans hr
      have hl : j < (mkAt mt k rows j).length := by rw [mkAt_length]; exact hlt
      have hnext : k + (cRows (rows.take (j + 1)) : Int) = k + cRows (rows.take j) + cRow [.s x0] := by omega
      rw [hc3] at hnext
      obtain ⟨X, hXX⟩ : ∃ X, mkAt mt k rows j = X := ⟨_, rfl⟩
      rw [hXX] at hX hl hmk HE0
      obtain ⟨q, hq⟩ : ∃ q, k + (cRows (rows.take j) : Int) = q := ⟨_, rfl⟩
      rw [hq] at hq0 hq1 hmk hnext ⊢
      clear hc hc2 hXX hc3
      go_wp2_with fail
      refine (hmt.mark (HE0.out).deep.lt ((HE0.out).gl HG.out) (k := q) (by omega) (by omega)).mono ?_; rintro e wr1 ⟨rfl, hsz1, hb1⟩
      have H1 := Lib.hid ((HE0.out).below hb1)
      clear hb1
      obtain ⟨-, hF, -, ub1, db1, Gb1, cb1, fb1, rb1, Db1, sb1, pb1, wb1⟩ := DeepV.part H1.out.deep (show T 9 = some _ from rfl) (k := j) (j := 0) hlt rfl (o := j) (by first | rfl | simp)
      have V1 := wb1 (fun e h => by cases h) (.string (mt (q))) (.s (mt (q))) (.str _ hsz1)
      rw [show setD X j 0 (.s (mt (q))) = X.set j [.s (mt (q))] from setD_one hX] at V1
      have K1 := Lib.hid ((H1.out).store hF V1)
      clear V1 rb1 Db1 sb1 pb1 wb1
      go_wp2
      rw [show X.set j [.s (mt (q))] = mkAt mt k rows (j + 1) from hmk] at K1
      exact ⟨⟨j + 1, hlt, by go_num, congrArg (Value.int IntKind.i64) (by omega), K1.out⟩, by simp [Go.RowKit.intOf]; omega⟩
    · have nlt : ¬ (j : Int) < (rows.length : Int) := by omega
      have ht : rows.take j = rows := List.take_of_length_le (by omega)
      have ha := mkAt_all (mt := mt) (k := k) (a := rows) (i := j) (by omega)
      go_wp2
      go_ret
      exact ⟨rfl, by rw [← ha]; exact HE0.out⟩
theorem mk_83 (mt : Int → ByteArray) (n : Nat) : MkOk Tryz.prog T mt 83 133 n := by
  intro w F v rows k hk hb hn hgl hD
  obtain ⟨A, c, rfl⟩ := hD.slice
  have HD := Lib.hid hD
  have HG := Lib.hid hgl
  have hs := hD.short
  simp only [maxLen] at hs
  clear hD hgl
  go_enter Tryz.func83, Tryz.ntmps83
  go_wp2_with fail
  go_loopw [1, 5] (fun q i wr => ∃ j : Nat, j ≤ rows.length ∧ i = .int .i64 j ∧ q = .int .i64 (k + cRows (rows.take j)) ∧ MkEnd T w wr F 133 (.slice A rows.length c) (mkAt mt k rows j)) (fun _ i _ => rows.length - (intOf i).toNat)
  case atStart => exact ⟨0, Nat.zero_le _, rfl, by simp [cRows], by rw [mkAt_zero]; exact MkEnd.refl HD.out⟩
  case round =>
    obtain ⟨j, hj, rfl, rfl, hE⟩ := hrel
    have HE0 := Lib.hid hE
    clear hE
    by_cases hlt : j < rows.length
    · obtain ⟨g, rfl⟩ := HD.out.some (by omega)
      have q0 : (0 : Int) ≤ (j : Int) := by omega
      have q1 : (j : Int) < (rows.length : Int) := by omega
      obtain ⟨x0, r0, hr, hr0⟩ := WfRow.int_ (HD.out.row (show T 133 = some _ from rfl) hlt)
      obtain ⟨x1, r1, rfl, hr1⟩ := WfRow.int_ hr0
      obtain rfl := hr1.end_
      clear hr1
      have hc := cRows_next hlt
      have hc2 := cRows_le rows (j + 1)
      rw [hr] at hc
      have hc3 : cRow [.i x0, .i x1] = 1 + (1 + 0) := rfl
      have hq0 : 1 ≤ k + cRows (rows.take j) := by omega
      have hq1 : k + cRows (rows.take j) + cRow [.i x0, .i x1] ≤ 4611686018427387904 := by omega
      rw [hc3] at hq1
      have hmk := mkAt_next (mt := mt) (k := k) hlt (Eq.symm (congrArg (mkRow mt (k + cRows (rows.take j))) hr))
      have hX := (mkAt_row (mt := mt) (k := k) hlt).trans hr
      have hl : j < (mkAt mt k rows j).length := by rw [mkAt_length]; exact hlt
      have hnext : k + (cRows (rows.take (j + 1)) : Int) = k + cRows (rows.take j) + cRow [.i x0, .i x1] := by omega
      rw [hc3] at hnext
      obtain ⟨X, hXX⟩ : ∃ X, mkAt mt k rows j = X := ⟨_, rfl⟩
      rw [hXX] at hX hl hmk HE0
      obtain ⟨q, hq⟩ : ∃ q, k + (cRows (rows.take j) : Int) = q := ⟨_, rfl⟩
      rw [hq] at hq0 hq1 hmk hnext ⊢
      clear hc hc2 hXX hc3
      obtain ⟨-, hF, -, ub1, db1, Gb1, cb1, fb1, rb1, Db1, sb1, pb1, wb1⟩ := DeepV.part HE0.out.deep (show T 133 = some _ from rfl) (k := j) (j := 0) hlt rfl (o := j * 2) (by first | rfl | simp)
      have V1 := wb1 (fun e h => by cases h) (.int .i64 (q)) (.i (q)) (.int _ _ (inK_pos (by omega) (by omega)))
      rw [show setD X j 0 (.i (q)) = X.set j [.i (q), .i x1] from setD_one hX] at V1
      have H1 := Lib.hid ((HE0.out).store hF V1)
      clear V1 rb1 Db1 sb1 pb1 wb1
      obtain ⟨-, hF, -, ub2, db2, Gb2, cb2, fb2, rb2, Db2, sb2, pb2, wb2⟩ := DeepV.part HE0.out.deep (show T 133 = some _ from rfl) (k := j) (j := 1) hlt rfl (o := j * 2 + 1) (by first | rfl | simp)
      obtain ⟨-, hF, -, uc2, dc2, Gc2, cc2, fc2, rc2, Dc2, sc2, pc2, wc2⟩ := DeepV.part H1.out.deep (show T 133 = some _ from rfl) (k := j) (j := 1) hlt rfl (o := j * 2 + 1) (by first | rfl | simp)
      have V2 := wc2 (fun e h => by cases h) (.int .i64 (q + 1)) (.i (q + 1)) (.int _ _ (inK_pos (by omega) (by omega)))
      rw [show setD (X.set j [.i (q), .i x1]) j 1 (.i (q + 1)) = X.set j [.i (q), .i (q + 1)] from setD_set hl] at V2
      have H2 := Lib.hid ((H1.out).store hF V2)
      clear V2 rb2 Db2 sb2 pb2 wb2 rc2 Dc2 sc2 pc2 wc2 cc2 fc2
      go_wp2
      rw [show X.set j [.i (q), .i (q + 1)] = mkAt mt k rows (j + 1) from hmk] at H2
      exact ⟨⟨j + 1, hlt, by go_num, congrArg (Value.int IntKind.i64) (by omega), H2.out⟩, by simp [Go.RowKit.intOf]; omega⟩
    · have nlt : ¬ (j : Int) < (rows.length : Int) := by omega
      have ht : rows.take j = rows := List.take_of_length_le (by omega)
      have ha := mkAt_all (mt := mt) (k := k) (a := rows) (i := j) (by omega)
      go_wp2
      go_ret
      exact ⟨rfl, by rw [← ha]; exact HE0.out⟩
theorem mk_57 (mt : Int → ByteArray) (n : Nat) : MkOk Tryz.prog T mt 57 115 n := by
  intro w F v rows k hk hb hn hgl hD
  obtain ⟨A, c, rfl⟩ := hD.slice
  have HD := Lib.hid hD
  have HG := Lib.hid hgl
  have hs := hD.short
  simp only [maxLen] at hs
  clear hD hgl
  go_enter Tryz.func57, Tryz.ntmps57
  go_wp2_with fail
  go_loopw [1, 5] (fun q i wr => ∃ j : Nat, j ≤ rows.length ∧ i = .int .i64 j ∧ q = .int .i64 (k + cRows (rows.take j)) ∧ MkEnd T w wr F 115 (.slice A rows.length c) (mkAt mt k rows j)) (fun _ i _ => rows.length - (intOf i).toNat)
  case atStart => exact ⟨0, Nat.zero_le _, rfl, by simp [cRows], by rw [mkAt_zero]; exact MkEnd.refl HD.out⟩
  case round =>
    obtain ⟨j, hj, rfl, rfl, hE⟩ := hrel
    have HE0 := Lib.hid hE
    clear hE
    by_cases hlt : j < rows.length
    · obtain ⟨g, rfl⟩ := HD.out.some (by omega)
      have q0 : (0 : Int) ≤ (j : Int) := by omega
      have q1 : (j : Int) < (rows.length : Int) := by omega
      obtain ⟨x0, r0, hr, hr0⟩ := WfRow.sl_ (HD.out.row (show T 115 = some _ from rfl) hlt)
      obtain ⟨x1, r1, rfl, hr1⟩ := WfRow.sl_ hr0
      obtain rfl := hr1.end_
      clear hr1
      have hc := cRows_next hlt
      have hc2 := cRows_le rows (j + 1)
      rw [hr] at hc
      have hc3 : cRow [.l x0, .l x1] = cRows x0 + (cRows x1 + 0) := rfl
      have hq0 : 1 ≤ k + cRows (rows.take j) := by omega
      have hq1 : k + cRows (rows.take j) + cRow [.l x0, .l x1] ≤ 4611686018427387904 := by omega
      rw [hc3] at hq1
      have hmk := mkAt_next (mt := mt) (k := k) hlt (Eq.symm (congrArg (mkRow mt (k + cRows (rows.take j))) hr))
      have hX := (mkAt_row (mt := mt) (k := k) hlt).trans hr
      have hl : j < (mkAt mt k rows j).length := by rw [mkAt_length]; exact hlt
      have hnext : k + (cRows (rows.take (j + 1)) : Int) = k + cRows (rows.take j) + cRow [.l x0, .l x1] := by omega
      rw [hc3] at hnext
      obtain ⟨X, hXX⟩ : ∃ X, mkAt mt k rows j = X := ⟨_, rfl⟩
      rw [hXX] at hX hl hmk HE0
      obtain ⟨q, hq⟩ : ∃ q, k + (cRows (rows.take j) : Int) = q := ⟨_, rfl⟩
      rw [hq] at hq0 hq1 hmk hnext ⊢
      have hm0 : wD (.l x0) < wD (.l rows) := wD_part hlt (j := 0) (by rw [hr]; rfl)
      have hm1 : wD (.l x1) < wD (.l rows) := wD_part hlt (j := 1) (by rw [hr]; rfl)
      clear hc hc2 hXX hc3
      obtain ⟨-, hF, -, uc1, dc1, Gc1, cc1, fc1, rc1, Dc1, sc1, pc1, wc1⟩ := DeepV.part HE0.out.deep (show T 115 = some _ from rfl) (k := j) (j := 0) hlt rfl (o := j * 2) (by first | rfl | simp)
      obtain rfl := cell_one hX rc1 (show ([.l x0, .l x1] : List D)[0]? = some (.l x0) from rfl)
      clear fc1 wc1 rc1
      go_wp2_with fail
      refine ((mk_40 mt (wD (.l x0) + 1)) _ Gc1 uc1 x0 (q) (by omega) (by omega) (Nat.lt_succ_self _) (((HE0.out).gl HG.out).less fun b h => (sc1 b h).1) Dc1).mono ?_; rintro e wr1 ⟨rfl, hN1⟩
      have V1 := pc1 _ _ (fun b hb hg => hN1.block b ((HE0.out).deep.lt b hb) hg) hN1.deep
      rw [show setD X j 0 (.l (mkRows mt (q) x0)) = X.set j [.l (mkRows mt (q) x0), .l x1] from setD_one hX] at V1
      have H1 := Lib.hid ((HE0.out).call hN1 (fun b h => (sc1 b h).1) V1)
      clear V1 hN1 Dc1 sc1 pc1 cc1
      obtain ⟨-, hF, -, uc2, dc2, Gc2, cc2, fc2, rc2, Dc2, sc2, pc2, wc2⟩ := DeepV.part H1.out.deep (show T 115 = some _ from rfl) (k := j) (j := 1) hlt rfl (o := j * 2 + 1) (by first | rfl | simp)
      obtain rfl := cell_set hl rc2 (show ([.l (mkRows mt (q) x0), .l x1] : List D)[1]? = some (.l x1) from rfl)
      clear fc2 wc2 rc2
      go_wp2_with fail
      refine ((mk_83 mt (wD (.l x1) + 1)) _ Gc2 uc2 x1 (q + cRows x0) (by omega) (by omega) (Nat.lt_succ_self _) (((H1.out).gl HG.out).less fun b h => (sc2 b h).1) Dc2).mono ?_; rintro e wr2 ⟨rfl, hN2⟩
      have V2 := pc2 _ _ (fun b hb hg => hN2.block b ((H1.out).deep.lt b hb) hg) hN2.deep
      rw [show setD (X.set j [.l (mkRows mt (q) x0), .l x1]) j 1 (.l (mkRows mt (q + cRows x0) x1)) = X.set j [.l (mkRows mt (q) x0), .l (mkRows mt (q + cRows x0) x1)] from setD_set hl] at V2
      have H2 := Lib.hid ((H1.out).call hN2 (fun b h => (sc2 b h).1) V2)
      clear V2 hN2 Dc2 sc2 pc2 cc2
      go_wp2
      rw [show X.set j [.l (mkRows mt (q) x0), .l (mkRows mt (q + cRows x0) x1)] = mkAt mt k rows (j + 1) from hmk] at H2
      exact ⟨⟨j + 1, hlt, by go_num, congrArg (Value.int IntKind.i64) (by omega), H2.out⟩, by simp [Go.RowKit.intOf]; omega⟩
    · have nlt : ¬ (j : Int) < (rows.length : Int) := by omega
      have ht : rows.take j = rows := List.take_of_length_le (by omega)
      have ha := mkAt_all (mt := mt) (k := k) (a := rows) (i := j) (by omega)
      go_wp2
      go_ret
      exact ⟨rfl, by rw [← ha]; exact HE0.out⟩
theorem mkS_55 (mt : Int → ByteArray) (hmt : FOk Tryz.prog T 41 (spMT mt)) (n : Nat) (ih : MkOk Tryz.prog T mt 55 92 n) : MkOk Tryz.prog T mt 55 92 (n + 1) := by
  intro w F v rows k hk hb hn hgl hD
  obtain ⟨A, c, rfl⟩ := hD.slice
  have HD := Lib.hid hD
  have HG := Lib.hid hgl
  have hs := hD.short
  simp only [maxLen] at hs
  clear hD hgl
  go_enter Tryz.func55, Tryz.ntmps55
  go_wp2_with fail
  go_loopw [1, 5] (fun q i wr => ∃ j : Nat, j ≤ rows.length ∧ i = .int .i64 j ∧ q = .int .i64 (k + cRows (rows.take j)) ∧ MkEnd T w wr F 92 (.slice A rows.length c) (mkAt mt k rows j)) (fun _ i _ => rows.length - (intOf i).toNat)
  case atStart => exact ⟨0, Nat.zero_le _, rfl, by simp [cRows], by rw [mkAt_zero]; exact MkEnd.refl HD.out⟩
  case round =>
    obtain ⟨j, hj, rfl, rfl, hE⟩ := hrel
    have HE0 := Lib.hid hE
    clear hE
    by_cases hlt : j < rows.length
    · obtain ⟨g, rfl⟩ := HD.out.some (by omega)
      have q0 : (0 : Int) ≤ (j : Int) := by omega
      have q1 : (j : Int) < (rows.length : Int) := by omega
      obtain ⟨x0, r0, hr, hr0⟩ := WfRow.int_ (HD.out.row (show T 92 = some _ from rfl) hlt)
      obtain ⟨x1, r1, rfl, hr1⟩ := WfRow.int_ hr0
      obtain ⟨x2, r2, rfl, hr2⟩ := WfRow.int_ hr1
      obtain ⟨x3, r3, rfl, hr3⟩ := WfRow.str_ hr2
      obtain ⟨x4, r4, rfl, hr4⟩ := WfRow.sl_ hr3
      obtain ⟨x5, r5, rfl, hr5⟩ := WfRow.sl_ hr4
      obtain ⟨x6, r6, rfl, hr6⟩ := WfRow.sl_ hr5
      obtain rfl := hr6.end_
      clear hr6
      have hc := cRows_next hlt
      have hc2 := cRows_le rows (j + 1)
      rw [hr] at hc
      have hc3 : cRow [.i x0, .i x1, .i x2, .s x3, .l x4, .l x5, .l x6] = 1 + (1 + (1 + (1 + (cRows x4 + (cRows x5 + (cRows x6 + 0)))))) := rfl
      have hq0 : 1 ≤ k + cRows (rows.take j) := by omega
      have hq1 : k + cRows (rows.take j) + cRow [.i x0, .i x1, .i x2, .s x3, .l x4, .l x5, .l x6] ≤ 4611686018427387904 := by omega
      rw [hc3] at hq1
      have hmk := mkAt_next (mt := mt) (k := k) hlt (Eq.symm (congrArg (mkRow mt (k + cRows (rows.take j))) hr))
      have hX := (mkAt_row (mt := mt) (k := k) hlt).trans hr
      have hl : j < (mkAt mt k rows j).length := by rw [mkAt_length]; exact hlt
      have hnext : k + (cRows (rows.take (j + 1)) : Int) = k + cRows (rows.take j) + cRow [.i x0, .i x1, .i x2, .s x3, .l x4, .l x5, .l x6] := by omega
      rw [hc3] at hnext
      obtain ⟨X, hXX⟩ : ∃ X, mkAt mt k rows j = X := ⟨_, rfl⟩
      rw [hXX] at hX hl hmk HE0
      obtain ⟨q, hq⟩ : ∃ q, k + (cRows (rows.take j) : Int) = q := ⟨_, rfl⟩
      rw [hq] at hq0 hq1 hmk hnext ⊢
      have hm4 : wD (.l x4) < wD (.l rows) := wD_part hlt (j := 4) (by rw [hr]; rfl)
      have hm5 : wD (.l x5) < wD (.l rows) := wD_part hlt (j := 5) (by rw [hr]; rfl)
      have hm6 : wD (.l x6) < wD (.l rows) := wD_part hlt (j := 6) (by rw [hr]; rfl)
      clear hc hc2 hXX hc3
      obtain ⟨-, hF, -, ub1, db1, Gb1, cb1, fb1, rb1, Db1, sb1, pb1, wb1⟩ := DeepV.part HE0.out.deep (show T 92 = some _ from rfl) (k := j) (j := 0) hlt rfl (o := j * 7) (by first | rfl | simp)
      have V1 := wb1 (fun e h => by cases h) (.int .i64 (q)) (.i (q)) (.int _ _ (inK_pos (by omega) (by omega)))
      rw [show setD X j 0 (.i (q)) = X.set j [.i (q), .i x1, .i x2, .s x3, .l x4, .l x5, .l x6] from setD_one hX] at V1
      have H1 := Lib.hid ((HE0.out).store hF V1)
      clear V1 rb1 Db1 sb1 pb1 wb1
      obtain ⟨-, hF, -, ub2, db2, Gb2, cb2, fb2, rb2, Db2, sb2, pb2, wb2⟩ := DeepV.part HE0.out.deep (show T 92 = some _ from rfl) (k := j) (j := 1) hlt rfl (o := j * 7 + 1) (by first | rfl | simp)
      obtain ⟨-, hF, -, uc2, dc2, Gc2, cc2, fc2, rc2, Dc2, sc2, pc2, wc2⟩ := DeepV.part H1.out.deep (show T 92 = some _ from rfl) (k := j) (j := 1) hlt rfl (o := j * 7 + 1) (by first | rfl | simp)
      have V2 := wc2 (fun e h => by cases h) (.int .i64 (q + 1)) (.i (q + 1)) (.int _ _ (inK_pos (by omega) (by omega)))
      rw [show setD (X.set j [.i (q), .i x1, .i x2, .s x3, .l x4, .l x5, .l x6]) j 1 (.i (q + 1)) = X.set j [.i (q), .i (q + 1), .i x2, .s x3, .l x4, .l x5, .l x6] from setD_set hl] at V2
      have H2 := Lib.hid ((H1.out).store hF V2)
      clear V2 rb2 Db2 sb2 pb2 wb2 rc2 Dc2 sc2 pc2 wc2 cc2 fc2
      obtain ⟨-, hF, -, ub3, db3, Gb3, cb3, fb3, rb3, Db3, sb3, pb3, wb3⟩ := DeepV.part HE0.out.deep (show T 92 = some _ from rfl) (k := j) (j := 2) hlt rfl (o := j * 7 + 2) (by first | rfl | simp)
      obtain ⟨-, hF, -, uc3, dc3, Gc3, cc3, fc3, rc3, Dc3, sc3, pc3, wc3⟩ := DeepV.part H2.out.deep (show T 92 = some _ from rfl) (k := j) (j := 2) hlt rfl (o := j * 7 + 2) (by first | rfl | simp)
      have V3 := wc3 (fun e h => by cases h) (.int .i64 (q + 1 + 1)) (.i (q + 1 + 1)) (.int _ _ (inK_pos (by omega) (by omega)))
      rw [show setD (X.set j [.i (q), .i (q + 1), .i x2, .s x3, .l x4, .l x5, .l x6]) j 2 (.i (q + 1 + 1)) = X.set j [.i (q), .i (q + 1), .i (q + 1 + 1), .s x3, .l x4, .l x5, .l x6] from setD_set hl] at V3
      have H3 := Lib.hid ((H2.out).store hF V3)
      clear V3 rb3 Db3 sb3 pb3 wb3 rc3 Dc3 sc3 pc3 wc3 cc3 fc3
      go_wp2_with fail
      refine (hmt.mark (H3.out).deep.lt ((H3.out).gl HG.out) (k := q + 1 + 1 + 1) (by omega) (by omega)).mono ?_; rintro e wr4 ⟨rfl, hsz4, hb4⟩
      have H4 := Lib.hid ((H3.out).below hb4)
      clear hb4
      obtain ⟨-, hF, -, ub4, db4, Gb4, cb4, fb4, rb4, Db4, sb4, pb4, wb4⟩ := DeepV.part H4.out.deep (show T 92 = some _ from rfl) (k := j) (j := 3) hlt rfl (o := j * 7 + 3) (by first | rfl | simp)
      have V4 := wb4 (fun e h => by cases h) (.string (mt (q + 1 + 1 + 1))) (.s (mt (q + 1 + 1 + 1))) (.str _ hsz4)
      rw [show setD (X.set j [.i (q), .i (q + 1), .i (q + 1 + 1), .s x3, .l x4, .l x5, .l x6]) j 3 (.s (mt (q + 1 + 1 + 1))) = X.set j [.i (q), .i (q + 1), .i (q + 1 + 1), .s (mt (q + 1 + 1 + 1)), .l x4, .l x5, .l x6] from setD_set hl] at V4
      have K4 := Lib.hid ((H4.out).store hF V4)
      clear V4 rb4 Db4 sb4 pb4 wb4
      obtain ⟨-, hF, -, uc5, dc5, Gc5, cc5, fc5, rc5, Dc5, sc5, pc5, wc5⟩ := DeepV.part K4.out.deep (show T 92 = some _ from rfl) (k := j) (j := 4) hlt rfl (o := j * 7 + 4) (by first | rfl | simp)
      obtain rfl := cell_set hl rc5 (show ([.i (q), .i (q + 1), .i (q + 1 + 1), .s (mt (q + 1 + 1 + 1)), .l x4, .l x5, .l x6] : List D)[4]? = some (.l x4) from rfl)
      rw [World.cell?_setCell_other _ _ _ _ (by intro h; simp only [Addr.mk.injEq] at h; omega)] at cc5
      clear fc5 wc5 rc5
      go_wp2_with fail
      refine (ih _ Gc5 uc5 x4 (q + 1 + 1 + 1 + 1) (by omega) (by omega) (by omega) (((K4.out).gl HG.out).less fun b h => (sc5 b h).1) Dc5).mono ?_; rintro e wr5 ⟨rfl, hN5⟩
      have V5 := pc5 _ _ (fun b hb hg => hN5.block b ((K4.out).deep.lt b hb) hg) hN5.deep
      rw [show setD (X.set j [.i (q), .i (q + 1), .i (q + 1 + 1), .s (mt (q + 1 + 1 + 1)), .l x4, .l x5, .l x6]) j 4 (.l (mkRows mt (q + 1 + 1 + 1 + 1) x4)) = X.set j [.i (q), .i (q + 1), .i (q + 1 + 1), .s (mt (q + 1 + 1 + 1)), .l (mkRows mt (q + 1 + 1 + 1 + 1) x4), .l x5, .l x6] from setD_set hl] at V5
      have H5 := Lib.hid ((K4.out).call hN5 (fun b h => (sc5 b h).1) V5)
      clear V5 hN5 Dc5 sc5 pc5 cc5
      obtain ⟨-, hF, -, uc6, dc6, Gc6, cc6, fc6, rc6, Dc6, sc6, pc6, wc6⟩ := DeepV.part H5.out.deep (show T 92 = some _ from rfl) (k := j) (j := 5) hlt rfl (o := j * 7 + 5) (by first | rfl | simp)
      obtain rfl := cell_set hl rc6 (show ([.i (q), .i (q + 1), .i (q + 1 + 1), .s (mt (q + 1 + 1 + 1)), .l (mkRows mt (q + 1 + 1 + 1 + 1) x4), .l x5, .l x6] : List D)[5]? = some (.l x5) from rfl)
      clear fc6 wc6 rc6
      go_wp2_with fail
      refine ((mk_56 mt hmt (wD (.l x5) + 1)) _ Gc6 uc6 x5 (q + 1 + 1 + 1 + 1 + cRows x4) (by omega) (by omega) (Nat.lt_succ_self _) (((H5.out).gl HG.out).less fun b h => (sc6 b h).1) Dc6).mono ?_; rintro e wr6 ⟨rfl, hN6⟩
      have V6 := pc6 _ _ (fun b hb hg => hN6.block b ((H5.out).deep.lt b hb) hg) hN6.deep
      rw [show setD (X.set j [.i (q), .i (q + 1), .i (q + 1 + 1), .s (mt (q + 1 + 1 + 1)), .l (mkRows mt (q + 1 + 1 + 1 + 1) x4), .l x5, .l x6]) j 5 (.l (mkRows mt (q + 1 + 1 + 1 + 1 + cRows x4) x5)) = X.set j [.i (q), .i (q + 1), .i (q + 1 + 1), .s (mt (q + 1 + 1 + 1)), .l (mkRows mt (q + 1 + 1 + 1 + 1) x4), .l (mkRows mt (q + 1 + 1 + 1 + 1 + cRows x4) x5), .l x6] from setD_set hl] at V6
      have H6 := Lib.hid ((H5.out).call hN6 (fun b h => (sc6 b h).1) V6)
      clear V6 hN6 Dc6 sc6 pc6 cc6
      obtain ⟨-, hF, -, uc7, dc7, Gc7, cc7, fc7, rc7, Dc7, sc7, pc7, wc7⟩ := DeepV.part H6.out.deep (show T 92 = some _ from rfl) (k := j) (j := 6) hlt rfl (o := j * 7 + 6) (by first | rfl | simp)
      obtain rfl := cell_set hl rc7 (show ([.i (q), .i (q + 1), .i (q + 1 + 1), .s (mt (q + 1 + 1 + 1)), .l (mkRows mt (q + 1 + 1 + 1 + 1) x4), .l (mkRows mt (q + 1 + 1 + 1 + 1 + cRows x4) x5), .l x6] : List D)[6]? = some (.l x6) from rfl)
      clear fc7 wc7 rc7
      go_wp2_with fail
      refine ((mk_57 mt (wD (.l x6) + 1)) _ Gc7 uc7 x6 (q + 1 + 1 + 1 + 1 + cRows x4 + cRows x5) (by omega) (by omega) (Nat.lt_succ_self _) (((H6.out).gl HG.out).less fun b h => (sc7 b h).1) Dc7).mono ?_; rintro e wr7 ⟨rfl, hN7⟩
      have V7 := pc7 _ _ (fun b hb hg => hN7.block b ((H6.out).deep.lt b hb) hg) hN7.deep
      rw [show setD (X.set j [.i (q), .i (q + 1), .i (q + 1 + 1), .s (mt (q + 1 + 1 + 1)), .l (mkRows mt (q + 1 + 1 + 1 + 1) x4), .l (mkRows mt (q + 1 + 1 + 1 + 1 + cRows x4) x5), .l x6]) j 6 (.l (mkRows mt (q + 1 + 1 + 1 + 1 + cRows x4 + cRows x5) x6)) = X.set j [.i (q), .i (q + 1), .i (q + 1 + 1), .s (mt (q + 1 + 1 + 1)), .l (mkRows mt (q + 1 + 1 + 1 + 1) x4), .l (mkRows mt (q + 1 + 1 + 1 + 1 + cRows x4) x5), .l (mkRows mt (q + 1 + 1 + 1 + 1 + cRows x4 + cRows x5) x6)] from setD_set hl] at V7
      have H7 := Lib.hid ((H6.out).call hN7 (fun b h => (sc7 b h).1) V7)
      clear V7 hN7 Dc7 sc7 pc7 cc7
      go_wp2
      rw [show X.set j [.i (q), .i (q + 1), .i (q + 1 + 1), .s (mt (q + 1 + 1 + 1)), .l (mkRows mt (q + 1 + 1 + 1 + 1) x4), .l (mkRows mt (q + 1 + 1 + 1 + 1 + cRows x4) x5), .l (mkRows mt (q + 1 + 1 + 1 + 1 + cRows x4 + cRows x5) x6)] = mkAt mt k rows (j + 1) from hmk] at H7
      exact ⟨⟨j + 1, hlt, by go_num, congrArg (Value.int IntKind.i64) (by omega), H7.out⟩, by simp [Go.RowKit.intOf]; omega⟩
    · have nlt : ¬ (j : Int) < (rows.length : Int) := by omega
      have ht : rows.take j = rows := List.take_of_length_le (by omega)
      have ha := mkAt_all (mt := mt) (k := k) (a := rows) (i := j) (by omega)
      go_wp2
      go_ret
      exact ⟨rfl, by rw [← ha]; exact HE0.out⟩
theorem mk_55 (mt : Int → ByteArray) (hmt : FOk Tryz.prog T 41 (spMT mt)) : ∀ n, MkOk Tryz.prog T mt 55 92 n
  | 0 => fun _ _ _ _ _ _ _ h => absurd h (Nat.not_lt_zero _)
  | n + 1 => mkS_55 mt hmt n (mk_55 mt hmt n)
theorem mk_42 (mt : Int → ByteArray) (hmt : FOk Tryz.prog T 41 (spMT mt)) (n : Nat) : MkOk Tryz.prog T mt 42 94 n := by
  intro w F v rows k hk hb hn hgl hD
  obtain ⟨A, c, rfl⟩ := hD.slice
  have HD := Lib.hid hD
  have HG := Lib.hid hgl
  have hs := hD.short
  simp only [maxLen] at hs
  clear hD hgl
  go_enter Tryz.func42, Tryz.ntmps42
  go_wp2_with fail
  go_loopw [1, 5] (fun q i wr => ∃ j : Nat, j ≤ rows.length ∧ i = .int .i64 j ∧ q = .int .i64 (k + cRows (rows.take j)) ∧ MkEnd T w wr F 94 (.slice A rows.length c) (mkAt mt k rows j)) (fun _ i _ => rows.length - (intOf i).toNat)
  case atStart => exact ⟨0, Nat.zero_le _, rfl, by simp [cRows], by rw [mkAt_zero]; exact MkEnd.refl HD.out⟩
  case round =>
    obtain ⟨j, hj, rfl, rfl, hE⟩ := hrel
    have HE0 := Lib.hid hE
    clear hE
    by_cases hlt : j < rows.length
    · obtain ⟨g, rfl⟩ := HD.out.some (by omega)
      have q0 : (0 : Int) ≤ (j : Int) := by omega
      have q1 : (j : Int) < (rows.length : Int) := by omega
      obtain ⟨x0, r0, hr, hr0⟩ := WfRow.int_ (HD.out.row (show T 94 = some _ from rfl) hlt)
      obtain ⟨x1, r1, rfl, hr1⟩ := WfRow.int_ hr0
      obtain ⟨x2, r2, rfl, hr2⟩ := WfRow.int_ hr1
      obtain ⟨x3, r3, rfl, hr3⟩ := WfRow.str_ hr2
      obtain ⟨x4, r4, rfl, hr4⟩ := WfRow.int_ hr3
      obtain ⟨x5, r5, rfl, hr5⟩ := WfRow.int_ hr4
      obtain ⟨x6, r6, rfl, hr6⟩ := WfRow.int_ hr5
      obtain ⟨x7, r7, rfl, hr7⟩ := WfRow.str_ hr6
      obtain ⟨x8, r8, rfl, hr8⟩ := WfRow.sl_ hr7
      obtain ⟨x9, r9, rfl, hr9⟩ := WfRow.sl_ hr8
      obtain ⟨x10, r10, rfl, hr10⟩ := WfRow.sl_ hr9
      obtain rfl := hr10.end_
      clear hr10
      have hc := cRows_next hlt
      have hc2 := cRows_le rows (j + 1)
      rw [hr] at hc
      have hc3 : cRow [.i x0, .i x1, .i x2, .s x3, .i x4, .i x5, .i x6, .s x7, .l x8, .l x9, .l x10] = 1 + (1 + (1 + (1 + (1 + (1 + (1 + (1 + (cRows x8 + (cRows x9 + (cRows x10 + 0)))))))))) := rfl
      have hq0 : 1 ≤ k + cRows (rows.take j) := by omega
      have hq1 : k + cRows (rows.take j) + cRow [.i x0, .i x1, .i x2, .s x3, .i x4, .i x5, .i x6, .s x7, .l x8, .l x9, .l x10] ≤ 4611686018427387904 := by omega
      rw [hc3] at hq1
      have hmk := mkAt_next (mt := mt) (k := k) hlt (Eq.symm (congrArg (mkRow mt (k + cRows (rows.take j))) hr))
      have hX := (mkAt_row (mt := mt) (k := k) hlt).trans hr
      have hl : j < (mkAt mt k rows j).length := by rw [mkAt_length]; exact hlt
      have hnext : k + (cRows (rows.take (j + 1)) : Int) = k + cRows (rows.take j) + cRow [.i x0, .i x1, .i x2, .s x3, .i x4, .i x5, .i x6, .s x7, .l x8, .l x9, .l x10] := by omega
      rw [hc3] at hnext
      obtain ⟨X, hXX⟩ : ∃ X, mkAt mt k rows j = X := ⟨_, rfl⟩
      rw [hXX] at hX hl hmk HE0
      obtain ⟨q, hq⟩ : ∃ q, k + (cRows (rows.take j) : Int) = q := ⟨_, rfl⟩
      rw [hq] at hq0 hq1 hmk hnext ⊢
      have hm8 : wD (.l x8) < wD (.l rows) := wD_part hlt (j := 8) (by rw [hr]; rfl)
      have hm9 : wD (.l x9) < wD (.l rows) := wD_part hlt (j := 9) (by rw [hr]; rfl)
      have hm10 : wD (.l x10) < wD (.l rows) := wD_part hlt (j := 10) (by rw [hr]; rfl)
      clear hc hc2 hXX hc3
      obtain ⟨-, hF, -, ub1, db1, Gb1, cb1, fb1, rb1, Db1, sb1, pb1, wb1⟩ := DeepV.part HE0.out.deep (show T 94 = some _ from rfl) (k := j) (j := 0) hlt rfl (o := j * 11) (by first | rfl | simp)
      have V1 := wb1 (fun e h => by cases h) (.int .i64 (q)) (.i (q)) (.int _ _ (inK_pos (by omega) (by omega)))
      rw [show setD X j 0 (.i (q)) = X.set j [.i (q), .i x1, .i x2, .s x3, .i x4, .i x5, .i x6, .s x7, .l x8, .l x9, .l x10] from setD_one hX] at V1
      have H1 := Lib.hid ((HE0.out).store hF V1)
      clear V1 rb1 Db1 sb1 pb1 wb1
      obtain ⟨-, hF, -, ub2, db2, Gb2, cb2, fb2, rb2, Db2, sb2, pb2, wb2⟩ := DeepV.part HE0.out.deep (show T 94 = some _ from rfl) (k := j) (j := 1) hlt rfl (o := j * 11 + 1) (by first | rfl | simp)
      obtain ⟨-, hF, -, uc2, dc2, Gc2, cc2, fc2, rc2, Dc2, sc2, pc2, wc2⟩ := DeepV.part H1.out.deep (show T 94 = some _ from rfl) (k := j) (j := 1) hlt rfl (o := j * 11 + 1) (by first | rfl | simp)
      have V2 := wc2 (fun e h => by cases h) (.int .i64 (q + 1)) (.i (q + 1)) (.int _ _ (inK_pos (by omega) (by omega)))
      rw [show setD (X.set j [.i (q), .i x1, .i x2, .s x3, .i x4, .i x5, .i x6, .s x7, .l x8, .l x9, .l x10]) j 1 (.i (q + 1)) = X.set j [.i (q), .i (q + 1), .i x2, .s x3, .i x4, .i x5, .i x6, .s x7, .l x8, .l x9, .l x10] from setD_set hl] at V2
      have H2 := Lib.hid ((H1.out).store hF V2)
      clear V2 rb2 Db2 sb2 pb2 wb2 rc2 Dc2 sc2 pc2 wc2 cc2 fc2
      obtain ⟨-, hF, -, ub3, db3, Gb3, cb3, fb3, rb3, Db3, sb3, pb3, wb3⟩ := DeepV.part HE0.out.deep (show T 94 = some _ from rfl) (k := j) (j := 2) hlt rfl (o := j * 11 + 2) (by first | rfl | simp)
      obtain ⟨-, hF, -, uc3, dc3, Gc3, cc3, fc3, rc3, Dc3, sc3, pc3, wc3⟩ := DeepV.part H2.out.deep (show T 94 = some _ from rfl) (k := j) (j := 2) hlt rfl (o := j * 11 + 2) (by first | rfl | simp)
      have V3 := wc3 (fun e h => by cases h) (.int .i64 (q + 1 + 1)) (.i (q + 1 + 1)) (.int _ _ (inK_pos (by omega) (by omega)))
      rw [show setD (X.set j [.i (q), .i (q + 1), .i x2, .s x3, .i x4, .i x5, .i x6, .s x7, .l x8, .l x9, .l x10]) j 2 (.i (q + 1 + 1)) = X.set j [.i (q), .i (q + 1), .i (q + 1 + 1), .s x3, .i x4, .i x5, .i x6, .s x7, .l x8, .l x9, .l x10] from setD_set hl] at V3
      have H3 := Lib.hid ((H2.out).store hF V3)
      clear V3 rb3 Db3 sb3 pb3 wb3 rc3 Dc3 sc3 pc3 wc3 cc3 fc3
      go_wp2_with fail
      refine (hmt.mark (H3.out).deep.lt ((H3.out).gl HG.out) (k := q + 1 + 1 + 1) (by omega) (by omega)).mono ?_; rintro e wr4 ⟨rfl, hsz4, hb4⟩
      have H4 := Lib.hid ((H3.out).below hb4)
      clear hb4
      obtain ⟨-, hF, -, ub4, db4, Gb4, cb4, fb4, rb4, Db4, sb4, pb4, wb4⟩ := DeepV.part H4.out.deep (show T 94 = some _ from rfl) (k := j) (j := 3) hlt rfl (o := j * 11 + 3) (by first | rfl | simp)
      have V4 := wb4 (fun e h => by cases h) (.string (mt (q + 1 + 1 + 1))) (.s (mt (q + 1 + 1 + 1))) (.str _ hsz4)
      rw [show setD (X.set j [.i (q), .i (q + 1), .i (q + 1 + 1), .s x3, .i x4, .i x5, .i x6, .s x7, .l x8, .l x9, .l x10]) j 3 (.s (mt (q + 1 + 1 + 1))) = X.set j [.i (q), .i (q + 1), .i (q + 1 + 1), .s (mt (q + 1 + 1 + 1)), .i x4, .i x5, .i x6, .s x7, .l x8, .l x9, .l x10] from setD_set hl] at V4
      have K4 := Lib.hid ((H4.out).store hF V4)
      clear V4 rb4 Db4 sb4 pb4 wb4
      obtain ⟨-, hF, -, ub5, db5, Gb5, cb5, fb5, rb5, Db5, sb5, pb5, wb5⟩ := DeepV.part H4.out.deep (show T 94 = some _ from rfl) (k := j) (j := 4) hlt rfl (o := j * 11 + 4) (by first | rfl | simp)
      obtain ⟨-, hF, -, uc5, dc5, Gc5, cc5, fc5, rc5, Dc5, sc5, pc5, wc5⟩ := DeepV.part K4.out.deep (show T 94 = some _ from rfl) (k := j) (j := 4) hlt rfl (o := j * 11 + 4) (by first | rfl | simp)
      have V5 := wc5 (fun e h => by cases h) (.int .i64 (q + 1 + 1 + 1 + 1)) (.i (q + 1 + 1 + 1 + 1)) (.int _ _ (inK_pos (by omega) (by omega)))
      rw [show setD (X.set j [.i (q), .i (q + 1), .i (q + 1 + 1), .s (mt (q + 1 + 1 + 1)), .i x4, .i x5, .i x6, .s x7, .l x8, .l x9, .l x10]) j 4 (.i (q + 1 + 1 + 1 + 1)) = X.set j [.i (q), .i (q + 1), .i (q + 1 + 1), .s (mt (q + 1 + 1 + 1)), .i (q + 1 + 1 + 1 + 1), .i x5, .i x6, .s x7, .l x8, .l x9, .l x10] from setD_set hl] at V5
      have H5 := Lib.hid ((K4.out).store hF V5)
      clear V5 rb5 Db5 sb5 pb5 wb5 rc5 Dc5 sc5 pc5 wc5 cc5 fc5
      obtain ⟨-, hF, -, ub6, db6, Gb6, cb6, fb6, rb6, Db6, sb6, pb6, wb6⟩ := DeepV.part H4.out.deep (show T 94 = some _ from rfl) (k := j) (j := 5) hlt rfl (o := j * 11 + 5) (by first | rfl | simp)
      obtain ⟨-, hF, -, uc6, dc6, Gc6, cc6, fc6, rc6, Dc6, sc6, pc6, wc6⟩ := DeepV.part H5.out.deep (show T 94 = some _ from rfl) (k := j) (j := 5) hlt rfl (o := j * 11 + 5) (by first | rfl | simp)
      have V6 := wc6 (fun e h => by cases h) (.int .i64 (q + 1 + 1 + 1 + 1 + 1)) (.i (q + 1 + 1 + 1 + 1 + 1)) (.int _ _ (inK_pos (by omega) (by omega)))
      rw [show setD (X.set j [.i (q), .i (q + 1), .i (q + 1 + 1), .s (mt (q + 1 + 1 + 1)), .i (q + 1 + 1 + 1 + 1), .i x5, .i x6, .s x7, .l x8, .l x9, .l x10]) j 5 (.i (q + 1 + 1 + 1 + 1 + 1)) = X.set j [.i (q), .i (q + 1), .i (q + 1 + 1), .s (mt (q + 1 + 1 + 1)), .i (q + 1 + 1 + 1 + 1), .i (q + 1 + 1 + 1 + 1 + 1), .i x6, .s x7, .l x8, .l x9, .l x10] from setD_set hl] at V6
      have H6 := Lib.hid ((H5.out).store hF V6)
      clear V6 rb6 Db6 sb6 pb6 wb6 rc6 Dc6 sc6 pc6 wc6 cc6 fc6
      obtain ⟨-, hF, -, ub7, db7, Gb7, cb7, fb7, rb7, Db7, sb7, pb7, wb7⟩ := DeepV.part H4.out.deep (show T 94 = some _ from rfl) (k := j) (j := 6) hlt rfl (o := j * 11 + 6) (by first | rfl | simp)
      obtain ⟨-, hF, -, uc7, dc7, Gc7, cc7, fc7, rc7, Dc7, sc7, pc7, wc7⟩ := DeepV.part H6.out.deep (show T 94 = some _ from rfl) (k := j) (j := 6) hlt rfl (o := j * 11 + 6) (by first | rfl | simp)
      have V7 := wc7 (fun e h => by cases h) (.int .i64 (q + 1 + 1 + 1 + 1 + 1 + 1)) (.i (q + 1 + 1 + 1 + 1 + 1 + 1)) (.int _ _ (inK_pos (by omega) (by omega)))
      rw [show setD (X.set j [.i (q), .i (q + 1), .i (q + 1 + 1), .s (mt (q + 1 + 1 + 1)), .i (q + 1 + 1 + 1 + 1), .i (q + 1 + 1 + 1 + 1 + 1), .i x6, .s x7, .l x8, .l x9, .l x10]) j 6 (.i (q + 1 + 1 + 1 + 1 + 1 + 1)) = X.set j [.i (q), .i (q + 1), .i (q + 1 + 1), .s (mt (q + 1 + 1 + 1)), .i (q + 1 + 1 + 1 + 1), .i (q + 1 + 1 + 1 + 1 + 1), .i (q + 1 + 1 + 1 + 1 + 1 + 1), .s x7, .l x8, .l x9, .l x10] from setD_set hl] at V7
      have H7 := Lib.hid ((H6.out).store hF V7)
      clear V7 rb7 Db7 sb7 pb7 wb7 rc7 Dc7 sc7 pc7 wc7 cc7 fc7
      go_wp2_with fail
      refine (hmt.mark (H7.out).deep.lt ((H7.out).gl HG.out) (k := q + 1 + 1 + 1 + 1 + 1 + 1 + 1) (by omega) (by omega)).mono ?_; rintro e wr8 ⟨rfl, hsz8, hb8⟩
      have H8 := Lib.hid ((H7.out).below hb8)
      clear hb8
      obtain ⟨-, hF, -, ub8, db8, Gb8, cb8, fb8, rb8, Db8, sb8, pb8, wb8⟩ := DeepV.part H8.out.deep (show T 94 = some _ from rfl) (k := j) (j := 7) hlt rfl (o := j * 11 + 7) (by first | rfl | simp)
      have V8 := wb8 (fun e h => by cases h) (.string (mt (q + 1 + 1 + 1 + 1 + 1 + 1 + 1))) (.s (mt (q + 1 + 1 + 1 + 1 + 1 + 1 + 1))) (.str _ hsz8)
      rw [show setD (X.set j [.i (q), .i (q + 1), .i (q + 1 + 1), .s (mt (q + 1 + 1 + 1)), .i (q + 1 + 1 + 1 + 1), .i (q + 1 + 1 + 1 + 1 + 1), .i (q + 1 + 1 + 1 + 1 + 1 + 1), .s x7, .l x8, .l x9, .l x10]) j 7 (.s (mt (q + 1 + 1 + 1 + 1 + 1 + 1 + 1))) = X.set j [.i (q), .i (q + 1), .i (q + 1 + 1), .s (mt (q + 1 + 1 + 1)), .i (q + 1 + 1 + 1 + 1), .i (q + 1 + 1 + 1 + 1 + 1), .i (q + 1 + 1 + 1 + 1 + 1 + 1), .s (mt (q + 1 + 1 + 1 + 1 + 1 + 1 + 1)), .l x8, .l x9, .l x10] from setD_set hl] at V8
      have K8 := Lib.hid ((H8.out).store hF V8)
      clear V8 rb8 Db8 sb8 pb8 wb8
      obtain ⟨-, hF, -, uc9, dc9, Gc9, cc9, fc9, rc9, Dc9, sc9, pc9, wc9⟩ := DeepV.part K8.out.deep (show T 94 = some _ from rfl) (k := j) (j := 8) hlt rfl (o := j * 11 + 8) (by first | rfl | simp)
      obtain rfl := cell_set hl rc9 (show ([.i (q), .i (q + 1), .i (q + 1 + 1), .s (mt (q + 1 + 1 + 1)), .i (q + 1 + 1 + 1 + 1), .i (q + 1 + 1 + 1 + 1 + 1), .i (q + 1 + 1 + 1 + 1 + 1 + 1), .s (mt (q + 1 + 1 + 1 + 1 + 1 + 1 + 1)), .l x8, .l x9, .l x10] : List D)[8]? = some (.l x8) from rfl)
      rw [World.cell?_setCell_other _ _ _ _ (by intro h; simp only [Addr.mk.injEq] at h; omega)] at cc9
      clear fc9 wc9 rc9
      go_wp2_with fail
      refine ((mk_55 mt hmt (wD (.l x8) + 1)) _ Gc9 uc9 x8 (q + 1 + 1 + 1 + 1 + 1 + 1 + 1 + 1) (by omega) (by omega) (Nat.lt_succ_self _) (((K8.out).gl HG.out).less fun b h => (sc9 b h).1) Dc9).mono ?_; rintro e wr9 ⟨rfl, hN9⟩
      have V9 := pc9 _ _ (fun b hb hg => hN9.block b ((K8.out).deep.lt b hb) hg) hN9.deep
      rw [show setD (X.set j [.i (q), .i (q + 1), .i (q + 1 + 1), .s (mt (q + 1 + 1 + 1)), .i (q + 1 + 1 + 1 + 1), .i (q + 1 + 1 + 1 + 1 + 1), .i (q + 1 + 1 + 1 + 1 + 1 + 1), .s (mt (q + 1 + 1 + 1 + 1 + 1 + 1 + 1)), .l x8, .l x9, .l x10]) j 8 (.l (mkRows mt (q + 1 + 1 + 1 + 1 + 1 + 1 + 1 + 1) x8)) = X.set j [.i (q), .i (q + 1), .i (q + 1 + 1), .s (mt (q + 1 + 1 + 1)), .i (q + 1 + 1 + 1 + 1), .i (q + 1 + 1 + 1 + 1 + 1), .i (q + 1 + 1 + 1 + 1 + 1 + 1), .s (mt (q + 1 + 1 + 1 + 1 + 1 + 1 + 1)), .l (mkRows mt (q + 1 + 1 + 1 + 1 + 1 + 1 + 1 + 1) x8), .l x9, .l x10] from setD_set hl] at V9
      have H9 := Lib.hid ((K8.out).call hN9 (fun b h => (sc9 b h).1) V9)
      clear V9 hN9 Dc9 sc9 pc9 cc9
      obtain ⟨-, hF, -, uc10, dc10, Gc10, cc10, fc10, rc10, Dc10, sc10, pc10, wc10⟩ := DeepV.part H9.out.deep (show T 94 = some _ from rfl) (k := j) (j := 9) hlt rfl (o := j * 11 + 9) (by first | rfl | simp)
      obtain rfl := cell_set hl rc10 (show ([.i (q), .i (q + 1), .i (q + 1 + 1), .s (mt (q + 1 + 1 + 1)), .i (q + 1 + 1 + 1 + 1), .i (q + 1 + 1 + 1 + 1 + 1), .i (q + 1 + 1 + 1 + 1 + 1 + 1), .s (mt (q + 1 + 1 + 1 + 1 + 1 + 1 + 1)), .l (mkRows mt (q + 1 + 1 + 1 + 1 + 1 + 1 + 1 + 1) x8), .l x9, .l x10] : List D)[9]? = some (.l x9) from rfl)
      clear fc10 wc10 rc10
      go_wp2_with fail
      refine ((mk_56 mt hmt (wD (.l x9) + 1)) _ Gc10 uc10 x9 (q + 1 + 1 + 1 + 1 + 1 + 1 + 1 + 1 + cRows x8) (by omega) (by omega) (Nat.lt_succ_self _) (((H9.out).gl HG.out).less fun b h => (sc10 b h).1) Dc10).mono ?_; rintro e wr10 ⟨rfl, hN10⟩
      have V10 := pc10 _ _ (fun b hb hg => hN10.block b ((H9.out).deep.lt b hb) hg) hN10.deep
      rw [show setD (X.set j [.i (q), .i (q + 1), .i (q + 1 + 1), .s (mt (q + 1 + 1 + 1)), .i (q + 1 + 1 + 1 + 1), .i (q + 1 + 1 + 1 + 1 + 1), .i (q + 1 + 1 + 1 + 1 + 1 + 1), .s (mt (q + 1 + 1 + 1 + 1 + 1 + 1 + 1)), .l (mkRows mt (q + 1 + 1 + 1 + 1 + 1 + 1 + 1 + 1) x8), .l x9, .l x10]) j 9 (.l (mkRows mt (q + 1 + 1 + 1 + 1 + 1 + 1 + 1 + 1 + cRows x8) x9)) = X.set j [.i (q), .i (q + 1), .i (q + 1 + 1), .s (mt (q + 1 + 1 + 1)), .i (q + 1 + 1 + 1 + 1), .i (q + 1 + 1 + 1 + 1 + 1), .i (q + 1 + 1 + 1 + 1 + 1 + 1), .s (mt (q + 1 + 1 + 1 + 1 + 1 + 1 + 1)), .l (mkRows mt (q + 1 + 1 + 1 + 1 + 1 + 1 + 1 + 1) x8), .l (mkRows mt (q + 1 + 1 + 1 + 1 + 1 + 1 + 1 + 1 + cRows x8) x9), .l x10] from setD_set hl] at V10
      have H10 := Lib.hid ((H9.out).call hN10 (fun b h => (sc10 b h).1) V10)
      clear V10 hN10 Dc10 sc10 pc10 cc10
      obtain ⟨-, hF, -, uc11, dc11, Gc11, cc11, fc11, rc11, Dc11, sc11, pc11, wc11⟩ := DeepV.part H10.out.deep (show T 94 = some _ from rfl) (k := j) (j := 10) hlt rfl (o := j * 11 + 10) (by first | rfl | simp)
      obtain rfl := cell_set hl rc11 (show ([.i (q), .i (q + 1), .i (q + 1 + 1), .s (mt (q + 1 + 1 + 1)), .i (q + 1 + 1 + 1 + 1), .i (q + 1 + 1 + 1 + 1 + 1), .i (q + 1 + 1 + 1 + 1 + 1 + 1), .s (mt (q + 1 + 1 + 1 + 1 + 1 + 1 + 1)), .l (mkRows mt (q + 1 + 1 + 1 + 1 + 1 + 1 + 1 + 1) x8), .l (mkRows mt (q + 1 + 1 + 1 + 1 + 1 + 1 + 1 + 1 + cRows x8) x9), .l x10] : List D)[10]? = some (.l x10) from rfl)
      clear fc11 wc11 rc11
      go_wp2_with fail
      refine ((mk_57 mt (wD (.l x10) + 1)) _ Gc11 uc11 x10 (q + 1 + 1 + 1 + 1 + 1 + 1 + 1 + 1 + cRows x8 + cRows x9) (by omega) (by omega) (Nat.lt_succ_self _) (((H10.out).gl HG.out).less fun b h => (sc11 b h).1) Dc11).mono ?_; rintro e wr11 ⟨rfl, hN11⟩
      have V11 := pc11 _ _ (fun b hb hg => hN11.block b ((H10.out).deep.lt b hb) hg) hN11.deep
      rw [show setD (X.set j [.i (q), .i (q + 1), .i (q + 1 + 1), .s (mt (q + 1 + 1 + 1)), .i (q + 1 + 1 + 1 + 1), .i (q + 1 + 1 + 1 + 1 + 1), .i (q + 1 + 1 + 1 + 1 + 1 + 1), .s (mt (q + 1 + 1 + 1 + 1 + 1 + 1 + 1)), .l (mkRows mt (q + 1 + 1 + 1 + 1 + 1 + 1 + 1 + 1) x8), .l (mkRows mt (q + 1 + 1 + 1 + 1 + 1 + 1 + 1 + 1 + cRows x8) x9), .l x10]) j 10 (.l (mkRows mt (q + 1 + 1 + 1 + 1 + 1 + 1 + 1 + 1 + cRows x8 + cRows x9) x10)) = X.set j [.i (q), .i (q + 1), .i (q + 1 + 1), .s (mt (q + 1 + 1 + 1)), .i (q + 1 + 1 + 1 + 1), .i (q + 1 + 1 + 1 + 1 + 1), .i (q + 1 + 1 + 1 + 1 + 1 + 1), .s (mt (q + 1 + 1 + 1 + 1 + 1 + 1 + 1)), .l (mkRows mt (q + 1 + 1 + 1 + 1 + 1 + 1 + 1 + 1) x8), .l (mkRows mt (q + 1 + 1 + 1 + 1 + 1 + 1 + 1 + 1 + cRows x8) x9), .l (mkRows mt (q + 1 + 1 + 1 + 1 + 1 + 1 + 1 + 1 + cRows x8 + cRows x9) x10)] from setD_set hl] at V11
      have H11 := Lib.hid ((H10.out).call hN11 (fun b h => (sc11 b h).1) V11)
      clear V11 hN11 Dc11 sc11 pc11 cc11
      go_wp2
      rw [show X.set j [.i (q), .i (q + 1), .i (q + 1 + 1), .s (mt (q + 1 + 1 + 1)), .i (q + 1 + 1 + 1 + 1), .i (q + 1 + 1 + 1 + 1 + 1), .i (q + 1 + 1 + 1 + 1 + 1 + 1), .s (mt (q + 1 + 1 + 1 + 1 + 1 + 1 + 1)), .l (mkRows mt (q + 1 + 1 + 1 + 1 + 1 + 1 + 1 + 1) x8), .l (mkRows mt (q + 1 + 1 + 1 + 1 + 1 + 1 + 1 + 1 + cRows x8) x9), .l (mkRows mt (q + 1 + 1 + 1 + 1 + 1 + 1 + 1 + 1 + cRows x8 + cRows x9) x10)] = mkAt mt k rows (j + 1) from hmk] at H11
      exact ⟨⟨j + 1, hlt, by go_num, congrArg (Value.int IntKind.i64) (by omega), H11.out⟩, by simp [Go.RowKit.intOf]; omega⟩
    · have nlt : ¬ (j : Int) < (rows.length : Int) := by omega
      have ht : rows.take j = rows := List.take_of_length_le (by omega)
      have ha := mkAt_all (mt := mt) (k := k) (a := rows) (i := j) (by omega)
      go_wp2
      go_ret
      exact ⟨rfl, by rw [← ha]; exact HE0.out⟩
theorem mk_24 (mt : Int → ByteArray) (hmt : FOk Tryz.prog T 41 (spMT mt)) (n : Nat) : MkOk Tryz.prog T mt 24 54 n := by
  intro w F v rows k hk hb hn hgl hD
  obtain ⟨A, c, rfl⟩ := hD.slice
  have HD := Lib.hid hD
  have HG := Lib.hid hgl
  have hs := hD.short
  simp only [maxLen] at hs
  clear hD hgl
  go_enter Tryz.func24, Tryz.ntmps24
  go_wp2_with fail
  go_loopw [1, 5] (fun q i wr => ∃ j : Nat, j ≤ rows.length ∧ i = .int .i64 j ∧ q = .int .i64 (k + cRows (rows.take j)) ∧ MkEnd T w wr F 54 (.slice A rows.length c) (mkAt mt k rows j)) (fun _ i _ => rows.length - (intOf i).toNat)
  case atStart => exact ⟨0, Nat.zero_le _, rfl, by simp [cRows], by rw [mkAt_zero]; exact MkEnd.refl HD.out⟩
  case round =>
    obtain ⟨j, hj, rfl, rfl, hE⟩ := hrel
    have HE0 := Lib.hid hE
    clear hE
    by_cases hlt : j < rows.length
    · obtain ⟨g, rfl⟩ := HD.out.some (by omega)
      have q0 : (0 : Int) ≤ (j : Int) := by omega
      have q1 : (j : Int) < (rows.length : Int) := by omega
      obtain ⟨x0, r0, hr, hr0⟩ := WfRow.int_ (HD.out.row (show T 54 = some _ from rfl) hlt)
      obtain ⟨x1, r1, rfl, hr1⟩ := WfRow.int_ hr0
      obtain ⟨x2, r2, rfl, hr2⟩ := WfRow.int_ hr1
      obtain ⟨x3, r3, rfl, hr3⟩ := WfRow.sl_ hr2
      obtain ⟨x4, r4, rfl, hr4⟩ := WfRow.int_ hr3
      obtain ⟨x5, r5, rfl, hr5⟩ := WfRow.int_ hr4
      obtain ⟨x6, r6, rfl, hr6⟩ := WfRow.int_ hr5
      obtain ⟨x7, r7, rfl, hr7⟩ := WfRow.int_ hr6
      obtain ⟨x8, r8, rfl, hr8⟩ := WfRow.int_ hr7
      obtain ⟨x9, r9, rfl, hr9⟩ := WfRow.str_ hr8
      obtain ⟨x10, r10, rfl, hr10⟩ := WfRow.str_ hr9
      obtain ⟨x11, r11, rfl, hr11⟩ := WfRow.int_ hr10
      obtain ⟨x12, r12, rfl, hr12⟩ := WfRow.str_ hr11
      obtain ⟨x13, r13, rfl, hr13⟩ := WfRow.str_ hr12
      obtain ⟨x14, r14, rfl, hr14⟩ := WfRow.int_ hr13
      obtain ⟨x15, r15, rfl, hr15⟩ := WfRow.int_ hr14
      obtain ⟨x16, r16, rfl, hr16⟩ := WfRow.sl_ hr15
      obtain rfl := hr16.end_
      clear hr16
      have hc := cRows_next hlt
      have hc2 := cRows_le rows (j + 1)
      rw [hr] at hc
      have hc3 : cRow [.i x0, .i x1, .i x2, .l x3, .i x4, .i x5, .i x6, .i x7, .i x8, .s x9, .s x10, .i x11, .s x12, .s x13, .i x14, .i x15, .l x16] = 1 + (1 + (1 + (cRows x3 + (1 + (1 + (1 + (1 + (1 + (1 + (1 + (1 + (1 + (1 + (1 + (1 + (cRows x16 + 0)))))))))))))))) := rfl
      have hq0 : 1 ≤ k + cRows (rows.take j) := by omega
      have hq1 : k + cRows (rows.take j) + cRow [.i x0, .i x1, .i x2, .l x3, .i x4, .i x5, .i x6, .i x7, .i x8, .s x9, .s x10, .i x11, .s x12, .s x13, .i x14, .i x15, .l x16] ≤ 4611686018427387904 := by omega
      rw [hc3] at hq1
      have hmk := mkAt_next (mt := mt) (k := k) hlt (Eq.symm (congrArg (mkRow mt (k + cRows (rows.take j))) hr))
      have hX := (mkAt_row (mt := mt) (k := k) hlt).trans hr
      have hl : j < (mkAt mt k rows j).length := by rw [mkAt_length]; exact hlt
      have hnext : k + (cRows (rows.take (j + 1)) : Int) = k + cRows (rows.take j) + cRow [.i x0, .i x1, .i x2, .l x3, .i x4, .i x5, .i x6, .i x7, .i x8, .s x9, .s x10, .i x11, .s x12, .s x13, .i x14, .i x15, .l x16] := by omega
      rw [hc3] at hnext
      obtain ⟨X, hXX⟩ : ∃ X, mkAt mt k rows j = X := ⟨_, rfl⟩
      rw [hXX] at hX hl hmk HE0
      obtain ⟨q, hq⟩ : ∃ q, k + (cRows (rows.take j) : Int) = q := ⟨_, rfl⟩
      rw [hq] at hq0 hq1 hmk hnext ⊢
      have hm3 : wD (.l x3) < wD (.l rows) := wD_part hlt (j := 3) (by rw [hr]; rfl)
      have hm16 : wD (.l x16) < wD (.l rows) := wD_part hlt (j := 16) (by rw [hr]; rfl)
      clear hc hc2 hXX hc3
      obtain ⟨-, hF, -, ub1, db1, Gb1, cb1, fb1, rb1, Db1, sb1, pb1, wb1⟩ := DeepV.part HE0.out.deep (show T 54 = some _ from rfl) (k := j) (j := 0) hlt rfl (o := j * 17) (by first | rfl | simp)
      have V1 := wb1 (fun e h => by cases h) (.int .i64 (q)) (.i (q)) (.int _ _ (inK_pos (by omega) (by omega)))
      rw [show setD X j 0 (.i (q)) = X.set j [.i (q), .i x1, .i x2, .l x3, .i x4, .i x5, .i x6, .i x7, .i x8, .s x9, .s x10, .i x11, .s x12, .s x13, .i x14, .i x15, .l x16] from setD_one hX] at V1
      have H1 := Lib.hid ((HE0.out).store hF V1)
      clear V1 rb1 Db1 sb1 pb1 wb1
      obtain ⟨-, hF, -, ub2, db2, Gb2, cb2, fb2, rb2, Db2, sb2, pb2, wb2⟩ := DeepV.part HE0.out.deep (show T 54 = some _ from rfl) (k := j) (j := 1) hlt rfl (o := j * 17 + 1) (by first | rfl | simp)
      obtain ⟨-, hF, -, uc2, dc2, Gc2, cc2, fc2, rc2, Dc2, sc2, pc2, wc2⟩ := DeepV.part H1.out.deep (show T 54 = some _ from rfl) (k := j) (j := 1) hlt rfl (o := j * 17 + 1) (by first | rfl | simp)
      have V2 := wc2 (fun e h => by cases h) (.int .i64 (q + 1)) (.i (q + 1)) (.int _ _ (inK_pos (by omega) (by omega)))
      rw [show setD (X.set j [.i (q), .i x1, .i x2, .l x3, .i x4, .i x5, .i x6, .i x7, .i x8, .s x9, .s x10, .i x11, .s x12, .s x13, .i x14, .i x15, .l x16]) j 1 (.i (q + 1)) = X.set j [.i (q), .i (q + 1), .i x2, .l x3, .i x4, .i x5, .i x6, .i x7, .i x8, .s x9, .s x10, .i x11, .s x12, .s x13, .i x14, .i x15, .l x16] from setD_set hl] at V2
      have H2 := Lib.hid ((H1.out).store hF V2)
      clear V2 rb2 Db2 sb2 pb2 wb2 rc2 Dc2 sc2 pc2 wc2 cc2 fc2
      obtain ⟨-, hF, -, ub3, db3, Gb3, cb3, fb3, rb3, Db3, sb3, pb3, wb3⟩ := DeepV.part HE0.out.deep (show T 54 = some _ from rfl) (k := j) (j := 2) hlt rfl (o := j * 17 + 2) (by first | rfl | simp)
      obtain ⟨-, hF, -, uc3, dc3, Gc3, cc3, fc3, rc3, Dc3, sc3, pc3, wc3⟩ := DeepV.part H2.out.deep (show T 54 = some _ from rfl) (k := j) (j := 2) hlt rfl (o := j * 17 + 2) (by first | rfl | simp)
      have V3 := wc3 (fun e h => by cases h) (.int .i64 (q + 1 + 1)) (.i (q + 1 + 1)) (.int _ _ (inK_pos (by omega) (by omega)))
      rw [show setD (X.set j [.i (q), .i (q + 1), .i x2, .l x3, .i x4, .i x5, .i x6, .i x7, .i x8, .s x9, .s x10, .i x11, .s x12, .s x13, .i x14, .i x15, .l x16]) j 2 (.i (q + 1 + 1)) = X.set j [.i (q), .i (q + 1), .i (q + 1 + 1), .l x3, .i x4, .i x5, .i x6, .i x7, .i x8, .s x9, .s x10, .i x11, .s x12, .s x13, .i x14, .i x15, .l x16] from setD_set hl] at V3
      have H3 := Lib.hid ((H2.out).store hF V3)
      clear V3 rb3 Db3 sb3 pb3 wb3 rc3 Dc3 sc3 pc3 wc3 cc3 fc3
      obtain ⟨-, hF, -, uc4, dc4, Gc4, cc4, fc4, rc4, Dc4, sc4, pc4, wc4⟩ := DeepV.part H3.out.deep (show T 54 = some _ from rfl) (k := j) (j := 3) hlt rfl (o := j * 17 + 3) (by first | rfl | simp)
      obtain rfl := cell_set hl rc4 (show ([.i (q), .i (q + 1), .i (q + 1 + 1), .l x3, .i x4, .i x5, .i x6, .i x7, .i x8, .s x9, .s x10, .i x11, .s x12, .s x13, .i x14, .i x15, .l x16] : List D)[3]? = some (.l x3) from rfl)
      rw [World.cell?_setCell_other _ _ _ _ (by intro h; simp only [Addr.mk.injEq] at h; omega), World.cell?_setCell_other _ _ _ _ (by intro h; simp only [Addr.mk.injEq] at h; omega), World.cell?_setCell_other _ _ _ _ (by intro h; simp only [Addr.mk.injEq] at h; omega)] at cc4
      clear fc4 wc4 rc4
      go_wp2_with fail
      refine ((mk_40 mt (wD (.l x3) + 1)) _ Gc4 uc4 x3 (q + 1 + 1 + 1) (by omega) (by omega) (Nat.lt_succ_self _) (((H3.out).gl HG.out).less fun b h => (sc4 b h).1) Dc4).mono ?_; rintro e wr4 ⟨rfl, hN4⟩
      have V4 := pc4 _ _ (fun b hb hg => hN4.block b ((H3.out).deep.lt b hb) hg) hN4.deep
      rw [show setD (X.set j [.i (q), .i (q + 1), .i (q + 1 + 1), .l x3, .i x4, .i x5, .i x6, .i x7, .i x8, .s x9, .s x10, .i x11, .s x12, .s x13, .i x14, .i x15, .l x16]) j 3 (.l (mkRows mt (q + 1 + 1 + 1) x3)) = X.set j [.i (q), .i (q + 1), .i (q + 1 + 1), .l (mkRows mt (q + 1 + 1 + 1) x3), .i x4, .i x5, .i x6, .i x7, .i x8, .s x9, .s x10, .i x11, .s x12, .s x13, .i x14, .i x15, .l x16] from setD_set hl] at V4
      have H4 := Lib.hid ((H3.out).call hN4 (fun b h => (sc4 b h).1) V4)
      clear V4 hN4 Dc4 sc4 pc4 cc4
      obtain ⟨-, hF, -, ub5, db5, Gb5, cb5, fb5, rb5, Db5, sb5, pb5, wb5⟩ := DeepV.part H4.out.deep (show T 54 = some _ from rfl) (k := j) (j := 4) hlt rfl (o := j * 17 + 4) (by first | rfl | simp)
      have V5 := wb5 (fun e h => by cases h) (.int .i64 (q + 1 + 1 + 1 + cRows x3)) (.i (q + 1 + 1 + 1 + cRows x3)) (.int _ _ (inK_pos (by omega) (by omega)))
      rw [show setD (X.set j [.i (q), .i (q + 1), .i (q + 1 + 1), .l (mkRows mt (q + 1 + 1 + 1) x3), .i x4, .i x5, .i x6, .i x7, .i x8, .s x9, .s x10, .i x11, .s x12, .s x13, .i x14, .i x15, .l x16]) j 4 (.i (q + 1 + 1 + 1 + cRows x3)) = X.set j [.i (q), .i (q + 1), .i (q + 1 + 1), .l (mkRows mt (q + 1 + 1 + 1) x3), .i (q + 1 + 1 + 1 + cRows x3), .i x5, .i x6, .i x7, .i x8, .s x9, .s x10, .i x11, .s x12, .s x13, .i x14, .i x15, .l x16] from setD_set hl] at V5
      have H5 := Lib.hid ((H4.out).store hF V5)
      clear V5 rb5 Db5 sb5 pb5 wb5
      obtain ⟨-, hF, -, ub6, db6, Gb6, cb6, fb6, rb6, Db6, sb6, pb6, wb6⟩ := DeepV.part H4.out.deep (show T 54 = some _ from rfl) (k := j) (j := 5) hlt rfl (o := j * 17 + 5) (by first | rfl | simp)
      obtain ⟨-, hF, -, uc6, dc6, Gc6, cc6, fc6, rc6, Dc6, sc6, pc6, wc6⟩ := DeepV.part H5.out.deep (show T 54 = some _ from rfl) (k := j) (j := 5) hlt rfl (o := j * 17 + 5) (by first | rfl | simp)
      have V6 := wc6 (fun e h => by cases h) (.int .i64 (q + 1 + 1 + 1 + cRows x3 + 1)) (.i (q + 1 + 1 + 1 + cRows x3 + 1)) (.int _ _ (inK_pos (by omega) (by omega)))
      rw [show setD (X.set j [.i (q), .i (q + 1), .i (q + 1 + 1), .l (mkRows mt (q + 1 + 1 + 1) x3), .i (q + 1 + 1 + 1 + cRows x3), .i x5, .i x6, .i x7, .i x8, .s x9, .s x10, .i x11, .s x12, .s x13, .i x14, .i x15, .l x16]) j 5 (.i (q + 1 + 1 + 1 + cRows x3 + 1)) = X.set j [.i (q), .i (q + 1), .i (q + 1 + 1), .l (mkRows mt (q + 1 + 1 + 1) x3), .i (q + 1 + 1 + 1 + cRows x3), .i (q + 1 + 1 + 1 + cRows x3 + 1), .i x6, .i x7, .i x8, .s x9, .s x10, .i x11, .s x12, .s x13, .i x14, .i x15, .l x16] from setD_set hl] at V6
      have H6 := Lib.hid ((H5.out).store hF V6)
      clear V6 rb6 Db6 sb6 pb6 wb6 rc6 Dc6 sc6 pc6 wc6 cc6 fc6
      obtain ⟨-, hF, -, ub7, db7, Gb7, cb7, fb7, rb7, Db7, sb7, pb7, wb7⟩ := DeepV.part H4.out.deep (show T 54 = some _ from rfl) (k := j) (j := 6) hlt rfl (o := j * 17 + 6) (by first | rfl | simp)
      obtain ⟨-, hF, -, uc7, dc7, Gc7, cc7, fc7, rc7, Dc7, sc7, pc7, wc7⟩ := DeepV.part H6.out.deep (show T 54 = some _ from rfl) (k := j) (j := 6) hlt rfl (o := j * 17 + 6) (by first | rfl | simp)
      have V7 := wc7 (fun e h => by cases h) (.int .i64 (q + 1 + 1 + 1 + cRows x3 + 1 + 1)) (.i (q + 1 + 1 + 1 + cRows x3 + 1 + 1)) (.int _ _ (inK_pos (by omega) (by omega)))
      rw [show setD (X.set j [.i (q), .i (q + 1), .i (q + 1 + 1), .l (mkRows mt (q + 1 + 1 + 1) x3), .i (q + 1 + 1 + 1 + cRows x3), .i (q + 1 + 1 + 1 + cRows x3 + 1), .i x6, .i x7, .i x8, .s x9, .s x10, .i x11, .s x12, .s x13, .i x14, .i x15, .l x16]) j 6 (.i (q + 1 + 1 + 1 + cRows x3 + 1 + 1)) = X.set j [.i (q), .i (q + 1), .i (q + 1 + 1), .l (mkRows mt (q + 1 + 1 + 1) x3), .i (q + 1 + 1 + 1 + cRows x3), .i (q + 1 + 1 + 1 + cRows x3 + 1), .i (q + 1 + 1 + 1 + cRows x3 + 1 + 1), .i x7, .i x8, .s x9, .s x10, .i x11, .s x12, .s x13, .i x14, .i x15, .l x16] from setD_set hl] at V7
      have H7 := Lib.hid ((H6.out).store hF V7)
      clear V7 rb7 Db7 sb7 pb7 wb7 rc7 Dc7 sc7 pc7 wc7 cc7 fc7
      obtain ⟨-, hF, -, ub8, db8, Gb8, cb8, fb8, rb8, Db8, sb8, pb8, wb8⟩ := DeepV.part H4.out.deep (show T 54 = some _ from rfl) (k := j) (j := 7) hlt rfl (o := j * 17 + 7) (by first | rfl | simp)
      obtain ⟨-, hF, -, uc8, dc8, Gc8, cc8, fc8, rc8, Dc8, sc8, pc8, wc8⟩ := DeepV.part H7.out.deep (show T 54 = some _ from rfl) (k := j) (j := 7) hlt rfl (o := j * 17 + 7) (by first | rfl | simp)
      have V8 := wc8 (fun e h => by cases h) (.int .i64 (q + 1 + 1 + 1 + cRows x3 + 1 + 1 + 1)) (.i (q + 1 + 1 + 1 + cRows x3 + 1 + 1 + 1)) (.int _ _ (inK_pos (by omega) (by omega)))
      rw [show setD (X.set j [.i (q), .i (q + 1), .i (q + 1 + 1), .l (mkRows mt (q + 1 + 1 + 1) x3), .i (q + 1 + 1 + 1 + cRows x3), .i (q + 1 + 1 + 1 + cRows x3 + 1), .i (q + 1 + 1 + 1 + cRows x3 + 1 + 1), .i x7, .i x8, .s x9, .s x10, .i x11, .s x12, .s x13, .i x14, .i x15, .l x16]) j 7 (.i (q + 1 + 1 + 1 + cRows x3 + 1 + 1 + 1)) = X.set j [.i (q), .i (q + 1), .i (q + 1 + 1), .l (mkRows mt (q + 1 + 1 + 1) x3), .i (q + 1 + 1 + 1 + cRows x3), .i (q + 1 + 1 + 1 + cRows x3 + 1), .i (q + 1 + 1 + 1 + cRows x3 + 1 + 1), .i (q + 1 + 1 + 1 + cRows x3 + 1 + 1 + 1), .i x8, .s x9, .s x10, .i x11, .s x12, .s x13, .i x14, .i x15, .l x16] from setD_set hl] at V8
      have H8 := Lib.hid ((H7.out).store hF V8)
      clear V8 rb8 Db8 sb8 pb8 wb8 rc8 Dc8 sc8 pc8 wc8 cc8 fc8
      obtain ⟨-, hF, -, ub9, db9, Gb9, cb9, fb9, rb9, Db9, sb9, pb9, wb9⟩ := DeepV.part H4.out.deep (show T 54 = some _ from rfl) (k := j) (j := 8) hlt rfl (o := j * 17 + 8) (by first | rfl | simp)
      obtain ⟨-, hF, -, uc9, dc9, Gc9, cc9, fc9, rc9, Dc9, sc9, pc9, wc9⟩ := DeepV.part H8.out.deep (show T 54 = some _ from rfl) (k := j) (j := 8) hlt rfl (o := j * 17 + 8) (by first | rfl | simp)
      have V9 := wc9 (fun e h => by cases h) (.int .i64 (q + 1 + 1 + 1 + cRows x3 + 1 + 1 + 1 + 1)) (.i (q + 1 + 1 + 1 + cRows x3 + 1 + 1 + 1 + 1)) (.int _ _ (inK_pos (by omega) (by omega)))
      rw [show setD (X.set j [.i (q), .i (q + 1), .i (q + 1 + 1), .l (mkRows mt (q + 1 + 1 + 1) x3), .i (q + 1 + 1 + 1 + cRows x3), .i (q + 1 + 1 + 1 + cRows x3 + 1), .i (q + 1 + 1 + 1 + cRows x3 + 1 + 1), .i (q + 1 + 1 + 1 + cRows x3 + 1 + 1 + 1), .i x8, .s x9, .s x10, .i x11, .s x12, .s x13, .i x14, .i x15, .l x16]) j 8 (.i (q + 1 + 1 + 1 + cRows x3 + 1 + 1 + 1 + 1)) = X.set j [.i (q), .i (q + 1), .i (q + 1 + 1), .l (mkRows mt (q + 1 + 1 + 1) x3), .i (q + 1 + 1 + 1 + cRows x3), .i (q + 1 + 1 + 1 + cRows x3 + 1), .i (q + 1 + 1 + 1 + cRows x3 + 1 + 1), .i (q + 1 + 1 + 1 + cRows x3 + 1 + 1 + 1), .i (q + 1 + 1 + 1 + cRows x3 + 1 + 1 + 1 + 1), .s x9, .s x10, .i x11, .s x12, .s x13, .i x14, .i x15, .l x16] from setD_set hl] at V9
      have H9 := Lib.hid ((H8.out).store hF V9)
      clear V9 rb9 Db9 sb9 pb9 wb9 rc9 Dc9 sc9 pc9 wc9 cc9 fc9
      go_wp2_with fail
      refine (hmt.mark (H9.out).deep.lt ((H9.out).gl HG.out) (k := q + 1 + 1 + 1 + cRows x3 + 1 + 1 + 1 + 1 + 1) (by omega) (by omega)).mono ?_; rintro e wr10 ⟨rfl, hsz10, hb10⟩
      have H10 := Lib.hid ((H9.out).below hb10)
      clear hb10
      obtain ⟨-, hF, -, ub10, db10, Gb10, cb10, fb10, rb10, Db10, sb10, pb10, wb10⟩ := DeepV.part H10.out.deep (show T 54 = some _ from rfl) (k := j) (j := 9) hlt rfl (o := j * 17 + 9) (by first | rfl | simp)
      have V10 := wb10 (fun e h => by cases h) (.string (mt (q + 1 + 1 + 1 + cRows x3 + 1 + 1 + 1 + 1 + 1))) (.s (mt (q + 1 + 1 + 1 + cRows x3 + 1 + 1 + 1 + 1 + 1))) (.str _ hsz10)
      rw [show setD (X.set j [.i (q), .i (q + 1), .i (q + 1 + 1), .l (mkRows mt (q + 1 + 1 + 1) x3), .i (q + 1 + 1 + 1 + cRows x3), .i (q + 1 + 1 + 1 + cRows x3 + 1), .i (q + 1 + 1 + 1 + cRows x3 + 1 + 1), .i (q + 1 + 1 + 1 + cRows x3 + 1 + 1 + 1), .i (q + 1 + 1 + 1 + cRows x3 + 1 + 1 + 1 + 1), .s x9, .s x10, .i x11, .s x12, .s x13, .i x14, .i x15, .l x16]) j 9 (.s (mt (q + 1 + 1 + 1 + cRows x3 + 1 + 1 + 1 + 1 + 1))) = X.set j [.i (q), .i (q + 1), .i (q + 1 + 1), .l (mkRows mt (q + 1 + 1 + 1) x3), .i (q + 1 + 1 + 1 + cRows x3), .i (q + 1 + 1 + 1 + cRows x3 + 1), .i (q + 1 + 1 + 1 + cRows x3 + 1 + 1), .i (q + 1 + 1 + 1 + cRows x3 + 1 + 1 + 1), .i (q + 1 + 1 + 1 + cRows x3 + 1 + 1 + 1 + 1), .s (mt (q + 1 + 1 + 1 + cRows x3 + 1 + 1 + 1 + 1 + 1)), .s x10, .i x11, .s x12, .s x13, .i x14, .i x15, .l x16] from setD_set hl] at V10
      have K10 := Lib.hid ((H10.out).store hF V10)
      clear V10 rb10 Db10 sb10 pb10 wb10
      go_wp2_with fail
      refine (hmt.mark (K10.out).deep.lt ((K10.out).gl HG.out) (k := q + 1 + 1 + 1 + cRows x3 + 1 + 1 + 1 + 1 + 1 + 1) (by omega) (by omega)).mono ?_; rintro e wr11 ⟨rfl, hsz11, hb11⟩
      have H11 := Lib.hid ((K10.out).below hb11)
      clear hb11
      obtain ⟨-, hF, -, ub11, db11, Gb11, cb11, fb11, rb11, Db11, sb11, pb11, wb11⟩ := DeepV.part H11.out.deep (show T 54 = some _ from rfl) (k := j) (j := 10) hlt rfl (o := j * 17 + 10) (by first | rfl | simp)
      have V11 := wb11 (fun e h => by cases h) (.string (mt (q + 1 + 1 + 1 + cRows x3 + 1 + 1 + 1 + 1 + 1 + 1))) (.s (mt (q + 1 + 1 + 1 + cRows x3 + 1 + 1 + 1 + 1 + 1 + 1))) (.str _ hsz11)
      rw [show setD (X.set j [.i (q), .i (q + 1), .i (q + 1 + 1), .l (mkRows mt (q + 1 + 1 + 1) x3), .i (q + 1 + 1 + 1 + cRows x3), .i (q + 1 + 1 + 1 + cRows x3 + 1), .i (q + 1 + 1 + 1 + cRows x3 + 1 + 1), .i (q + 1 + 1 + 1 + cRows x3 + 1 + 1 + 1), .i (q + 1 + 1 + 1 + cRows x3 + 1 + 1 + 1 + 1), .s (mt (q + 1 + 1 + 1 + cRows x3 + 1 + 1 + 1 + 1 + 1)), .s x10, .i x11, .s x12, .s x13, .i x14, .i x15, .l x16]) j 10 (.s (mt (q + 1 + 1 + 1 + cRows x3 + 1 + 1 + 1 + 1 + 1 + 1))) = X.set j [.i (q), .i (q + 1), .i (q + 1 + 1), .l (mkRows mt (q + 1 + 1 + 1) x3), .i (q + 1 + 1 + 1 + cRows x3), .i (q + 1 + 1 + 1 + cRows x3 + 1), .i (q + 1 + 1 + 1 + cRows x3 + 1 + 1), .i (q + 1 + 1 + 1 + cRows x3 + 1 + 1 + 1), .i (q + 1 + 1 + 1 + cRows x3 + 1 + 1 + 1 + 1), .s (mt (q + 1 + 1 + 1 + cRows x3 + 1 + 1 + 1 + 1 + 1)), .s (mt (q + 1 + 1 + 1 + cRows x3 + 1 + 1 + 1 + 1 + 1 + 1)), .i x11, .s x12, .s x13, .i x14, .i x15, .l x16] from setD_set hl] at V11
      have K11 := Lib.hid ((H11.out).store hF V11)
      clear V11 rb11 Db11 sb11 pb11 wb11
      obtain ⟨-, hF, -, ub12, db12, Gb12, cb12, fb12, rb12, Db12, sb12, pb12, wb12⟩ := DeepV.part H11.out.deep (show T 54 = some _ from rfl) (k := j) (j := 11) hlt rfl (o := j * 17 + 11) (by first | rfl | simp)
      obtain ⟨-, hF, -, uc12, dc12, Gc12, cc12, fc12, rc12, Dc12, sc12, pc12, wc12⟩ := DeepV.part K11.out.deep (show T 54 = some _ from rfl) (k := j) (j := 11) hlt rfl (o := j * 17 + 11) (by first | rfl | simp)
      have V12 := wc12 (fun e h => by cases h) (.int .i64 (q + 1 + 1 + 1 + cRows x3 + 1 + 1 + 1 + 1 + 1 + 1 + 1)) (.i (q + 1 + 1 + 1 + cRows x3 + 1 + 1 + 1 + 1 + 1 + 1 + 1)) (.int _ _ (inK_pos (by omega) (by omega)))
      rw [show setD (X.set j [.i (q), .i (q + 1), .i (q + 1 + 1), .l (mkRows mt (q + 1 + 1 + 1) x3), .i (q + 1 + 1 + 1 + cRows x3), .i (q + 1 + 1 + 1 + cRows x3 + 1), .i (q + 1 + 1 + 1 + cRows x3 + 1 + 1), .i (q + 1 + 1 + 1 + cRows x3 + 1 + 1 + 1), .i (q + 1 + 1 + 1 + cRows x3 + 1 + 1 + 1 + 1), .s (mt (q + 1 + 1 + 1 + cRows x3 + 1 + 1 + 1 + 1 + 1)), .s (mt (q + 1 + 1 + 1 + cRows x3 + 1 + 1 + 1 + 1 + 1 + 1)), .i x11, .s x12, .s x13, .i x14, .i x15, .l x16]) j 11 (.i (q + 1 + 1 + 1 + cRows x3 + 1 + 1 + 1 + 1 + 1 + 1 + 1)) = X.set j [.i (q), .i (q + 1), .i (q + 1 + 1), .l (mkRows mt (q + 1 + 1 + 1) x3), .i (q + 1 + 1 + 1 + cRows x3), .i (q + 1 + 1 + 1 + cRows x3 + 1), .i (q + 1 + 1 + 1 + cRows x3 + 1 + 1), .i (q + 1 + 1 + 1 + cRows x3 + 1 + 1 + 1), .i (q + 1 + 1 + 1 + cRows x3 + 1 + 1 + 1 + 1), .s (mt (q + 1 + 1 + 1 + cRows x3 + 1 + 1 + 1 + 1 + 1)), .s (mt (q + 1 + 1 + 1 + cRows x3 + 1 + 1 + 1 + 1 + 1 + 1)), .i (q + 1 + 1 + 1 + cRows x3 + 1 + 1 + 1 + 1 + 1 + 1 + 1), .s x12, .s x13, .i x14, .i x15, .l x16] from setD_set hl] at V12
      have H12 := Lib.hid ((K11.out).store hF V12)
      clear V12 rb12 Db12 sb12 pb12 wb12 rc12 Dc12 sc12 pc12 wc12 cc12 fc12
      go_wp2_with fail
      refine (hmt.mark (H12.out).deep.lt ((H12.out).gl HG.out) (k := q + 1 + 1 + 1 + cRows x3 + 1 + 1 + 1 + 1 + 1 + 1 + 1 + 1) (by omega) (by omega)).mono ?_; rintro e wr13 ⟨rfl, hsz13, hb13⟩
      have H13 := Lib.hid ((H12.out).below hb13)
      clear hb13
      obtain ⟨-, hF, -, ub13, db13, Gb13, cb13, fb13, rb13, Db13, sb13, pb13, wb13⟩ := DeepV.part H13.out.deep (show T 54 = some _ from rfl) (k := j) (j := 12) hlt rfl (o := j * 17 + 12) (by first | rfl | simp)
      have V13 := wb13 (fun e h => by cases h) (.string (mt (q + 1 + 1 + 1 + cRows x3 + 1 + 1 + 1 + 1 + 1 + 1 + 1 + 1))) (.s (mt (q + 1 + 1 + 1 + cRows x3 + 1 + 1 + 1 + 1 + 1 + 1 + 1 + 1))) (.str _ hsz13)
      rw [show setD (X.set j [.i (q), .i (q + 1), .i (q + 1 + 1), .l (mkRows mt (q + 1 + 1 + 1) x3), .i (q + 1 + 1 + 1 + cRows x3), .i (q + 1 + 1 + 1 + cRows x3 + 1), .i (q + 1 + 1 + 1 + cRows x3 + 1 + 1), .i (q + 1 + 1 + 1 + cRows x3 + 1 + 1 + 1), .i (q + 1 + 1 + 1 + cRows x3 + 1 + 1 + 1 + 1), .s (mt (q + 1 + 1 + 1 + cRows x3 + 1 + 1 + 1 + 1 + 1)), .s (mt (q + 1 + 1 + 1 + cRows x3 + 1 + 1 + 1 + 1 + 1 + 1)), .i (q + 1 + 1 + 1 + cRows x3 + 1 + 1 + 1 + 1 + 1 + 1 + 1), .s x12, .s x13, .i x14, .i x15, .l x16]) j 12 (.s (mt (q + 1 + 1 + 1 + cRows x3 + 1 + 1 + 1 + 1 + 1 + 1 + 1 + 1))) = X.set j [.i (q), .i (q + 1), .i (q + 1 + 1), .l (mkRows mt (q + 1 + 1 + 1) x3), .i (q + 1 + 1 + 1 + cRows x3), .i (q + 1 + 1 + 1 + cRows x3 + 1), .i (q + 1 + 1 + 1 + cRows x3 + 1 + 1), .i (q + 1 + 1 + 1 + cRows x3 + 1 + 1 + 1), .i (q + 1 + 1 + 1 + cRows x3 + 1 + 1 + 1 + 1), .s (mt (q + 1 + 1 + 1 + cRows x3 + 1 + 1 + 1 + 1 + 1)), .s (mt (q + 1 + 1 + 1 + cRows x3 + 1 + 1 + 1 + 1 + 1 + 1)), .i (q + 1 + 1 + 1 + cRows x3 + 1 + 1 + 1 + 1 + 1 + 1 + 1), .s (mt (q + 1 + 1 + 1 + cRows x3 + 1 + 1 + 1 + 1 + 1 + 1 + 1 + 1)), .s x13, .i x14, .i x15, .l x16] from setD_set hl] at V13
      have K13 := Lib.hid ((H13.out).store hF V13)
      clear V13 rb13 Db13 sb13 pb13 wb13
      go_wp2_with fail
      refine (hmt.mark (K13.out).deep.lt ((K13.out).gl HG.out) (k := q + 1 + 1 + 1 + cRows x3 + 1 + 1 + 1 + 1 + 1 + 1 + 1 + 1 + 1) (by omega) (by omega)).mono ?_; rintro e wr14 ⟨rfl, hsz14, hb14⟩
      have H14 := Lib.hid ((K13.out).below hb14)
      clear hb14
      obtain ⟨-, hF, -, ub14, db14, Gb14, cb14, fb14, rb14, Db14, sb14, pb14, wb14⟩ := DeepV.part H14.out.deep (show T 54 = some _ from rfl) (k := j) (j := 13) hlt rfl (o := j * 17 + 13) (by first | rfl | simp)
      have V14 := wb14 (fun e h => by cases h) (.string (mt (q + 1 + 1 + 1 + cRows x3 + 1 + 1 + 1 + 1 + 1 + 1 + 1 + 1 + 1))) (.s (mt (q + 1 + 1 + 1 + cRows x3 + 1 + 1 + 1 + 1 + 1 + 1 + 1 + 1 + 1))) (.str _ hsz14)
      rw [show setD (X.set j [.i (q), .i (q + 1), .i (q + 1 + 1), .l (mkRows mt (q + 1 + 1 + 1) x3), .i (q + 1 + 1 + 1 + cRows x3), .i (q + 1 + 1 + 1 + cRows x3 + 1), .i (q + 1 + 1 + 1 + cRows x3 + 1 + 1), .i (q + 1 + 1 + 1 + cRows x3 + 1 + 1 + 1), .i (q + 1 + 1 + 1 + cRows x3 + 1 + 1 + 1 + 1), .s (mt (q + 1 + 1 + 1 + cRows x3 + 1 + 1 + 1 + 1 + 1)), .s (mt (q + 1 + 1 + 1 + cRows x3 + 1 + 1 + 1 + 1 + 1 + 1)), .i (q + 1 + 1 + 1 + cRows x3 + 1 + 1 + 1 + 1 + 1 + 1 + 1), .s (mt (q + 1 + 1 + 1 + cRows x3 + 1 + 1 + 1 + 1 + 1 + 1 + 1 + 1)), .s x13, .i x14, .i x15, .l x16]) j 13 (.s (mt (q + 1 + 1 + 1 + cRows x3 + 1 + 1 + 1 + 1 + 1 + 1 + 1 + 1 + 1))) = X.set j [.i (q), .i (q + 1), .i (q + 1 + 1), .l (mkRows mt (q + 1 + 1 + 1) x3), .i (q + 1 + 1 + 1 + cRows x3), .i (q + 1 + 1 + 1 + cRows x3 + 1), .i (q + 1 + 1 + 1 + cRows x3 + 1 + 1), .i (q + 1 + 1 + 1 + cRows x3 + 1 + 1 + 1), .i (q + 1 + 1 + 1 + cRows x3 + 1 + 1 + 1 + 1), .s (mt (q + 1 + 1 + 1 + cRows x3 + 1 + 1 + 1 + 1 + 1)), .s (mt (q + 1 + 1 + 1 + cRows x3 + 1 + 1 + 1 + 1 + 1 + 1)), .i (q + 1 + 1 + 1 + cRows x3 + 1 + 1 + 1 + 1 + 1 + 1 + 1), .s (mt (q + 1 + 1 + 1 + cRows x3 + 1 + 1 + 1 + 1 + 1 + 1 + 1 + 1)), .s (mt (q + 1 + 1 + 1 + cRows x3 + 1 + 1 + 1 + 1 + 1 + 1 + 1 + 1 + 1)), .i x14, .i x15, .l x16] from setD_set hl] at V14
      have K14 := Lib.hid ((H14.out).store hF V14)
      clear V14 rb14 Db14 sb14 pb14 wb14
      obtain ⟨-, hF, -, ub15, db15, Gb15, cb15, fb15, rb15, Db15, sb15, pb15, wb15⟩ := DeepV.part H14.out.deep (show T 54 = some _ from rfl) (k := j) (j := 14) hlt rfl (o := j * 17 + 14) (by first | rfl | simp)
      obtain ⟨-, hF, -, uc15, dc15, Gc15, cc15, fc15, rc15, Dc15, sc15, pc15, wc15⟩ := DeepV.part K14.out.deep (show T 54 = some _ from rfl) (k := j) (j := 14) hlt rfl (o := j * 17 + 14) (by first | rfl | simp)
      have V15 := wc15 (fun e h => by cases h) (.int .i64 (q + 1 + 1 + 1 + cRows x3 + 1 + 1 + 1 + 1 + 1 + 1 + 1 + 1 + 1 + 1)) (.i (q + 1 + 1 + 1 + cRows x3 + 1 + 1 + 1 + 1 + 1 + 1 + 1 + 1 + 1 + 1)) (.int _ _ (inK_pos (by omega) (by omega)))
      rw [show setD (X.set j [.i (q), .i (q + 1), .i (q + 1 + 1), .l (mkRows mt (q + 1 + 1 + 1) x3), .i (q + 1 + 1 + 1 + cRows x3), .i (q + 1 + 1 + 1 + cRows x3 + 1), .i (q + 1 + 1 + 1 + cRows x3 + 1 + 1), .i (q + 1 + 1 + 1 + cRows x3 + 1 + 1 + 1), .i (q + 1 + 1 + 1 + cRows x3 + 1 + 1 + 1 + 1), .s (mt (q + 1 + 1 + 1 + cRows x3 + 1 + 1 + 1 + 1 + 1)), .s (mt (q + 1 + 1 + 1 + cRows x3 + 1 + 1 + 1 + 1 + 1 + 1)), .i (q + 1 + 1 + 1 + cRows x3 + 1 + 1 + 1 + 1 + 1 + 1 + 1), .s (mt (q + 1 + 1 + 1 + cRows x3 + 1 + 1 + 1 + 1 + 1 + 1 + 1 + 1)), .s (mt (q + 1 + 1 + 1 + cRows x3 + 1 + 1 + 1 + 1 + 1 + 1 + 1 + 1 + 1)), .i x14, .i x15, .l x16]) j 14 (.i (q + 1 + 1 + 1 + cRows x3 + 1 + 1 + 1 + 1 + 1 + 1 + 1 + 1 + 1 + 1)) = X.set j [.i (q), .i (q + 1), .i (q + 1 + 1), .l (mkRows mt (q + 1 + 1 + 1) x3), .i (q + 1 + 1 + 1 + cRows x3), .i (q + 1 + 1 + 1 + cRows x3 + 1), .i (q + 1 + 1 + 1 + cRows x3 + 1 + 1), .i (q + 1 + 1 + 1 + cRows x3 + 1 + 1 + 1), .i (q + 1 + 1 + 1 + cRows x3 + 1 + 1 + 1 + 1), .s (mt (q + 1 + 1 + 1 + cRows x3 + 1 + 1 + 1 + 1 + 1)), .s (mt (q + 1 + 1 + 1 + cRows x3 + 1 + 1 + 1 + 1 + 1 + 1)), .i (q + 1 + 1 + 1 + cRows x3 + 1 + 1 + 1 + 1 + 1 + 1 + 1), .s (mt (q + 1 + 1 + 1 + cRows x3 + 1 + 1 + 1 + 1 + 1 + 1 + 1 + 1)), .s (mt (q + 1 + 1 + 1 + cRows x3 + 1 + 1 + 1 + 1 + 1 + 1 + 1 + 1 + 1)), .i (q + 1 + 1 + 1 + cRows x3 + 1 + 1 + 1 + 1 + 1 + 1 + 1 + 1 + 1 + 1), .i x15, .l x16] from setD_set hl] at V15
      have H15 := Lib.hid ((K14.out).store hF V15)
      clear V15 rb15 Db15 sb15 pb15 wb15 rc15 Dc15 sc15 pc15 wc15 cc15 fc15
      obtain ⟨-, hF, -, ub16, db16, Gb16, cb16, fb16, rb16, Db16, sb16, pb16, wb16⟩ := DeepV.part H14.out.deep (show T 54 = some _ from rfl) (k := j) (j := 15) hlt rfl (o := j * 17 + 15) (by first | rfl | simp)
      obtain ⟨-, hF, -, uc16, dc16, Gc16, cc16, fc16, rc16, Dc16, sc16, pc16, wc16⟩ := DeepV.part H15.out.deep (show T 54 = some _ from rfl) (k := j) (j := 15) hlt rfl (o := j * 17 + 15) (by first | rfl | simp)
      have V16 := wc16 (fun e h => by cases h) (.int .i64 (q + 1 + 1 + 1 + cRows x3 + 1 + 1 + 1 + 1 + 1 + 1 + 1 + 1 + 1 + 1 + 1)) (.i (q + 1 + 1 + 1 + cRows x3 + 1 + 1 + 1 + 1 + 1 + 1 + 1 + 1 + 1 + 1 + 1)) (.int _ _ (inK_pos (by omega) (by omega)))
      rw [show setD (X.set j [.i (q), .i (q + 1), .i (q + 1 + 1), .l (mkRows mt (q + 1 + 1 + 1) x3), .i (q + 1 + 1 + 1 + cRows x3), .i (q + 1 + 1 + 1 + cRows x3 + 1), .i (q + 1 + 1 + 1 + cRows x3 + 1 + 1), .i (q + 1 + 1 + 1 + cRows x3 + 1 + 1 + 1), .i (q + 1 + 1 + 1 + cRows x3 + 1 + 1 + 1 + 1), .s (mt (q + 1 + 1 + 1 + cRows x3 + 1 + 1 + 1 + 1 + 1)), .s (mt (q + 1 + 1 + 1 + cRows x3 + 1 + 1 + 1 + 1 + 1 + 1)), .i (q + 1 + 1 + 1 + cRows x3 + 1 + 1 + 1 + 1 + 1 + 1 + 1), .s (mt (q + 1 + 1 + 1 + cRows x3 + 1 + 1 + 1 + 1 + 1 + 1 + 1 + 1)), .s (mt (q + 1 + 1 + 1 + cRows x3 + 1 + 1 + 1 + 1 + 1 + 1 + 1 + 1 + 1)), .i (q + 1 + 1 + 1 + cRows x3 + 1 + 1 + 1 + 1 + 1 + 1 + 1 + 1 + 1 + 1), .i x15, .l x16]) j 15 (.i (q + 1 + 1 + 1 + cRows x3 + 1 + 1 + 1 + 1 + 1 + 1 + 1 + 1 + 1 + 1 + 1)) = X.set j [.i (q), .i (q + 1), .i (q + 1 + 1), .l (mkRows mt (q + 1 + 1 + 1) x3), .i (q + 1 + 1 + 1 + cRows x3), .i (q + 1 + 1 + 1 + cRows x3 + 1), .i (q + 1 + 1 + 1 + cRows x3 + 1 + 1), .i (q + 1 + 1 + 1 + cRows x3 + 1 + 1 + 1), .i (q + 1 + 1 + 1 + cRows x3 + 1 + 1 + 1 + 1), .s (mt (q + 1 + 1 + 1 + cRows x3 + 1 + 1 + 1 + 1 + 1)), .s (mt (q + 1 + 1 + 1 + cRows x3 + 1 + 1 + 1 + 1 + 1 + 1)), .i (q + 1 + 1 + 1 + cRows x3 + 1 + 1 + 1 + 1 + 1 + 1 + 1), .s (mt (q + 1 + 1 + 1 + cRows x3 + 1 + 1 + 1 + 1 + 1 + 1 + 1 + 1)), .s (mt (q + 1 + 1 + 1 + cRows x3 + 1 + 1 + 1 + 1 + 1 + 1 + 1 + 1 + 1)), .i (q + 1 + 1 + 1 + cRows x3 + 1 + 1 + 1 + 1 + 1 + 1 + 1 + 1 + 1 + 1), .i (q + 1 + 1 + 1 + cRows x3 + 1 + 1 + 1 + 1 + 1 + 1 + 1 + 1 + 1 + 1 + 1), .l x16] from setD_set hl] at V16
      have H16 := Lib.hid ((H15.out).store hF V16)
      clear V16 rb16 Db16 sb16 pb16 wb16 rc16 Dc16 sc16 pc16 wc16 cc16 fc16
      obtain ⟨-, hF, -, uc17, dc17, Gc17, cc17, fc17, rc17, Dc17, sc17, pc17, wc17⟩ := DeepV.part H16.out.deep (show T 54 = some _ from rfl) (k := j) (j := 16) hlt rfl (o := j * 17 + 16) (by first | rfl | simp)
      obtain rfl := cell_set hl rc17 (show ([.i (q), .i (q + 1), .i (q + 1 + 1), .l (mkRows mt (q + 1 + 1 + 1) x3), .i (q + 1 + 1 + 1 + cRows x3), .i (q + 1 + 1 + 1 + cRows x3 + 1), .i (q + 1 + 1 + 1 + cRows x3 + 1 + 1), .i (q + 1 + 1 + 1 + cRows x3 + 1 + 1 + 1), .i (q + 1 + 1 + 1 + cRows x3 + 1 + 1 + 1 + 1), .s (mt (q + 1 + 1 + 1 + cRows x3 + 1 + 1 + 1 + 1 + 1)), .s (mt (q + 1 + 1 + 1 + cRows x3 + 1 + 1 + 1 + 1 + 1 + 1)), .i (q + 1 + 1 + 1 + cRows x3 + 1 + 1 + 1 + 1 + 1 + 1 + 1), .s (mt (q + 1 + 1 + 1 + cRows x3 + 1 + 1 + 1 + 1 + 1 + 1 + 1 + 1)), .s (mt (q + 1 + 1 + 1 + cRows x3 + 1 + 1 + 1 + 1 + 1 + 1 + 1 + 1 + 1)), .i (q + 1 + 1 + 1 + cRows x3 + 1 + 1 + 1 + 1 + 1 + 1 + 1 + 1 + 1 + 1), .i (q + 1 + 1 + 1 + cRows x3 + 1 + 1 + 1 + 1 + 1 + 1 + 1 + 1 + 1 + 1 + 1), .l x16] : List D)[16]? = some (.l x16) from rfl)
      rw [World.cell?_setCell_other _ _ _ _ (by intro h; simp only [Addr.mk.injEq] at h; omega), World.cell?_setCell_other _ _ _ _ (by intro h; simp only [Addr.mk.injEq] at h; omega), World.cell?_setCell_other _ _ _ _ (by intro h; simp only [Addr.mk.injEq] at h; omega)] at cc17
      clear fc17 wc17 rc17
      go_wp2_with fail
      refine ((mk_42 mt hmt (wD (.l x16) + 1)) _ Gc17 uc17 x16 (q + 1 + 1 + 1 + cRows x3 + 1 + 1 + 1 + 1 + 1 + 1 + 1 + 1 + 1 + 1 + 1 + 1) (by omega) (by omega) (Nat.lt_succ_self _) (((H16.out).gl HG.out).less fun b h => (sc17 b h).1) Dc17).mono ?_; rintro e wr17 ⟨rfl, hN17⟩
      have V17 := pc17 _ _ (fun b hb hg => hN17.block b ((H16.out).deep.lt b hb) hg) hN17.deep
      rw [show setD (X.set j [.i (q), .i (q + 1), .i (q + 1 + 1), .l (mkRows mt (q + 1 + 1 + 1) x3), .i (q + 1 + 1 + 1 + cRows x3), .i (q + 1 + 1 + 1 + cRows x3 + 1), .i (q + 1 + 1 + 1 + cRows x3 + 1 + 1), .i (q + 1 + 1 + 1 + cRows x3 + 1 + 1 + 1), .i (q + 1 + 1 + 1 + cRows x3 + 1 + 1 + 1 + 1), .s (mt (q + 1 + 1 + 1 + cRows x3 + 1 + 1 + 1 + 1 + 1)), .s (mt (q + 1 + 1 + 1 + cRows x3 + 1 + 1 + 1 + 1 + 1 + 1)), .i (q + 1 + 1 + 1 + cRows x3 + 1 + 1 + 1 + 1 + 1 + 1 + 1), .s (mt (q + 1 + 1 + 1 + cRows x3 + 1 + 1 + 1 + 1 + 1 + 1 + 1 + 1)), .s (mt (q + 1 + 1 + 1 + cRows x3 + 1 + 1 + 1 + 1 + 1 + 1 + 1 + 1 + 1)), .i (q + 1 + 1 + 1 + cRows x3 + 1 + 1 + 1 + 1 + 1 + 1 + 1 + 1 + 1 + 1), .i (q + 1 + 1 + 1 + cRows x3 + 1 + 1 + 1 + 1 + 1 + 1 + 1 + 1 + 1 + 1 + 1), .l x16]) j 16 (.l (mkRows mt (q + 1 + 1 + 1 + cRows x3 + 1 + 1 + 1 + 1 + 1 + 1 + 1 + 1 + 1 + 1 + 1 + 1) x16)) = X.set j [.i (q), .i (q + 1), .i (q + 1 + 1), .l (mkRows mt (q + 1 + 1 + 1) x3), .i (q + 1 + 1 + 1 + cRows x3), .i (q + 1 + 1 + 1 + cRows x3 + 1), .i (q + 1 + 1 + 1 + cRows x3 + 1 + 1), .i (q + 1 + 1 + 1 + cRows x3 + 1 + 1 + 1), .i (q + 1 + 1 + 1 + cRows x3 + 1 + 1 + 1 + 1), .s (mt (q + 1 + 1 + 1 + cRows x3 + 1 + 1 + 1 + 1 + 1)), .s (mt (q + 1 + 1 + 1 + cRows x3 + 1 + 1 + 1 + 1 + 1 + 1)), .i (q + 1 + 1 + 1 + cRows x3 + 1 + 1 + 1 + 1 + 1 + 1 + 1), .s (mt (q + 1 + 1 + 1 + cRows x3 + 1 + 1 + 1 + 1 + 1 + 1 + 1 + 1)), .s (mt (q + 1 + 1 + 1 + cRows x3 + 1 + 1 + 1 + 1 + 1 + 1 + 1 + 1 + 1)), .i (q + 1 + 1 + 1 + cRows x3 + 1 + 1 + 1 + 1 + 1 + 1 + 1 + 1 + 1 + 1), .i (q + 1 + 1 + 1 + cRows x3 + 1 + 1 + 1 + 1 + 1 + 1 + 1 + 1 + 1 + 1 + 1), .l (mkRows mt (q + 1 + 1 + 1 + cRows x3 + 1 + 1 + 1 + 1 + 1 + 1 + 1 + 1 + 1 + 1 + 1 + 1) x16)] from setD_set hl] at V17
      have H17 := Lib.hid ((H16.out).call hN17 (fun b h => (sc17 b h).1) V17)
      clear V17 hN17 Dc17 sc17 pc17 cc17
      go_wp2
      rw [show X.set j [.i (q), .i (q + 1), .i (q + 1 + 1), .l (mkRows mt (q + 1 + 1 + 1) x3), .i (q + 1 + 1 + 1 + cRows x3), .i (q + 1 + 1 + 1 + cRows x3 + 1), .i (q + 1 + 1 + 1 + cRows x3 + 1 + 1), .i (q + 1 + 1 + 1 + cRows x3 + 1 + 1 + 1), .i (q + 1 + 1 + 1 + cRows x3 + 1 + 1 + 1 + 1), .s (mt (q + 1 + 1 + 1 + cRows x3 + 1 + 1 + 1 + 1 + 1)), .s (mt (q + 1 + 1 + 1 + cRows x3 + 1 + 1 + 1 + 1 + 1 + 1)), .i (q + 1 + 1 + 1 + cRows x3 + 1 + 1 + 1 + 1 + 1 + 1 + 1), .s (mt (q + 1 + 1 + 1 + cRows x3 + 1 + 1 + 1 + 1 + 1 + 1 + 1 + 1)), .s (mt (q + 1 + 1 + 1 + cRows x3 + 1 + 1 + 1 + 1 + 1 + 1 + 1 + 1 + 1)), .i (q + 1 + 1 + 1 + cRows x3 + 1 + 1 + 1 + 1 + 1 + 1 + 1 + 1 + 1 + 1), .i (q + 1 + 1 + 1 + cRows x3 + 1 + 1 + 1 + 1 + 1 + 1 + 1 + 1 + 1 + 1 + 1), .l (mkRows mt (q + 1 + 1 + 1 + cRows x3 + 1 + 1 + 1 + 1 + 1 + 1 + 1 + 1 + 1 + 1 + 1 + 1) x16)] = mkAt mt k rows (j + 1) from hmk] at H17
      exact ⟨⟨j + 1, hlt, by go_num, congrArg (Value.int IntKind.i64) (by omega), H17.out⟩, by simp [Go.RowKit.intOf]; omega⟩
    · have nlt : ¬ (j : Int) < (rows.length : Int) := by omega
      have ht : rows.take j = rows := List.take_of_length_le (by omega)
      have ha := mkAt_all (mt := mt) (k := k) (a := rows) (i := j) (by omega)
      go_wp2
      go_ret
      exact ⟨rfl, by rw [← ha]; exact HE0.out⟩
theorem mk_9 (mt : Int → ByteArray) (hmt : FOk Tryz.prog T 41 (spMT mt)) (n : Nat) : MkOk Tryz.prog T mt 9 36 n := by
  intro w F v rows k hk hb hn hgl hD
  obtain ⟨A, c, rfl⟩ := hD.slice
  have HD := Lib.hid hD
  have HG := Lib.hid hgl
  have hs := hD.short
  simp only [maxLen] at hs
  clear hD hgl
  go_enter Tryz.func9, Tryz.ntmps9
  go_wp2_with fail
  go_loopw [1, 5] (fun q i wr => ∃ j : Nat, j ≤ rows.length ∧ i = .int .i64 j ∧ q = .int .i64 (k + cRows (rows.take j)) ∧ MkEnd T w wr F 36 (.slice A rows.length c) (mkAt mt k rows j)) (fun _ i _ => rows.length - (intOf i).toNat)
  case atStart => exact ⟨0, Nat.zero_le _, rfl, by simp [cRows], by rw [mkAt_zero]; exact MkEnd.refl HD.out⟩
  case round =>
    obtain ⟨j, hj, rfl, rfl, hE⟩ := hrel
    have HE0 := Lib.hid hE
    clear hE
    by_cases hlt : j < rows.length
    · obtain ⟨g, rfl⟩ := HD.out.some (by omega)
      have q0 : (0 : Int) ≤ (j : Int) := by omega
      have q1 : (j : Int) < (rows.length : Int) := by omega
      obtain ⟨x0, r0, hr, hr0⟩ := WfRow.int_ (HD.out.row (show T 36 = some _ from rfl) hlt)
      obtain ⟨x1, r1, rfl, hr1⟩ := WfRow.sl_ hr0
      obtain rfl := hr1.end_
      clear hr1
      have hc := cRows_next hlt
      have hc2 := cRows_le rows (j + 1)
      rw [hr] at hc
      have hc3 : cRow [.i x0, .l x1] = 1 + (cRows x1 + 0) := rfl
      have hq0 : 1 ≤ k + cRows (rows.take j) := by omega
      have hq1 : k + cRows (rows.take j) + cRow [.i x0, .l x1] ≤ 4611686018427387904 := by omega
      rw [hc3] at hq1
      have hmk := mkAt_next (mt := mt) (k := k) hlt (Eq.symm (congrArg (mkRow mt (k + cRows (rows.take j))) hr))
      have hX := (mkAt_row (mt := mt) (k := k) hlt).trans hr
      have hl : j < (mkAt mt k rows j).length := by rw [mkAt_length]; exact hlt
      have hnext : k + (cRows (rows.take (j + 1)) : Int) = k + cRows (rows.take j) + cRow [.i x0, .l x1] := by omega
      rw [hc3] at hnext
      obtain ⟨X, hXX⟩ : ∃ X, mkAt mt k rows j = X := ⟨_, rfl⟩
      rw [hXX] at hX hl hmk HE0
      obtain ⟨q, hq⟩ : ∃ q, k + (cRows (rows.take j) : Int) = q := ⟨_, rfl⟩
      rw [hq] at hq0 hq1 hmk hnext ⊢
      have hm1 : wD (.l x1) < wD (.l rows) := wD_part hlt (j := 1) (by rw [hr]; rfl)
      clear hc hc2 hXX hc3
      obtain ⟨-, hF, -, ub1, db1, Gb1, cb1, fb1, rb1, Db1, sb1, pb1, wb1⟩ := DeepV.part HE0.out.deep (show T 36 = some _ from rfl) (k := j) (j := 0) hlt rfl (o := j * 2) (by first | rfl | simp)
      have V1 := wb1 (fun e h => by cases h) (.int .i64 (q)) (.i (q)) (.int _ _ (inK_pos (by omega) (by omega)))
      rw [show setD X j 0 (.i (q)) = X.set j [.i (q), .l x1] from setD_one hX] at V1
      have H1 := Lib.hid ((HE0.out).store hF V1)
      clear V1 rb1 Db1 sb1 pb1 wb1
      obtain ⟨-, hF, -, uc2, dc2, Gc2, cc2, fc2, rc2, Dc2, sc2, pc2, wc2⟩ := DeepV.part H1.out.deep (show T 36 = some _ from rfl) (k := j) (j := 1) hlt rfl (o := j * 2 + 1) (by first | rfl | simp)
      obtain rfl := cell_set hl rc2 (show ([.i (q), .l x1] : List D)[1]? = some (.l x1) from rfl)
      rw [World.cell?_setCell_other _ _ _ _ (by intro h; simp only [Addr.mk.injEq] at h; omega)] at cc2
      clear fc2 wc2 rc2
      go_wp2_with fail
      refine ((mk_24 mt hmt (wD (.l x1) + 1)) _ Gc2 uc2 x1 (q + 1) (by omega) (by omega) (Nat.lt_succ_self _) (((H1.out).gl HG.out).less fun b h => (sc2 b h).1) Dc2).mono ?_; rintro e wr2 ⟨rfl, hN2⟩
      have V2 := pc2 _ _ (fun b hb hg => hN2.block b ((H1.out).deep.lt b hb) hg) hN2.deep
      rw [show setD (X.set j [.i (q), .l x1]) j 1 (.l (mkRows mt (q + 1) x1)) = X.set j [.i (q), .l (mkRows mt (q + 1) x1)] from setD_set hl] at V2
      have H2 := Lib.hid ((H1.out).call hN2 (fun b h => (sc2 b h).1) V2)
      clear V2 hN2 Dc2 sc2 pc2 cc2
      go_wp2
      rw [show X.set j [.i (q), .l (mkRows mt (q + 1) x1)] = mkAt mt k rows (j + 1) from hmk] at H2
      exact ⟨⟨j + 1, hlt, by go_num, congrArg (Value.int IntKind.i64) (by omega), H2.out⟩, by simp [Go.RowKit.intOf]; omega⟩
    · have nlt : ¬ (j : Int) < (rows.length : Int) := by omega
      have ht : rows.take j = rows := List.take_of_length_le (by omega)
      have ha := mkAt_all (mt := mt) (k := k) (a := rows) (i := j) (by omega)
      go_wp2
      go_ret
      exact ⟨rfl, by rw [← ha]; exact HE0.out⟩
end Go.Proofs.YtaecbmjmcpdgdaaGreat
