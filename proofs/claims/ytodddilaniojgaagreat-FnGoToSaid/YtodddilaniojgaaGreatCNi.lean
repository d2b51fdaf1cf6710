/- The walk of the function that makes a cursor, with the number that it lays. From the statement's own reading of its arguments to readings as data. P is any program. The function that makes a cursor, as a description; drawn tapes as a description. -/
import Derived.Test.YtodddilaniojgaaGreatCFa
import Derived.Test.YtodddilaniojgaaGreatCPb
import Derived.IntWalk
import Derived.Carry
import Derived.WalkKit
import Derived.Test.YtodddilaniojgaaGreatCDb
namespace Go.Proofs.YtodddilaniojgaaGreat
open Go.ChangeShapes Go.WideShapes Go.ChangeAt Go.RowKit
set_option linter.unusedVariables false
def IsBytes (w : World) (B : Nat) (A : Option Addr) (n : Nat) (l : List UInt8) : Prop :=
  l.length = n ∧ (0 < n → ∃ ad : Addr, A = some ad ∧ ad.spot = none ∧ ad.block < B ∧ ∀ k (h : k < l.length), w.cell? (ad.add k) = some (.int .u8 (l[k].toNat : Int)))
theorem andMask (a : Int) : 0 ≤ bits .and .i64 a 1073741823 ∧ bits .and .i64 a 1073741823 ≤ 1073741823 := by
  have h : (BitVec.ofInt 64 a &&& BitVec.ofInt 64 1073741823).toNat ≤ 1073741823 := by
    rw [BitVec.toNat_and]
    exact Nat.le_trans Nat.and_le_right (by decide)
  show 0 ≤ IntKind.i64.wrap ((BitVec.ofInt 64 a &&& BitVec.ofInt 64 1073741823).toNat : Int) ∧ IntKind.i64.wrap ((BitVec.ofInt 64 a &&& BitVec.ofInt 64 1073741823).toNat : Int) ≤ 1073741823
  rw [wrap_i64_in (by omega) (by omega)]
  omega
def hStep (x : Int) (b : UInt8) : Int := bits .and .i64 (x * 131 + (b.toNat : Int) + 7) 1073741823
def hTo (l : List UInt8) (k : Nat) : Int := (l.take k).foldl hStep (26583 + (l.length : Int))
theorem hTo_next {l : List UInt8} {k : Nat} (h : k < l.length) : hTo l (k + 1) = hStep (hTo l k) l[k] := by
  unfold hTo
  rw [List.take_add_one, List.getElem?_eq_getElem h, List.foldl_append]
  rfl
theorem hTo_in (l : List UInt8) (hl : l.length ≤ 1048576) : ∀ k, k ≤ l.length → 0 ≤ hTo l k ∧ hTo l k ≤ 1100000000
  | 0, _ => by
    show 0 ≤ (26583 + (l.length : Int)) ∧ (26583 + (l.length : Int)) ≤ 1100000000
    omega
  | k + 1, hk => by
    rw [hTo_next (by omega)]
    have := andMask (hTo l k * 131 + (l[k].toNat : Int) + 7)
    unfold hStep
    omega
def hOf (l : List UInt8) : Int := hTo l 4000
theorem hTo_end {l : List UInt8} {k : Nat} (h4 : k ≤ 4000) (hk : k ≤ l.length) (h : k = l.length ∨ ¬ (k : Int) < 4000) : hTo l k = hOf l := by
  unfold hOf
  rcases h with h | h
  · unfold hTo
    rw [List.take_of_length_le (show l.length ≤ k by omega), List.take_of_length_le (show l.length ≤ 4000 by omega)]
  · rw [show k = 4000 by omega]
set_option maxRecDepth 100000 in
theorem new_exact (A : Option Addr) (n c : Nat) (l : List UInt8) (w : World) (hn : n ≤ 1048576) (hb : IsBytes w w.heap.size A n l) :
    Calls Tryz.prog 19 #[.slice A n c] w fun e w' => e = .returned (.pointer (some ⟨w.heap.size, 0, none⟩)) ∧ w' = w.alloc (.cells #[.slice A n c, .int .i64 0, .int .i64 (hOf l)] 75) := by
  obtain ⟨hl, hc⟩ := hb
  have HIN := Lib.hid (hTo_in l (by omega))
  have HEND := Lib.hid (fun k a b d => @hTo_end l k a b d)
  have HNX := Lib.hid (fun k h => @hTo_next l k h)
  have HL := Lib.hid hl
  have HC := Lib.hid hc
  have h00 : hTo l 0 = 26583 + (n : Int) := by rw [← hl]; rfl
  have H00 := Lib.hid h00
  clear hl hc h00
  go_enter Tryz.func19, Tryz.ntmps19
  go_wp2_with fail
  go_loop [3, 4] (fun h i => ∃ (k : Nat) (x : Int), k ≤ n ∧ k ≤ 4000 ∧ i = .int .i64 k ∧ h = .int .i64 x ∧ x = hTo l k ∧ 0 ≤ x ∧ x ≤ 1100000000) (fun _ i => n - (intOf i).toNat)
  case atStart => exact ⟨0, _, Nat.zero_le _, Nat.zero_le _, rfl, rfl, by rw [H00.out], by omega, by omega⟩
  case round =>
    obtain ⟨k, x, hk, hk4, rfl, rfl, hx, hx0, hx1⟩ := hrel
    have HX := Lib.hid hx
    clear hx
    by_cases hlt : k < n
    · by_cases h4 : (k : Int) < 4000
      · obtain ⟨ad, rfl, hs, hbk, hcell⟩ := HC.out (by omega)
        obtain ⟨b, off, spot⟩ := ad
        have hs' : spot = none := hs
        subst hs'
        have hkl : k < l.length := by rw [HL.out]; exact hlt
        have hcx := hcell k hkl
        have HK := Lib.hid hkl
        have hnx : hTo l (k + 1) = bits .and .i64 (x * 131 + ((l[k]'hkl).toNat : Int) + 7) 1073741823 := by rw [HNX.out k hkl, ← HX.out]; rfl
        have HNX2 := Lib.hid hnx
        have ha : (⟨b, off, none⟩ : Addr).add k = ⟨b, off + k, none⟩ := by unfold Addr.add; split <;> simp_all
        rw [ha] at hcx
        have hv := (l[k]'hkl).toNat_lt
        clear hnx
        generalize (l[k]'hkl).toNat = v at *
        have hm := andMask (x * 131 + (v : Int) + 7)
        clear hcell ha hs HC hkl
        have HM := Lib.hid hm
        clear hm
        go_wp2
        all_goals go_round
        all_goals
          first
          | (case rel => exact ⟨k + 1, _, by omega, by omega, by go_num, rfl, by rw [HNX2.out], by have := HM.out; omega, by have := HM.out; omega⟩)
          | skip
        all_goals simp [intOf]; omega
      · have he := HX.out.trans (HEND.out k hk4 (by have := HL.out; omega) (.inr (by omega)))
        have HE := Lib.hid he
        clear he
        go_wp2
        go_ret
        exact ⟨rfl, by rw [HE.out]⟩
    · have he := HX.out.trans (HEND.out k hk4 (by have := HL.out; omega) (.inl (by have := HL.out; omega)))
      have HE := Lib.hid he
      clear he
      go_wp2
      go_ret
      exact ⟨rfl, by rw [HE.out]⟩
end Go.Proofs.YtodddilaniojgaaGreat
namespace Go.Proofs.YtodddilaniojgaaGreat.Ab
open Go.RowKit Go.ChangeShapes Go.WideShapes
set_option linter.unusedVariables false
variable {P : Program} {T : Tab} {w : World}
def RowR (T : Tab) (w : World) (X : Nat → Prop) (cts : List CT) (cs : List Value) (row : List D) : Prop :=
  cs.length = cts.length ∧ row.length = cts.length ∧ ∀ (j : Nat) ct v d, cts[j]? = some ct → cs[j]? = some v → row[j]? = some d → RdR T w X ct v d
def flatGo (P : Program) (T : Tab) (S : List TypeId) : Nat → List Field → List CT → Bool
  | _, [], cts => cts.isEmpty
  | off, g :: gs, cts => match T g.type with
    | some ty => g.offset == off && S.contains g.type && cts.take ty.cts.length == ty.cts && flatGo P T S (off + ty.cts.length) gs (cts.drop ty.cts.length)
    | none => false
def flatOk (P : Program) (T : Tab) (S : List TypeId) (t : TypeId) : Bool :=
  match T t, P.underlying t with
  | some ty, some .bool => ty.cts == [.b]
  | some ty, some (.int k) => ty.cts == [.i k]
  | some ty, some .string => ty.cts == [.s]
  | some ty, some (.slice e) => ty.cts == [.l e] && S.contains e && decide (0 < P.cellsOf e)
  | some ty, some (.struct fs) => flatGo P T S 0 fs.toList ty.cts
  | _, _ => false
theorem list_choose' {α β : Type} : ∀ (l : List α) (Q : Nat → α → β → Prop), (∀ k a, l[k]? = some a → ∃ b, Q k a b) → ∃ xs : List β, xs.length = l.length ∧ ∀ k x, xs[k]? = some x → ∃ a, l[k]? = some a ∧ Q k a x
  | [], _, _ => ⟨[], rfl, fun k x h => by simp at h⟩
  | a :: r, Q, h => by
    obtain ⟨b, hb⟩ := h 0 a rfl
    obtain ⟨xs, hl, hx⟩ := list_choose' r (fun k => Q (k + 1)) (fun k a' h' => h (k + 1) a' (by simpa using h'))
    refine ⟨b :: xs, by simp [hl], fun k x hk => ?_⟩
    cases k with
    | zero =>
      have e : b = x := by simpa using hk
      subst e
      exact ⟨a, rfl, hb⟩
    | succ k =>
      obtain ⟨a', h1, h2⟩ := hx k x (by simpa using hk)
      exact ⟨a', by simpa using h1, h2⟩
theorem addr_off' (b o k : Nat) : (⟨b, o, none⟩ : Addr).add k = ⟨b, o + k, none⟩ := by unfold Addr.add; split <;> simp_all
theorem rows_go (hT : TabOk P T) {S : List TypeId} {R : TypeId → List Value → Prop} (ih : ∀ t cs, t ∈ S → R t cs → ∃ ty row, T t = some ty ∧ RowR T w (fun _ => False) ty.cts cs row) :
    ∀ (gs : List Field) (off : Nat) (cts : List CT) (cs : List Value), flatGo P T S off gs cts = true → (∀ g ∈ gs, R g.type ((cs.drop g.offset).take (P.cellsOf g.type))) →
      ∃ row : List D, row.length = cts.length ∧ ∀ (j : Nat) ct v d, cts[j]? = some ct → cs[off + j]? = some v → row[j]? = some d → RdR T w (fun _ => False) ct v d
  | [], off, cts, cs, h, _ => by
    have : cts = [] := by simpa [flatGo] using h
    subst this
    exact ⟨[], rfl, fun j ct v d h => by simp at h⟩
  | g :: gs, off, cts, cs, h, hg => by
    unfold flatGo at h
    split at h
    · rename_i ty hty
      simp only [Bool.and_eq_true, beq_iff_eq, List.contains_iff_mem] at h
      obtain ⟨⟨⟨h1, h2⟩, h3⟩, h4⟩ := h
      obtain ⟨ty', r1, hty', a1, a2, a3⟩ := ih g.type _ h2 (hg g (List.mem_cons_self ..))
      rw [hty] at hty'
      obtain rfl := Option.some.inj hty'
      obtain ⟨r2, b1, b2⟩ := rows_go hT ih gs (off + ty.cts.length) (cts.drop ty.cts.length) cs h4 (fun g' hg' => hg g' (List.mem_cons_of_mem _ hg'))
      have hlen : ty.cts.length ≤ cts.length := by
        have := congrArg List.length h3
        rw [List.length_take] at this
        omega
      refine ⟨r1 ++ r2, by rw [List.length_append, a2, b1, List.length_drop]; omega, fun j ct v d hc hv hd => ?_⟩
      by_cases hj : j < ty.cts.length
      · rw [List.getElem?_append_left (by rw [a2]; exact hj)] at hd
        refine a3 j ct v d ?_ ?_ hd
        · rw [← h3, List.getElem?_take, if_pos hj]; exact hc
        · rw [(hT _ _ hty).cellsOf, List.getElem?_take, if_pos hj, List.getElem?_drop, h1]; exact hv
      · rw [List.getElem?_append_right (by rw [a2]; omega), a2] at hd
        refine b2 (j - ty.cts.length) ct v d ?_ ?_ hd
        · rw [List.getElem?_drop]; rw [show ty.cts.length + (j - ty.cts.length) = j by omega]; exact hc
        · rw [show off + ty.cts.length + (j - ty.cts.length) = off + j by omega]; exact hv
    · cases h
theorem row_of_trod (hT : TabOk P T) {H : Type} {enc : TypeId × Value → H} {S : List TypeId} (hS : S.all (flatOk P T S) = true) {sp : Nat → Bool} :
    ∀ (f : Nat) (t : TypeId) (cs : List Value) (x : DataW H × List MemPlace), t ∈ S → DataW.trod enc P w 0 sp true f t cs = some x → ∃ ty row, T t = some ty ∧ RowR T w (fun _ => False) ty.cts cs row
  | 0, _, _, _, _, h => by simp [DataW.trod] at h
  | f + 1, t, cs, x, ht, h => by
    have one : ∀ {ct v d}, RdR T w (fun _ => False) ct v d → RowR T w (fun _ => False) [ct] [v] [d] := fun {ct v d} h => ⟨rfl, rfl, fun j c u e a b g => by
      cases j with
      | zero =>
        obtain rfl := Option.some.inj a
        obtain rfl := Option.some.inj b
        obtain rfl := Option.some.inj g
        exact h
      | succ j => cases a⟩
    have hp : flatOk P T S t = true := List.all_eq_true.1 hS t ht
    unfold flatOk at hp
    split at hp
    · rename_i ty hty hu
      obtain ⟨b, e1, _, _⟩ := DataW.trod_bool hu h
      subst e1
      exact ⟨ty, [.b b], hty, by rw [show ty.cts = [.b] by simpa using hp]; exact one (.bool b)⟩
    · rename_i ty k hty hu
      obtain ⟨n, e1, _, hw⟩ := DataW.trod_int hu h
      subst e1
      exact ⟨ty, [.i n], hty, by rw [show ty.cts = [.i k] by simpa using hp]; exact one (.int k n (by simpa [Lit.wf, inK] using hw))⟩
    · rename_i ty hty hu
      obtain ⟨s, e1, _, hw⟩ := DataW.trod_string hu h
      subst e1
      exact ⟨ty, [.s s], hty, by rw [show ty.cts = [.s] by simpa using hp]; exact one (.str s hw)⟩
    · rename_i ty e hty hu
      simp only [Bool.and_eq_true, decide_eq_true_eq, List.contains_iff_mem, beq_iff_eq] at hp
      obtain ⟨⟨hc, he⟩, hpos⟩ := hp
      rcases DataW.trod_slice hu h with ⟨e1, _⟩ | ⟨a, len, cap, elems, rest, n, hf, e1, _, _, hl, hm, hlen, hel, _, _⟩
      · subst e1
        exact ⟨ty, [.l []], hty, by rw [hc]; exact one (.nil e none 0 (Nat.zero_le _))⟩
      · obtain rfl : f = n := by omega
        subst e1
        by_cases hn : len = 0
        · subst hn
          exact ⟨ty, [.l []], hty, by rw [hc]; exact one (.nil e (some a) cap hm)⟩
        have step : ∀ k y, elems[k]? = some y → ∃ cs', w.cells? 0 (a.add (k * P.cellsOf e)) (P.cellsOf e) = some cs' ∧ DataW.trod enc P w 0 sp true f e cs' = some y := by
          intro k y hy
          have hk : k < len := by rw [← hlen]; exact (List.getElem?_eq_some_iff.1 hy).1
          have h1 := hel k hk
          rw [hy] at h1
          cases hc : w.cells? 0 (a.add (k * P.cellsOf e)) (P.cellsOf e) with
          | none => rw [hc] at h1; cases h1
          | some cs' => rw [hc] at h1; exact ⟨cs', rfl, h1⟩
        have hte : ∃ te, T e = some te := by
          obtain ⟨cs', _, ht'⟩ := step 0 _ (List.getElem?_eq_getElem (by omega))
          obtain ⟨te, _, hte, _⟩ := row_of_trod hT hS f e cs' _ he ht'
          exact ⟨te, hte⟩
        obtain ⟨te, hte⟩ := hte
        have hC : P.cellsOf e = te.cts.length := (hT _ _ hte).cellsOf
        obtain ⟨rows, hxl, hx⟩ := list_choose' elems (fun k y (row : List D) => ∃ cs', w.cells? 0 (a.add (k * P.cellsOf e)) (P.cellsOf e) = some cs' ∧ RowR T w (fun _ => False) te.cts cs' row) (fun k y hy => by
          obtain ⟨cs', hc, ht'⟩ := step k y hy
          obtain ⟨te', row, hte', hr⟩ := row_of_trod hT hS f e cs' y he ht'
          rw [hte] at hte'
          obtain rfl := Option.some.inj hte'
          exact ⟨row, cs', hc, hr⟩)
        have hrl : rows.length = len := hxl.trans hlen
        obtain ⟨b, o, spot⟩ := a
        have hs : spot = none ∧ b < w.heap.size := by
          obtain ⟨cs', hc, _⟩ := step 0 _ (List.getElem?_eq_getElem (by omega))
          obtain ⟨_, hcl, hat⟩ := World.cells?_some hc
          have h0 := hat 0 hpos
          rw [List.getElem?_eq_getElem (by omega)] at h0
          have h1 := World.cell?_spot h0
          have h2 := World.block_lt_of_cell? w _ h0
          rw [Nat.zero_mul] at h1 h2
          exact ⟨by simpa [Addr.add] using h1, by simpa [Addr.add] using h2⟩
        obtain ⟨hs, hb⟩ := hs
        subst hs
        refine ⟨ty, [.l rows], hty, ?_⟩
        rw [hc, ← hrl]
        have cell : ∀ k row, rows[k]? = some row → ∃ cs' : List Value, cs'.length = te.cts.length ∧ row.length = te.cts.length ∧ (∀ j, j < te.cts.length → w.cell? ⟨b, o + k * te.cts.length + j, none⟩ = cs'[j]?) ∧ RowR T w (fun _ => False) te.cts cs' row := by
          intro k row hk
          obtain ⟨y, _, cs', hc', hr⟩ := hx k row hk
          obtain ⟨_, hcl, hat⟩ := World.cells?_some hc'
          refine ⟨cs', hr.1, hr.2.1, fun j hj => ?_, hr⟩
          have h1 := hat j (by rw [hC]; exact hj)
          rw [addr_off', addr_off', hC] at h1
          exact h1
        refine one (.sl e te b o cap rows (fun k j => (w.cell? ⟨b, o + k * te.cts.length + j, none⟩).getD undef) hte (by omega) hm (fun h => h) hb (fun k j hk hj => ?_) (fun k row hk => ?_) (fun k j ct d row hk hct hd => ?_))
        · obtain ⟨cs', c1, _, c2, _⟩ := cell k rows[k] (List.getElem?_eq_getElem hk)
          rw [c2 j hj, List.getElem?_eq_getElem (by omega)]; rfl
        · obtain ⟨cs', _, c1, _⟩ := cell k row hk
          exact c1
        · obtain ⟨cs', c0, c1, c2, c3⟩ := cell k row hk
          have hj : j < te.cts.length := (List.getElem?_eq_some_iff.1 hct).1
          have hv : cs'[j]? = some cs'[j] := List.getElem?_eq_getElem (by omega)
          rw [c2 j hj, hv]
          exact c3.2.2 j ct _ d hct hv hd
    · rename_i ty fs hty hu
      obtain ⟨ys, n, hf, _, hcl, hyl, hg⟩ := DataW.trod_struct hu h
      obtain rfl : f = n := by omega
      obtain ⟨row, h1, h2⟩ := rows_go (w := w) hT (R := fun t cs => ∃ x, DataW.trod enc P w 0 sp true f t cs = some x) (fun t cs ht ⟨x, hx⟩ => row_of_trod hT hS f t cs x ht hx) fs.toList 0 ty.cts cs hp (fun g hgm => by
        obtain ⟨k, hk⟩ := List.getElem?_of_mem hgm
        have hk' : fs[k]? = some g := by simpa using hk
        have hkl : k < fs.size := (Array.getElem?_eq_some_iff.1 hk').1
        have h1 := hg k g hk'
        rw [List.getElem?_eq_getElem (show k < ys.length by omega)] at h1
        exact ⟨_, h1⟩)
      refine ⟨ty, row, hty, by rw [hcl]; exact (hT _ _ hty).cellsOf, h1, fun j ct v d a b c => h2 j ct v d a (by rw [Nat.zero_add]; exact b) c⟩
    · cases hp
theorem RowR.wf {X : Nat → Prop} {cts : List CT} {cs : List Value} {row : List D} (h : RowR T w X cts cs row) : WfRow T cts row := by
  refine ⟨h.2.1, fun j ct d hc hd => ?_⟩
  have hj : j < cs.length := by rw [h.1]; exact (List.getElem?_eq_some_iff.1 hc).1
  exact (h.2.2 j ct _ d hc (List.getElem?_eq_getElem hj) hd).wf
theorem RdR.argC {X : Nat → Prop} {ct : CT} {v : Value} {d : D} (h : RdR T w X ct v d) : ArgC T w X v (ofD ct d) := by
  cases h with
  | int k n h => exact ⟨rfl, h⟩
  | bool x => rfl
  | str x h => exact ⟨rfl, h⟩
  | nil e A c h => exact RdR.nil e A c h
  | sl e ty b o c rows vs h1 h2 h3 h4 h5 h6 h7 h8 => exact RdR.sl e ty b o c rows vs h1 h2 h3 h4 h5 h6 h7 h8
theorem RowR.argG {X : Nat → Prop} {cts : List CT} {cs : Array Value} {row : List D} (h : RowR T w X cts cs.toList row) : ArgR T w X (.agg cs) (argG cts row) := by
  refine ⟨cs.toList, rfl, by simp [rowC, ← h.1], fun i c u hc hu => ?_⟩
  simp only [rowC, List.getElem?_map, List.getElem?_zipIdx, Nat.zero_add] at hc
  cases hct : cts[i]? with
  | none => rw [hct] at hc; cases hc
  | some ct =>
    rw [hct] at hc
    obtain rfl := Option.some.inj hc
    have hi : i < row.length := by rw [h.2.1]; exact (List.getElem?_eq_some_iff.1 hct).1
    have hd : row[i]? = some (row.getD i default) := by simp [List.getD_eq_getElem?_getD, List.getElem?_eq_getElem hi]
    exact (h.2.2 i ct u _ hct hu hd).argC
theorem RowR.argS {X : Nat → Prop} {e : TypeId} {v : Value} {row : List D} (h : RowR T w X [.l e] [v] row) : ArgR T w X v (argS e (row.getD 0 default).rows) := by
  have hi : 0 < row.length := by rw [h.2.1]; simp
  have hd : row[0]? = some (row.getD 0 default) := by simp [List.getD_eq_getElem?_getD, List.getElem?_eq_getElem hi]
  exact ⟨_, rfl, (h.2.2 0 _ v _ rfl rfl hd).argC⟩
theorem ArgsR.one {w : World} {X : Nat → Prop} {v : Value} {a : SV} (h : ArgR T w X v a) : ArgsR T w X [v] [a] := .cons h .nil
end Go.Proofs.YtodddilaniojgaaGreat.Ab
namespace Go.Proofs.YtodddilaniojgaaGreat.Ab
noncomputable section
open Go.RowKit
set_option linter.unusedVariables false
def bytesL (rows : List (List D)) : List UInt8 := rows.map fun r => UInt8.ofNat (r.getD 0 default).int.toNat
def spNewC (e : TypeId) : FSpec where
  pre args := ∃ rows : List (List D), rows.length ≤ 1048576 ∧ args = [argS e rows]
  res _ := .none
  bx := true
  nb := true
  upd args := match args with
    | [.val _ [.sl _ _ rows]] => curC e rows 0 (hOf (bytesL rows))
    | _ => []
theorem RdR.int_u {T : Tab} {w : World} {X : Nat → Prop} {k : IntKind} {v : Value} {d : D} (h : RdR T w X (.i k) v d) : v = .int k d.int := by cases h; rfl
theorem ArgsR.one_u {T : Tab} {w : World} {X : Nat → Prop} {vals : List Value} {c : CV} (h : ArgsR T w X vals [.val false [c]]) : ∃ v, vals = [v] ∧ ArgC T w X v c := by
  obtain ⟨h1, h2⟩ := h
  match vals, h1 with
  | [v], _ =>
    obtain ⟨c', e, hc⟩ := h2 0 _ v rfl rfl
    obtain rfl : c = c' := by simpa using e
    exact ⟨v, rfl, hc⟩
theorem newC_ok {P : Program} {T : Tab} {f : FuncId} {e : TypeId} {te : Ty} {et : TypeId} (hte : T e = some te) (hct : te.cts = [.i .u8]) (hcall : ∀ args w, (callFunc f args).run P w = .ok (.enter f args) w)
    (h : ∀ (A : Option Addr) (n c : Nat) (l : List UInt8) (w : World) (hn : n ≤ 1048576) (hb : IsBytes w w.heap.size A n l), Calls P f #[.slice A n c] w fun e w' => e = .returned (.pointer (some ⟨w.heap.size, 0, none⟩)) ∧ w' = w.alloc (.cells #[.slice A n c, .int .i64 0, .int .i64 (hOf l)] et)) : FOk P T f (spNewC e) := by
  refine ⟨hcall, (fun _ hn => by cases hn), (fun hb => by cases hb), fun _ _ w X args vals hX hargs hpre => ?_⟩
  obtain ⟨rows, hr, rfl⟩ := hpre
  obtain ⟨v, rfl, hv⟩ := (show ArgsR T w X vals [.val false [.sl false e rows]] from hargs).one_u
  have hv' : RdR T w X (.l e) v (.l rows) := hv
  have hH := hTo_in (bytesL rows) (by unfold bytesL; rw [List.length_map]; exact hr)
  have key : ∃ A n c, v = .slice A n c ∧ n ≤ 1048576 ∧ IsBytes w w.heap.size A n (bytesL rows) := by
    clear hv hH
    generalize hd : D.l rows = d at hv'
    generalize hc : CT.l e = ct at hv'
    cases hv' with
    | nil e' A c g =>
      obtain rfl : rows = [] := by simpa using hd
      exact ⟨A, 0, c, rfl, Nat.zero_le _, rfl, fun h => absurd h (Nat.lt_irrefl _)⟩
    | sl e' ty b o c rows' vs g1 g2 g3 g4 g5 g6 g7 g8 =>
      cases hc
      obtain rfl : rows = rows' := by simpa using hd
      rw [hte] at g1
      obtain rfl := Option.some.inj g1
      refine ⟨_, rows.length, c, rfl, hr, by unfold bytesL; rw [List.length_map], fun _ => ⟨_, rfl, rfl, g5, fun k hk => ?_⟩⟩
      have hk' : k < rows.length := by unfold bytesL at hk; rwa [List.length_map] at hk
      have := g6 k 0 hk' (by rw [hct]; simp)
      rw [hct] at this
      simp only [List.length_cons, List.length_nil, Nat.zero_add, Nat.mul_one, Nat.add_zero] at this
      rw [addr_off', this]
      have hlen := g7 k rows[k] (List.getElem?_eq_getElem hk')
      rw [hct] at hlen
      obtain ⟨d, hd'⟩ := List.length_eq_one_iff.1 hlen
      have hr8 := g8 k 0 (.i .u8) d rows[k] (List.getElem?_eq_getElem hk') (by rw [hct]; rfl) (by rw [hd']; rfl)
      have hin : ∃ m, d = .i m ∧ inK .u8 m := by
        have hr9 := hr8
        generalize hct0 : CT.i .u8 = ct0 at hr9
        generalize vs k 0 = u0 at hr9
        cases hr9 with
        | int k' m hm => cases hct0; exact ⟨m, rfl, hm⟩
        | _ => cases hct0
      obtain ⟨m, rfl, hm⟩ := hin
      rw [hr8.int_u]
      have e0 : (bytesL rows)[k]? = some (UInt8.ofNat m.toNat) := by
        unfold bytesL
        rw [List.getElem?_map, List.getElem?_eq_getElem hk', hd']
        rfl
      have e1 : (bytesL rows)[k]'hk = UInt8.ofNat m.toNat := (List.getElem?_eq_some_iff.1 e0).2
      rw [e1]
      have h0 : IntKind.min .u8 = 0 := by decide
      have h255 : IntKind.max .u8 = 255 := by decide
      rw [inK, h0, h255] at hm
      show some (Value.int .u8 m) = some (Value.int .u8 ((UInt8.ofNat m.toNat).toNat : Int))
      rw [UInt8.toNat_ofNat', Nat.mod_eq_of_lt (by omega)]
      congr 2
      omega
    | _ => cases hc
  obtain ⟨A, n, c, rfl, hn, hb⟩ := key
  refine (h A n c (bytesL rows) w hn hb).mono fun e' w' ⟨he, hw⟩ => ⟨_, et, he, hw, rfl, fun i cc u h1 h2 => ?_⟩
  have h1' : (curC e rows 0 (hOf (bytesL rows)))[i]? = some cc := h1
  match i with
  | 0 =>
    obtain rfl : CV.sl false e rows = cc := by simpa using h1'
    obtain rfl : Value.slice A n c = u := by simpa using h2
    exact hv'
  | 1 =>
    obtain rfl : CV.i .i64 0 = cc := by simpa using h1'
    obtain rfl : Value.int .i64 0 = u := by simpa using h2
    exact ⟨rfl, by decide, by decide⟩
  | 2 =>
    obtain rfl : CV.i .i64 (hOf (bytesL rows)) = cc := by simpa using h1'
    obtain rfl : Value.int .i64 (hOf (bytesL rows)) = u := by simpa using h2
    have hh : 0 ≤ hOf (bytesL rows) ∧ hOf (bytesL rows) ≤ 1100000000 := by
      unfold hOf
      rcases Nat.le_total 4000 (bytesL rows).length with hl | hl
      · exact hH 4000 hl
      · have e : hTo (bytesL rows) 4000 = hTo (bytesL rows) (bytesL rows).length := by
          unfold hTo
          rw [List.take_of_length_le hl, List.take_length]
        rw [e]
        exact hH _ (Nat.le_refl _)
    have h1 : IntKind.i64.min = -9223372036854775808 := by decide
    have h2 : IntKind.i64.max = 9223372036854775807 := by decide
    refine ⟨rfl, ?_⟩
    rw [inK, h1, h2]
    omega
  | k + 3 => simp at h1'
theorem ok19 : FOk Tryz.prog T 19 (spNewC 5) := newC_ok rfl rfl Tryz.call19 new_exact
end
end Go.Proofs.YtodddilaniojgaaGreat.Ab
