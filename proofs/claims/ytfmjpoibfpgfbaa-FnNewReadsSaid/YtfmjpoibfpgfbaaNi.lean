/- The function that makes a cursor, as a description; drawn tapes as a description. -/
import Derived.Test.YtfmjpoibfpgfbaaNt
import Derived.Test.YtfmjpoibfpgfbaaNh
import Derived.Test.YtfmjpoibfpgfbaaBr
namespace Go.Proofs.Ytfmjpoibfpgfbaa.Ab
noncomputable section
open Go.RowKit
set_option linter.unusedVariables false
def bytesL (rows : List (List D)) : List UInt8 := rows.map fun r => UInt8.ofNat (r.getD 0 default).int.toNat
def spNewC (e : TypeId) : FSpec where
  pre args := ∃ rows : List (List D), rows.length ≤ 1048576 ∧ args = [argS e rows]
  res _ := .none
  bx := true
  nb := true
  upd args := match args with
    | [.val _ [.sl _ _ rows]] => curC e rows 0 (hOf (bytesL rows))
    | _ => []
theorem RdR.int_u {T : Tab} {w : World} {X : Nat → Prop} {k : IntKind} {v : Value} {d : D} (h : RdR T w X (.i k) v d) : v = .int k d.int := by cases h; rfl
theorem ArgsR.one_u {T : Tab} {w : World} {X : Nat → Prop} {vals : List Value} {c : CV} (h : ArgsR T w X vals [.val false [c]]) : ∃ v, vals = [v] ∧ ArgC T w X v c := by
  obtain ⟨h1, h2⟩ := h
  match vals, h1 with
  | [v], _ =>
    obtain ⟨c', e, hc⟩ := h2 0 _ v rfl rfl
    obtain rfl : c = c' := by simpa using e
    exact ⟨v, rfl, hc⟩
theorem newC_ok {P : Program} {T : Tab} {f : FuncId} {e : TypeId} {te : Ty} {et : TypeId} (hte : T e = some te) (hct : te.cts = [.i .u8]) (hcall : ∀ args w, (callFunc f args).run P w = .ok (.enter f args) w)
    (h : ∀ (A : Option Addr) (n c : Nat) (l : List UInt8) (w : World) (hn : n ≤ 1048576) (hb : IsBytes w w.heap.size A n l), Calls P f #[.slice A n c] w fun e w' => e = .returned (.pointer (some ⟨w.heap.size, 0, none⟩)) ∧ w' = w.alloc (.cells #[.slice A n c, .int .i64 0, .int .i64 (hOf l)] et)) : FOk P T f (spNewC e) := by
  refine ⟨hcall, (fun _ hn => by cases hn), (fun hb => by cases hb), fun _ _ w X args vals hX hargs hpre => ?_⟩
  obtain ⟨rows, hr, rfl⟩ := hpre
  obtain ⟨v, rfl, hv⟩ := (show ArgsR T w X vals [.val false [.sl false e rows]] from hargs).one_u
  have hv' : RdR T w X (.l e) v (.l rows) := hv
  have hH := hTo_in (bytesL rows) (by unfold bytesL; rw [List.length_map]; exact hr)
  have key : ∃ A n c, v = .slice A n c ∧ n ≤ 1048576 ∧ IsBytes w w.heap.size A n (bytesL rows) := by
    clear hv hH
    generalize hd : D.l rows = d at hv'
    generalize hc : CT.l e = ct at hv'
    cases hv' with
    | nil e' A c g =>
      obtain rfl : rows = [] := by simpa using hd
      exact ⟨A, 0, c, rfl, Nat.zero_le _, rfl, fun h => absurd h (Nat.lt_irrefl _)⟩
    | sl e' ty b o c rows' vs g1 g2 g3 g4 g5 g6 g7 g8 =>
      cases hc
      obtain rfl : rows = rows' := by simpa using hd
      rw [hte] at g1
      obtain rfl := Option.some.inj g1
      refine ⟨_, rows.length, c, rfl, hr, by unfold bytesL; rw [List.length_map], fun _ => ⟨_, rfl, rfl, g5, fun k hk => ?_⟩⟩
      have hk' : k < rows.length := by unfold bytesL at hk; rwa [List.length_map] at hk
      have := g6 k 0 hk' (by rw [hct]; simp)
      rw [hct] at this
      simp only [List.length_cons, List.length_nil, Nat.zero_add, Nat.mul_one, Nat.add_zero] at this
      rw [addr_off', this]
      have hlen := g7 k rows[k] (List.getElem?_eq_getElem hk')
      rw [hct] at hlen
      obtain ⟨d, hd'⟩ := List.length_eq_one_iff.1 hlen
      have hr8 := g8 k 0 (.i .u8) d rows[k] (List.getElem?_eq_getElem hk') (by rw [hct]; rfl) (by rw [hd']; rfl)
      have hin : ∃ m, d = .i m ∧ inK .u8 m := by
        have hr9 := hr8
        generalize hct0 : CT.i .u8 = ct0 at hr9
        generalize vs k 0 = u0 at hr9
        cases hr9 with
        | int k' m hm => cases hct0; exact ⟨m, rfl, hm⟩
        | _ => cases hct0
      obtain ⟨m, rfl, hm⟩ := hin
      rw [hr8.int_u]
      have e0 : (bytesL rows)[k]? = some (UInt8.ofNat m.toNat) := by
        unfold bytesL
        rw [List.getElem?_map, List.getElem?_eq_getElem hk', hd']
        rfl
      have e1 : (bytesL rows)[k]'hk = UInt8.ofNat m.toNat := (List.getElem?_eq_some_iff.1 e0).2
      rw [e1]
      have h0 : IntKind.min .u8 = 0 := by decide
      have h255 : IntKind.max .u8 = 255 := by decide
      rw [inK, h0, h255] at hm
      show some (Value.int .u8 m) = some (Value.int .u8 ((UInt8.ofNat m.toNat).toNat : Int))
      rw [UInt8.toNat_ofNat', Nat.mod_eq_of_lt (by omega)]
      congr 2
      omega
    | _ => cases hc
  obtain ⟨A, n, c, rfl, hn, hb⟩ := key
  refine (h A n c (bytesL rows) w hn hb).mono fun e' w' ⟨he, hw⟩ => ⟨_, et, he, hw, rfl, fun i cc u h1 h2 => ?_⟩
  have h1' : (curC e rows 0 (hOf (bytesL rows)))[i]? = some cc := h1
  match i with
  | 0 =>
    obtain rfl : CV.sl false e rows = cc := by simpa using h1'
    obtain rfl : Value.slice A n c = u := by simpa using h2
    exact hv'
  | 1 =>
    obtain rfl : CV.i .i64 0 = cc := by simpa using h1'
    obtain rfl : Value.int .i64 0 = u := by simpa using h2
    exact ⟨rfl, by decide, by decide⟩
  | 2 =>
    obtain rfl : CV.i .i64 (hOf (bytesL rows)) = cc := by simpa using h1'
    obtain rfl : Value.int .i64 (hOf (bytesL rows)) = u := by simpa using h2
    have hh : 0 ≤ hOf (bytesL rows) ∧ hOf (bytesL rows) ≤ 1100000000 := by
      unfold hOf
      rcases Nat.le_total 4000 (bytesL rows).length with hl | hl
      · exact hH 4000 hl
      · have e : hTo (bytesL rows) 4000 = hTo (bytesL rows) (bytesL rows).length := by
          unfold hTo
          rw [List.take_of_length_le hl, List.take_length]
        rw [e]
        exact hH _ (Nat.le_refl _)
    have h1 : IntKind.i64.min = -9223372036854775808 := by decide
    have h2 : IntKind.i64.max = 9223372036854775807 := by decide
    refine ⟨rfl, ?_⟩
    rw [inK, h1, h2]
    omega
  | k + 3 => simp at h1'
theorem ok10 : FOk Try.prog T 10 (spNewC 5) := newC_ok rfl rfl Try.call10 new_exact
end
end Go.Proofs.Ytfmjpoibfpgfbaa.Ab
