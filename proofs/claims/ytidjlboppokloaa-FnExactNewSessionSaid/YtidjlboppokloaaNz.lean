/- The law FnExactNewSession, walked over descriptions of both NewSession. -/
import Derived.Test.YtidjlboppokloaaNa
import Derived.Test.YtidjlboppokloaaNb
import Derived.Test.YtidjlboppokloaaFrame
import Derived.Test.YtidjlboppokloaaEe
namespace Go.Proofs.Ytidjlboppokloaa
open Go.RowKit Ab
set_option linter.unusedVariables false
set_option linter.unusedSimpArgs false
set_option maxRecDepth 100000
set_option maxHeartbeats 8000000
abbrev cSes : List CT := [.l 124, .i .i64, .i .i64, .l 126, .l 54, .l 133, .i .i64, .i .i64, .i .i64, .l 124, .l 95, .i .i64]
abbrev nodes0 : List (List D) := [[.i (-1), .l [], .l []]]
abbrev nsR : List D := [.l [], .i 0, .i 0, .l [], .l [], .l [], .i 1, .i 200, .i 0, .l [], .l nodes0, .i 0]
theorem of_rowsT {e : TypeId} {te : Ty} {rows : List (List D)} (he : T e = some te) (hl : rows.length ≤ maxLen) (h : ∀ r ∈ rows, WfRow T te.cts r) : WfD T (.l e) (.l rows) :=
  .sl e te rows he hl (fun k row hk => (h row (List.mem_of_getElem? hk)).1) (fun k j ct d row hk hj hd => (h row (List.mem_of_getElem? hk)).2 j ct d hj hd)
theorem wfCons {ct : CT} {cts : List CT} {d : D} {r : List D} (h : WfD T ct d) (hr : WfRow T cts r) : WfRow T (ct :: cts) (d :: r) := by
  refine ⟨by simp [hr.1], fun j ct' d' h1 h2 => ?_⟩
  cases j with
  | zero => cases h1; cases h2; exact h
  | succ j => exact hr.2 j ct' d' h1 h2
theorem wfNil : WfRow T [] [] := ⟨rfl, fun j ct d h _ => by simp at h⟩
theorem nsR_k {n : Int} (h1 : -9223372036854775808 ≤ n) (h2 : n ≤ 9223372036854775807) : inK .i64 n := by
  have e1 : IntKind.i64.min = -9223372036854775808 := by decide
  have e2 : IntKind.i64.max = 9223372036854775807 := by decide
  exact ⟨by rw [e1]; exact h1, by rw [e2]; exact h2⟩
theorem nsR_w : WfRow T cSes nsR := by
  have i : ∀ {n : Int}, -9223372036854775808 ≤ n → n ≤ 9223372036854775807 → WfD T (.i .i64) (.i n) := fun a b => .int _ _ (nsR_k a b)
  have hn : WfRow T [.i .i64, .l 148, .l 148] [.i (-1), .l [], .l []] := wfCons (i (by decide) (by decide)) (wfCons (.nil _) (wfCons (.nil _) wfNil))
  have hN : WfD T (.l 95) (.l nodes0) := of_rowsT (show T 95 = some _ from rfl) (by decide) fun r h => by rw [List.mem_singleton.1 h]; exact hn
  exact wfCons (.nil _) (wfCons (i (by decide) (by decide)) (wfCons (i (by decide) (by decide)) (wfCons (.nil _) (wfCons (.nil _) (wfCons (.nil _) (wfCons (i (by decide) (by decide)) (wfCons (i (by decide) (by decide)) (wfCons (i (by decide) (by decide)) (wfCons (.nil _) (wfCons hN (wfCons (i (by decide) (by decide)) wfNil)))))))))))
theorem DeepV.one1 {w : World} {F : Nat → Prop} {e : TypeId} {u : Value} {r : List D} (h : DeepV T w F (.l e) u (.l [r])) : ∃ A c, u = .slice A 1 c := h.slice
theorem lawNS (mt : Int → ByteArray) (hmt : FOk Try.prog T 48 (spMT mt))
    (hS : FOk Try.prog Td 12 (spC [] (.val true (rowO cSes nsR)))) (hI : FOk Try.prog Td 13 (spC [] (.val true (rowO cSes nsR)))) (W : World) (hL : GlR T W (fun _ => False)) :
    Calls Try.prog 4 #[] W fun e W' => e = .returned (.bool true) ∧ Below W.heap.size W W' := by
  have HL := Lib.hid hL
  clear hL
  go_enter Try.func4, Try.ntmps4
  go_wp2_with fail
  refine (hS.ok rfl W (fun _ => False) [] [] (fun b h => h.elim) ArgsR.nil (HL.out.on true) rfl).mono ?_
  rintro e w1 ⟨v, bk, rfl, hb1, hr1, hlt1, hinj1⟩
  obtain ⟨us, rfl, D1⟩ := DeepRow.of_agg hr1 nsR_w (fun j b h => (hlt1 j b h).2) hinj1
  have HR1 := Lib.hid D1.reads
  have HB1 := Lib.hid hb1
  clear hr1 hb1 D1 hlt1 hinj1
  match us, HR1.out.len with
  | [a0, a1, a2, a3, a4, a5, a6, a7, a8, a9, a10, a11], _ =>
  obtain ⟨A0, l0, c0, rfl⟩ := (HR1.out.at_ 0 rfl rfl).slice
  obtain ⟨n1, rfl⟩ := (HR1.out.at_ 1 rfl rfl).int_inv
  obtain ⟨n2, rfl⟩ := (HR1.out.at_ 2 rfl rfl).int_inv
  obtain ⟨A3, l3, c3, rfl⟩ := (HR1.out.at_ 3 rfl rfl).slice
  obtain ⟨A4, l4, c4, rfl⟩ := (HR1.out.at_ 4 rfl rfl).slice
  obtain ⟨A5, l5, c5, rfl⟩ := (HR1.out.at_ 5 rfl rfl).slice
  obtain ⟨n6, rfl⟩ := (HR1.out.at_ 6 rfl rfl).int_inv
  obtain ⟨n7, rfl⟩ := (HR1.out.at_ 7 rfl rfl).int_inv
  obtain ⟨n8, rfl⟩ := (HR1.out.at_ 8 rfl rfl).int_inv
  obtain ⟨A9, l9, c9, rfl⟩ := (HR1.out.at_ 9 rfl rfl).slice
  obtain ⟨A10, l10, c10, rfl⟩ := (HR1.out.at_ 10 rfl rfl).slice
  obtain ⟨n11, rfl⟩ := (HR1.out.at_ 11 rfl rfl).int_inv
  go_wp2_with fail
  have v1b := allocB HB1.out (.cells #[.slice A0 l0 c0, .int .i64 n1, .int .i64 n2, .slice A3 l3 c3, .slice A4 l4 c4, .slice A5 l5 c5, .int .i64 n6, .int .i64 n7, .int .i64 n8, .slice A9 l9 c9, .slice A10 l10 c10, .int .i64 n11] 43)
  have hg1 := HL.out.bel v1b
  refine (hI.ok rfl _ (fun _ => False) [] [] (fun b h => h.elim) ArgsR.nil (hg1.on true) rfl).mono ?_
  rintro e w2 ⟨v, F, rfl, hb2, hr2, hlt2, hinj2⟩
  obtain ⟨us2, rfl, D2⟩ := DeepRow.of_agg hr2 nsR_w (fun j b h => (hlt2 j b h).2) hinj2
  have hfr : ∀ i b, F i b → w1.heap.size < b := fun i b h => by
    have := (hlt2 _ b h).1
    simp at this
    omega
  have HD2 := Lib.hid D2
  have HB2 := Lib.hid hb2
  have HG1 := Lib.hid hg1
  have HV1 := Lib.hid v1b
  have HF := Lib.hid hfr
  clear hr2 hb2 D2 hlt2 hinj2 hg1 v1b hfr
  have HR2 := Lib.hid HD2.out.reads
  match us2, HR2.out.len with
  | [b0, b1, b2, b3, b4, b5, b6, b7, b8, b9, b10, b11], _ =>
  obtain ⟨B0, q0, rfl⟩ := DeepV.empty (HD2.out.sl 0 _ b0 _ rfl rfl rfl)
  obtain ⟨m1, rfl⟩ := (HR2.out.at_ 1 rfl rfl).int_inv
  obtain ⟨m2, rfl⟩ := (HR2.out.at_ 2 rfl rfl).int_inv
  obtain ⟨B3, q3, rfl⟩ := DeepV.empty (HD2.out.sl 3 _ b3 _ rfl rfl rfl)
  obtain ⟨B4, q4, rfl⟩ := DeepV.empty (HD2.out.sl 4 _ b4 _ rfl rfl rfl)
  obtain ⟨B5, q5, rfl⟩ := DeepV.empty (HD2.out.sl 5 _ b5 _ rfl rfl rfl)
  obtain ⟨m6, rfl⟩ := (HR2.out.at_ 6 rfl rfl).int_inv
  obtain ⟨m7, rfl⟩ := (HR2.out.at_ 7 rfl rfl).int_inv
  obtain ⟨m8, rfl⟩ := (HR2.out.at_ 8 rfl rfl).int_inv
  obtain ⟨B9, q9, rfl⟩ := DeepV.empty (HD2.out.sl 9 _ b9 _ rfl rfl rfl)
  obtain ⟨B10, q10, rfl⟩ := DeepV.one1 (HD2.out.sl 10 _ b10 _ rfl rfl rfl)
  obtain ⟨m11, rfl⟩ := (HR2.out.at_ 11 rfl rfl).int_inv
  have X1 := Lib.hid ((BoxAt.new w1 #[.slice A0 l0 c0, .int .i64 n1, .int .i64 n2, .slice A3 l3 c3, .slice A4 l4 c4, .slice A5 l5 c5, .int .i64 n6, .int .i64 n7, .int .i64 n8, .slice A9 l9 c9, .slice A10 l10 c10, .int .i64 n11] 43).bel HB2.out)
  have C2 := Lib.hid (Below.trans ((Below.refl w1.heap.size w1).alloc (Nat.le_refl _) (.cells #[.slice A0 l0 c0, .int .i64 n1, .int .i64 n2, .slice A3 l3 c3, .slice A4 l4 c4, .slice A5 l5 c5, .int .i64 n6, .int .i64 n7, .int .i64 n8, .slice A9 l9 c9, .slice A10 l10 c10, .int .i64 n11] 43)) (HB2.out.mono (by simp)))
  have hsz2 : w1.heap.size < w2.heap.size := X1.out.1
  have z0 := X1.out.2 0 _ rfl
  have z1 := X1.out.2 1 _ rfl
  have z2 := X1.out.2 2 _ rfl
  have z3 := X1.out.2 3 _ rfl
  have z4 := X1.out.2 4 _ rfl
  have z5 := X1.out.2 5 _ rfl
  have z6 := X1.out.2 6 _ rfl
  have z7 := X1.out.2 7 _ rfl
  have z8 := X1.out.2 8 _ rfl
  have z9 := X1.out.2 9 _ rfl
  have z10 := X1.out.2 10 _ rfl
  have z11 := X1.out.2 11 _ rfl
  go_wp2_with fail
  have v2b := (Below.refl w2.heap.size w2).alloc (Nat.le_refl _) (.cells #[.slice B0 0 q0, .int .i64 m1, .int .i64 m2, .slice B3 0 q3, .slice B4 0 q4, .slice B5 0 q5, .int .i64 m6, .int .i64 m7, .int .i64 m8, .slice B9 0 q9, .slice B10 1 q10, .int .i64 m11] 43)
  have X1a := X1.out.bel v2b
  have X2a := BoxAt.new w2 #[.slice B0 0 q0, .int .i64 m1, .int .i64 m2, .slice B3 0 q3, .slice B4 0 q4, .slice B5 0 q5, .int .i64 m6, .int .i64 m7, .int .i64 m8, .slice B9 0 q9, .slice B10 1 q10, .int .i64 m11] 43
  have C2a := C2.out.trans (v2b.mono (Nat.le_of_lt hsz2))
  have HW2 := HB1.out.trans (C2a.mono HB1.out.size)
  clear z0 z1 z2 z3 z4 z5 z6 z7 z8 z9 z10 z11
  refine (Ab.ok14.ok rfl _ (fun _ => False) [argG cSes nsR, argG cSes nsR] [_, _] (fun b h => h.elim) (ArgsR.cons (HR2.out.bel v2b).arg (ArgsR.cons (HR1.out.bel C2a).arg ArgsR.nil)) (HL.out.bel HW2) ⟨_, _, nsR_w, nsR_w, rfl⟩).mono ?_
  rintro e w3 ⟨v, bk3, rfl, hb3, hr3, -, -⟩
  obtain rfl : v = .bool true := by rw [one_bool hr3]; exact congrArg Value.bool (decide_eq_true rfl)
  have X1 := Lib.hid (X1a.bel hb3)
  have X2 := Lib.hid (X2a.bel hb3)
  have C3 := Lib.hid (C2a.trans (hb3.mono (by simp; omega)))
  have HW3 := Lib.hid (HB1.out.trans (C3.out.mono HB1.out.size))
  have HD3 := Lib.hid ((HD2.out.bel v2b).bel hb3)
  clear hb3 hr3 X1a X2a C2a HW2 v2b
  have y0 := X2.out.2 0 _ rfl
  have y1 := X2.out.2 1 _ rfl
  have y2 := X2.out.2 2 _ rfl
  have y3 := X2.out.2 3 _ rfl
  have y4 := X2.out.2 4 _ rfl
  have y5 := X2.out.2 5 _ rfl
  have y6 := X2.out.2 6 _ rfl
  have y7 := X2.out.2 7 _ rfl
  have y8 := X2.out.2 8 _ rfl
  have y9 := X2.out.2 9 _ rfl
  have y10 := X2.out.2 10 _ rfl
  have y11 := X2.out.2 11 _ rfl
  go_wp2_with fail
  clear y0 y1 y2 y3 y4 y5 y6 y7 y8 y9 y10 y11
  have hFW : ∀ b, F 10 b → W.heap.size ≤ b := fun b h => by have := HF.out 10 b h; have := HB1.out.size; omega
  have hG3 : GlR T w3 (F 10) := HL.out.move ⟨HW3.out.size, fun b hb' _ => HW3.out.block b hb'⟩ fun b hb' hi => Nat.not_le_of_lt hb' (hFW b hi)
  refine (g0_markSession w3 _ _ _ _ _ _ _ _ _ _ _ _ _ _ _ _ _ 1 (by decide) mt hmt (F 10) nodes0 (by decide) hG3 (HD3.out.sl 10 _ _ _ rfl rfl rfl)).mono ?_
  rintro e w4 ⟨rfl, hm4⟩
  have X1b := Lib.hid (X1.out.markV hm4 (fun h => Nat.lt_irrefl _ (HF.out 10 _ h)))
  have X2b := Lib.hid (X2.out.markV hm4 (fun h => Nat.lt_irrefl _ (HD2.out.lt 10 _ h)))
  have C4 := Lib.hid (C3.out.trans (hm4.belowV (fun b h => Nat.le_of_lt (HF.out 10 b h)) (C3.out.size)))
  have HW4 := Lib.hid (HB1.out.trans (C4.out.mono HB1.out.size))
  have HM4 := Lib.hid hm4.deep
  clear hm4 hG3
  have y0 := X2b.out.2 0 _ rfl
  have y1 := X2b.out.2 1 _ rfl
  have y2 := X2b.out.2 2 _ rfl
  have y3 := X2b.out.2 3 _ rfl
  have y4 := X2b.out.2 4 _ rfl
  have y5 := X2b.out.2 5 _ rfl
  have y6 := X2b.out.2 6 _ rfl
  have y7 := X2b.out.2 7 _ rfl
  have y8 := X2b.out.2 8 _ rfl
  have y9 := X2b.out.2 9 _ rfl
  have y10 := X2b.out.2 10 _ rfl
  have y11 := X2b.out.2 11 _ rfl
  go_wp2_with fail
  clear y0 y1 y2 y3 y4 y5 y6 y7 y8 y9 y10 y11
  have wM : WfD T (.l 95) (.l nodes0) := (HD2.out.sl 10 _ _ _ rfl rfl rfl).wf
  refine (g0_heldSession w4 _ _ _ _ _ _ _ _ _ _ _ _ _ _ _ _ _ 1 (by decide) mt hmt nodes0 (by decide) (HL.out.bel HW4.out) wM (HM4.out.shared fun _ _ hx => hx)).mono ?_
  rintro e w5 ⟨rfl, hb5⟩
  have X1c := Lib.hid (X1b.out.bel hb5)
  have X2c := Lib.hid (X2b.out.bel hb5)
  have C5 := Lib.hid (C4.out.trans (hb5.mono C4.out.size))
  have HW5 := Lib.hid (HB1.out.trans (C5.out.mono HB1.out.size))
  have HM5 := Lib.hid (HM4.out.belV hb5)
  clear hb5
  have hc0 : 0 ≤ 1 + (cRows nodes0 : Int) := by omega
  have hc1 : ¬ (1 + (cRows nodes0 : Int) < 0) := by omega
  obtain ⟨q, hq⟩ : ∃ q, 1 + (cRows nodes0 : Int) = q := ⟨_, rfl⟩
  rw [hq] at hc0 hc1 ⊢
  go_wp2_with fail
  refine (hI.ok rfl _ (fun _ => False) [] [] (fun b h => h.elim) ArgsR.nil ((HL.out.bel HW5.out).on true) rfl).mono ?_
  rintro e w6 ⟨v, bk6, rfl, hb6, hr6, hlt6, hinj6⟩
  obtain ⟨us3, rfl, D6⟩ := DeepRow.of_agg hr6 nsR_w (fun j b h => (hlt6 j b h).2) hinj6
  have HR6 := Lib.hid D6.reads
  have X1d := Lib.hid (X1c.out.bel hb6)
  have X2d := Lib.hid (X2c.out.bel hb6)
  have C6 := Lib.hid (C5.out.trans (hb6.mono C5.out.size))
  have HM6 := Lib.hid (HM5.out.belV hb6)
  clear hr6 hb6 D6 hlt6 hinj6
  match us3, HR6.out.len with
  | [d0, d1, d2, d3, d4, d5, d6, d7, d8, d9, d10, d11], _ =>
  obtain ⟨D0, s0, t0, rfl⟩ := (HR6.out.at_ 0 rfl rfl).slice
  obtain ⟨h1, rfl⟩ := (HR6.out.at_ 1 rfl rfl).int_inv
  obtain ⟨h2, rfl⟩ := (HR6.out.at_ 2 rfl rfl).int_inv
  obtain ⟨D3, s3, t3, rfl⟩ := (HR6.out.at_ 3 rfl rfl).slice
  obtain ⟨D4, s4, t4, rfl⟩ := (HR6.out.at_ 4 rfl rfl).slice
  obtain ⟨D5, s5, t5, rfl⟩ := (HR6.out.at_ 5 rfl rfl).slice
  obtain ⟨h6, rfl⟩ := (HR6.out.at_ 6 rfl rfl).int_inv
  obtain ⟨h7, rfl⟩ := (HR6.out.at_ 7 rfl rfl).int_inv
  obtain ⟨h8, rfl⟩ := (HR6.out.at_ 8 rfl rfl).int_inv
  obtain ⟨D9, s9, t9, rfl⟩ := (HR6.out.at_ 9 rfl rfl).slice
  obtain ⟨D10, s10, t10, rfl⟩ := (HR6.out.at_ 10 rfl rfl).slice
  obtain ⟨h11, rfl⟩ := (HR6.out.at_ 11 rfl rfl).int_inv
  have hs1 := X1d.out.1
  have z0 := X1d.out.2 0 _ rfl
  have z1 := X1d.out.2 1 _ rfl
  have z2 := X1d.out.2 2 _ rfl
  have z3 := X1d.out.2 3 _ rfl
  have z4 := X1d.out.2 4 _ rfl
  have z5 := X1d.out.2 5 _ rfl
  have z6 := X1d.out.2 6 _ rfl
  have z7 := X1d.out.2 7 _ rfl
  have z8 := X1d.out.2 8 _ rfl
  have z9 := X1d.out.2 9 _ rfl
  have z10 := X1d.out.2 10 _ rfl
  have z11 := X1d.out.2 11 _ rfl
  go_wp2_with fail
  clear z0 z1 z2 z3 z4 z5 z6 z7 z8 z9 z10 z11
  have v6b := (Below.refl w6.heap.size w6).alloc (Nat.le_refl _) (.cells #[.slice D0 s0 t0, .int .i64 h1, .int .i64 h2, .slice D3 s3 t3, .slice D4 s4 t4, .slice D5 s5 t5, .int .i64 h6, .int .i64 h7, .int .i64 h8, .slice D9 s9 t9, .slice D10 s10 t10, .int .i64 h11] 43)
  have C6a := C6.out.trans (v6b.mono C6.out.size)
  refine (Ab.ok14.ok rfl _ (fun _ => False) [argG cSes nsR, argG cSes nsR] [_, _] (fun b h => h.elim) (ArgsR.cons (HR6.out.bel v6b).arg (ArgsR.cons (HR1.out.bel C6a).arg ArgsR.nil)) (HL.out.bel (HB1.out.trans (C6a.mono HB1.out.size))) ⟨_, _, nsR_w, nsR_w, rfl⟩).mono ?_
  rintro e w7 ⟨v, bk7, rfl, hb7, hr7, -, -⟩
  obtain rfl : v = .bool true := by rw [one_bool hr7]; exact congrArg Value.bool (decide_eq_true rfl)
  have X2e := Lib.hid ((X2d.out.bel v6b).bel hb7)
  have C7 := Lib.hid (C6a.trans (hb7.mono C6a.size))
  have HW7 := Lib.hid (HB1.out.trans (C7.out.mono HB1.out.size))
  have HM7 := Lib.hid ((HM6.out.belV v6b).belV hb7)
  clear hb7 hr7 v6b C6a
  have y0 := X2e.out.2 0 _ rfl
  have y1 := X2e.out.2 1 _ rfl
  have y2 := X2e.out.2 2 _ rfl
  have y3 := X2e.out.2 3 _ rfl
  have y4 := X2e.out.2 4 _ rfl
  have y5 := X2e.out.2 5 _ rfl
  have y6 := X2e.out.2 6 _ rfl
  have y7 := X2e.out.2 7 _ rfl
  have y8 := X2e.out.2 8 _ rfl
  have y9 := X2e.out.2 9 _ rfl
  have y10 := X2e.out.2 10 _ rfl
  have y11 := X2e.out.2 11 _ rfl
  go_wp2_with fail
  clear y0 y1 y2 y3 y4 y5 y6 y7 y8 y9 y10 y11
  refine (g0_heldSession w7 _ _ _ _ _ _ _ _ _ _ _ _ _ _ _ _ _ 1 (by decide) mt hmt nodes0 (by decide) (HL.out.bel HW7.out) wM (HM7.out.shared fun _ _ hx => hx)).mono ?_
  rintro e w8 ⟨rfl, hb8⟩
  rw [hq]
  go_wp2
  go_ret
  exact ⟨rfl, HW7.out.trans (hb8.mono HW7.out.size)⟩
end Go.Proofs.Ytidjlboppokloaa
