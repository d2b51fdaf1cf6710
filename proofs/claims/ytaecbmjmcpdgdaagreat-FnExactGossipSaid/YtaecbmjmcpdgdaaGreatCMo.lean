/- The law's heldOpS, part by part: printed by a program of this claim. The law's functions that look whether marks are held: printed by a program of this claim. -/
import Derived.Test.YtaecbmjmcpdgdaaGreatCZw
import Derived.Test.YtaecbmjmcpdgdaaGreatCMi
import Derived.IntWalk
namespace Go.Proofs.YtaecbmjmcpdgdaaGreat.Ab
open Go.RowKit
set_option linter.unusedVariables false
set_option linter.unusedSimpArgs false
set_option maxRecDepth 100000
set_option maxHeartbeats 4000000
theorem rows_l (x : List (List D)) : (D.l x).rows = x := rfl
theorem hd25n (mt : Int → ByteArray) (hmt : FOk Tryz.prog T 41 (spMT mt)) (n : Nat) : FOk Tryz.prog T 25 (spHdn mt 54 n) := by
  have hE : EnvOk Tryz.prog T (envL [(43, (spHd mt 3)), (41, (spMT mt)), (44, (spHd mt 94))]) := (envL_cons (hd43 mt hmt) (envL_cons hmt (envL_cons (hd44 mt hmt) envL_nil)))
  refine fokO (N := 184) tabT Tryz.func25 rfl Tryz.call25 Tryz.ntmps25 rfl ?_
  rintro args ⟨rows, k, h1, h2, wf, hwn, rfl⟩ hwf
  clear hwf
  have hs := wf.short
  refine ⟨by simp, ?_⟩
  rw [Tryz.results25]
  refine OkC.seq tabT hE mixed ?_
  repeat' first
    | (refine And.intro ?_ ?_)
    | (intro h; simp only [reduceCtorEq] at h; done)
  all_goals first
    | (show lowEdges _ = true; kernel_rfl) | (show logOk _ _ = true; kernel_rfl) | exact True.intro | exact Or.inr rfl | exact Or.inl rfl
    | skip
  refine OkC.seqO (OkC.seq tabT hE mixed ?_)
  repeat' first
    | (refine And.intro ?_ ?_)
    | (intro h; simp only [reduceCtorEq] at h; done)
  all_goals first
    | (show lowEdges _ = true; kernel_rfl) | (show logOk _ _ = true; kernel_rfl) | exact True.intro | exact Or.inr rfl | exact Or.inl rfl
    | skip
  refine OkC.block ?_
  refine OkC.loop [0, 1, 5] [] (fun m st => ∃ j : Nat, st = ([argS 54 (mkRows mt k rows), .val false [.i .i64 ((k + cRows (rows.take j)))], .val false [.i .i64 (j : Int)]], []) ∧ j ≤ rows.length ∧ m = rows.length - j) ?_ ?_
  · refine ⟨rfl, rows.length, 0, ?_, Nat.zero_le _, rfl⟩
    exact congrArg (fun z : Int => (([argS 54 (mkRows mt k rows), .val false [.i .i64 (z)], .val false [.i .i64 0]], []) : Snap)) (show k = k + ((0 : Nat) : Int) by omega)
  rintro m st ⟨j, rfl, hj, rfl⟩
  have hml := mkRows_length (mt := mt) rows k
  by_cases hge : rows.length ≤ j
  · have ht : rows.take j = rows := List.take_of_length_le (by omega)
    refine OkC.seq tabT hE mixed ?_
    repeat' first
      | (refine And.intro ?_ ?_)
      | (intro h; simp only [reduceCtorEq] at h; done)
      | (intro h; exact absurd (of_decide_eq_true h) (by rw [hml]; omega))
      | (intro h)
    all_goals first
      | (show lowEdges _ = true; kernel_rfl) | (show logOk _ _ = true; kernel_rfl) | exact True.intro | exact Or.inr rfl | exact Or.inl rfl
      | skip
    refine OkC.of_awp tabT hE mixed ?_
    repeat' first
      | (refine And.intro ?_ ?_)
      | (intro h; simp only [reduceCtorEq] at h; done)
      | (intro h)
    all_goals first
      | (show lowEdges _ = true; kernel_rfl) | (show logOk _ _ = true; kernel_rfl) | exact True.intro | exact Or.inr rfl | exact Or.inl rfl
      | exact rfl
      | exact congrArg (fun z : Int => [CV.i .i64 z]) (by rw [ht, cRows_mk])
      | skip
  have hlt : j < rows.length := by omega
  obtain ⟨x0, r0, hr, hr0⟩ := WfRow.int_ (wf.at_ (show T 54 = some _ from rfl) hlt)
  obtain ⟨x1, r1, rfl, hr1⟩ := WfRow.int_ hr0
  obtain ⟨x2, r2, rfl, hr2⟩ := WfRow.int_ hr1
  obtain ⟨x3, r3, rfl, wf3, hr3⟩ := WfRow.slW hr2
  obtain ⟨x4, r4, rfl, hr4⟩ := WfRow.int_ hr3
  obtain ⟨x5, r5, rfl, hr5⟩ := WfRow.int_ hr4
  obtain ⟨x6, r6, rfl, hr6⟩ := WfRow.int_ hr5
  obtain ⟨x7, r7, rfl, hr7⟩ := WfRow.int_ hr6
  obtain ⟨x8, r8, rfl, hr8⟩ := WfRow.int_ hr7
  obtain ⟨x9, r9, rfl, hr9⟩ := WfRow.str_ hr8
  obtain ⟨x10, r10, rfl, hr10⟩ := WfRow.str_ hr9
  obtain ⟨x11, r11, rfl, hr11⟩ := WfRow.int_ hr10
  obtain ⟨x12, r12, rfl, hr12⟩ := WfRow.str_ hr11
  obtain ⟨x13, r13, rfl, hr13⟩ := WfRow.str_ hr12
  obtain ⟨x14, r14, rfl, hr14⟩ := WfRow.int_ hr13
  obtain ⟨x15, r15, rfl, hr15⟩ := WfRow.int_ hr14
  obtain ⟨x16, r16, rfl, wf16, hr16⟩ := WfRow.slW hr15
  obtain rfl := hr16.end_
  clear hr0 hr1 hr2 hr3 hr4 hr5 hr6 hr7 hr8 hr9 hr10 hr11 hr12 hr13 hr14 hr15 hr16
  have hrow := mkRows_row (mt := mt) (k := k) hlt
  rw [hr] at hrow
  have hc := cRows_next hlt
  have hc2 := cRows_le rows (j + 1)
  rw [hr] at hc
  have hc3 : cRow [.i x0, .i x1, .i x2, .l x3, .i x4, .i x5, .i x6, .i x7, .i x8, .s x9, .s x10, .i x11, .s x12, .s x13, .i x14, .i x15, .l x16] = 1 + (1 + (1 + (cRows x3 + (1 + (1 + (1 + (1 + (1 + (1 + (1 + (1 + (1 + (1 + (1 + (1 + (cRows x16 + 0)))))))))))))))) := rfl
  rw [hc3] at hc
  obtain ⟨q, hq⟩ : ∃ q, (k + cRows (rows.take j)) = q := ⟨_, rfl⟩
  have hnext : k + (cRows (rows.take (j + 1)) : Int) = q + 1 + 1 + 1 + cRows x3 + 1 + 1 + 1 + 1 + 1 + 1 + 1 + 1 + 1 + 1 + 1 + 1 + cRows x16 := by omega
  have hq1 : 1 ≤ q := by omega
  have hq2 : q + 1 + 1 + 1 + cRows x3 + 1 + 1 + 1 + 1 + 1 + 1 + 1 + 1 + 1 + 1 + 1 + 1 + cRows x16 ≤ 4611686018427387904 := by omega
  rw [hq] at hrow
  have hM : (mkRows mt k rows).getD (Int.toNat (j : Int)) [] = [.i (q), .i (q + 1), .i (q + 1 + 1), .l (mkRows mt (q + 1 + 1 + 1) x3), .i (q + 1 + 1 + 1 + cRows x3), .i (q + 1 + 1 + 1 + cRows x3 + 1), .i (q + 1 + 1 + 1 + cRows x3 + 1 + 1), .i (q + 1 + 1 + 1 + cRows x3 + 1 + 1 + 1), .i (q + 1 + 1 + 1 + cRows x3 + 1 + 1 + 1 + 1), .s (mt (q + 1 + 1 + 1 + cRows x3 + 1 + 1 + 1 + 1 + 1)), .s (mt (q + 1 + 1 + 1 + cRows x3 + 1 + 1 + 1 + 1 + 1 + 1)), .i (q + 1 + 1 + 1 + cRows x3 + 1 + 1 + 1 + 1 + 1 + 1 + 1), .s (mt (q + 1 + 1 + 1 + cRows x3 + 1 + 1 + 1 + 1 + 1 + 1 + 1 + 1)), .s (mt (q + 1 + 1 + 1 + cRows x3 + 1 + 1 + 1 + 1 + 1 + 1 + 1 + 1 + 1)), .i (q + 1 + 1 + 1 + cRows x3 + 1 + 1 + 1 + 1 + 1 + 1 + 1 + 1 + 1 + 1), .i (q + 1 + 1 + 1 + cRows x3 + 1 + 1 + 1 + 1 + 1 + 1 + 1 + 1 + 1 + 1 + 1), .l (mkRows mt (q + 1 + 1 + 1 + cRows x3 + 1 + 1 + 1 + 1 + 1 + 1 + 1 + 1 + 1 + 1 + 1 + 1) x16)] := hrow
  simp only [hq]
  clear hrow hc hc2 hc3 hr hq
  have HW0 := Lib.hid (show IntKind.i64.wrap (q + 1) = q + 1 from IntWalk.i64_in _ (by omega))
  have HW1 := Lib.hid (show IntKind.i64.wrap (q + 1 + 1) = q + 1 + 1 from IntWalk.i64_in _ (by omega))
  have HW2 := Lib.hid (show IntKind.i64.wrap (q + 1 + 1 + 1) = q + 1 + 1 + 1 from IntWalk.i64_in _ (by omega))
  have HW4 := Lib.hid (show IntKind.i64.wrap (q + 1 + 1 + 1 + cRows x3 + 1) = q + 1 + 1 + 1 + cRows x3 + 1 from IntWalk.i64_in _ (by omega))
  have HW5 := Lib.hid (show IntKind.i64.wrap (q + 1 + 1 + 1 + cRows x3 + 1 + 1) = q + 1 + 1 + 1 + cRows x3 + 1 + 1 from IntWalk.i64_in _ (by omega))
  have HW6 := Lib.hid (show IntKind.i64.wrap (q + 1 + 1 + 1 + cRows x3 + 1 + 1 + 1) = q + 1 + 1 + 1 + cRows x3 + 1 + 1 + 1 from IntWalk.i64_in _ (by omega))
  have HW7 := Lib.hid (show IntKind.i64.wrap (q + 1 + 1 + 1 + cRows x3 + 1 + 1 + 1 + 1) = q + 1 + 1 + 1 + cRows x3 + 1 + 1 + 1 + 1 from IntWalk.i64_in _ (by omega))
  have HW8 := Lib.hid (show IntKind.i64.wrap (q + 1 + 1 + 1 + cRows x3 + 1 + 1 + 1 + 1 + 1) = q + 1 + 1 + 1 + cRows x3 + 1 + 1 + 1 + 1 + 1 from IntWalk.i64_in _ (by omega))
  have HW9 := Lib.hid (show IntKind.i64.wrap (q + 1 + 1 + 1 + cRows x3 + 1 + 1 + 1 + 1 + 1 + 1) = q + 1 + 1 + 1 + cRows x3 + 1 + 1 + 1 + 1 + 1 + 1 from IntWalk.i64_in _ (by omega))
  have HW10 := Lib.hid (show IntKind.i64.wrap (q + 1 + 1 + 1 + cRows x3 + 1 + 1 + 1 + 1 + 1 + 1 + 1) = q + 1 + 1 + 1 + cRows x3 + 1 + 1 + 1 + 1 + 1 + 1 + 1 from IntWalk.i64_in _ (by omega))
  have HW11 := Lib.hid (show IntKind.i64.wrap (q + 1 + 1 + 1 + cRows x3 + 1 + 1 + 1 + 1 + 1 + 1 + 1 + 1) = q + 1 + 1 + 1 + cRows x3 + 1 + 1 + 1 + 1 + 1 + 1 + 1 + 1 from IntWalk.i64_in _ (by omega))
  have HW12 := Lib.hid (show IntKind.i64.wrap (q + 1 + 1 + 1 + cRows x3 + 1 + 1 + 1 + 1 + 1 + 1 + 1 + 1 + 1) = q + 1 + 1 + 1 + cRows x3 + 1 + 1 + 1 + 1 + 1 + 1 + 1 + 1 + 1 from IntWalk.i64_in _ (by omega))
  have HW13 := Lib.hid (show IntKind.i64.wrap (q + 1 + 1 + 1 + cRows x3 + 1 + 1 + 1 + 1 + 1 + 1 + 1 + 1 + 1 + 1) = q + 1 + 1 + 1 + cRows x3 + 1 + 1 + 1 + 1 + 1 + 1 + 1 + 1 + 1 + 1 from IntWalk.i64_in _ (by omega))
  have HW14 := Lib.hid (show IntKind.i64.wrap (q + 1 + 1 + 1 + cRows x3 + 1 + 1 + 1 + 1 + 1 + 1 + 1 + 1 + 1 + 1 + 1) = q + 1 + 1 + 1 + cRows x3 + 1 + 1 + 1 + 1 + 1 + 1 + 1 + 1 + 1 + 1 + 1 from IntWalk.i64_in _ (by omega))
  have HW15 := Lib.hid (show IntKind.i64.wrap (q + 1 + 1 + 1 + cRows x3 + 1 + 1 + 1 + 1 + 1 + 1 + 1 + 1 + 1 + 1 + 1 + 1) = q + 1 + 1 + 1 + cRows x3 + 1 + 1 + 1 + 1 + 1 + 1 + 1 + 1 + 1 + 1 + 1 + 1 from IntWalk.i64_in _ (by omega))
  have hg3 : ([.i (q), .i (q + 1), .i (q + 1 + 1), .l (mkRows mt (q + 1 + 1 + 1) x3), .i (q + 1 + 1 + 1 + cRows x3), .i (q + 1 + 1 + 1 + cRows x3 + 1), .i (q + 1 + 1 + 1 + cRows x3 + 1 + 1), .i (q + 1 + 1 + 1 + cRows x3 + 1 + 1 + 1), .i (q + 1 + 1 + 1 + cRows x3 + 1 + 1 + 1 + 1), .s (mt (q + 1 + 1 + 1 + cRows x3 + 1 + 1 + 1 + 1 + 1)), .s (mt (q + 1 + 1 + 1 + cRows x3 + 1 + 1 + 1 + 1 + 1 + 1)), .i (q + 1 + 1 + 1 + cRows x3 + 1 + 1 + 1 + 1 + 1 + 1 + 1), .s (mt (q + 1 + 1 + 1 + cRows x3 + 1 + 1 + 1 + 1 + 1 + 1 + 1 + 1)), .s (mt (q + 1 + 1 + 1 + cRows x3 + 1 + 1 + 1 + 1 + 1 + 1 + 1 + 1 + 1)), .i (q + 1 + 1 + 1 + cRows x3 + 1 + 1 + 1 + 1 + 1 + 1 + 1 + 1 + 1 + 1), .i (q + 1 + 1 + 1 + cRows x3 + 1 + 1 + 1 + 1 + 1 + 1 + 1 + 1 + 1 + 1 + 1), .l (mkRows mt (q + 1 + 1 + 1 + cRows x3 + 1 + 1 + 1 + 1 + 1 + 1 + 1 + 1 + 1 + 1 + 1 + 1) x16)] : List D).getD 3 default = .l (mkRows mt (q + 1 + 1 + 1) x3) := rfl
  have hx3 : (q + 1 + 1 + 1) + ((cRows ((((mkRows mt k rows).getD (Int.toNat (j : Int)) []).getD 3 default).rows) : Nat) : Int) = q + 1 + 1 + 1 + cRows x3 := by rw [hM, hg3, rows_l, cRows_mk x3 (q + 1 + 1 + 1)]
  have hy3 : (q + 1 + 1 + 1) + ((cRows ((([.i (q), .i (q + 1), .i (q + 1 + 1), .l (mkRows mt (q + 1 + 1 + 1) x3), .i (q + 1 + 1 + 1 + cRows x3), .i (q + 1 + 1 + 1 + cRows x3 + 1), .i (q + 1 + 1 + 1 + cRows x3 + 1 + 1), .i (q + 1 + 1 + 1 + cRows x3 + 1 + 1 + 1), .i (q + 1 + 1 + 1 + cRows x3 + 1 + 1 + 1 + 1), .s (mt (q + 1 + 1 + 1 + cRows x3 + 1 + 1 + 1 + 1 + 1)), .s (mt (q + 1 + 1 + 1 + cRows x3 + 1 + 1 + 1 + 1 + 1 + 1)), .i (q + 1 + 1 + 1 + cRows x3 + 1 + 1 + 1 + 1 + 1 + 1 + 1), .s (mt (q + 1 + 1 + 1 + cRows x3 + 1 + 1 + 1 + 1 + 1 + 1 + 1 + 1)), .s (mt (q + 1 + 1 + 1 + cRows x3 + 1 + 1 + 1 + 1 + 1 + 1 + 1 + 1 + 1)), .i (q + 1 + 1 + 1 + cRows x3 + 1 + 1 + 1 + 1 + 1 + 1 + 1 + 1 + 1 + 1), .i (q + 1 + 1 + 1 + cRows x3 + 1 + 1 + 1 + 1 + 1 + 1 + 1 + 1 + 1 + 1 + 1), .l (mkRows mt (q + 1 + 1 + 1 + cRows x3 + 1 + 1 + 1 + 1 + 1 + 1 + 1 + 1 + 1 + 1 + 1 + 1) x16)] : List D).getD 3 default).rows) : Nat) : Int) = q + 1 + 1 + 1 + cRows x3 := by rw [hg3, rows_l, cRows_mk x3 (q + 1 + 1 + 1)]
  have HX3 := Lib.hid hx3
  have HY3 := Lib.hid hy3
  clear hg3 hx3 hy3
  have hg16 : ([.i (q), .i (q + 1), .i (q + 1 + 1), .l (mkRows mt (q + 1 + 1 + 1) x3), .i (q + 1 + 1 + 1 + cRows x3), .i (q + 1 + 1 + 1 + cRows x3 + 1), .i (q + 1 + 1 + 1 + cRows x3 + 1 + 1), .i (q + 1 + 1 + 1 + cRows x3 + 1 + 1 + 1), .i (q + 1 + 1 + 1 + cRows x3 + 1 + 1 + 1 + 1), .s (mt (q + 1 + 1 + 1 + cRows x3 + 1 + 1 + 1 + 1 + 1)), .s (mt (q + 1 + 1 + 1 + cRows x3 + 1 + 1 + 1 + 1 + 1 + 1)), .i (q + 1 + 1 + 1 + cRows x3 + 1 + 1 + 1 + 1 + 1 + 1 + 1), .s (mt (q + 1 + 1 + 1 + cRows x3 + 1 + 1 + 1 + 1 + 1 + 1 + 1 + 1)), .s (mt (q + 1 + 1 + 1 + cRows x3 + 1 + 1 + 1 + 1 + 1 + 1 + 1 + 1 + 1)), .i (q + 1 + 1 + 1 + cRows x3 + 1 + 1 + 1 + 1 + 1 + 1 + 1 + 1 + 1 + 1), .i (q + 1 + 1 + 1 + cRows x3 + 1 + 1 + 1 + 1 + 1 + 1 + 1 + 1 + 1 + 1 + 1), .l (mkRows mt (q + 1 + 1 + 1 + cRows x3 + 1 + 1 + 1 + 1 + 1 + 1 + 1 + 1 + 1 + 1 + 1 + 1) x16)] : List D).getD 16 default = .l (mkRows mt (q + 1 + 1 + 1 + cRows x3 + 1 + 1 + 1 + 1 + 1 + 1 + 1 + 1 + 1 + 1 + 1 + 1) x16) := rfl
  have hx16 : (q + 1 + 1 + 1 + cRows x3 + 1 + 1 + 1 + 1 + 1 + 1 + 1 + 1 + 1 + 1 + 1 + 1) + ((cRows ((((mkRows mt k rows).getD (Int.toNat (j : Int)) []).getD 16 default).rows) : Nat) : Int) = q + 1 + 1 + 1 + cRows x3 + 1 + 1 + 1 + 1 + 1 + 1 + 1 + 1 + 1 + 1 + 1 + 1 + cRows x16 := by rw [hM, hg16, rows_l, cRows_mk x16 (q + 1 + 1 + 1 + cRows x3 + 1 + 1 + 1 + 1 + 1 + 1 + 1 + 1 + 1 + 1 + 1 + 1)]
  have hy16 : (q + 1 + 1 + 1 + cRows x3 + 1 + 1 + 1 + 1 + 1 + 1 + 1 + 1 + 1 + 1 + 1 + 1) + ((cRows ((([.i (q), .i (q + 1), .i (q + 1 + 1), .l (mkRows mt (q + 1 + 1 + 1) x3), .i (q + 1 + 1 + 1 + cRows x3), .i (q + 1 + 1 + 1 + cRows x3 + 1), .i (q + 1 + 1 + 1 + cRows x3 + 1 + 1), .i (q + 1 + 1 + 1 + cRows x3 + 1 + 1 + 1), .i (q + 1 + 1 + 1 + cRows x3 + 1 + 1 + 1 + 1), .s (mt (q + 1 + 1 + 1 + cRows x3 + 1 + 1 + 1 + 1 + 1)), .s (mt (q + 1 + 1 + 1 + cRows x3 + 1 + 1 + 1 + 1 + 1 + 1)), .i (q + 1 + 1 + 1 + cRows x3 + 1 + 1 + 1 + 1 + 1 + 1 + 1), .s (mt (q + 1 + 1 + 1 + cRows x3 + 1 + 1 + 1 + 1 + 1 + 1 + 1 + 1)), .s (mt (q + 1 + 1 + 1 + cRows x3 + 1 + 1 + 1 + 1 + 1 + 1 + 1 + 1 + 1)), .i (q + 1 + 1 + 1 + cRows x3 + 1 + 1 + 1 + 1 + 1 + 1 + 1 + 1 + 1 + 1), .i (q + 1 + 1 + 1 + cRows x3 + 1 + 1 + 1 + 1 + 1 + 1 + 1 + 1 + 1 + 1 + 1), .l (mkRows mt (q + 1 + 1 + 1 + cRows x3 + 1 + 1 + 1 + 1 + 1 + 1 + 1 + 1 + 1 + 1 + 1 + 1) x16)] : List D).getD 16 default).rows) : Nat) : Int) = q + 1 + 1 + 1 + cRows x3 + 1 + 1 + 1 + 1 + 1 + 1 + 1 + 1 + 1 + 1 + 1 + 1 + cRows x16 := by rw [hg16, rows_l, cRows_mk x16 (q + 1 + 1 + 1 + cRows x3 + 1 + 1 + 1 + 1 + 1 + 1 + 1 + 1 + 1 + 1 + 1 + 1)]
  have HX16 := Lib.hid hx16
  have HY16 := Lib.hid hy16
  clear hg16 hx16 hy16
  refine OkC.seq tabT hE mixed ?_
  repeat' first
    | (refine And.intro ?_ ?_)
    | (rw [hM])
    | (intro h; simp only [reduceCtorEq] at h; done)
    | (intro h; exact hdS h)
    | (intro h; exact hdZ rfl h)
    | (intro h; exact absurd (of_decide_eq_true h) (by omega))
    | (intro h; exact absurd (of_decide_eq_false h) (by rw [hml]; omega))
    | (intro h)
  all_goals first
    | (show lowEdges _ = true; kernel_rfl) | (show logOk _ _ = true; kernel_rfl) | exact True.intro | exact Or.inr rfl | exact Or.inl rfl
    | exact rfl
    | with_reducible exact Int.natCast_nonneg _
    | (show (j : Int) < (((mkRows mt k rows)).length : Int); rw [hml]; omega)
    | (show (Int.toNat (j : Int)) < _; rw [hml, Int.toNat_natCast]; exact hlt)
    | exact ⟨_, by omega, by omega, rfl⟩
    | skip
  refine OkC.seqO (OkC.block ?_)
  refine OkC.seq tabT hE mixed ?_
  repeat' first
    | (refine And.intro ?_ ?_)
    | (rw [hM])
    | (intro h; simp only [reduceCtorEq] at h; done)
    | (intro h; exact hdS h)
    | (intro h; exact hdZ rfl h)
    | (intro h; exact absurd (of_decide_eq_true h) (by omega))
    | (intro h; exact absurd (of_decide_eq_false h) (by rw [hml]; omega))
    | (intro h)
  all_goals first
    | (show lowEdges _ = true; kernel_rfl) | (show logOk _ _ = true; kernel_rfl) | exact True.intro | exact Or.inr rfl | exact Or.inl rfl
    | exact rfl
    | with_reducible exact Int.natCast_nonneg _
    | (show (j : Int) < (((mkRows mt k rows)).length : Int); rw [hml]; omega)
    | (show (Int.toNat (j : Int)) < _; rw [hml, Int.toNat_natCast]; exact hlt)
    | exact ⟨_, by omega, by omega, rfl⟩
    | skip
  refine OkC.seq tabT hE mixed ?_
  repeat' first
    | (refine And.intro ?_ ?_)
    | (rw [hM])
    | (intro h; simp only [reduceCtorEq] at h; done)
    | (intro h; exact hdS h)
    | (intro h; exact hdZ rfl h)
    | (intro h; exact absurd (of_decide_eq_true h) (by omega))
    | (intro h; exact absurd (of_decide_eq_false h) (by rw [hml]; omega))
    | (intro h)
  all_goals first
    | (show lowEdges _ = true; kernel_rfl) | (show logOk _ _ = true; kernel_rfl) | exact True.intro | exact Or.inr rfl | exact Or.inl rfl
    | exact rfl
    | with_reducible exact Int.natCast_nonneg _
    | (show (j : Int) < (((mkRows mt k rows)).length : Int); rw [hml]; omega)
    | (show (Int.toNat (j : Int)) < _; rw [hml, Int.toNat_natCast]; exact hlt)
    | exact ⟨_, by omega, by omega, rfl⟩
    | skip
  refine OkC.forgetTo [0, 1, 5] [] ([argS 54 (mkRows mt k rows), .val false [.i .i64 (q + 1)], .val false [.i .i64 (j : Int)]], []) rfl (congrArg (fun z : Int => (([argS 54 (mkRows mt k rows), .val false [.i .i64 (z)], .val false [.i .i64 (j : Int)]], []) : Snap)) HW0.out) ?_
  refine OkC.seq tabT hE mixed ?_
  repeat' first
    | (refine And.intro ?_ ?_)
    | (rw [hM])
    | (intro h; simp only [reduceCtorEq] at h; done)
    | (intro h; exact hdS h)
    | (intro h; exact hdZ rfl h)
    | (intro h; exact absurd (of_decide_eq_true h) (by omega))
    | (intro h; exact absurd (of_decide_eq_false h) (by rw [hml]; omega))
    | (intro h)
  all_goals first
    | (show lowEdges _ = true; kernel_rfl) | (show logOk _ _ = true; kernel_rfl) | exact True.intro | exact Or.inr rfl | exact Or.inl rfl
    | exact rfl
    | with_reducible exact Int.natCast_nonneg _
    | (show (j : Int) < (((mkRows mt k rows)).length : Int); rw [hml]; omega)
    | (show (Int.toNat (j : Int)) < _; rw [hml, Int.toNat_natCast]; exact hlt)
    | exact ⟨_, by omega, by omega, rfl⟩
    | skip
  refine OkC.seq tabT hE mixed ?_
  repeat' first
    | (refine And.intro ?_ ?_)
    | (rw [hM])
    | (intro h; simp only [reduceCtorEq] at h; done)
    | (intro h; exact hdS h)
    | (intro h; exact hdZ rfl h)
    | (intro h; exact absurd (of_decide_eq_true h) (by omega))
    | (intro h; exact absurd (of_decide_eq_false h) (by rw [hml]; omega))
    | (intro h)
  all_goals first
    | (show lowEdges _ = true; kernel_rfl) | (show logOk _ _ = true; kernel_rfl) | exact True.intro | exact Or.inr rfl | exact Or.inl rfl
    | exact rfl
    | with_reducible exact Int.natCast_nonneg _
    | (show (j : Int) < (((mkRows mt k rows)).length : Int); rw [hml]; omega)
    | (show (Int.toNat (j : Int)) < _; rw [hml, Int.toNat_natCast]; exact hlt)
    | exact ⟨_, by omega, by omega, rfl⟩
    | skip
  refine OkC.forgetTo [0, 1, 5] [] ([argS 54 (mkRows mt k rows), .val false [.i .i64 (q + 1 + 1)], .val false [.i .i64 (j : Int)]], []) rfl (congrArg (fun z : Int => (([argS 54 (mkRows mt k rows), .val false [.i .i64 (z)], .val false [.i .i64 (j : Int)]], []) : Snap)) HW1.out) ?_
  refine OkC.seq tabT hE mixed ?_
  repeat' first
    | (refine And.intro ?_ ?_)
    | (rw [hM])
    | (intro h; simp only [reduceCtorEq] at h; done)
    | (intro h; exact hdS h)
    | (intro h; exact hdZ rfl h)
    | (intro h; exact absurd (of_decide_eq_true h) (by omega))
    | (intro h; exact absurd (of_decide_eq_false h) (by rw [hml]; omega))
    | (intro h)
  all_goals first
    | (show lowEdges _ = true; kernel_rfl) | (show logOk _ _ = true; kernel_rfl) | exact True.intro | exact Or.inr rfl | exact Or.inl rfl
    | exact rfl
    | with_reducible exact Int.natCast_nonneg _
    | (show (j : Int) < (((mkRows mt k rows)).length : Int); rw [hml]; omega)
    | (show (Int.toNat (j : Int)) < _; rw [hml, Int.toNat_natCast]; exact hlt)
    | exact ⟨_, by omega, by omega, rfl⟩
    | skip
  refine OkC.seq tabT hE mixed ?_
  repeat' first
    | (refine And.intro ?_ ?_)
    | (rw [hM])
    | (intro h; simp only [reduceCtorEq] at h; done)
    | (intro h; exact hdS h)
    | (intro h; exact hdZ rfl h)
    | (intro h; exact absurd (of_decide_eq_true h) (by omega))
    | (intro h; exact absurd (of_decide_eq_false h) (by rw [hml]; omega))
    | (intro h)
  all_goals first
    | (show lowEdges _ = true; kernel_rfl) | (show logOk _ _ = true; kernel_rfl) | exact True.intro | exact Or.inr rfl | exact Or.inl rfl
    | exact rfl
    | with_reducible exact Int.natCast_nonneg _
    | (show (j : Int) < (((mkRows mt k rows)).length : Int); rw [hml]; omega)
    | (show (Int.toNat (j : Int)) < _; rw [hml, Int.toNat_natCast]; exact hlt)
    | exact ⟨_, by omega, by omega, rfl⟩
    | skip
  refine OkC.forgetTo [0, 1, 5] [] ([argS 54 (mkRows mt k rows), .val false [.i .i64 (q + 1 + 1 + 1)], .val false [.i .i64 (j : Int)]], []) rfl (congrArg (fun z : Int => (([argS 54 (mkRows mt k rows), .val false [.i .i64 (z)], .val false [.i .i64 (j : Int)]], []) : Snap)) HW2.out) ?_
  refine OkC.seq tabT hE mixed ?_
  repeat' first
    | (refine And.intro ?_ ?_)
    | (rw [hM])
    | (intro h; simp only [reduceCtorEq] at h; done)
    | (intro h; exact hdS h)
    | (intro h; exact hdZ rfl h)
    | (intro h; exact absurd (of_decide_eq_true h) (by omega))
    | (intro h; exact absurd (of_decide_eq_false h) (by rw [hml]; omega))
    | (intro h)
  all_goals first
    | (show lowEdges _ = true; kernel_rfl) | (show logOk _ _ = true; kernel_rfl) | exact True.intro | exact Or.inr rfl | exact Or.inl rfl
    | exact rfl
    | with_reducible exact Int.natCast_nonneg _
    | (show (j : Int) < (((mkRows mt k rows)).length : Int); rw [hml]; omega)
    | (show (Int.toNat (j : Int)) < _; rw [hml, Int.toNat_natCast]; exact hlt)
    | exact ⟨_, by omega, by omega, rfl⟩
    | exact ⟨x3, q + 1 + 1 + 1, by omega, by omega, wf3, rfl⟩
    | skip
  refine OkC.forgetTo [0, 1, 5] [] ([argS 54 (mkRows mt k rows), .val false [.i .i64 (q + 1 + 1 + 1 + cRows x3)], .val false [.i .i64 (j : Int)]], []) rfl ?_ ?_
  · first | exact rfl | exact congrArg (fun z : Int => (([argS 54 (mkRows mt k rows), .val false [.i .i64 (z)], .val false [.i .i64 (j : Int)]], []) : Snap)) HX3.out | exact congrArg (fun z : Int => (([argS 54 (mkRows mt k rows), .val false [.i .i64 (z)], .val false [.i .i64 (j : Int)]], []) : Snap)) HY3.out
  refine OkC.seq tabT hE mixed ?_
  repeat' first
    | (refine And.intro ?_ ?_)
    | (rw [hM])
    | (intro h; simp only [reduceCtorEq] at h; done)
    | (intro h; exact hdS h)
    | (intro h; exact hdZ rfl h)
    | (intro h; exact absurd (of_decide_eq_true h) (by omega))
    | (intro h; exact absurd (of_decide_eq_false h) (by rw [hml]; omega))
    | (intro h)
  all_goals first
    | (show lowEdges _ = true; kernel_rfl) | (show logOk _ _ = true; kernel_rfl) | exact True.intro | exact Or.inr rfl | exact Or.inl rfl
    | exact rfl
    | with_reducible exact Int.natCast_nonneg _
    | (show (j : Int) < (((mkRows mt k rows)).length : Int); rw [hml]; omega)
    | (show (Int.toNat (j : Int)) < _; rw [hml, Int.toNat_natCast]; exact hlt)
    | exact ⟨_, by omega, by omega, rfl⟩
    | skip
  refine OkC.seq tabT hE mixed ?_
  repeat' first
    | (refine And.intro ?_ ?_)
    | (rw [hM])
    | (intro h; simp only [reduceCtorEq] at h; done)
    | (intro h; exact hdS h)
    | (intro h; exact hdZ rfl h)
    | (intro h; exact absurd (of_decide_eq_true h) (by omega))
    | (intro h; exact absurd (of_decide_eq_false h) (by rw [hml]; omega))
    | (intro h)
  all_goals first
    | (show lowEdges _ = true; kernel_rfl) | (show logOk _ _ = true; kernel_rfl) | exact True.intro | exact Or.inr rfl | exact Or.inl rfl
    | exact rfl
    | with_reducible exact Int.natCast_nonneg _
    | (show (j : Int) < (((mkRows mt k rows)).length : Int); rw [hml]; omega)
    | (show (Int.toNat (j : Int)) < _; rw [hml, Int.toNat_natCast]; exact hlt)
    | exact ⟨_, by omega, by omega, rfl⟩
    | skip
  refine OkC.seq tabT hE mixed ?_
  repeat' first
    | (refine And.intro ?_ ?_)
    | (rw [hM])
    | (intro h; simp only [reduceCtorEq] at h; done)
    | (intro h; exact hdS h)
    | (intro h; exact hdZ rfl h)
    | (intro h; exact absurd (of_decide_eq_true h) (by omega))
    | (intro h; exact absurd (of_decide_eq_false h) (by rw [hml]; omega))
    | (intro h)
  all_goals first
    | (show lowEdges _ = true; kernel_rfl) | (show logOk _ _ = true; kernel_rfl) | exact True.intro | exact Or.inr rfl | exact Or.inl rfl
    | exact rfl
    | with_reducible exact Int.natCast_nonneg _
    | (show (j : Int) < (((mkRows mt k rows)).length : Int); rw [hml]; omega)
    | (show (Int.toNat (j : Int)) < _; rw [hml, Int.toNat_natCast]; exact hlt)
    | exact ⟨_, by omega, by omega, rfl⟩
    | skip
  refine OkC.forgetTo [0, 1, 5] [] ([argS 54 (mkRows mt k rows), .val false [.i .i64 (q + 1 + 1 + 1 + cRows x3 + 1)], .val false [.i .i64 (j : Int)]], []) rfl (congrArg (fun z : Int => (([argS 54 (mkRows mt k rows), .val false [.i .i64 (z)], .val false [.i .i64 (j : Int)]], []) : Snap)) HW4.out) ?_
  refine OkC.seq tabT hE mixed ?_
  repeat' first
    | (refine And.intro ?_ ?_)
    | (rw [hM])
    | (intro h; simp only [reduceCtorEq] at h; done)
    | (intro h; exact hdS h)
    | (intro h; exact hdZ rfl h)
    | (intro h; exact absurd (of_decide_eq_true h) (by omega))
    | (intro h; exact absurd (of_decide_eq_false h) (by rw [hml]; omega))
    | (intro h)
  all_goals first
    | (show lowEdges _ = true; kernel_rfl) | (show logOk _ _ = true; kernel_rfl) | exact True.intro | exact Or.inr rfl | exact Or.inl rfl
    | exact rfl
    | with_reducible exact Int.natCast_nonneg _
    | (show (j : Int) < (((mkRows mt k rows)).length : Int); rw [hml]; omega)
    | (show (Int.toNat (j : Int)) < _; rw [hml, Int.toNat_natCast]; exact hlt)
    | exact ⟨_, by omega, by omega, rfl⟩
    | skip
  refine OkC.seq tabT hE mixed ?_
  repeat' first
    | (refine And.intro ?_ ?_)
    | (rw [hM])
    | (intro h; simp only [reduceCtorEq] at h; done)
    | (intro h; exact hdS h)
    | (intro h; exact hdZ rfl h)
    | (intro h; exact absurd (of_decide_eq_true h) (by omega))
    | (intro h; exact absurd (of_decide_eq_false h) (by rw [hml]; omega))
    | (intro h)
  all_goals first
    | (show lowEdges _ = true; kernel_rfl) | (show logOk _ _ = true; kernel_rfl) | exact True.intro | exact Or.inr rfl | exact Or.inl rfl
    | exact rfl
    | with_reducible exact Int.natCast_nonneg _
    | (show (j : Int) < (((mkRows mt k rows)).length : Int); rw [hml]; omega)
    | (show (Int.toNat (j : Int)) < _; rw [hml, Int.toNat_natCast]; exact hlt)
    | exact ⟨_, by omega, by omega, rfl⟩
    | skip
  refine OkC.forgetTo [0, 1, 5] [] ([argS 54 (mkRows mt k rows), .val false [.i .i64 (q + 1 + 1 + 1 + cRows x3 + 1 + 1)], .val false [.i .i64 (j : Int)]], []) rfl (congrArg (fun z : Int => (([argS 54 (mkRows mt k rows), .val false [.i .i64 (z)], .val false [.i .i64 (j : Int)]], []) : Snap)) HW5.out) ?_
  refine OkC.seq tabT hE mixed ?_
  repeat' first
    | (refine And.intro ?_ ?_)
    | (rw [hM])
    | (intro h; simp only [reduceCtorEq] at h; done)
    | (intro h; exact hdS h)
    | (intro h; exact hdZ rfl h)
    | (intro h; exact absurd (of_decide_eq_true h) (by omega))
    | (intro h; exact absurd (of_decide_eq_false h) (by rw [hml]; omega))
    | (intro h)
  all_goals first
    | (show lowEdges _ = true; kernel_rfl) | (show logOk _ _ = true; kernel_rfl) | exact True.intro | exact Or.inr rfl | exact Or.inl rfl
    | exact rfl
    | with_reducible exact Int.natCast_nonneg _
    | (show (j : Int) < (((mkRows mt k rows)).length : Int); rw [hml]; omega)
    | (show (Int.toNat (j : Int)) < _; rw [hml, Int.toNat_natCast]; exact hlt)
    | exact ⟨_, by omega, by omega, rfl⟩
    | skip
  refine OkC.seq tabT hE mixed ?_
  repeat' first
    | (refine And.intro ?_ ?_)
    | (rw [hM])
    | (intro h; simp only [reduceCtorEq] at h; done)
    | (intro h; exact hdS h)
    | (intro h; exact hdZ rfl h)
    | (intro h; exact absurd (of_decide_eq_true h) (by omega))
    | (intro h; exact absurd (of_decide_eq_false h) (by rw [hml]; omega))
    | (intro h)
  all_goals first
    | (show lowEdges _ = true; kernel_rfl) | (show logOk _ _ = true; kernel_rfl) | exact True.intro | exact Or.inr rfl | exact Or.inl rfl
    | exact rfl
    | with_reducible exact Int.natCast_nonneg _
    | (show (j : Int) < (((mkRows mt k rows)).length : Int); rw [hml]; omega)
    | (show (Int.toNat (j : Int)) < _; rw [hml, Int.toNat_natCast]; exact hlt)
    | exact ⟨_, by omega, by omega, rfl⟩
    | skip
  refine OkC.forgetTo [0, 1, 5] [] ([argS 54 (mkRows mt k rows), .val false [.i .i64 (q + 1 + 1 + 1 + cRows x3 + 1 + 1 + 1)], .val false [.i .i64 (j : Int)]], []) rfl (congrArg (fun z : Int => (([argS 54 (mkRows mt k rows), .val false [.i .i64 (z)], .val false [.i .i64 (j : Int)]], []) : Snap)) HW6.out) ?_
  refine OkC.seq tabT hE mixed ?_
  repeat' first
    | (refine And.intro ?_ ?_)
    | (rw [hM])
    | (intro h; simp only [reduceCtorEq] at h; done)
    | (intro h; exact hdS h)
    | (intro h; exact hdZ rfl h)
    | (intro h; exact absurd (of_decide_eq_true h) (by omega))
    | (intro h; exact absurd (of_decide_eq_false h) (by rw [hml]; omega))
    | (intro h)
  all_goals first
    | (show lowEdges _ = true; kernel_rfl) | (show logOk _ _ = true; kernel_rfl) | exact True.intro | exact Or.inr rfl | exact Or.inl rfl
    | exact rfl
    | with_reducible exact Int.natCast_nonneg _
    | (show (j : Int) < (((mkRows mt k rows)).length : Int); rw [hml]; omega)
    | (show (Int.toNat (j : Int)) < _; rw [hml, Int.toNat_natCast]; exact hlt)
    | exact ⟨_, by omega, by omega, rfl⟩
    | skip
  refine OkC.seq tabT hE mixed ?_
  repeat' first
    | (refine And.intro ?_ ?_)
    | (rw [hM])
    | (intro h; simp only [reduceCtorEq] at h; done)
    | (intro h; exact hdS h)
    | (intro h; exact hdZ rfl h)
    | (intro h; exact absurd (of_decide_eq_true h) (by omega))
    | (intro h; exact absurd (of_decide_eq_false h) (by rw [hml]; omega))
    | (intro h)
  all_goals first
    | (show lowEdges _ = true; kernel_rfl) | (show logOk _ _ = true; kernel_rfl) | exact True.intro | exact Or.inr rfl | exact Or.inl rfl
    | exact rfl
    | with_reducible exact Int.natCast_nonneg _
    | (show (j : Int) < (((mkRows mt k rows)).length : Int); rw [hml]; omega)
    | (show (Int.toNat (j : Int)) < _; rw [hml, Int.toNat_natCast]; exact hlt)
    | exact ⟨_, by omega, by omega, rfl⟩
    | skip
  refine OkC.forgetTo [0, 1, 5] [] ([argS 54 (mkRows mt k rows), .val false [.i .i64 (q + 1 + 1 + 1 + cRows x3 + 1 + 1 + 1 + 1)], .val false [.i .i64 (j : Int)]], []) rfl (congrArg (fun z : Int => (([argS 54 (mkRows mt k rows), .val false [.i .i64 (z)], .val false [.i .i64 (j : Int)]], []) : Snap)) HW7.out) ?_
  refine OkC.seq tabT hE mixed ?_
  repeat' first
    | (refine And.intro ?_ ?_)
    | (rw [hM])
    | (intro h; simp only [reduceCtorEq] at h; done)
    | (intro h; exact hdS h)
    | (intro h; exact hdZ rfl h)
    | (intro h; exact absurd (of_decide_eq_true h) (by omega))
    | (intro h; exact absurd (of_decide_eq_false h) (by rw [hml]; omega))
    | (intro h)
  all_goals first
    | (show lowEdges _ = true; kernel_rfl) | (show logOk _ _ = true; kernel_rfl) | exact True.intro | exact Or.inr rfl | exact Or.inl rfl
    | exact rfl
    | with_reducible exact Int.natCast_nonneg _
    | (show (j : Int) < (((mkRows mt k rows)).length : Int); rw [hml]; omega)
    | (show (Int.toNat (j : Int)) < _; rw [hml, Int.toNat_natCast]; exact hlt)
    | exact ⟨_, by omega, by omega, rfl⟩
    | skip
  refine OkC.seq tabT hE mixed ?_
  repeat' first
    | (refine And.intro ?_ ?_)
    | (rw [hM])
    | (intro h; simp only [reduceCtorEq] at h; done)
    | (intro h; exact hdS h)
    | (intro h; exact hdZ rfl h)
    | (intro h; exact absurd (of_decide_eq_true h) (by omega))
    | (intro h; exact absurd (of_decide_eq_false h) (by rw [hml]; omega))
    | (intro h)
  all_goals first
    | (show lowEdges _ = true; kernel_rfl) | (show logOk _ _ = true; kernel_rfl) | exact True.intro | exact Or.inr rfl | exact Or.inl rfl
    | exact rfl
    | with_reducible exact Int.natCast_nonneg _
    | (show (j : Int) < (((mkRows mt k rows)).length : Int); rw [hml]; omega)
    | (show (Int.toNat (j : Int)) < _; rw [hml, Int.toNat_natCast]; exact hlt)
    | exact ⟨_, by omega, by omega, rfl⟩
    | skip
  refine OkC.forgetTo [0, 1, 5] [] ([argS 54 (mkRows mt k rows), .val false [.i .i64 (q + 1 + 1 + 1 + cRows x3 + 1 + 1 + 1 + 1 + 1)], .val false [.i .i64 (j : Int)]], []) rfl (congrArg (fun z : Int => (([argS 54 (mkRows mt k rows), .val false [.i .i64 (z)], .val false [.i .i64 (j : Int)]], []) : Snap)) HW8.out) ?_
  refine OkC.seq tabT hE mixed ?_
  repeat' first
    | (refine And.intro ?_ ?_)
    | (rw [hM])
    | (intro h; simp only [reduceCtorEq] at h; done)
    | (intro h; exact hdS h)
    | (intro h; exact hdZ rfl h)
    | (intro h; exact absurd (of_decide_eq_true h) (by omega))
    | (intro h; exact absurd (of_decide_eq_false h) (by rw [hml]; omega))
    | (intro h)
  all_goals first
    | (show lowEdges _ = true; kernel_rfl) | (show logOk _ _ = true; kernel_rfl) | exact True.intro | exact Or.inr rfl | exact Or.inl rfl
    | exact rfl
    | with_reducible exact Int.natCast_nonneg _
    | (show (j : Int) < (((mkRows mt k rows)).length : Int); rw [hml]; omega)
    | (show (Int.toNat (j : Int)) < _; rw [hml, Int.toNat_natCast]; exact hlt)
    | exact ⟨_, by omega, by omega, rfl⟩
    | skip
  refine OkC.seq tabT hE mixed ?_
  repeat' first
    | (refine And.intro ?_ ?_)
    | (rw [hM])
    | (intro h; simp only [reduceCtorEq] at h; done)
    | (intro h; exact hdS h)
    | (intro h; exact hdZ rfl h)
    | (intro h; exact absurd (of_decide_eq_true h) (by omega))
    | (intro h; exact absurd (of_decide_eq_false h) (by rw [hml]; omega))
    | (intro h)
  all_goals first
    | (show lowEdges _ = true; kernel_rfl) | (show logOk _ _ = true; kernel_rfl) | exact True.intro | exact Or.inr rfl | exact Or.inl rfl
    | exact rfl
    | with_reducible exact Int.natCast_nonneg _
    | (show (j : Int) < (((mkRows mt k rows)).length : Int); rw [hml]; omega)
    | (show (Int.toNat (j : Int)) < _; rw [hml, Int.toNat_natCast]; exact hlt)
    | exact ⟨_, by omega, by omega, rfl⟩
    | skip
  refine OkC.forgetTo [0, 1, 5] [] ([argS 54 (mkRows mt k rows), .val false [.i .i64 (q + 1 + 1 + 1 + cRows x3 + 1 + 1 + 1 + 1 + 1 + 1)], .val false [.i .i64 (j : Int)]], []) rfl (congrArg (fun z : Int => (([argS 54 (mkRows mt k rows), .val false [.i .i64 (z)], .val false [.i .i64 (j : Int)]], []) : Snap)) HW9.out) ?_
  refine OkC.seq tabT hE mixed ?_
  repeat' first
    | (refine And.intro ?_ ?_)
    | (rw [hM])
    | (intro h; simp only [reduceCtorEq] at h; done)
    | (intro h; exact hdS h)
    | (intro h; exact hdZ rfl h)
    | (intro h; exact absurd (of_decide_eq_true h) (by omega))
    | (intro h; exact absurd (of_decide_eq_false h) (by rw [hml]; omega))
    | (intro h)
  all_goals first
    | (show lowEdges _ = true; kernel_rfl) | (show logOk _ _ = true; kernel_rfl) | exact True.intro | exact Or.inr rfl | exact Or.inl rfl
    | exact rfl
    | with_reducible exact Int.natCast_nonneg _
    | (show (j : Int) < (((mkRows mt k rows)).length : Int); rw [hml]; omega)
    | (show (Int.toNat (j : Int)) < _; rw [hml, Int.toNat_natCast]; exact hlt)
    | exact ⟨_, by omega, by omega, rfl⟩
    | skip
  refine OkC.seq tabT hE mixed ?_
  repeat' first
    | (refine And.intro ?_ ?_)
    | (rw [hM])
    | (intro h; simp only [reduceCtorEq] at h; done)
    | (intro h; exact hdS h)
    | (intro h; exact hdZ rfl h)
    | (intro h; exact absurd (of_decide_eq_true h) (by omega))
    | (intro h; exact absurd (of_decide_eq_false h) (by rw [hml]; omega))
    | (intro h)
  all_goals first
    | (show lowEdges _ = true; kernel_rfl) | (show logOk _ _ = true; kernel_rfl) | exact True.intro | exact Or.inr rfl | exact Or.inl rfl
    | exact rfl
    | with_reducible exact Int.natCast_nonneg _
    | (show (j : Int) < (((mkRows mt k rows)).length : Int); rw [hml]; omega)
    | (show (Int.toNat (j : Int)) < _; rw [hml, Int.toNat_natCast]; exact hlt)
    | exact ⟨_, by omega, by omega, rfl⟩
    | skip
  refine OkC.forgetTo [0, 1, 5] [] ([argS 54 (mkRows mt k rows), .val false [.i .i64 (q + 1 + 1 + 1 + cRows x3 + 1 + 1 + 1 + 1 + 1 + 1 + 1)], .val false [.i .i64 (j : Int)]], []) rfl (congrArg (fun z : Int => (([argS 54 (mkRows mt k rows), .val false [.i .i64 (z)], .val false [.i .i64 (j : Int)]], []) : Snap)) HW10.out) ?_
  refine OkC.seq tabT hE mixed ?_
  repeat' first
    | (refine And.intro ?_ ?_)
    | (rw [hM])
    | (intro h; simp only [reduceCtorEq] at h; done)
    | (intro h; exact hdS h)
    | (intro h; exact hdZ rfl h)
    | (intro h; exact absurd (of_decide_eq_true h) (by omega))
    | (intro h; exact absurd (of_decide_eq_false h) (by rw [hml]; omega))
    | (intro h)
  all_goals first
    | (show lowEdges _ = true; kernel_rfl) | (show logOk _ _ = true; kernel_rfl) | exact True.intro | exact Or.inr rfl | exact Or.inl rfl
    | exact rfl
    | with_reducible exact Int.natCast_nonneg _
    | (show (j : Int) < (((mkRows mt k rows)).length : Int); rw [hml]; omega)
    | (show (Int.toNat (j : Int)) < _; rw [hml, Int.toNat_natCast]; exact hlt)
    | exact ⟨_, by omega, by omega, rfl⟩
    | skip
  refine OkC.seq tabT hE mixed ?_
  repeat' first
    | (refine And.intro ?_ ?_)
    | (rw [hM])
    | (intro h; simp only [reduceCtorEq] at h; done)
    | (intro h; exact hdS h)
    | (intro h; exact hdZ rfl h)
    | (intro h; exact absurd (of_decide_eq_true h) (by omega))
    | (intro h; exact absurd (of_decide_eq_false h) (by rw [hml]; omega))
    | (intro h)
  all_goals first
    | (show lowEdges _ = true; kernel_rfl) | (show logOk _ _ = true; kernel_rfl) | exact True.intro | exact Or.inr rfl | exact Or.inl rfl
    | exact rfl
    | with_reducible exact Int.natCast_nonneg _
    | (show (j : Int) < (((mkRows mt k rows)).length : Int); rw [hml]; omega)
    | (show (Int.toNat (j : Int)) < _; rw [hml, Int.toNat_natCast]; exact hlt)
    | exact ⟨_, by omega, by omega, rfl⟩
    | skip
  refine OkC.forgetTo [0, 1, 5] [] ([argS 54 (mkRows mt k rows), .val false [.i .i64 (q + 1 + 1 + 1 + cRows x3 + 1 + 1 + 1 + 1 + 1 + 1 + 1 + 1)], .val false [.i .i64 (j : Int)]], []) rfl (congrArg (fun z : Int => (([argS 54 (mkRows mt k rows), .val false [.i .i64 (z)], .val false [.i .i64 (j : Int)]], []) : Snap)) HW11.out) ?_
  refine OkC.seq tabT hE mixed ?_
  repeat' first
    | (refine And.intro ?_ ?_)
    | (rw [hM])
    | (intro h; simp only [reduceCtorEq] at h; done)
    | (intro h; exact hdS h)
    | (intro h; exact hdZ rfl h)
    | (intro h; exact absurd (of_decide_eq_true h) (by omega))
    | (intro h; exact absurd (of_decide_eq_false h) (by rw [hml]; omega))
    | (intro h)
  all_goals first
    | (show lowEdges _ = true; kernel_rfl) | (show logOk _ _ = true; kernel_rfl) | exact True.intro | exact Or.inr rfl | exact Or.inl rfl
    | exact rfl
    | with_reducible exact Int.natCast_nonneg _
    | (show (j : Int) < (((mkRows mt k rows)).length : Int); rw [hml]; omega)
    | (show (Int.toNat (j : Int)) < _; rw [hml, Int.toNat_natCast]; exact hlt)
    | exact ⟨_, by omega, by omega, rfl⟩
    | skip
  refine OkC.seq tabT hE mixed ?_
  repeat' first
    | (refine And.intro ?_ ?_)
    | (rw [hM])
    | (intro h; simp only [reduceCtorEq] at h; done)
    | (intro h; exact hdS h)
    | (intro h; exact hdZ rfl h)
    | (intro h; exact absurd (of_decide_eq_true h) (by omega))
    | (intro h; exact absurd (of_decide_eq_false h) (by rw [hml]; omega))
    | (intro h)
  all_goals first
    | (show lowEdges _ = true; kernel_rfl) | (show logOk _ _ = true; kernel_rfl) | exact True.intro | exact Or.inr rfl | exact Or.inl rfl
    | exact rfl
    | with_reducible exact Int.natCast_nonneg _
    | (show (j : Int) < (((mkRows mt k rows)).length : Int); rw [hml]; omega)
    | (show (Int.toNat (j : Int)) < _; rw [hml, Int.toNat_natCast]; exact hlt)
    | exact ⟨_, by omega, by omega, rfl⟩
    | skip
  refine OkC.forgetTo [0, 1, 5] [] ([argS 54 (mkRows mt k rows), .val false [.i .i64 (q + 1 + 1 + 1 + cRows x3 + 1 + 1 + 1 + 1 + 1 + 1 + 1 + 1 + 1)], .val false [.i .i64 (j : Int)]], []) rfl (congrArg (fun z : Int => (([argS 54 (mkRows mt k rows), .val false [.i .i64 (z)], .val false [.i .i64 (j : Int)]], []) : Snap)) HW12.out) ?_
  refine OkC.seq tabT hE mixed ?_
  repeat' first
    | (refine And.intro ?_ ?_)
    | (rw [hM])
    | (intro h; simp only [reduceCtorEq] at h; done)
    | (intro h; exact hdS h)
    | (intro h; exact hdZ rfl h)
    | (intro h; exact absurd (of_decide_eq_true h) (by omega))
    | (intro h; exact absurd (of_decide_eq_false h) (by rw [hml]; omega))
    | (intro h)
  all_goals first
    | (show lowEdges _ = true; kernel_rfl) | (show logOk _ _ = true; kernel_rfl) | exact True.intro | exact Or.inr rfl | exact Or.inl rfl
    | exact rfl
    | with_reducible exact Int.natCast_nonneg _
    | (show (j : Int) < (((mkRows mt k rows)).length : Int); rw [hml]; omega)
    | (show (Int.toNat (j : Int)) < _; rw [hml, Int.toNat_natCast]; exact hlt)
    | exact ⟨_, by omega, by omega, rfl⟩
    | skip
  refine OkC.seq tabT hE mixed ?_
  repeat' first
    | (refine And.intro ?_ ?_)
    | (rw [hM])
    | (intro h; simp only [reduceCtorEq] at h; done)
    | (intro h; exact hdS h)
    | (intro h; exact hdZ rfl h)
    | (intro h; exact absurd (of_decide_eq_true h) (by omega))
    | (intro h; exact absurd (of_decide_eq_false h) (by rw [hml]; omega))
    | (intro h)
  all_goals first
    | (show lowEdges _ = true; kernel_rfl) | (show logOk _ _ = true; kernel_rfl) | exact True.intro | exact Or.inr rfl | exact Or.inl rfl
    | exact rfl
    | with_reducible exact Int.natCast_nonneg _
    | (show (j : Int) < (((mkRows mt k rows)).length : Int); rw [hml]; omega)
    | (show (Int.toNat (j : Int)) < _; rw [hml, Int.toNat_natCast]; exact hlt)
    | exact ⟨_, by omega, by omega, rfl⟩
    | skip
  refine OkC.forgetTo [0, 1, 5] [] ([argS 54 (mkRows mt k rows), .val false [.i .i64 (q + 1 + 1 + 1 + cRows x3 + 1 + 1 + 1 + 1 + 1 + 1 + 1 + 1 + 1 + 1)], .val false [.i .i64 (j : Int)]], []) rfl (congrArg (fun z : Int => (([argS 54 (mkRows mt k rows), .val false [.i .i64 (z)], .val false [.i .i64 (j : Int)]], []) : Snap)) HW13.out) ?_
  refine OkC.seq tabT hE mixed ?_
  repeat' first
    | (refine And.intro ?_ ?_)
    | (rw [hM])
    | (intro h; simp only [reduceCtorEq] at h; done)
    | (intro h; exact hdS h)
    | (intro h; exact hdZ rfl h)
    | (intro h; exact absurd (of_decide_eq_true h) (by omega))
    | (intro h; exact absurd (of_decide_eq_false h) (by rw [hml]; omega))
    | (intro h)
  all_goals first
    | (show lowEdges _ = true; kernel_rfl) | (show logOk _ _ = true; kernel_rfl) | exact True.intro | exact Or.inr rfl | exact Or.inl rfl
    | exact rfl
    | with_reducible exact Int.natCast_nonneg _
    | (show (j : Int) < (((mkRows mt k rows)).length : Int); rw [hml]; omega)
    | (show (Int.toNat (j : Int)) < _; rw [hml, Int.toNat_natCast]; exact hlt)
    | exact ⟨_, by omega, by omega, rfl⟩
    | skip
  refine OkC.seq tabT hE mixed ?_
  repeat' first
    | (refine And.intro ?_ ?_)
    | (rw [hM])
    | (intro h; simp only [reduceCtorEq] at h; done)
    | (intro h; exact hdS h)
    | (intro h; exact hdZ rfl h)
    | (intro h; exact absurd (of_decide_eq_true h) (by omega))
    | (intro h; exact absurd (of_decide_eq_false h) (by rw [hml]; omega))
    | (intro h)
  all_goals first
    | (show lowEdges _ = true; kernel_rfl) | (show logOk _ _ = true; kernel_rfl) | exact True.intro | exact Or.inr rfl | exact Or.inl rfl
    | exact rfl
    | with_reducible exact Int.natCast_nonneg _
    | (show (j : Int) < (((mkRows mt k rows)).length : Int); rw [hml]; omega)
    | (show (Int.toNat (j : Int)) < _; rw [hml, Int.toNat_natCast]; exact hlt)
    | exact ⟨_, by omega, by omega, rfl⟩
    | skip
  refine OkC.forgetTo [0, 1, 5] [] ([argS 54 (mkRows mt k rows), .val false [.i .i64 (q + 1 + 1 + 1 + cRows x3 + 1 + 1 + 1 + 1 + 1 + 1 + 1 + 1 + 1 + 1 + 1)], .val false [.i .i64 (j : Int)]], []) rfl (congrArg (fun z : Int => (([argS 54 (mkRows mt k rows), .val false [.i .i64 (z)], .val false [.i .i64 (j : Int)]], []) : Snap)) HW14.out) ?_
  refine OkC.seq tabT hE mixed ?_
  repeat' first
    | (refine And.intro ?_ ?_)
    | (rw [hM])
    | (intro h; simp only [reduceCtorEq] at h; done)
    | (intro h; exact hdS h)
    | (intro h; exact hdZ rfl h)
    | (intro h; exact absurd (of_decide_eq_true h) (by omega))
    | (intro h; exact absurd (of_decide_eq_false h) (by rw [hml]; omega))
    | (intro h)
  all_goals first
    | (show lowEdges _ = true; kernel_rfl) | (show logOk _ _ = true; kernel_rfl) | exact True.intro | exact Or.inr rfl | exact Or.inl rfl
    | exact rfl
    | with_reducible exact Int.natCast_nonneg _
    | (show (j : Int) < (((mkRows mt k rows)).length : Int); rw [hml]; omega)
    | (show (Int.toNat (j : Int)) < _; rw [hml, Int.toNat_natCast]; exact hlt)
    | exact ⟨_, by omega, by omega, rfl⟩
    | skip
  refine OkC.seq tabT hE mixed ?_
  repeat' first
    | (refine And.intro ?_ ?_)
    | (rw [hM])
    | (intro h; simp only [reduceCtorEq] at h; done)
    | (intro h; exact hdS h)
    | (intro h; exact hdZ rfl h)
    | (intro h; exact absurd (of_decide_eq_true h) (by omega))
    | (intro h; exact absurd (of_decide_eq_false h) (by rw [hml]; omega))
    | (intro h)
  all_goals first
    | (show lowEdges _ = true; kernel_rfl) | (show logOk _ _ = true; kernel_rfl) | exact True.intro | exact Or.inr rfl | exact Or.inl rfl
    | exact rfl
    | with_reducible exact Int.natCast_nonneg _
    | (show (j : Int) < (((mkRows mt k rows)).length : Int); rw [hml]; omega)
    | (show (Int.toNat (j : Int)) < _; rw [hml, Int.toNat_natCast]; exact hlt)
    | exact ⟨_, by omega, by omega, rfl⟩
    | skip
  refine OkC.forgetTo [0, 1, 5] [] ([argS 54 (mkRows mt k rows), .val false [.i .i64 (q + 1 + 1 + 1 + cRows x3 + 1 + 1 + 1 + 1 + 1 + 1 + 1 + 1 + 1 + 1 + 1 + 1)], .val false [.i .i64 (j : Int)]], []) rfl (congrArg (fun z : Int => (([argS 54 (mkRows mt k rows), .val false [.i .i64 (z)], .val false [.i .i64 (j : Int)]], []) : Snap)) HW15.out) ?_
  refine OkC.seq tabT hE mixed ?_
  repeat' first
    | (refine And.intro ?_ ?_)
    | (rw [hM])
    | (intro h; simp only [reduceCtorEq] at h; done)
    | (intro h; exact hdS h)
    | (intro h; exact hdZ rfl h)
    | (intro h; exact absurd (of_decide_eq_true h) (by omega))
    | (intro h; exact absurd (of_decide_eq_false h) (by rw [hml]; omega))
    | (intro h)
  all_goals first
    | (show lowEdges _ = true; kernel_rfl) | (show logOk _ _ = true; kernel_rfl) | exact True.intro | exact Or.inr rfl | exact Or.inl rfl
    | exact rfl
    | with_reducible exact Int.natCast_nonneg _
    | (show (j : Int) < (((mkRows mt k rows)).length : Int); rw [hml]; omega)
    | (show (Int.toNat (j : Int)) < _; rw [hml, Int.toNat_natCast]; exact hlt)
    | exact ⟨_, by omega, by omega, rfl⟩
    | exact ⟨x16, q + 1 + 1 + 1 + cRows x3 + 1 + 1 + 1 + 1 + 1 + 1 + 1 + 1 + 1 + 1 + 1 + 1, by omega, by omega, wf16, rfl⟩
    | skip
  refine OkC.forgetTo [0, 1, 5] [] ([argS 54 (mkRows mt k rows), .val false [.i .i64 (q + 1 + 1 + 1 + cRows x3 + 1 + 1 + 1 + 1 + 1 + 1 + 1 + 1 + 1 + 1 + 1 + 1 + cRows x16)], .val false [.i .i64 (j : Int)]], []) rfl ?_ ?_
  · first | exact rfl | exact congrArg (fun z : Int => (([argS 54 (mkRows mt k rows), .val false [.i .i64 (z)], .val false [.i .i64 (j : Int)]], []) : Snap)) HX16.out | exact congrArg (fun z : Int => (([argS 54 (mkRows mt k rows), .val false [.i .i64 (z)], .val false [.i .i64 (j : Int)]], []) : Snap)) HY16.out
  refine OkC.of_awp tabT hE mixed ?_
  repeat' first
    | (refine And.intro ?_ ?_)
    | (rw [hM])
    | (intro h; simp only [reduceCtorEq] at h; done)
    | (intro h; exact absurd (of_decide_eq_true h) (by omega))
    | (intro h)
  all_goals first
    | (show lowEdges _ = true; kernel_rfl) | (show logOk _ _ = true; kernel_rfl) | exact True.intro | exact Or.inr rfl | exact Or.inl rfl
    | exact rfl
    | skip
  refine OkC.of_awp tabT hE mixed ?_
  repeat' first
    | (refine And.intro ?_ ?_)
    | (intro h; simp only [reduceCtorEq] at h; done)
    | (intro h)
  all_goals first
    | (show lowEdges _ = true; kernel_rfl) | (show logOk _ _ = true; kernel_rfl) | exact True.intro | exact Or.inr rfl | exact Or.inl rfl
    | exact rfl
    | (refine ⟨rows.length - (j + 1), by omega, j + 1, ?_, by omega, rfl⟩
       exact snapRZ2 (f := fun y z => (([argS 54 (mkRows mt k rows), .val false [.i .i64 (y)], .val false [.i .i64 z]], []) : Snap)) (by first | exact hnext.symm | omega) (wrapJ hlt hs))
    | skip
theorem hd25 (mt : Int → ByteArray) (hmt : FOk Tryz.prog T 41 (spMT mt)) : FOk Tryz.prog T 25 (spHd mt 54) := FOk.held (hd25n mt hmt)
end Go.Proofs.YtaecbmjmcpdgdaaGreat.Ab
namespace Go.Proofs.YtaecbmjmcpdgdaaGreat.Ab
open Go.RowKit
set_option linter.unusedVariables false
set_option linter.unusedSimpArgs false
set_option maxRecDepth 100000
set_option maxHeartbeats 16000000
theorem hd10n (mt : Int → ByteArray) (hmt : FOk Tryz.prog T 41 (spMT mt)) (n : Nat) : FOk Tryz.prog T 10 (spHdn mt 36 n) := by
  refine fok (env := envL [(25, (spHd mt 54))]) (N := 31) tabT (envL_cons (hd25 mt hmt) envL_nil) mixed Tryz.func10 rfl Tryz.call10 Tryz.ntmps10 ?_
  rintro args ⟨rows, k, h1, h2, wf, hwn, rfl⟩ hwf
  clear hwf
  have hs := wf.short
  refine ⟨by simp, ?_⟩
  rw [Tryz.results10]
  repeat' first
    | (refine And.intro ?_ ?_)
    | (intro h; simp only [reduceCtorEq] at h; done)
    | (intro h)
  all_goals first
    | (show lowEdges _ = true; kernel_rfl) | (show logOk _ _ = true; kernel_rfl) | exact True.intro | exact Or.inr rfl | exact Or.inl rfl
    | skip
  refine awp_loop (Q := _) [0, 1, 5] [] (fun m st => ∃ j : Nat, st = ([argS 36 (mkRows mt k rows), .val false [.i .i64 (k + cRows (rows.take j))], .val false [.i .i64 (j : Int)]], []) ∧ j ≤ rows.length ∧ m = rows.length - j) ?_ ?_
  · refine ⟨rfl, rows.length, 0, ?_, Nat.zero_le _, rfl⟩
    exact congrArg (fun z : Int => (([argS 36 (mkRows mt k rows), .val false [.i .i64 z], .val false [.i .i64 0]], []) : Snap)) (show k = k + ((0 : Nat) : Int) by omega)
  rintro m st ⟨j, rfl, hj, rfl⟩
  have hml := mkRows_length (mt := mt) rows k
  by_cases hge : rows.length ≤ j
  · have ht : rows.take j = rows := List.take_of_length_le (by omega)
    repeat' first
      | (refine And.intro ?_ ?_)
      | (intro h; simp only [reduceCtorEq] at h; done)
      | (intro h; exact absurd (of_decide_eq_true h) (by rw [hml]; omega))
      | (intro h)
    all_goals first
      | (show lowEdges _ = true; kernel_rfl) | (show logOk _ _ = true; kernel_rfl) | exact True.intro | exact Or.inr rfl | exact Or.inl rfl
      | exact rfl
      | exact congrArg (fun z : Int => [CV.i .i64 z]) (by rw [ht, cRows_mk])
      | skip
  have hlt : j < rows.length := by omega
  obtain ⟨x0, r0, hr, hr0⟩ := WfRow.int_ (wf.at_ (show T 36 = some _ from rfl) hlt)
  obtain ⟨x1, r1, rfl, wf1, hr1⟩ := WfRow.slW hr0
  obtain rfl := hr1.end_
  clear hr1
  have hrow := mkRows_row (mt := mt) (k := k) hlt
  rw [hr] at hrow
  have hm1 : wD (.l x1) < wD (.l rows) := wD_part hlt (j := 1) (by rw [hr]; rfl)
  have hc := cRows_next hlt
  have hc2 := cRows_le rows (j + 1)
  rw [hr] at hc
  have hc3 : cRow [.i x0, .l x1] = 1 + (cRows x1 + 0) := rfl
  rw [hc3] at hc
  obtain ⟨q, hq⟩ : ∃ q, (k + cRows (rows.take j)) = q := ⟨_, rfl⟩
  have hnext : k + (cRows (rows.take (j + 1)) : Int) = q + 1 + cRows x1 := by omega
  have hq1 : 1 ≤ q := by omega
  have hq2 : q + 1 + cRows x1 ≤ 4611686018427387904 := by omega
  rw [hq] at hrow
  have hM : (mkRows mt k rows).getD (Int.toNat (j : Int)) [] = [.i (q), .l (mkRows mt (q + 1) x1)] := hrow
  simp only [hq]
  clear hrow hc hc2 hc3
  have hw0 : IntKind.i64.wrap (q + 1) = q + 1 := IntWalk.i64_in _ (by omega)
  have hx1 : cRows (([.i (q), .l (mkRows mt (q + 1) x1)] : List D).getD 1 default).rows = cRows x1 := cRows_mk _ _
  repeat' first
    | (refine And.intro ?_ ?_)
    | (rw [hM])
    | (intro h; simp only [reduceCtorEq] at h; done)
    | (rw [hw0])
    | (rw [hx1])
    | (intro h; exact hdS h)
    | (intro h; exact hdZ rfl h)
    | (intro h; exact absurd (of_decide_eq_true h) (by omega))
    | (intro h; exact absurd (of_decide_eq_false h) (by rw [hml]; omega))
    | (intro h)
  all_goals first
    | (show lowEdges _ = true; kernel_rfl) | (show logOk _ _ = true; kernel_rfl) | exact True.intro | exact Or.inr rfl | exact Or.inl rfl
    | exact rfl
    | with_reducible exact Int.natCast_nonneg _
    | (show (j : Int) < (((mkRows mt k rows)).length : Int); rw [hml]; omega)
    | (show (Int.toNat (j : Int)) < _; rw [hml, Int.toNat_natCast]; exact hlt)
    | exact ⟨_, by omega, by omega, rfl⟩
    | exact ⟨x1, q + 1, by omega, by omega, wf1, rfl⟩
    | (refine ⟨rows.length - (j + 1), by omega, j + 1, ?_, by omega, rfl⟩
       exact snapRZ2 (f := fun y z => (([argS 36 (mkRows mt k rows), .val false [.i .i64 y], .val false [.i .i64 z]], []) : Snap)) (by first | exact hnext.symm | omega) (wrapJ hlt hs))
    | skip
theorem hd10 (mt : Int → ByteArray) (hmt : FOk Tryz.prog T 41 (spMT mt)) : FOk Tryz.prog T 10 (spHd mt 36) := FOk.held (hd10n mt hmt)
end Go.Proofs.YtaecbmjmcpdgdaaGreat.Ab
