/- The walks of the law's functions that mark what is owned: printed by a program of this claim. -/
import Derived.Test.YtidjlboppokloaaMp
import Derived.Test.YtidjlboppokloaaTab
import Derived.IntWalk
namespace Go.Proofs.Ytidjlboppokloaa
open Go.RowKit Ab
set_option linter.unusedVariables false
set_option linter.unusedSimpArgs false
set_option maxRecDepth 100000
set_option maxHeartbeats 2000000
/-- laws.markEditS -/
theorem mk_100 (mt : Int → ByteArray) (hmt : FOk Try.prog T 48 (spMT mt)) (n : Nat) : MkOk Try.prog T mt 100 148 n := by
  intro w F v rows k hk hb hn hgl hD
  obtain ⟨A, c, rfl⟩ := hD.slice
  have HD := Lib.hid hD
  have HG := Lib.hid hgl
  have hs := hD.short
  simp only [maxLen] at hs
  clear hD hgl
  go_enter Try.func100, Try.ntmps100
  go_wp2_with fail
  go_loopw [1, 5] (fun q i wr => ∃ j : Nat, j ≤ rows.length ∧ i = .int .i64 j ∧ q = .int .i64 (k + cRows (rows.take j)) ∧ MkEnd T w wr F 148 (.slice A rows.length c) (mkAt mt k rows j)) (fun _ i _ => rows.length - (intOf i).toNat)
  case atStart => exact ⟨0, Nat.zero_le _, rfl, by simp [cRows], by rw [mkAt_zero]; exact MkEnd.refl HD.out⟩
  case round =>
    obtain ⟨j, hj, rfl, rfl, hE⟩ := hrel
    have HE0 := Lib.hid hE
    clear hE
    by_cases hlt : j < rows.length
    · obtain ⟨g, rfl⟩ := HD.out.some (by omega)
      have q0 : (0 : Int) ≤ (j : Int) := by omega
      have q1 : (j : Int) < (rows.length : Int) := by omega
      obtain ⟨x0, r0, hr, hr0⟩ := WfRow.int_ (HD.out.row (show T 148 = some _ from rfl) hlt)
      obtain ⟨x1, r1, rfl, hr1⟩ := WfRow.int_ hr0
      obtain ⟨x2, r2, rfl, hr2⟩ := WfRow.int_ hr1
      obtain ⟨x3, r3, rfl, hr3⟩ := WfRow.int_ hr2
      obtain ⟨x4, r4, rfl, hr4⟩ := WfRow.int_ hr3
      obtain ⟨x5, r5, rfl, hr5⟩ := WfRow.str_ hr4
      obtain ⟨x6, r6, rfl, hr6⟩ := WfRow.str_ hr5
      obtain ⟨x7, r7, rfl, hr7⟩ := WfRow.int_ hr6
      obtain rfl := hr7.end_
      clear hr7
      have hc := cRows_next hlt
      have hc2 := cRows_le rows (j + 1)
      rw [hr] at hc
      have hc3 : cRow [.i x0, .i x1, .i x2, .i x3, .i x4, .s x5, .s x6, .i x7] = 1 + (1 + (1 + (1 + (1 + (1 + (1 + (1 + 0))))))) := rfl
      have hq0 : 1 ≤ k + cRows (rows.take j) := by omega
      have hq1 : k + cRows (rows.take j) + cRow [.i x0, .i x1, .i x2, .i x3, .i x4, .s x5, .s x6, .i x7] ≤ 4611686018427387904 := by omega
      rw [hc3] at hq1
      have hmk := mkAt_next (mt := mt) (k := k) hlt (Eq.symm (congrArg (mkRow mt (k + cRows (rows.take j))) hr))
      have hX := (mkAt_row (mt := mt) (k := k) hlt).trans hr
      have hl : j < (mkAt mt k rows j).length := by rw [mkAt_length]; exact hlt
      have hnext : k + (cRows (rows.take (j + 1)) : Int) = k + cRows (rows.take j) + cRow [.i x0, .i x1, .i x2, .i x3, .i x4, .s x5, .s x6, .i x7] := by omega
      rw [hc3] at hnext
      obtain ⟨X, hXX⟩ : ∃ X, mkAt mt k rows j = X := ⟨_, rfl⟩
      rw [hXX] at hX hl hmk HE0
      obtain ⟨q, hq⟩ : ∃ q, k + (cRows (rows.take j) : Int) = q := ⟨_, rfl⟩
      rw [hq] at hq0 hq1 hmk hnext ⊢
      clear hc hc2 hXX hc3
      obtain ⟨-, hF, -, ub1, db1, Gb1, cb1, fb1, rb1, Db1, sb1, pb1, wb1⟩ := DeepV.part HE0.out.deep (show T 148 = some _ from rfl) (k := j) (j := 0) hlt rfl (o := j * 8) (by first | rfl | simp)
      have V1 := wb1 (fun e h => by cases h) (.int .i64 (q)) (.i (q)) (.int _ _ (inK_pos (by omega) (by omega)))
      rw [show setD X j 0 (.i (q)) = X.set j [.i (q), .i x1, .i x2, .i x3, .i x4, .s x5, .s x6, .i x7] from setD_one hX] at V1
      have H1 := Lib.hid ((HE0.out).store hF V1)
      clear V1 rb1 Db1 sb1 pb1 wb1
      obtain ⟨-, hF, -, ub2, db2, Gb2, cb2, fb2, rb2, Db2, sb2, pb2, wb2⟩ := DeepV.part HE0.out.deep (show T 148 = some _ from rfl) (k := j) (j := 1) hlt rfl (o := j * 8 + 1) (by first | rfl | simp)
      obtain ⟨-, hF, -, uc2, dc2, Gc2, cc2, fc2, rc2, Dc2, sc2, pc2, wc2⟩ := DeepV.part H1.out.deep (show T 148 = some _ from rfl) (k := j) (j := 1) hlt rfl (o := j * 8 + 1) (by first | rfl | simp)
      have V2 := wc2 (fun e h => by cases h) (.int .i64 (q + 1)) (.i (q + 1)) (.int _ _ (inK_pos (by omega) (by omega)))
      rw [show setD (X.set j [.i (q), .i x1, .i x2, .i x3, .i x4, .s x5, .s x6, .i x7]) j 1 (.i (q + 1)) = X.set j [.i (q), .i (q + 1), .i x2, .i x3, .i x4, .s x5, .s x6, .i x7] from setD_set hl] at V2
      have H2 := Lib.hid ((H1.out).store hF V2)
      clear V2 rb2 Db2 sb2 pb2 wb2 rc2 Dc2 sc2 pc2 wc2 cc2 fc2
      obtain ⟨-, hF, -, ub3, db3, Gb3, cb3, fb3, rb3, Db3, sb3, pb3, wb3⟩ := DeepV.part HE0.out.deep (show T 148 = some _ from rfl) (k := j) (j := 2) hlt rfl (o := j * 8 + 2) (by first | rfl | simp)
      obtain ⟨-, hF, -, uc3, dc3, Gc3, cc3, fc3, rc3, Dc3, sc3, pc3, wc3⟩ := DeepV.part H2.out.deep (show T 148 = some _ from rfl) (k := j) (j := 2) hlt rfl (o := j * 8 + 2) (by first | rfl | simp)
      have V3 := wc3 (fun e h => by cases h) (.int .i64 (q + 1 + 1)) (.i (q + 1 + 1)) (.int _ _ (inK_pos (by omega) (by omega)))
      rw [show setD (X.set j [.i (q), .i (q + 1), .i x2, .i x3, .i x4, .s x5, .s x6, .i x7]) j 2 (.i (q + 1 + 1)) = X.set j [.i (q), .i (q + 1), .i (q + 1 + 1), .i x3, .i x4, .s x5, .s x6, .i x7] from setD_set hl] at V3
      have H3 := Lib.hid ((H2.out).store hF V3)
      clear V3 rb3 Db3 sb3 pb3 wb3 rc3 Dc3 sc3 pc3 wc3 cc3 fc3
      obtain ⟨-, hF, -, ub4, db4, Gb4, cb4, fb4, rb4, Db4, sb4, pb4, wb4⟩ := DeepV.part HE0.out.deep (show T 148 = some _ from rfl) (k := j) (j := 3) hlt rfl (o := j * 8 + 3) (by first | rfl | simp)
      obtain ⟨-, hF, -, uc4, dc4, Gc4, cc4, fc4, rc4, Dc4, sc4, pc4, wc4⟩ := DeepV.part H3.out.deep (show T 148 = some _ from rfl) (k := j) (j := 3) hlt rfl (o := j * 8 + 3) (by first | rfl | simp)
      have V4 := wc4 (fun e h => by cases h) (.int .i64 (q + 1 + 1 + 1)) (.i (q + 1 + 1 + 1)) (.int _ _ (inK_pos (by omega) (by omega)))
      rw [show setD (X.set j [.i (q), .i (q + 1), .i (q + 1 + 1), .i x3, .i x4, .s x5, .s x6, .i x7]) j 3 (.i (q + 1 + 1 + 1)) = X.set j [.i (q), .i (q + 1), .i (q + 1 + 1), .i (q + 1 + 1 + 1), .i x4, .s x5, .s x6, .i x7] from setD_set hl] at V4
      have H4 := Lib.hid ((H3.out).store hF V4)
      clear V4 rb4 Db4 sb4 pb4 wb4 rc4 Dc4 sc4 pc4 wc4 cc4 fc4
      obtain ⟨-, hF, -, ub5, db5, Gb5, cb5, fb5, rb5, Db5, sb5, pb5, wb5⟩ := DeepV.part HE0.out.deep (show T 148 = some _ from rfl) (k := j) (j := 4) hlt rfl (o := j * 8 + 4) (by first | rfl | simp)
      obtain ⟨-, hF, -, uc5, dc5, Gc5, cc5, fc5, rc5, Dc5, sc5, pc5, wc5⟩ := DeepV.part H4.out.deep (show T 148 = some _ from rfl) (k := j) (j := 4) hlt rfl (o := j * 8 + 4) (by first | rfl | simp)
      have V5 := wc5 (fun e h => by cases h) (.int .i64 (q + 1 + 1 + 1 + 1)) (.i (q + 1 + 1 + 1 + 1)) (.int _ _ (inK_pos (by omega) (by omega)))
      rw [show setD (X.set j [.i (q), .i (q + 1), .i (q + 1 + 1), .i (q + 1 + 1 + 1), .i x4, .s x5, .s x6, .i x7]) j 4 (.i (q + 1 + 1 + 1 + 1)) = X.set j [.i (q), .i (q + 1), .i (q + 1 + 1), .i (q + 1 + 1 + 1), .i (q + 1 + 1 + 1 + 1), .s x5, .s x6, .i x7] from setD_set hl] at V5
      have H5 := Lib.hid ((H4.out).store hF V5)
      clear V5 rb5 Db5 sb5 pb5 wb5 rc5 Dc5 sc5 pc5 wc5 cc5 fc5
      go_wp2_with fail
      refine (hmt.mark (H5.out).deep.lt ((H5.out).gl HG.out) (k := q + 1 + 1 + 1 + 1 + 1) (by omega) (by omega)).mono ?_; rintro e wr6 ⟨rfl, hsz6, hb6⟩
      have H6 := Lib.hid ((H5.out).below hb6)
      clear hb6
      obtain ⟨-, hF, -, ub6, db6, Gb6, cb6, fb6, rb6, Db6, sb6, pb6, wb6⟩ := DeepV.part H6.out.deep (show T 148 = some _ from rfl) (k := j) (j := 5) hlt rfl (o := j * 8 + 5) (by first | rfl | simp)
      have V6 := wb6 (fun e h => by cases h) (.string (mt (q + 1 + 1 + 1 + 1 + 1))) (.s (mt (q + 1 + 1 + 1 + 1 + 1))) (.str _ hsz6)
      rw [show setD (X.set j [.i (q), .i (q + 1), .i (q + 1 + 1), .i (q + 1 + 1 + 1), .i (q + 1 + 1 + 1 + 1), .s x5, .s x6, .i x7]) j 5 (.s (mt (q + 1 + 1 + 1 + 1 + 1))) = X.set j [.i (q), .i (q + 1), .i (q + 1 + 1), .i (q + 1 + 1 + 1), .i (q + 1 + 1 + 1 + 1), .s (mt (q + 1 + 1 + 1 + 1 + 1)), .s x6, .i x7] from setD_set hl] at V6
      have K6 := Lib.hid ((H6.out).store hF V6)
      clear V6 rb6 Db6 sb6 pb6 wb6
      go_wp2_with fail
      refine (hmt.mark (K6.out).deep.lt ((K6.out).gl HG.out) (k := q + 1 + 1 + 1 + 1 + 1 + 1) (by omega) (by omega)).mono ?_; rintro e wr7 ⟨rfl, hsz7, hb7⟩
      have H7 := Lib.hid ((K6.out).below hb7)
      clear hb7
      obtain ⟨-, hF, -, ub7, db7, Gb7, cb7, fb7, rb7, Db7, sb7, pb7, wb7⟩ := DeepV.part H7.out.deep (show T 148 = some _ from rfl) (k := j) (j := 6) hlt rfl (o := j * 8 + 6) (by first | rfl | simp)
      have V7 := wb7 (fun e h => by cases h) (.string (mt (q + 1 + 1 + 1 + 1 + 1 + 1))) (.s (mt (q + 1 + 1 + 1 + 1 + 1 + 1))) (.str _ hsz7)
      rw [show setD (X.set j [.i (q), .i (q + 1), .i (q + 1 + 1), .i (q + 1 + 1 + 1), .i (q + 1 + 1 + 1 + 1), .s (mt (q + 1 + 1 + 1 + 1 + 1)), .s x6, .i x7]) j 6 (.s (mt (q + 1 + 1 + 1 + 1 + 1 + 1))) = X.set j [.i (q), .i (q + 1), .i (q + 1 + 1), .i (q + 1 + 1 + 1), .i (q + 1 + 1 + 1 + 1), .s (mt (q + 1 + 1 + 1 + 1 + 1)), .s (mt (q + 1 + 1 + 1 + 1 + 1 + 1)), .i x7] from setD_set hl] at V7
      have K7 := Lib.hid ((H7.out).store hF V7)
      clear V7 rb7 Db7 sb7 pb7 wb7
      obtain ⟨-, hF, -, ub8, db8, Gb8, cb8, fb8, rb8, Db8, sb8, pb8, wb8⟩ := DeepV.part H7.out.deep (show T 148 = some _ from rfl) (k := j) (j := 7) hlt rfl (o := j * 8 + 7) (by first | rfl | simp)
      obtain ⟨-, hF, -, uc8, dc8, Gc8, cc8, fc8, rc8, Dc8, sc8, pc8, wc8⟩ := DeepV.part K7.out.deep (show T 148 = some _ from rfl) (k := j) (j := 7) hlt rfl (o := j * 8 + 7) (by first | rfl | simp)
      have V8 := wc8 (fun e h => by cases h) (.int .i64 (q + 1 + 1 + 1 + 1 + 1 + 1 + 1)) (.i (q + 1 + 1 + 1 + 1 + 1 + 1 + 1)) (.int _ _ (inK_pos (by omega) (by omega)))
      rw [show setD (X.set j [.i (q), .i (q + 1), .i (q + 1 + 1), .i (q + 1 + 1 + 1), .i (q + 1 + 1 + 1 + 1), .s (mt (q + 1 + 1 + 1 + 1 + 1)), .s (mt (q + 1 + 1 + 1 + 1 + 1 + 1)), .i x7]) j 7 (.i (q + 1 + 1 + 1 + 1 + 1 + 1 + 1)) = X.set j [.i (q), .i (q + 1), .i (q + 1 + 1), .i (q + 1 + 1 + 1), .i (q + 1 + 1 + 1 + 1), .s (mt (q + 1 + 1 + 1 + 1 + 1)), .s (mt (q + 1 + 1 + 1 + 1 + 1 + 1)), .i (q + 1 + 1 + 1 + 1 + 1 + 1 + 1)] from setD_set hl] at V8
      have H8 := Lib.hid ((K7.out).store hF V8)
      clear V8 rb8 Db8 sb8 pb8 wb8 rc8 Dc8 sc8 pc8 wc8 cc8 fc8
      go_wp2
      rw [show X.set j [.i (q), .i (q + 1), .i (q + 1 + 1), .i (q + 1 + 1 + 1), .i (q + 1 + 1 + 1 + 1), .s (mt (q + 1 + 1 + 1 + 1 + 1)), .s (mt (q + 1 + 1 + 1 + 1 + 1 + 1)), .i (q + 1 + 1 + 1 + 1 + 1 + 1 + 1)] = mkAt mt k rows (j + 1) from hmk] at H8
      exact ⟨⟨j + 1, hlt, by go_num, congrArg (Value.int IntKind.i64) (by omega), H8.out⟩, by simp [Go.RowKit.intOf]; omega⟩
    · have nlt : ¬ (j : Int) < (rows.length : Int) := by omega
      have ht : rows.take j = rows := List.take_of_length_le (by omega)
      have ha := mkAt_all (mt := mt) (k := k) (a := rows) (i := j) (by omega)
      go_wp2
      go_ret
      exact ⟨rfl, by rw [← ha]; exact HE0.out⟩
/-- laws.markNodeS -/
theorem mk_72 (mt : Int → ByteArray) (hmt : FOk Try.prog T 48 (spMT mt)) (n : Nat) : MkOk Try.prog T mt 72 95 n := by
  intro w F v rows k hk hb hn hgl hD
  obtain ⟨A, c, rfl⟩ := hD.slice
  have HD := Lib.hid hD
  have HG := Lib.hid hgl
  have hs := hD.short
  simp only [maxLen] at hs
  clear hD hgl
  go_enter Try.func72, Try.ntmps72
  go_wp2_with fail
  go_loopw [1, 5] (fun q i wr => ∃ j : Nat, j ≤ rows.length ∧ i = .int .i64 j ∧ q = .int .i64 (k + cRows (rows.take j)) ∧ MkEnd T w wr F 95 (.slice A rows.length c) (mkAt mt k rows j)) (fun _ i _ => rows.length - (intOf i).toNat)
  case atStart => exact ⟨0, Nat.zero_le _, rfl, by simp [cRows], by rw [mkAt_zero]; exact MkEnd.refl HD.out⟩
  case round =>
    obtain ⟨j, hj, rfl, rfl, hE⟩ := hrel
    have HE0 := Lib.hid hE
    clear hE
    by_cases hlt : j < rows.length
    · obtain ⟨g, rfl⟩ := HD.out.some (by omega)
      have q0 : (0 : Int) ≤ (j : Int) := by omega
      have q1 : (j : Int) < (rows.length : Int) := by omega
      obtain ⟨x0, r0, hr, hr0⟩ := WfRow.int_ (HD.out.row (show T 95 = some _ from rfl) hlt)
      obtain ⟨x1, r1, rfl, hr1⟩ := WfRow.sl_ hr0
      obtain ⟨x2, r2, rfl, hr2⟩ := WfRow.sl_ hr1
      obtain rfl := hr2.end_
      clear hr2
      have hc := cRows_next hlt
      have hc2 := cRows_le rows (j + 1)
      rw [hr] at hc
      have hc3 : cRow [.i x0, .l x1, .l x2] = 1 + (cRows x1 + (cRows x2 + 0)) := rfl
      have hq0 : 1 ≤ k + cRows (rows.take j) := by omega
      have hq1 : k + cRows (rows.take j) + cRow [.i x0, .l x1, .l x2] ≤ 4611686018427387904 := by omega
      rw [hc3] at hq1
      have hmk := mkAt_next (mt := mt) (k := k) hlt (Eq.symm (congrArg (mkRow mt (k + cRows (rows.take j))) hr))
      have hX := (mkAt_row (mt := mt) (k := k) hlt).trans hr
      have hl : j < (mkAt mt k rows j).length := by rw [mkAt_length]; exact hlt
      have hnext : k + (cRows (rows.take (j + 1)) : Int) = k + cRows (rows.take j) + cRow [.i x0, .l x1, .l x2] := by omega
      rw [hc3] at hnext
      obtain ⟨X, hXX⟩ : ∃ X, mkAt mt k rows j = X := ⟨_, rfl⟩
      rw [hXX] at hX hl hmk HE0
      obtain ⟨q, hq⟩ : ∃ q, k + (cRows (rows.take j) : Int) = q := ⟨_, rfl⟩
      rw [hq] at hq0 hq1 hmk hnext ⊢
      have hm1 : wD (.l x1) < wD (.l rows) := wD_part hlt (j := 1) (by rw [hr]; rfl)
      have hm2 : wD (.l x2) < wD (.l rows) := wD_part hlt (j := 2) (by rw [hr]; rfl)
      clear hc hc2 hXX hc3
      obtain ⟨-, hF, -, ub1, db1, Gb1, cb1, fb1, rb1, Db1, sb1, pb1, wb1⟩ := DeepV.part HE0.out.deep (show T 95 = some _ from rfl) (k := j) (j := 0) hlt rfl (o := j * 3) (by first | rfl | simp)
      have V1 := wb1 (fun e h => by cases h) (.int .i64 (q)) (.i (q)) (.int _ _ (inK_pos (by omega) (by omega)))
      rw [show setD X j 0 (.i (q)) = X.set j [.i (q), .l x1, .l x2] from setD_one hX] at V1
      have H1 := Lib.hid ((HE0.out).store hF V1)
      clear V1 rb1 Db1 sb1 pb1 wb1
      obtain ⟨-, hF, -, uc2, dc2, Gc2, cc2, fc2, rc2, Dc2, sc2, pc2, wc2⟩ := DeepV.part H1.out.deep (show T 95 = some _ from rfl) (k := j) (j := 1) hlt rfl (o := j * 3 + 1) (by first | rfl | simp)
      obtain rfl := cell_set hl rc2 (show ([.i (q), .l x1, .l x2] : List D)[1]? = some (.l x1) from rfl)
      rw [World.cell?_setCell_other _ _ _ _ (by intro h; simp only [Addr.mk.injEq] at h; omega)] at cc2
      clear fc2 wc2 rc2
      go_wp2_with fail
      refine ((mk_100 mt hmt (wD (.l x1) + 1)) _ Gc2 uc2 x1 (q + 1) (by omega) (by omega) (Nat.lt_succ_self _) (((H1.out).gl HG.out).less fun b h => (sc2 b h).1) Dc2).mono ?_; rintro e wr2 ⟨rfl, hN2⟩
      have V2 := pc2 _ _ (fun b hb hg => hN2.block b ((H1.out).deep.lt b hb) hg) hN2.deep
      rw [show setD (X.set j [.i (q), .l x1, .l x2]) j 1 (.l (mkRows mt (q + 1) x1)) = X.set j [.i (q), .l (mkRows mt (q + 1) x1), .l x2] from setD_set hl] at V2
      have H2 := Lib.hid ((H1.out).call hN2 (fun b h => (sc2 b h).1) V2)
      clear V2 hN2 Dc2 sc2 pc2 cc2
      obtain ⟨-, hF, -, uc3, dc3, Gc3, cc3, fc3, rc3, Dc3, sc3, pc3, wc3⟩ := DeepV.part H2.out.deep (show T 95 = some _ from rfl) (k := j) (j := 2) hlt rfl (o := j * 3 + 2) (by first | rfl | simp)
      obtain rfl := cell_set hl rc3 (show ([.i (q), .l (mkRows mt (q + 1) x1), .l x2] : List D)[2]? = some (.l x2) from rfl)
      clear fc3 wc3 rc3
      go_wp2_with fail
      refine ((mk_100 mt hmt (wD (.l x2) + 1)) _ Gc3 uc3 x2 (q + 1 + cRows x1) (by omega) (by omega) (Nat.lt_succ_self _) (((H2.out).gl HG.out).less fun b h => (sc3 b h).1) Dc3).mono ?_; rintro e wr3 ⟨rfl, hN3⟩
      have V3 := pc3 _ _ (fun b hb hg => hN3.block b ((H2.out).deep.lt b hb) hg) hN3.deep
      rw [show setD (X.set j [.i (q), .l (mkRows mt (q + 1) x1), .l x2]) j 2 (.l (mkRows mt (q + 1 + cRows x1) x2)) = X.set j [.i (q), .l (mkRows mt (q + 1) x1), .l (mkRows mt (q + 1 + cRows x1) x2)] from setD_set hl] at V3
      have H3 := Lib.hid ((H2.out).call hN3 (fun b h => (sc3 b h).1) V3)
      clear V3 hN3 Dc3 sc3 pc3 cc3
      go_wp2
      rw [show X.set j [.i (q), .l (mkRows mt (q + 1) x1), .l (mkRows mt (q + 1 + cRows x1) x2)] = mkAt mt k rows (j + 1) from hmk] at H3
      exact ⟨⟨j + 1, hlt, by go_num, congrArg (Value.int IntKind.i64) (by omega), H3.out⟩, by simp [Go.RowKit.intOf]; omega⟩
    · have nlt : ¬ (j : Int) < (rows.length : Int) := by omega
      have ht : rows.take j = rows := List.take_of_length_le (by omega)
      have ha := mkAt_all (mt := mt) (k := k) (a := rows) (i := j) (by omega)
      go_wp2
      go_ret
      exact ⟨rfl, by rw [← ha]; exact HE0.out⟩
end Go.Proofs.Ytidjlboppokloaa
