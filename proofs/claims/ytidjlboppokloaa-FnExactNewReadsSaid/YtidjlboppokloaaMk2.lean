/- The walks of the law's functions that mark what is owned: printed by a program of this claim. -/
import Derived.Test.YtidjlboppokloaaMp
import Derived.Test.YtidjlboppokloaaTab
import Derived.IntWalk
namespace Go.Proofs.Ytidjlboppokloaa
open Go.RowKit Ab
set_option linter.unusedVariables false
set_option linter.unusedSimpArgs false
set_option maxRecDepth 100000
set_option maxHeartbeats 2000000
/-- laws.markIntS -/
theorem mk_83 (mt : Int → ByteArray) (n : Nat) : MkOk Try.prog T mt 83 3 n := by
  intro w F v rows k hk hb hn hgl hD
  obtain ⟨A, c, rfl⟩ := hD.slice
  have HD := Lib.hid hD
  have HG := Lib.hid hgl
  have hs := hD.short
  simp only [maxLen] at hs
  clear hD hgl
  go_enter Try.func83, Try.ntmps83
  go_wp2_with fail
  go_loopw [1, 5] (fun q i wr => ∃ j : Nat, j ≤ rows.length ∧ i = .int .i64 j ∧ q = .int .i64 (k + cRows (rows.take j)) ∧ MkEnd T w wr F 3 (.slice A rows.length c) (mkAt mt k rows j)) (fun _ i _ => rows.length - (intOf i).toNat)
  case atStart => exact ⟨0, Nat.zero_le _, rfl, by simp [cRows], by rw [mkAt_zero]; exact MkEnd.refl HD.out⟩
  case round =>
    obtain ⟨j, hj, rfl, rfl, hE⟩ := hrel
    have HE0 := Lib.hid hE
    clear hE
    by_cases hlt : j < rows.length
    · obtain ⟨g, rfl⟩ := HD.out.some (by omega)
      have q0 : (0 : Int) ≤ (j : Int) := by omega
      have q1 : (j : Int) < (rows.length : Int) := by omega
      obtain ⟨x0, r0, hr, hr0⟩ := WfRow.int_ (HD.out.row (show T 3 = some _ from rfl) hlt)
      obtain rfl := hr0.end_
      clear hr0
      have hc := cRows_next hlt
      have hc2 := cRows_le rows (j + 1)
      rw [hr] at hc
      have hc3 : cRow [.i x0] = 1 + 0 := rfl
      have hq0 : 1 ≤ k + cRows (rows.take j) := by omega
      have hq1 : k + cRows (rows.take j) + cRow [.i x0] ≤ 4611686018427387904 := by omega
      rw [hc3] at hq1
      have hmk := mkAt_next (mt := mt) (k := k) hlt (Eq.symm (congrArg (mkRow mt (k + cRows (rows.take j))) hr))
      have hX := (mkAt_row (mt := mt) (k := k) hlt).trans hr
      have hl : j < (mkAt mt k rows j).length := by rw [mkAt_length]; exact hlt
      have hnext : k + (cRows (rows.take (j + 1)) : Int) = k + cRows (rows.take j) + cRow [.i x0] := by omega
      rw [hc3] at hnext
      obtain ⟨X, hXX⟩ : ∃ X, mkAt mt k rows j = X := ⟨_, rfl⟩
      rw [hXX] at hX hl hmk HE0
      obtain ⟨q, hq⟩ : ∃ q, k + (cRows (rows.take j) : Int) = q := ⟨_, rfl⟩
      rw [hq] at hq0 hq1 hmk hnext ⊢
      clear hc hc2 hXX hc3
      obtain ⟨-, hF, -, ub1, db1, Gb1, cb1, fb1, rb1, Db1, sb1, pb1, wb1⟩ := DeepV.part HE0.out.deep (show T 3 = some _ from rfl) (k := j) (j := 0) hlt rfl (o := j) (by first | rfl | simp)
      have V1 := wb1 (fun e h => by cases h) (.int .i64 (q)) (.i (q)) (.int _ _ (inK_pos (by omega) (by omega)))
      rw [show setD X j 0 (.i (q)) = X.set j [.i (q)] from setD_one hX] at V1
      have H1 := Lib.hid ((HE0.out).store hF V1)
      clear V1 rb1 Db1 sb1 pb1 wb1
      go_wp2
      rw [show X.set j [.i (q)] = mkAt mt k rows (j + 1) from hmk] at H1
      exact ⟨⟨j + 1, hlt, by go_num, congrArg (Value.int IntKind.i64) (by omega), H1.out⟩, by simp [Go.RowKit.intOf]; omega⟩
    · have nlt : ¬ (j : Int) < (rows.length : Int) := by omega
      have ht : rows.take j = rows := List.take_of_length_le (by omega)
      have ha := mkAt_all (mt := mt) (k := k) (a := rows) (i := j) (by omega)
      go_wp2
      go_ret
      exact ⟨rfl, by rw [← ha]; exact HE0.out⟩
/-- laws.markStringS -/
theorem mk_50 (mt : Int → ByteArray) (hmt : FOk Try.prog T 48 (spMT mt)) (n : Nat) : MkOk Try.prog T mt 50 9 n := by
  intro w F v rows k hk hb hn hgl hD
  obtain ⟨A, c, rfl⟩ := hD.slice
  have HD := Lib.hid hD
  have HG := Lib.hid hgl
  have hs := hD.short
  simp only [maxLen] at hs
  clear hD hgl
  go_enter Try.func50, Try.ntmps50
  go_wp2_with fail
  go_loopw [1, 5] (fun q i wr => ∃ j : Nat, j ≤ rows.length ∧ i = .int .i64 j ∧ q = .int .i64 (k + cRows (rows.take j)) ∧ MkEnd T w wr F 9 (.slice A rows.length c) (mkAt mt k rows j)) (fun _ i _ => rows.length - (intOf i).toNat)
  case atStart => exact ⟨0, Nat.zero_le _, rfl, by simp [cRows], by rw [mkAt_zero]; exact MkEnd.refl HD.out⟩
  case round =>
    obtain ⟨j, hj, rfl, rfl, hE⟩ := hrel
    have HE0 := Lib.hid hE
    clear hE
    by_cases hlt : j < rows.length
    · obtain ⟨g, rfl⟩ := HD.out.some (by omega)
      have q0 : (0 : Int) ≤ (j : Int) := by omega
      have q1 : (j : Int) < (rows.length : Int) := by omega
      obtain ⟨x0, r0, hr, hr0⟩ := WfRow.str_ (HD.out.row (show T 9 = some _ from rfl) hlt)
      obtain rfl := hr0.end_
      clear hr0
      have hc := cRows_next hlt
      have hc2 := cRows_le rows (j + 1)
      rw [hr] at hc
      have hc3 : cRow [.s x0] = 1 + 0 := rfl
      have hq0 : 1 ≤ k + cRows (rows.take j) := by omega
      have hq1 : k + cRows (rows.take j) + cRow [.s x0] ≤ 4611686018427387904 := by omega
      rw [hc3] at hq1
      have hmk := mkAt_next (mt := mt) (k := k) hlt (Eq.symm (congrArg (mkRow mt (k + cRows (rows.take j))) hr))
      have hX := (mkAt_row (mt := mt) (k := k) hlt).trans hr
      have hl : j < (mkAt mt k rows j).length := by rw [mkAt_length]; exact hlt
      have hnext : k + (cRows (rows.take (j + 1)) : Int) = k + cRows (rows.take j) + cRow [.s x0] := by omega
      rw [hc3] at hnext
      obtain ⟨X, hXX⟩ : ∃ X, mkAt mt k rows j = X := ⟨_, rfl⟩
      rw [hXX] at hX hl hmk HE0
      obtain ⟨q, hq⟩ : ∃ q, k + (cRows (rows.take j) : Int) = q := ⟨_, rfl⟩
      rw [hq] at hq0 hq1 hmk hnext ⊢
      clear hc hc2 hXX hc3
      go_wp2_with fail
      refine (hmt.mark (HE0.out).deep.lt ((HE0.out).gl HG.out) (k := q) (by omega) (by omega)).mono ?_; rintro e wr1 ⟨rfl, hsz1, hb1⟩
      have H1 := Lib.hid ((HE0.out).below hb1)
      clear hb1
      obtain ⟨-, hF, -, ub1, db1, Gb1, cb1, fb1, rb1, Db1, sb1, pb1, wb1⟩ := DeepV.part H1.out.deep (show T 9 = some _ from rfl) (k := j) (j := 0) hlt rfl (o := j) (by first | rfl | simp)
      have V1 := wb1 (fun e h => by cases h) (.string (mt (q))) (.s (mt (q))) (.str _ hsz1)
      rw [show setD X j 0 (.s (mt (q))) = X.set j [.s (mt (q))] from setD_one hX] at V1
      have K1 := Lib.hid ((H1.out).store hF V1)
      clear V1 rb1 Db1 sb1 pb1 wb1
      go_wp2
      rw [show X.set j [.s (mt (q))] = mkAt mt k rows (j + 1) from hmk] at K1
      exact ⟨⟨j + 1, hlt, by go_num, congrArg (Value.int IntKind.i64) (by omega), K1.out⟩, by simp [Go.RowKit.intOf]; omega⟩
    · have nlt : ¬ (j : Int) < (rows.length : Int) := by omega
      have ht : rows.take j = rows := List.take_of_length_le (by omega)
      have ha := mkAt_all (mt := mt) (k := k) (a := rows) (i := j) (by omega)
      go_wp2
      go_ret
      exact ⟨rfl, by rw [← ha]; exact HE0.out⟩
/-- laws.markOriginS -/
theorem mk_84 (mt : Int → ByteArray) (n : Nat) : MkOk Try.prog T mt 84 142 n := by
  intro w F v rows k hk hb hn hgl hD
  obtain ⟨A, c, rfl⟩ := hD.slice
  have HD := Lib.hid hD
  have HG := Lib.hid hgl
  have hs := hD.short
  simp only [maxLen] at hs
  clear hD hgl
  go_enter Try.func84, Try.ntmps84
  go_wp2_with fail
  go_loopw [1, 5] (fun q i wr => ∃ j : Nat, j ≤ rows.length ∧ i = .int .i64 j ∧ q = .int .i64 (k + cRows (rows.take j)) ∧ MkEnd T w wr F 142 (.slice A rows.length c) (mkAt mt k rows j)) (fun _ i _ => rows.length - (intOf i).toNat)
  case atStart => exact ⟨0, Nat.zero_le _, rfl, by simp [cRows], by rw [mkAt_zero]; exact MkEnd.refl HD.out⟩
  case round =>
    obtain ⟨j, hj, rfl, rfl, hE⟩ := hrel
    have HE0 := Lib.hid hE
    clear hE
    by_cases hlt : j < rows.length
    · obtain ⟨g, rfl⟩ := HD.out.some (by omega)
      have q0 : (0 : Int) ≤ (j : Int) := by omega
      have q1 : (j : Int) < (rows.length : Int) := by omega
      obtain ⟨x0, r0, hr, hr0⟩ := WfRow.int_ (HD.out.row (show T 142 = some _ from rfl) hlt)
      obtain ⟨x1, r1, rfl, hr1⟩ := WfRow.int_ hr0
      obtain rfl := hr1.end_
      clear hr1
      have hc := cRows_next hlt
      have hc2 := cRows_le rows (j + 1)
      rw [hr] at hc
      have hc3 : cRow [.i x0, .i x1] = 1 + (1 + 0) := rfl
      have hq0 : 1 ≤ k + cRows (rows.take j) := by omega
      have hq1 : k + cRows (rows.take j) + cRow [.i x0, .i x1] ≤ 4611686018427387904 := by omega
      rw [hc3] at hq1
      have hmk := mkAt_next (mt := mt) (k := k) hlt (Eq.symm (congrArg (mkRow mt (k + cRows (rows.take j))) hr))
      have hX := (mkAt_row (mt := mt) (k := k) hlt).trans hr
      have hl : j < (mkAt mt k rows j).length := by rw [mkAt_length]; exact hlt
      have hnext : k + (cRows (rows.take (j + 1)) : Int) = k + cRows (rows.take j) + cRow [.i x0, .i x1] := by omega
      rw [hc3] at hnext
      obtain ⟨X, hXX⟩ : ∃ X, mkAt mt k rows j = X := ⟨_, rfl⟩
      rw [hXX] at hX hl hmk HE0
      obtain ⟨q, hq⟩ : ∃ q, k + (cRows (rows.take j) : Int) = q := ⟨_, rfl⟩
      rw [hq] at hq0 hq1 hmk hnext ⊢
      clear hc hc2 hXX hc3
      obtain ⟨-, hF, -, ub1, db1, Gb1, cb1, fb1, rb1, Db1, sb1, pb1, wb1⟩ := DeepV.part HE0.out.deep (show T 142 = some _ from rfl) (k := j) (j := 0) hlt rfl (o := j * 2) (by first | rfl | simp)
      have V1 := wb1 (fun e h => by cases h) (.int .i64 (q)) (.i (q)) (.int _ _ (inK_pos (by omega) (by omega)))
      rw [show setD X j 0 (.i (q)) = X.set j [.i (q), .i x1] from setD_one hX] at V1
      have H1 := Lib.hid ((HE0.out).store hF V1)
      clear V1 rb1 Db1 sb1 pb1 wb1
      obtain ⟨-, hF, -, ub2, db2, Gb2, cb2, fb2, rb2, Db2, sb2, pb2, wb2⟩ := DeepV.part HE0.out.deep (show T 142 = some _ from rfl) (k := j) (j := 1) hlt rfl (o := j * 2 + 1) (by first | rfl | simp)
      obtain ⟨-, hF, -, uc2, dc2, Gc2, cc2, fc2, rc2, Dc2, sc2, pc2, wc2⟩ := DeepV.part H1.out.deep (show T 142 = some _ from rfl) (k := j) (j := 1) hlt rfl (o := j * 2 + 1) (by first | rfl | simp)
      have V2 := wc2 (fun e h => by cases h) (.int .i64 (q + 1)) (.i (q + 1)) (.int _ _ (inK_pos (by omega) (by omega)))
      rw [show setD (X.set j [.i (q), .i x1]) j 1 (.i (q + 1)) = X.set j [.i (q), .i (q + 1)] from setD_set hl] at V2
      have H2 := Lib.hid ((H1.out).store hF V2)
      clear V2 rb2 Db2 sb2 pb2 wb2 rc2 Dc2 sc2 pc2 wc2 cc2 fc2
      go_wp2
      rw [show X.set j [.i (q), .i (q + 1)] = mkAt mt k rows (j + 1) from hmk] at H2
      exact ⟨⟨j + 1, hlt, by go_num, congrArg (Value.int IntKind.i64) (by omega), H2.out⟩, by simp [Go.RowKit.intOf]; omega⟩
    · have nlt : ¬ (j : Int) < (rows.length : Int) := by omega
      have ht : rows.take j = rows := List.take_of_length_le (by omega)
      have ha := mkAt_all (mt := mt) (k := k) (a := rows) (i := j) (by omega)
      go_wp2
      go_ret
      exact ⟨rfl, by rw [← ha]; exact HE0.out⟩
/-- laws.markRowS -/
theorem mk_51 (mt : Int → ByteArray) (n : Nat) : MkOk Try.prog T mt 51 114 n := by
  intro w F v rows k hk hb hn hgl hD
  obtain ⟨A, c, rfl⟩ := hD.slice
  have HD := Lib.hid hD
  have HG := Lib.hid hgl
  have hs := hD.short
  simp only [maxLen] at hs
  clear hD hgl
  go_enter Try.func51, Try.ntmps51
  go_wp2_with fail
  go_loopw [1, 5] (fun q i wr => ∃ j : Nat, j ≤ rows.length ∧ i = .int .i64 j ∧ q = .int .i64 (k + cRows (rows.take j)) ∧ MkEnd T w wr F 114 (.slice A rows.length c) (mkAt mt k rows j)) (fun _ i _ => rows.length - (intOf i).toNat)
  case atStart => exact ⟨0, Nat.zero_le _, rfl, by simp [cRows], by rw [mkAt_zero]; exact MkEnd.refl HD.out⟩
  case round =>
    obtain ⟨j, hj, rfl, rfl, hE⟩ := hrel
    have HE0 := Lib.hid hE
    clear hE
    by_cases hlt : j < rows.length
    · obtain ⟨g, rfl⟩ := HD.out.some (by omega)
      have q0 : (0 : Int) ≤ (j : Int) := by omega
      have q1 : (j : Int) < (rows.length : Int) := by omega
      obtain ⟨x0, r0, hr, hr0⟩ := WfRow.sl_ (HD.out.row (show T 114 = some _ from rfl) hlt)
      obtain ⟨x1, r1, rfl, hr1⟩ := WfRow.sl_ hr0
      obtain rfl := hr1.end_
      clear hr1
      have hc := cRows_next hlt
      have hc2 := cRows_le rows (j + 1)
      rw [hr] at hc
      have hc3 : cRow [.l x0, .l x1] = cRows x0 + (cRows x1 + 0) := rfl
      have hq0 : 1 ≤ k + cRows (rows.take j) := by omega
      have hq1 : k + cRows (rows.take j) + cRow [.l x0, .l x1] ≤ 4611686018427387904 := by omega
      rw [hc3] at hq1
      have hmk := mkAt_next (mt := mt) (k := k) hlt (Eq.symm (congrArg (mkRow mt (k + cRows (rows.take j))) hr))
      have hX := (mkAt_row (mt := mt) (k := k) hlt).trans hr
      have hl : j < (mkAt mt k rows j).length := by rw [mkAt_length]; exact hlt
      have hnext : k + (cRows (rows.take (j + 1)) : Int) = k + cRows (rows.take j) + cRow [.l x0, .l x1] := by omega
      rw [hc3] at hnext
      obtain ⟨X, hXX⟩ : ∃ X, mkAt mt k rows j = X := ⟨_, rfl⟩
      rw [hXX] at hX hl hmk HE0
      obtain ⟨q, hq⟩ : ∃ q, k + (cRows (rows.take j) : Int) = q := ⟨_, rfl⟩
      rw [hq] at hq0 hq1 hmk hnext ⊢
      have hm0 : wD (.l x0) < wD (.l rows) := wD_part hlt (j := 0) (by rw [hr]; rfl)
      have hm1 : wD (.l x1) < wD (.l rows) := wD_part hlt (j := 1) (by rw [hr]; rfl)
      clear hc hc2 hXX hc3
      obtain ⟨-, hF, -, uc1, dc1, Gc1, cc1, fc1, rc1, Dc1, sc1, pc1, wc1⟩ := DeepV.part HE0.out.deep (show T 114 = some _ from rfl) (k := j) (j := 0) hlt rfl (o := j * 2) (by first | rfl | simp)
      obtain rfl := cell_one hX rc1 (show ([.l x0, .l x1] : List D)[0]? = some (.l x0) from rfl)
      clear fc1 wc1 rc1
      go_wp2_with fail
      refine ((mk_83 mt (wD (.l x0) + 1)) _ Gc1 uc1 x0 (q) (by omega) (by omega) (Nat.lt_succ_self _) (((HE0.out).gl HG.out).less fun b h => (sc1 b h).1) Dc1).mono ?_; rintro e wr1 ⟨rfl, hN1⟩
      have V1 := pc1 _ _ (fun b hb hg => hN1.block b ((HE0.out).deep.lt b hb) hg) hN1.deep
      rw [show setD X j 0 (.l (mkRows mt (q) x0)) = X.set j [.l (mkRows mt (q) x0), .l x1] from setD_one hX] at V1
      have H1 := Lib.hid ((HE0.out).call hN1 (fun b h => (sc1 b h).1) V1)
      clear V1 hN1 Dc1 sc1 pc1 cc1
      obtain ⟨-, hF, -, uc2, dc2, Gc2, cc2, fc2, rc2, Dc2, sc2, pc2, wc2⟩ := DeepV.part H1.out.deep (show T 114 = some _ from rfl) (k := j) (j := 1) hlt rfl (o := j * 2 + 1) (by first | rfl | simp)
      obtain rfl := cell_set hl rc2 (show ([.l (mkRows mt (q) x0), .l x1] : List D)[1]? = some (.l x1) from rfl)
      clear fc2 wc2 rc2
      go_wp2_with fail
      refine ((mk_84 mt (wD (.l x1) + 1)) _ Gc2 uc2 x1 (q + cRows x0) (by omega) (by omega) (Nat.lt_succ_self _) (((H1.out).gl HG.out).less fun b h => (sc2 b h).1) Dc2).mono ?_; rintro e wr2 ⟨rfl, hN2⟩
      have V2 := pc2 _ _ (fun b hb hg => hN2.block b ((H1.out).deep.lt b hb) hg) hN2.deep
      rw [show setD (X.set j [.l (mkRows mt (q) x0), .l x1]) j 1 (.l (mkRows mt (q + cRows x0) x1)) = X.set j [.l (mkRows mt (q) x0), .l (mkRows mt (q + cRows x0) x1)] from setD_set hl] at V2
      have H2 := Lib.hid ((H1.out).call hN2 (fun b h => (sc2 b h).1) V2)
      clear V2 hN2 Dc2 sc2 pc2 cc2
      go_wp2
      rw [show X.set j [.l (mkRows mt (q) x0), .l (mkRows mt (q + cRows x0) x1)] = mkAt mt k rows (j + 1) from hmk] at H2
      exact ⟨⟨j + 1, hlt, by go_num, congrArg (Value.int IntKind.i64) (by omega), H2.out⟩, by simp [Go.RowKit.intOf]; omega⟩
    · have nlt : ¬ (j : Int) < (rows.length : Int) := by omega
      have ht : rows.take j = rows := List.take_of_length_le (by omega)
      have ha := mkAt_all (mt := mt) (k := k) (a := rows) (i := j) (by omega)
      go_wp2
      go_ret
      exact ⟨rfl, by rw [← ha]; exact HE0.out⟩
/-- laws.markValueS -/
theorem mkS_49 (mt : Int → ByteArray) (hmt : FOk Try.prog T 48 (spMT mt)) (n : Nat) (ih : MkOk Try.prog T mt 49 60 n) : MkOk Try.prog T mt 49 60 (n + 1) := by
  intro w F v rows k hk hb hn hgl hD
  obtain ⟨A, c, rfl⟩ := hD.slice
  have HD := Lib.hid hD
  have HG := Lib.hid hgl
  have hs := hD.short
  simp only [maxLen] at hs
  clear hD hgl
  go_enter Try.func49, Try.ntmps49
  go_wp2_with fail
  go_loopw [1, 5] (fun q i wr => ∃ j : Nat, j ≤ rows.length ∧ i = .int .i64 j ∧ q = .int .i64 (k + cRows (rows.take j)) ∧ MkEnd T w wr F 60 (.slice A rows.length c) (mkAt mt k rows j)) (fun _ i _ => rows.length - (intOf i).toNat)
  case atStart => exact ⟨0, Nat.zero_le _, rfl, by simp [cRows], by rw [mkAt_zero]; exact MkEnd.refl HD.out⟩
  case round =>
    obtain ⟨j, hj, rfl, rfl, hE⟩ := hrel
    have HE0 := Lib.hid hE
    clear hE
    by_cases hlt : j < rows.length
    · obtain ⟨g, rfl⟩ := HD.out.some (by omega)
      have q0 : (0 : Int) ≤ (j : Int) := by omega
      have q1 : (j : Int) < (rows.length : Int) := by omega
      obtain ⟨x0, r0, hr, hr0⟩ := WfRow.int_ (HD.out.row (show T 60 = some _ from rfl) hlt)
      obtain ⟨x1, r1, rfl, hr1⟩ := WfRow.int_ hr0
      obtain ⟨x2, r2, rfl, hr2⟩ := WfRow.int_ hr1
      obtain ⟨x3, r3, rfl, hr3⟩ := WfRow.str_ hr2
      obtain ⟨x4, r4, rfl, hr4⟩ := WfRow.sl_ hr3
      obtain ⟨x5, r5, rfl, hr5⟩ := WfRow.sl_ hr4
      obtain ⟨x6, r6, rfl, hr6⟩ := WfRow.sl_ hr5
      obtain rfl := hr6.end_
      clear hr6
      have hc := cRows_next hlt
      have hc2 := cRows_le rows (j + 1)
      rw [hr] at hc
      have hc3 : cRow [.i x0, .i x1, .i x2, .s x3, .l x4, .l x5, .l x6] = 1 + (1 + (1 + (1 + (cRows x4 + (cRows x5 + (cRows x6 + 0)))))) := rfl
      have hq0 : 1 ≤ k + cRows (rows.take j) := by omega
      have hq1 : k + cRows (rows.take j) + cRow [.i x0, .i x1, .i x2, .s x3, .l x4, .l x5, .l x6] ≤ 4611686018427387904 := by omega
      rw [hc3] at hq1
      have hmk := mkAt_next (mt := mt) (k := k) hlt (Eq.symm (congrArg (mkRow mt (k + cRows (rows.take j))) hr))
      have hX := (mkAt_row (mt := mt) (k := k) hlt).trans hr
      have hl : j < (mkAt mt k rows j).length := by rw [mkAt_length]; exact hlt
      have hnext : k + (cRows (rows.take (j + 1)) : Int) = k + cRows (rows.take j) + cRow [.i x0, .i x1, .i x2, .s x3, .l x4, .l x5, .l x6] := by omega
      rw [hc3] at hnext
      obtain ⟨X, hXX⟩ : ∃ X, mkAt mt k rows j = X := ⟨_, rfl⟩
      rw [hXX] at hX hl hmk HE0
      obtain ⟨q, hq⟩ : ∃ q, k + (cRows (rows.take j) : Int) = q := ⟨_, rfl⟩
      rw [hq] at hq0 hq1 hmk hnext ⊢
      have hm4 : wD (.l x4) < wD (.l rows) := wD_part hlt (j := 4) (by rw [hr]; rfl)
      have hm5 : wD (.l x5) < wD (.l rows) := wD_part hlt (j := 5) (by rw [hr]; rfl)
      have hm6 : wD (.l x6) < wD (.l rows) := wD_part hlt (j := 6) (by rw [hr]; rfl)
      clear hc hc2 hXX hc3
      obtain ⟨-, hF, -, ub1, db1, Gb1, cb1, fb1, rb1, Db1, sb1, pb1, wb1⟩ := DeepV.part HE0.out.deep (show T 60 = some _ from rfl) (k := j) (j := 0) hlt rfl (o := j * 7) (by first | rfl | simp)
      have V1 := wb1 (fun e h => by cases h) (.int .i64 (q)) (.i (q)) (.int _ _ (inK_pos (by omega) (by omega)))
      rw [show setD X j 0 (.i (q)) = X.set j [.i (q), .i x1, .i x2, .s x3, .l x4, .l x5, .l x6] from setD_one hX] at V1
      have H1 := Lib.hid ((HE0.out).store hF V1)
      clear V1 rb1 Db1 sb1 pb1 wb1
      obtain ⟨-, hF, -, ub2, db2, Gb2, cb2, fb2, rb2, Db2, sb2, pb2, wb2⟩ := DeepV.part HE0.out.deep (show T 60 = some _ from rfl) (k := j) (j := 1) hlt rfl (o := j * 7 + 1) (by first | rfl | simp)
      obtain ⟨-, hF, -, uc2, dc2, Gc2, cc2, fc2, rc2, Dc2, sc2, pc2, wc2⟩ := DeepV.part H1.out.deep (show T 60 = some _ from rfl) (k := j) (j := 1) hlt rfl (o := j * 7 + 1) (by first | rfl | simp)
      have V2 := wc2 (fun e h => by cases h) (.int .i64 (q + 1)) (.i (q + 1)) (.int _ _ (inK_pos (by omega) (by omega)))
      rw [show setD (X.set j [.i (q), .i x1, .i x2, .s x3, .l x4, .l x5, .l x6]) j 1 (.i (q + 1)) = X.set j [.i (q), .i (q + 1), .i x2, .s x3, .l x4, .l x5, .l x6] from setD_set hl] at V2
      have H2 := Lib.hid ((H1.out).store hF V2)
      clear V2 rb2 Db2 sb2 pb2 wb2 rc2 Dc2 sc2 pc2 wc2 cc2 fc2
      obtain ⟨-, hF, -, ub3, db3, Gb3, cb3, fb3, rb3, Db3, sb3, pb3, wb3⟩ := DeepV.part HE0.out.deep (show T 60 = some _ from rfl) (k := j) (j := 2) hlt rfl (o := j * 7 + 2) (by first | rfl | simp)
      obtain ⟨-, hF, -, uc3, dc3, Gc3, cc3, fc3, rc3, Dc3, sc3, pc3, wc3⟩ := DeepV.part H2.out.deep (show T 60 = some _ from rfl) (k := j) (j := 2) hlt rfl (o := j * 7 + 2) (by first | rfl | simp)
      have V3 := wc3 (fun e h => by cases h) (.int .i64 (q + 1 + 1)) (.i (q + 1 + 1)) (.int _ _ (inK_pos (by omega) (by omega)))
      rw [show setD (X.set j [.i (q), .i (q + 1), .i x2, .s x3, .l x4, .l x5, .l x6]) j 2 (.i (q + 1 + 1)) = X.set j [.i (q), .i (q + 1), .i (q + 1 + 1), .s x3, .l x4, .l x5, .l x6] from setD_set hl] at V3
      have H3 := Lib.hid ((H2.out).store hF V3)
      clear V3 rb3 Db3 sb3 pb3 wb3 rc3 Dc3 sc3 pc3 wc3 cc3 fc3
      go_wp2_with fail
      refine (hmt.mark (H3.out).deep.lt ((H3.out).gl HG.out) (k := q + 1 + 1 + 1) (by omega) (by omega)).mono ?_; rintro e wr4 ⟨rfl, hsz4, hb4⟩
      have H4 := Lib.hid ((H3.out).below hb4)
      clear hb4
      obtain ⟨-, hF, -, ub4, db4, Gb4, cb4, fb4, rb4, Db4, sb4, pb4, wb4⟩ := DeepV.part H4.out.deep (show T 60 = some _ from rfl) (k := j) (j := 3) hlt rfl (o := j * 7 + 3) (by first | rfl | simp)
      have V4 := wb4 (fun e h => by cases h) (.string (mt (q + 1 + 1 + 1))) (.s (mt (q + 1 + 1 + 1))) (.str _ hsz4)
      rw [show setD (X.set j [.i (q), .i (q + 1), .i (q + 1 + 1), .s x3, .l x4, .l x5, .l x6]) j 3 (.s (mt (q + 1 + 1 + 1))) = X.set j [.i (q), .i (q + 1), .i (q + 1 + 1), .s (mt (q + 1 + 1 + 1)), .l x4, .l x5, .l x6] from setD_set hl] at V4
      have K4 := Lib.hid ((H4.out).store hF V4)
      clear V4 rb4 Db4 sb4 pb4 wb4
      obtain ⟨-, hF, -, uc5, dc5, Gc5, cc5, fc5, rc5, Dc5, sc5, pc5, wc5⟩ := DeepV.part K4.out.deep (show T 60 = some _ from rfl) (k := j) (j := 4) hlt rfl (o := j * 7 + 4) (by first | rfl | simp)
      obtain rfl := cell_set hl rc5 (show ([.i (q), .i (q + 1), .i (q + 1 + 1), .s (mt (q + 1 + 1 + 1)), .l x4, .l x5, .l x6] : List D)[4]? = some (.l x4) from rfl)
      rw [World.cell?_setCell_other _ _ _ _ (by intro h; simp only [Addr.mk.injEq] at h; omega)] at cc5
      clear fc5 wc5 rc5
      go_wp2_with fail
      refine (ih _ Gc5 uc5 x4 (q + 1 + 1 + 1 + 1) (by omega) (by omega) (by omega) (((K4.out).gl HG.out).less fun b h => (sc5 b h).1) Dc5).mono ?_; rintro e wr5 ⟨rfl, hN5⟩
      have V5 := pc5 _ _ (fun b hb hg => hN5.block b ((K4.out).deep.lt b hb) hg) hN5.deep
      rw [show setD (X.set j [.i (q), .i (q + 1), .i (q + 1 + 1), .s (mt (q + 1 + 1 + 1)), .l x4, .l x5, .l x6]) j 4 (.l (mkRows mt (q + 1 + 1 + 1 + 1) x4)) = X.set j [.i (q), .i (q + 1), .i (q + 1 + 1), .s (mt (q + 1 + 1 + 1)), .l (mkRows mt (q + 1 + 1 + 1 + 1) x4), .l x5, .l x6] from setD_set hl] at V5
      have H5 := Lib.hid ((K4.out).call hN5 (fun b h => (sc5 b h).1) V5)
      clear V5 hN5 Dc5 sc5 pc5 cc5
      obtain ⟨-, hF, -, uc6, dc6, Gc6, cc6, fc6, rc6, Dc6, sc6, pc6, wc6⟩ := DeepV.part H5.out.deep (show T 60 = some _ from rfl) (k := j) (j := 5) hlt rfl (o := j * 7 + 5) (by first | rfl | simp)
      obtain rfl := cell_set hl rc6 (show ([.i (q), .i (q + 1), .i (q + 1 + 1), .s (mt (q + 1 + 1 + 1)), .l (mkRows mt (q + 1 + 1 + 1 + 1) x4), .l x5, .l x6] : List D)[5]? = some (.l x5) from rfl)
      clear fc6 wc6 rc6
      go_wp2_with fail
      refine ((mk_50 mt hmt (wD (.l x5) + 1)) _ Gc6 uc6 x5 (q + 1 + 1 + 1 + 1 + cRows x4) (by omega) (by omega) (Nat.lt_succ_self _) (((H5.out).gl HG.out).less fun b h => (sc6 b h).1) Dc6).mono ?_; rintro e wr6 ⟨rfl, hN6⟩
      have V6 := pc6 _ _ (fun b hb hg => hN6.block b ((H5.out).deep.lt b hb) hg) hN6.deep
      rw [show setD (X.set j [.i (q), .i (q + 1), .i (q + 1 + 1), .s (mt (q + 1 + 1 + 1)), .l (mkRows mt (q + 1 + 1 + 1 + 1) x4), .l x5, .l x6]) j 5 (.l (mkRows mt (q + 1 + 1 + 1 + 1 + cRows x4) x5)) = X.set j [.i (q), .i (q + 1), .i (q + 1 + 1), .s (mt (q + 1 + 1 + 1)), .l (mkRows mt (q + 1 + 1 + 1 + 1) x4), .l (mkRows mt (q + 1 + 1 + 1 + 1 + cRows x4) x5), .l x6] from setD_set hl] at V6
      have H6 := Lib.hid ((H5.out).call hN6 (fun b h => (sc6 b h).1) V6)
      clear V6 hN6 Dc6 sc6 pc6 cc6
      obtain ⟨-, hF, -, uc7, dc7, Gc7, cc7, fc7, rc7, Dc7, sc7, pc7, wc7⟩ := DeepV.part H6.out.deep (show T 60 = some _ from rfl) (k := j) (j := 6) hlt rfl (o := j * 7 + 6) (by first | rfl | simp)
      obtain rfl := cell_set hl rc7 (show ([.i (q), .i (q + 1), .i (q + 1 + 1), .s (mt (q + 1 + 1 + 1)), .l (mkRows mt (q + 1 + 1 + 1 + 1) x4), .l (mkRows mt (q + 1 + 1 + 1 + 1 + cRows x4) x5), .l x6] : List D)[6]? = some (.l x6) from rfl)
      clear fc7 wc7 rc7
      go_wp2_with fail
      refine ((mk_51 mt (wD (.l x6) + 1)) _ Gc7 uc7 x6 (q + 1 + 1 + 1 + 1 + cRows x4 + cRows x5) (by omega) (by omega) (Nat.lt_succ_self _) (((H6.out).gl HG.out).less fun b h => (sc7 b h).1) Dc7).mono ?_; rintro e wr7 ⟨rfl, hN7⟩
      have V7 := pc7 _ _ (fun b hb hg => hN7.block b ((H6.out).deep.lt b hb) hg) hN7.deep
      rw [show setD (X.set j [.i (q), .i (q + 1), .i (q + 1 + 1), .s (mt (q + 1 + 1 + 1)), .l (mkRows mt (q + 1 + 1 + 1 + 1) x4), .l (mkRows mt (q + 1 + 1 + 1 + 1 + cRows x4) x5), .l x6]) j 6 (.l (mkRows mt (q + 1 + 1 + 1 + 1 + cRows x4 + cRows x5) x6)) = X.set j [.i (q), .i (q + 1), .i (q + 1 + 1), .s (mt (q + 1 + 1 + 1)), .l (mkRows mt (q + 1 + 1 + 1 + 1) x4), .l (mkRows mt (q + 1 + 1 + 1 + 1 + cRows x4) x5), .l (mkRows mt (q + 1 + 1 + 1 + 1 + cRows x4 + cRows x5) x6)] from setD_set hl] at V7
      have H7 := Lib.hid ((H6.out).call hN7 (fun b h => (sc7 b h).1) V7)
      clear V7 hN7 Dc7 sc7 pc7 cc7
      go_wp2
      rw [show X.set j [.i (q), .i (q + 1), .i (q + 1 + 1), .s (mt (q + 1 + 1 + 1)), .l (mkRows mt (q + 1 + 1 + 1 + 1) x4), .l (mkRows mt (q + 1 + 1 + 1 + 1 + cRows x4) x5), .l (mkRows mt (q + 1 + 1 + 1 + 1 + cRows x4 + cRows x5) x6)] = mkAt mt k rows (j + 1) from hmk] at H7
      exact ⟨⟨j + 1, hlt, by go_num, congrArg (Value.int IntKind.i64) (by omega), H7.out⟩, by simp [Go.RowKit.intOf]; omega⟩
    · have nlt : ¬ (j : Int) < (rows.length : Int) := by omega
      have ht : rows.take j = rows := List.take_of_length_le (by omega)
      have ha := mkAt_all (mt := mt) (k := k) (a := rows) (i := j) (by omega)
      go_wp2
      go_ret
      exact ⟨rfl, by rw [← ha]; exact HE0.out⟩
theorem mk_49 (mt : Int → ByteArray) (hmt : FOk Try.prog T 48 (spMT mt)) : ∀ n, MkOk Try.prog T mt 49 60 n
  | 0 => fun _ _ _ _ _ _ _ h => absurd h (Nat.not_lt_zero _)
  | n + 1 => mkS_49 mt hmt n (mk_49 mt hmt n)
/-- laws.markReadS -/
theorem mk_26 (mt : Int → ByteArray) (hmt : FOk Try.prog T 48 (spMT mt)) (n : Nat) : MkOk Try.prog T mt 26 64 n := by
  intro w F v rows k hk hb hn hgl hD
  obtain ⟨A, c, rfl⟩ := hD.slice
  have HD := Lib.hid hD
  have HG := Lib.hid hgl
  have hs := hD.short
  simp only [maxLen] at hs
  clear hD hgl
  go_enter Try.func26, Try.ntmps26
  go_wp2_with fail
  go_loopw [1, 5] (fun q i wr => ∃ j : Nat, j ≤ rows.length ∧ i = .int .i64 j ∧ q = .int .i64 (k + cRows (rows.take j)) ∧ MkEnd T w wr F 64 (.slice A rows.length c) (mkAt mt k rows j)) (fun _ i _ => rows.length - (intOf i).toNat)
  case atStart => exact ⟨0, Nat.zero_le _, rfl, by simp [cRows], by rw [mkAt_zero]; exact MkEnd.refl HD.out⟩
  case round =>
    obtain ⟨j, hj, rfl, rfl, hE⟩ := hrel
    have HE0 := Lib.hid hE
    clear hE
    by_cases hlt : j < rows.length
    · obtain ⟨g, rfl⟩ := HD.out.some (by omega)
      have q0 : (0 : Int) ≤ (j : Int) := by omega
      have q1 : (j : Int) < (rows.length : Int) := by omega
      obtain ⟨x0, r0, hr, hr0⟩ := WfRow.int_ (HD.out.row (show T 64 = some _ from rfl) hlt)
      obtain ⟨x1, r1, rfl, hr1⟩ := WfRow.int_ hr0
      obtain ⟨x2, r2, rfl, hr2⟩ := WfRow.int_ hr1
      obtain ⟨x3, r3, rfl, hr3⟩ := WfRow.str_ hr2
      obtain ⟨x4, r4, rfl, hr4⟩ := WfRow.int_ hr3
      obtain ⟨x5, r5, rfl, hr5⟩ := WfRow.int_ hr4
      obtain ⟨x6, r6, rfl, hr6⟩ := WfRow.int_ hr5
      obtain ⟨x7, r7, rfl, hr7⟩ := WfRow.str_ hr6
      obtain ⟨x8, r8, rfl, hr8⟩ := WfRow.sl_ hr7
      obtain ⟨x9, r9, rfl, hr9⟩ := WfRow.sl_ hr8
      obtain ⟨x10, r10, rfl, hr10⟩ := WfRow.sl_ hr9
      obtain rfl := hr10.end_
      clear hr10
      have hc := cRows_next hlt
      have hc2 := cRows_le rows (j + 1)
      rw [hr] at hc
      have hc3 : cRow [.i x0, .i x1, .i x2, .s x3, .i x4, .i x5, .i x6, .s x7, .l x8, .l x9, .l x10] = 1 + (1 + (1 + (1 + (1 + (1 + (1 + (1 + (cRows x8 + (cRows x9 + (cRows x10 + 0)))))))))) := rfl
      have hq0 : 1 ≤ k + cRows (rows.take j) := by omega
      have hq1 : k + cRows (rows.take j) + cRow [.i x0, .i x1, .i x2, .s x3, .i x4, .i x5, .i x6, .s x7, .l x8, .l x9, .l x10] ≤ 4611686018427387904 := by omega
      rw [hc3] at hq1
      have hmk := mkAt_next (mt := mt) (k := k) hlt (Eq.symm (congrArg (mkRow mt (k + cRows (rows.take j))) hr))
      have hX := (mkAt_row (mt := mt) (k := k) hlt).trans hr
      have hl : j < (mkAt mt k rows j).length := by rw [mkAt_length]; exact hlt
      have hnext : k + (cRows (rows.take (j + 1)) : Int) = k + cRows (rows.take j) + cRow [.i x0, .i x1, .i x2, .s x3, .i x4, .i x5, .i x6, .s x7, .l x8, .l x9, .l x10] := by omega
      rw [hc3] at hnext
      obtain ⟨X, hXX⟩ : ∃ X, mkAt mt k rows j = X := ⟨_, rfl⟩
      rw [hXX] at hX hl hmk HE0
      obtain ⟨q, hq⟩ : ∃ q, k + (cRows (rows.take j) : Int) = q := ⟨_, rfl⟩
      rw [hq] at hq0 hq1 hmk hnext ⊢
      have hm8 : wD (.l x8) < wD (.l rows) := wD_part hlt (j := 8) (by rw [hr]; rfl)
      have hm9 : wD (.l x9) < wD (.l rows) := wD_part hlt (j := 9) (by rw [hr]; rfl)
      have hm10 : wD (.l x10) < wD (.l rows) := wD_part hlt (j := 10) (by rw [hr]; rfl)
      clear hc hc2 hXX hc3
      obtain ⟨-, hF, -, ub1, db1, Gb1, cb1, fb1, rb1, Db1, sb1, pb1, wb1⟩ := DeepV.part HE0.out.deep (show T 64 = some _ from rfl) (k := j) (j := 0) hlt rfl (o := j * 11) (by first | rfl | simp)
      have V1 := wb1 (fun e h => by cases h) (.int .i64 (q)) (.i (q)) (.int _ _ (inK_pos (by omega) (by omega)))
      rw [show setD X j 0 (.i (q)) = X.set j [.i (q), .i x1, .i x2, .s x3, .i x4, .i x5, .i x6, .s x7, .l x8, .l x9, .l x10] from setD_one hX] at V1
      have H1 := Lib.hid ((HE0.out).store hF V1)
      clear V1 rb1 Db1 sb1 pb1 wb1
      obtain ⟨-, hF, -, ub2, db2, Gb2, cb2, fb2, rb2, Db2, sb2, pb2, wb2⟩ := DeepV.part HE0.out.deep (show T 64 = some _ from rfl) (k := j) (j := 1) hlt rfl (o := j * 11 + 1) (by first | rfl | simp)
      obtain ⟨-, hF, -, uc2, dc2, Gc2, cc2, fc2, rc2, Dc2, sc2, pc2, wc2⟩ := DeepV.part H1.out.deep (show T 64 = some _ from rfl) (k := j) (j := 1) hlt rfl (o := j * 11 + 1) (by first | rfl | simp)
      have V2 := wc2 (fun e h => by cases h) (.int .i64 (q + 1)) (.i (q + 1)) (.int _ _ (inK_pos (by omega) (by omega)))
      rw [show setD (X.set j [.i (q), .i x1, .i x2, .s x3, .i x4, .i x5, .i x6, .s x7, .l x8, .l x9, .l x10]) j 1 (.i (q + 1)) = X.set j [.i (q), .i (q + 1), .i x2, .s x3, .i x4, .i x5, .i x6, .s x7, .l x8, .l x9, .l x10] from setD_set hl] at V2
      have H2 := Lib.hid ((H1.out).store hF V2)
      clear V2 rb2 Db2 sb2 pb2 wb2 rc2 Dc2 sc2 pc2 wc2 cc2 fc2
      obtain ⟨-, hF, -, ub3, db3, Gb3, cb3, fb3, rb3, Db3, sb3, pb3, wb3⟩ := DeepV.part HE0.out.deep (show T 64 = some _ from rfl) (k := j) (j := 2) hlt rfl (o := j * 11 + 2) (by first | rfl | simp)
      obtain ⟨-, hF, -, uc3, dc3, Gc3, cc3, fc3, rc3, Dc3, sc3, pc3, wc3⟩ := DeepV.part H2.out.deep (show T 64 = some _ from rfl) (k := j) (j := 2) hlt rfl (o := j * 11 + 2) (by first | rfl | simp)
      have V3 := wc3 (fun e h => by cases h) (.int .i64 (q + 1 + 1)) (.i (q + 1 + 1)) (.int _ _ (inK_pos (by omega) (by omega)))
      rw [show setD (X.set j [.i (q), .i (q + 1), .i x2, .s x3, .i x4, .i x5, .i x6, .s x7, .l x8, .l x9, .l x10]) j 2 (.i (q + 1 + 1)) = X.set j [.i (q), .i (q + 1), .i (q + 1 + 1), .s x3, .i x4, .i x5, .i x6, .s x7, .l x8, .l x9, .l x10] from setD_set hl] at V3
      have H3 := Lib.hid ((H2.out).store hF V3)
      clear V3 rb3 Db3 sb3 pb3 wb3 rc3 Dc3 sc3 pc3 wc3 cc3 fc3
      go_wp2_with fail
      refine (hmt.mark (H3.out).deep.lt ((H3.out).gl HG.out) (k := q + 1 + 1 + 1) (by omega) (by omega)).mono ?_; rintro e wr4 ⟨rfl, hsz4, hb4⟩
      have H4 := Lib.hid ((H3.out).below hb4)
      clear hb4
      obtain ⟨-, hF, -, ub4, db4, Gb4, cb4, fb4, rb4, Db4, sb4, pb4, wb4⟩ := DeepV.part H4.out.deep (show T 64 = some _ from rfl) (k := j) (j := 3) hlt rfl (o := j * 11 + 3) (by first | rfl | simp)
      have V4 := wb4 (fun e h => by cases h) (.string (mt (q + 1 + 1 + 1))) (.s (mt (q + 1 + 1 + 1))) (.str _ hsz4)
      rw [show setD (X.set j [.i (q), .i (q + 1), .i (q + 1 + 1), .s x3, .i x4, .i x5, .i x6, .s x7, .l x8, .l x9, .l x10]) j 3 (.s (mt (q + 1 + 1 + 1))) = X.set j [.i (q), .i (q + 1), .i (q + 1 + 1), .s (mt (q + 1 + 1 + 1)), .i x4, .i x5, .i x6, .s x7, .l x8, .l x9, .l x10] from setD_set hl] at V4
      have K4 := Lib.hid ((H4.out).store hF V4)
      clear V4 rb4 Db4 sb4 pb4 wb4
      obtain ⟨-, hF, -, ub5, db5, Gb5, cb5, fb5, rb5, Db5, sb5, pb5, wb5⟩ := DeepV.part H4.out.deep (show T 64 = some _ from rfl) (k := j) (j := 4) hlt rfl (o := j * 11 + 4) (by first | rfl | simp)
      obtain ⟨-, hF, -, uc5, dc5, Gc5, cc5, fc5, rc5, Dc5, sc5, pc5, wc5⟩ := DeepV.part K4.out.deep (show T 64 = some _ from rfl) (k := j) (j := 4) hlt rfl (o := j * 11 + 4) (by first | rfl | simp)
      have V5 := wc5 (fun e h => by cases h) (.int .i64 (q + 1 + 1 + 1 + 1)) (.i (q + 1 + 1 + 1 + 1)) (.int _ _ (inK_pos (by omega) (by omega)))
      rw [show setD (X.set j [.i (q), .i (q + 1), .i (q + 1 + 1), .s (mt (q + 1 + 1 + 1)), .i x4, .i x5, .i x6, .s x7, .l x8, .l x9, .l x10]) j 4 (.i (q + 1 + 1 + 1 + 1)) = X.set j [.i (q), .i (q + 1), .i (q + 1 + 1), .s (mt (q + 1 + 1 + 1)), .i (q + 1 + 1 + 1 + 1), .i x5, .i x6, .s x7, .l x8, .l x9, .l x10] from setD_set hl] at V5
      have H5 := Lib.hid ((K4.out).store hF V5)
      clear V5 rb5 Db5 sb5 pb5 wb5 rc5 Dc5 sc5 pc5 wc5 cc5 fc5
      obtain ⟨-, hF, -, ub6, db6, Gb6, cb6, fb6, rb6, Db6, sb6, pb6, wb6⟩ := DeepV.part H4.out.deep (show T 64 = some _ from rfl) (k := j) (j := 5) hlt rfl (o := j * 11 + 5) (by first | rfl | simp)
      obtain ⟨-, hF, -, uc6, dc6, Gc6, cc6, fc6, rc6, Dc6, sc6, pc6, wc6⟩ := DeepV.part H5.out.deep (show T 64 = some _ from rfl) (k := j) (j := 5) hlt rfl (o := j * 11 + 5) (by first | rfl | simp)
      have V6 := wc6 (fun e h => by cases h) (.int .i64 (q + 1 + 1 + 1 + 1 + 1)) (.i (q + 1 + 1 + 1 + 1 + 1)) (.int _ _ (inK_pos (by omega) (by omega)))
      rw [show setD (X.set j [.i (q), .i (q + 1), .i (q + 1 + 1), .s (mt (q + 1 + 1 + 1)), .i (q + 1 + 1 + 1 + 1), .i x5, .i x6, .s x7, .l x8, .l x9, .l x10]) j 5 (.i (q + 1 + 1 + 1 + 1 + 1)) = X.set j [.i (q), .i (q + 1), .i (q + 1 + 1), .s (mt (q + 1 + 1 + 1)), .i (q + 1 + 1 + 1 + 1), .i (q + 1 + 1 + 1 + 1 + 1), .i x6, .s x7, .l x8, .l x9, .l x10] from setD_set hl] at V6
      have H6 := Lib.hid ((H5.out).store hF V6)
      clear V6 rb6 Db6 sb6 pb6 wb6 rc6 Dc6 sc6 pc6 wc6 cc6 fc6
      obtain ⟨-, hF, -, ub7, db7, Gb7, cb7, fb7, rb7, Db7, sb7, pb7, wb7⟩ := DeepV.part H4.out.deep (show T 64 = some _ from rfl) (k := j) (j := 6) hlt rfl (o := j * 11 + 6) (by first | rfl | simp)
      obtain ⟨-, hF, -, uc7, dc7, Gc7, cc7, fc7, rc7, Dc7, sc7, pc7, wc7⟩ := DeepV.part H6.out.deep (show T 64 = some _ from rfl) (k := j) (j := 6) hlt rfl (o := j * 11 + 6) (by first | rfl | simp)
      have V7 := wc7 (fun e h => by cases h) (.int .i64 (q + 1 + 1 + 1 + 1 + 1 + 1)) (.i (q + 1 + 1 + 1 + 1 + 1 + 1)) (.int _ _ (inK_pos (by omega) (by omega)))
      rw [show setD (X.set j [.i (q), .i (q + 1), .i (q + 1 + 1), .s (mt (q + 1 + 1 + 1)), .i (q + 1 + 1 + 1 + 1), .i (q + 1 + 1 + 1 + 1 + 1), .i x6, .s x7, .l x8, .l x9, .l x10]) j 6 (.i (q + 1 + 1 + 1 + 1 + 1 + 1)) = X.set j [.i (q), .i (q + 1), .i (q + 1 + 1), .s (mt (q + 1 + 1 + 1)), .i (q + 1 + 1 + 1 + 1), .i (q + 1 + 1 + 1 + 1 + 1), .i (q + 1 + 1 + 1 + 1 + 1 + 1), .s x7, .l x8, .l x9, .l x10] from setD_set hl] at V7
      have H7 := Lib.hid ((H6.out).store hF V7)
      clear V7 rb7 Db7 sb7 pb7 wb7 rc7 Dc7 sc7 pc7 wc7 cc7 fc7
      go_wp2_with fail
      refine (hmt.mark (H7.out).deep.lt ((H7.out).gl HG.out) (k := q + 1 + 1 + 1 + 1 + 1 + 1 + 1) (by omega) (by omega)).mono ?_; rintro e wr8 ⟨rfl, hsz8, hb8⟩
      have H8 := Lib.hid ((H7.out).below hb8)
      clear hb8
      obtain ⟨-, hF, -, ub8, db8, Gb8, cb8, fb8, rb8, Db8, sb8, pb8, wb8⟩ := DeepV.part H8.out.deep (show T 64 = some _ from rfl) (k := j) (j := 7) hlt rfl (o := j * 11 + 7) (by first | rfl | simp)
      have V8 := wb8 (fun e h => by cases h) (.string (mt (q + 1 + 1 + 1 + 1 + 1 + 1 + 1))) (.s (mt (q + 1 + 1 + 1 + 1 + 1 + 1 + 1))) (.str _ hsz8)
      rw [show setD (X.set j [.i (q), .i (q + 1), .i (q + 1 + 1), .s (mt (q + 1 + 1 + 1)), .i (q + 1 + 1 + 1 + 1), .i (q + 1 + 1 + 1 + 1 + 1), .i (q + 1 + 1 + 1 + 1 + 1 + 1), .s x7, .l x8, .l x9, .l x10]) j 7 (.s (mt (q + 1 + 1 + 1 + 1 + 1 + 1 + 1))) = X.set j [.i (q), .i (q + 1), .i (q + 1 + 1), .s (mt (q + 1 + 1 + 1)), .i (q + 1 + 1 + 1 + 1), .i (q + 1 + 1 + 1 + 1 + 1), .i (q + 1 + 1 + 1 + 1 + 1 + 1), .s (mt (q + 1 + 1 + 1 + 1 + 1 + 1 + 1)), .l x8, .l x9, .l x10] from setD_set hl] at V8
      have K8 := Lib.hid ((H8.out).store hF V8)
      clear V8 rb8 Db8 sb8 pb8 wb8
      obtain ⟨-, hF, -, uc9, dc9, Gc9, cc9, fc9, rc9, Dc9, sc9, pc9, wc9⟩ := DeepV.part K8.out.deep (show T 64 = some _ from rfl) (k := j) (j := 8) hlt rfl (o := j * 11 + 8) (by first | rfl | simp)
      obtain rfl := cell_set hl rc9 (show ([.i (q), .i (q + 1), .i (q + 1 + 1), .s (mt (q + 1 + 1 + 1)), .i (q + 1 + 1 + 1 + 1), .i (q + 1 + 1 + 1 + 1 + 1), .i (q + 1 + 1 + 1 + 1 + 1 + 1), .s (mt (q + 1 + 1 + 1 + 1 + 1 + 1 + 1)), .l x8, .l x9, .l x10] : List D)[8]? = some (.l x8) from rfl)
      rw [World.cell?_setCell_other _ _ _ _ (by intro h; simp only [Addr.mk.injEq] at h; omega)] at cc9
      clear fc9 wc9 rc9
      go_wp2_with fail
      refine ((mk_49 mt hmt (wD (.l x8) + 1)) _ Gc9 uc9 x8 (q + 1 + 1 + 1 + 1 + 1 + 1 + 1 + 1) (by omega) (by omega) (Nat.lt_succ_self _) (((K8.out).gl HG.out).less fun b h => (sc9 b h).1) Dc9).mono ?_; rintro e wr9 ⟨rfl, hN9⟩
      have V9 := pc9 _ _ (fun b hb hg => hN9.block b ((K8.out).deep.lt b hb) hg) hN9.deep
      rw [show setD (X.set j [.i (q), .i (q + 1), .i (q + 1 + 1), .s (mt (q + 1 + 1 + 1)), .i (q + 1 + 1 + 1 + 1), .i (q + 1 + 1 + 1 + 1 + 1), .i (q + 1 + 1 + 1 + 1 + 1 + 1), .s (mt (q + 1 + 1 + 1 + 1 + 1 + 1 + 1)), .l x8, .l x9, .l x10]) j 8 (.l (mkRows mt (q + 1 + 1 + 1 + 1 + 1 + 1 + 1 + 1) x8)) = X.set j [.i (q), .i (q + 1), .i (q + 1 + 1), .s (mt (q + 1 + 1 + 1)), .i (q + 1 + 1 + 1 + 1), .i (q + 1 + 1 + 1 + 1 + 1), .i (q + 1 + 1 + 1 + 1 + 1 + 1), .s (mt (q + 1 + 1 + 1 + 1 + 1 + 1 + 1)), .l (mkRows mt (q + 1 + 1 + 1 + 1 + 1 + 1 + 1 + 1) x8), .l x9, .l x10] from setD_set hl] at V9
      have H9 := Lib.hid ((K8.out).call hN9 (fun b h => (sc9 b h).1) V9)
      clear V9 hN9 Dc9 sc9 pc9 cc9
      obtain ⟨-, hF, -, uc10, dc10, Gc10, cc10, fc10, rc10, Dc10, sc10, pc10, wc10⟩ := DeepV.part H9.out.deep (show T 64 = some _ from rfl) (k := j) (j := 9) hlt rfl (o := j * 11 + 9) (by first | rfl | simp)
      obtain rfl := cell_set hl rc10 (show ([.i (q), .i (q + 1), .i (q + 1 + 1), .s (mt (q + 1 + 1 + 1)), .i (q + 1 + 1 + 1 + 1), .i (q + 1 + 1 + 1 + 1 + 1), .i (q + 1 + 1 + 1 + 1 + 1 + 1), .s (mt (q + 1 + 1 + 1 + 1 + 1 + 1 + 1)), .l (mkRows mt (q + 1 + 1 + 1 + 1 + 1 + 1 + 1 + 1) x8), .l x9, .l x10] : List D)[9]? = some (.l x9) from rfl)
      clear fc10 wc10 rc10
      go_wp2_with fail
      refine ((mk_50 mt hmt (wD (.l x9) + 1)) _ Gc10 uc10 x9 (q + 1 + 1 + 1 + 1 + 1 + 1 + 1 + 1 + cRows x8) (by omega) (by omega) (Nat.lt_succ_self _) (((H9.out).gl HG.out).less fun b h => (sc10 b h).1) Dc10).mono ?_; rintro e wr10 ⟨rfl, hN10⟩
      have V10 := pc10 _ _ (fun b hb hg => hN10.block b ((H9.out).deep.lt b hb) hg) hN10.deep
      rw [show setD (X.set j [.i (q), .i (q + 1), .i (q + 1 + 1), .s (mt (q + 1 + 1 + 1)), .i (q + 1 + 1 + 1 + 1), .i (q + 1 + 1 + 1 + 1 + 1), .i (q + 1 + 1 + 1 + 1 + 1 + 1), .s (mt (q + 1 + 1 + 1 + 1 + 1 + 1 + 1)), .l (mkRows mt (q + 1 + 1 + 1 + 1 + 1 + 1 + 1 + 1) x8), .l x9, .l x10]) j 9 (.l (mkRows mt (q + 1 + 1 + 1 + 1 + 1 + 1 + 1 + 1 + cRows x8) x9)) = X.set j [.i (q), .i (q + 1), .i (q + 1 + 1), .s (mt (q + 1 + 1 + 1)), .i (q + 1 + 1 + 1 + 1), .i (q + 1 + 1 + 1 + 1 + 1), .i (q + 1 + 1 + 1 + 1 + 1 + 1), .s (mt (q + 1 + 1 + 1 + 1 + 1 + 1 + 1)), .l (mkRows mt (q + 1 + 1 + 1 + 1 + 1 + 1 + 1 + 1) x8), .l (mkRows mt (q + 1 + 1 + 1 + 1 + 1 + 1 + 1 + 1 + cRows x8) x9), .l x10] from setD_set hl] at V10
      have H10 := Lib.hid ((H9.out).call hN10 (fun b h => (sc10 b h).1) V10)
      clear V10 hN10 Dc10 sc10 pc10 cc10
      obtain ⟨-, hF, -, uc11, dc11, Gc11, cc11, fc11, rc11, Dc11, sc11, pc11, wc11⟩ := DeepV.part H10.out.deep (show T 64 = some _ from rfl) (k := j) (j := 10) hlt rfl (o := j * 11 + 10) (by first | rfl | simp)
      obtain rfl := cell_set hl rc11 (show ([.i (q), .i (q + 1), .i (q + 1 + 1), .s (mt (q + 1 + 1 + 1)), .i (q + 1 + 1 + 1 + 1), .i (q + 1 + 1 + 1 + 1 + 1), .i (q + 1 + 1 + 1 + 1 + 1 + 1), .s (mt (q + 1 + 1 + 1 + 1 + 1 + 1 + 1)), .l (mkRows mt (q + 1 + 1 + 1 + 1 + 1 + 1 + 1 + 1) x8), .l (mkRows mt (q + 1 + 1 + 1 + 1 + 1 + 1 + 1 + 1 + cRows x8) x9), .l x10] : List D)[10]? = some (.l x10) from rfl)
      clear fc11 wc11 rc11
      go_wp2_with fail
      refine ((mk_51 mt (wD (.l x10) + 1)) _ Gc11 uc11 x10 (q + 1 + 1 + 1 + 1 + 1 + 1 + 1 + 1 + cRows x8 + cRows x9) (by omega) (by omega) (Nat.lt_succ_self _) (((H10.out).gl HG.out).less fun b h => (sc11 b h).1) Dc11).mono ?_; rintro e wr11 ⟨rfl, hN11⟩
      have V11 := pc11 _ _ (fun b hb hg => hN11.block b ((H10.out).deep.lt b hb) hg) hN11.deep
      rw [show setD (X.set j [.i (q), .i (q + 1), .i (q + 1 + 1), .s (mt (q + 1 + 1 + 1)), .i (q + 1 + 1 + 1 + 1), .i (q + 1 + 1 + 1 + 1 + 1), .i (q + 1 + 1 + 1 + 1 + 1 + 1), .s (mt (q + 1 + 1 + 1 + 1 + 1 + 1 + 1)), .l (mkRows mt (q + 1 + 1 + 1 + 1 + 1 + 1 + 1 + 1) x8), .l (mkRows mt (q + 1 + 1 + 1 + 1 + 1 + 1 + 1 + 1 + cRows x8) x9), .l x10]) j 10 (.l (mkRows mt (q + 1 + 1 + 1 + 1 + 1 + 1 + 1 + 1 + cRows x8 + cRows x9) x10)) = X.set j [.i (q), .i (q + 1), .i (q + 1 + 1), .s (mt (q + 1 + 1 + 1)), .i (q + 1 + 1 + 1 + 1), .i (q + 1 + 1 + 1 + 1 + 1), .i (q + 1 + 1 + 1 + 1 + 1 + 1), .s (mt (q + 1 + 1 + 1 + 1 + 1 + 1 + 1)), .l (mkRows mt (q + 1 + 1 + 1 + 1 + 1 + 1 + 1 + 1) x8), .l (mkRows mt (q + 1 + 1 + 1 + 1 + 1 + 1 + 1 + 1 + cRows x8) x9), .l (mkRows mt (q + 1 + 1 + 1 + 1 + 1 + 1 + 1 + 1 + cRows x8 + cRows x9) x10)] from setD_set hl] at V11
      have H11 := Lib.hid ((H10.out).call hN11 (fun b h => (sc11 b h).1) V11)
      clear V11 hN11 Dc11 sc11 pc11 cc11
      go_wp2
      rw [show X.set j [.i (q), .i (q + 1), .i (q + 1 + 1), .s (mt (q + 1 + 1 + 1)), .i (q + 1 + 1 + 1 + 1), .i (q + 1 + 1 + 1 + 1 + 1), .i (q + 1 + 1 + 1 + 1 + 1 + 1), .s (mt (q + 1 + 1 + 1 + 1 + 1 + 1 + 1)), .l (mkRows mt (q + 1 + 1 + 1 + 1 + 1 + 1 + 1 + 1) x8), .l (mkRows mt (q + 1 + 1 + 1 + 1 + 1 + 1 + 1 + 1 + cRows x8) x9), .l (mkRows mt (q + 1 + 1 + 1 + 1 + 1 + 1 + 1 + 1 + cRows x8 + cRows x9) x10)] = mkAt mt k rows (j + 1) from hmk] at H11
      exact ⟨⟨j + 1, hlt, by go_num, congrArg (Value.int IntKind.i64) (by omega), H11.out⟩, by simp [Go.RowKit.intOf]; omega⟩
    · have nlt : ¬ (j : Int) < (rows.length : Int) := by omega
      have ht : rows.take j = rows := List.take_of_length_le (by omega)
      have ha := mkAt_all (mt := mt) (k := k) (a := rows) (i := j) (by omega)
      go_wp2
      go_ret
      exact ⟨rfl, by rw [← ha]; exact HE0.out⟩
/-- laws.markTapeS -/
theorem mk_10 (mt : Int → ByteArray) (hmt : FOk Try.prog T 48 (spMT mt)) (n : Nat) : MkOk Try.prog T mt 10 54 n := by
  intro w F v rows k hk hb hn hgl hD
  obtain ⟨A, c, rfl⟩ := hD.slice
  have HD := Lib.hid hD
  have HG := Lib.hid hgl
  have hs := hD.short
  simp only [maxLen] at hs
  clear hD hgl
  go_enter Try.func10, Try.ntmps10
  go_wp2_with fail
  go_loopw [1, 5] (fun q i wr => ∃ j : Nat, j ≤ rows.length ∧ i = .int .i64 j ∧ q = .int .i64 (k + cRows (rows.take j)) ∧ MkEnd T w wr F 54 (.slice A rows.length c) (mkAt mt k rows j)) (fun _ i _ => rows.length - (intOf i).toNat)
  case atStart => exact ⟨0, Nat.zero_le _, rfl, by simp [cRows], by rw [mkAt_zero]; exact MkEnd.refl HD.out⟩
  case round =>
    obtain ⟨j, hj, rfl, rfl, hE⟩ := hrel
    have HE0 := Lib.hid hE
    clear hE
    by_cases hlt : j < rows.length
    · obtain ⟨g, rfl⟩ := HD.out.some (by omega)
      have q0 : (0 : Int) ≤ (j : Int) := by omega
      have q1 : (j : Int) < (rows.length : Int) := by omega
      obtain ⟨x0, r0, hr, hr0⟩ := WfRow.int_ (HD.out.row (show T 54 = some _ from rfl) hlt)
      obtain ⟨x1, r1, rfl, hr1⟩ := WfRow.int_ hr0
      obtain ⟨x2, r2, rfl, hr2⟩ := WfRow.sl_ hr1
      obtain rfl := hr2.end_
      clear hr2
      have hc := cRows_next hlt
      have hc2 := cRows_le rows (j + 1)
      rw [hr] at hc
      have hc3 : cRow [.i x0, .i x1, .l x2] = 1 + (1 + (cRows x2 + 0)) := rfl
      have hq0 : 1 ≤ k + cRows (rows.take j) := by omega
      have hq1 : k + cRows (rows.take j) + cRow [.i x0, .i x1, .l x2] ≤ 4611686018427387904 := by omega
      rw [hc3] at hq1
      have hmk := mkAt_next (mt := mt) (k := k) hlt (Eq.symm (congrArg (mkRow mt (k + cRows (rows.take j))) hr))
      have hX := (mkAt_row (mt := mt) (k := k) hlt).trans hr
      have hl : j < (mkAt mt k rows j).length := by rw [mkAt_length]; exact hlt
      have hnext : k + (cRows (rows.take (j + 1)) : Int) = k + cRows (rows.take j) + cRow [.i x0, .i x1, .l x2] := by omega
      rw [hc3] at hnext
      obtain ⟨X, hXX⟩ : ∃ X, mkAt mt k rows j = X := ⟨_, rfl⟩
      rw [hXX] at hX hl hmk HE0
      obtain ⟨q, hq⟩ : ∃ q, k + (cRows (rows.take j) : Int) = q := ⟨_, rfl⟩
      rw [hq] at hq0 hq1 hmk hnext ⊢
      have hm2 : wD (.l x2) < wD (.l rows) := wD_part hlt (j := 2) (by rw [hr]; rfl)
      clear hc hc2 hXX hc3
      obtain ⟨-, hF, -, ub1, db1, Gb1, cb1, fb1, rb1, Db1, sb1, pb1, wb1⟩ := DeepV.part HE0.out.deep (show T 54 = some _ from rfl) (k := j) (j := 0) hlt rfl (o := j * 3) (by first | rfl | simp)
      have V1 := wb1 (fun e h => by cases h) (.int .i64 (q)) (.i (q)) (.int _ _ (inK_pos (by omega) (by omega)))
      rw [show setD X j 0 (.i (q)) = X.set j [.i (q), .i x1, .l x2] from setD_one hX] at V1
      have H1 := Lib.hid ((HE0.out).store hF V1)
      clear V1 rb1 Db1 sb1 pb1 wb1
      obtain ⟨-, hF, -, ub2, db2, Gb2, cb2, fb2, rb2, Db2, sb2, pb2, wb2⟩ := DeepV.part HE0.out.deep (show T 54 = some _ from rfl) (k := j) (j := 1) hlt rfl (o := j * 3 + 1) (by first | rfl | simp)
      obtain ⟨-, hF, -, uc2, dc2, Gc2, cc2, fc2, rc2, Dc2, sc2, pc2, wc2⟩ := DeepV.part H1.out.deep (show T 54 = some _ from rfl) (k := j) (j := 1) hlt rfl (o := j * 3 + 1) (by first | rfl | simp)
      have V2 := wc2 (fun e h => by cases h) (.int .i64 (q + 1)) (.i (q + 1)) (.int _ _ (inK_pos (by omega) (by omega)))
      rw [show setD (X.set j [.i (q), .i x1, .l x2]) j 1 (.i (q + 1)) = X.set j [.i (q), .i (q + 1), .l x2] from setD_set hl] at V2
      have H2 := Lib.hid ((H1.out).store hF V2)
      clear V2 rb2 Db2 sb2 pb2 wb2 rc2 Dc2 sc2 pc2 wc2 cc2 fc2
      obtain ⟨-, hF, -, uc3, dc3, Gc3, cc3, fc3, rc3, Dc3, sc3, pc3, wc3⟩ := DeepV.part H2.out.deep (show T 54 = some _ from rfl) (k := j) (j := 2) hlt rfl (o := j * 3 + 2) (by first | rfl | simp)
      obtain rfl := cell_set hl rc3 (show ([.i (q), .i (q + 1), .l x2] : List D)[2]? = some (.l x2) from rfl)
      rw [World.cell?_setCell_other _ _ _ _ (by intro h; simp only [Addr.mk.injEq] at h; omega), World.cell?_setCell_other _ _ _ _ (by intro h; simp only [Addr.mk.injEq] at h; omega)] at cc3
      clear fc3 wc3 rc3
      go_wp2_with fail
      refine ((mk_26 mt hmt (wD (.l x2) + 1)) _ Gc3 uc3 x2 (q + 1 + 1) (by omega) (by omega) (Nat.lt_succ_self _) (((H2.out).gl HG.out).less fun b h => (sc3 b h).1) Dc3).mono ?_; rintro e wr3 ⟨rfl, hN3⟩
      have V3 := pc3 _ _ (fun b hb hg => hN3.block b ((H2.out).deep.lt b hb) hg) hN3.deep
      rw [show setD (X.set j [.i (q), .i (q + 1), .l x2]) j 2 (.l (mkRows mt (q + 1 + 1) x2)) = X.set j [.i (q), .i (q + 1), .l (mkRows mt (q + 1 + 1) x2)] from setD_set hl] at V3
      have H3 := Lib.hid ((H2.out).call hN3 (fun b h => (sc3 b h).1) V3)
      clear V3 hN3 Dc3 sc3 pc3 cc3
      go_wp2
      rw [show X.set j [.i (q), .i (q + 1), .l (mkRows mt (q + 1 + 1) x2)] = mkAt mt k rows (j + 1) from hmk] at H3
      exact ⟨⟨j + 1, hlt, by go_num, congrArg (Value.int IntKind.i64) (by omega), H3.out⟩, by simp [Go.RowKit.intOf]; omega⟩
    · have nlt : ¬ (j : Int) < (rows.length : Int) := by omega
      have ht : rows.take j = rows := List.take_of_length_le (by omega)
      have ha := mkAt_all (mt := mt) (k := k) (a := rows) (i := j) (by omega)
      go_wp2
      go_ret
      exact ⟨rfl, by rw [← ha]; exact HE0.out⟩
end Go.Proofs.Ytidjlboppokloaa
