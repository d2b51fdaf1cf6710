/- The walks of the sort's functions. -/
import Derived.Test.YtaecbmjmcpdgdaaGreatCZw
import Derived.Test.YtaecbmjmcpdgdaaGreatCFa
import Derived.IntWalk
import Derived.WalkKit
namespace Go.Proofs.YtaecbmjmcpdgdaaGreat.Zs
open Go.Sort Go.Proofs Go.RowKit Go.Lib
set_option linter.unusedVariables false
set_option linter.unusedSimpArgs false
variable {α : Type} [Inhabited α] {g : Nat} {lb : Array Value} {sf : Nat} {sb : Array Value} {enc : α → List Value} {k : Nat} {lt : α → α → Bool} {blk off n : Nat} {w : World} {d : Array α}
theorem swr_go (a b m i : Nat) (d : Array α) (h : i < m) : swr a b m (i + 1) (swp d (a + i) (b + i)) = swr a b m i d := by rw [swr.eq_def a b m i, if_pos h]
theorem swr_end (a b m i : Nat) (d : Array α) (h : ¬ i < m) : swr a b m i d = d := by rw [swr, if_neg h]
theorem upS_go (k e : Nat) (d : Array α) (h : k < e) : upS (k + 1) e (swp d k (k + 1)) = upS k e d := by rw [upS.eq_def k, if_pos h]
theorem upS_end (k e : Nat) (d : Array α) (h : ¬ k < e) : upS k e d = d := by rw [upS, if_neg h]
theorem dnS_go (i k : Nat) (d : Array α) (h : i < k) : dnS i (k - 1) (swp d k (k - 1)) = dnS i k d := by
  obtain ⟨j, rfl⟩ : ∃ j, k = j + 1 := ⟨k - 1, by omega⟩
  rw [dnS.eq_2, if_pos h]; rfl
theorem dnS_end (i k : Nat) (d : Array α) (h : ¬ i < k) : dnS i k d = d := by
  cases k with
  | zero => rfl
  | succ k => rw [dnS, if_neg h]
theorem bsr_yes (p : Nat → Bool) (i j : Nat) (h : i < j) (hp : p ((i + j) / 2) = true) : bsr p ((i + j) / 2 + 1) j = bsr p i j := by rw [bsr.eq_def p i j, if_pos h, if_pos hp]
theorem bsr_no (p : Nat → Bool) (i j : Nat) (h : i < j) (hp : p ((i + j) / 2) = false) : bsr p i ((i + j) / 2) = bsr p i j := by rw [bsr.eq_def p i j, if_pos h, if_neg (by rw [hp]; simp)]
theorem bsr_end (p : Nat → Bool) (i j : Nat) (h : ¬ i < j) : bsr p i j = i := by rw [bsr, if_neg h]
abbrev BX (g : Nat) (lb : Array Value) (sf : Nat) (sb : Array Value) (w : World) : World := w.alloc (.cells #[.func (.func g) #[] lb, .func (.func sf) #[] sb] 85)
theorem boxed (S : SK Tryz.prog g lb sf sb enc k lt blk off n w) (hH : HoldsK enc k w blk off d) (hd : d.size = n) :
    blk < w.heap.size ∧ Hid (SK Tryz.prog g lb sf sb enc k lt blk off n (BX g lb sf sb w)) ∧ Hid (Sw enc k blk off w d (BX g lb sf sb w)) ∧ Hid (HoldsK enc k (BX g lb sf sb w) blk off d) ∧ blk < (BX g lb sf sb w).heap.size := by
  have h1 : Sw enc k blk off w d (BX g lb sf sb w) := (Sw.start hH).alloc S.hb _
  have S1 := S.move h1 hd
  exact ⟨S.hb, hid S1, hid h1, hid (h1.holds hH rfl S.hb), S1.hb⟩
theorem bx_cell {w wr : World} {dk : Array α} (hw : blk < w.heap.size) (h : Sw enc k blk off (BX g lb sf sb w) dk wr) :
    wr.cell? ⟨w.heap.size, 0, none⟩ = some (.func (.func g) #[] lb) ∧ wr.cell? ⟨w.heap.size, 1, none⟩ = some (.func (.func sf) #[] sb) := by
  rw [h.cell _ (by show w.heap.size ≠ blk; omega) (by simp [BX]), h.cell _ (by show w.heap.size ≠ blk; omega) (by simp [BX])]
  exact ⟨by simp [BX], by simp [BX]⟩
set_option maxHeartbeats 2000000 in
set_option maxRecDepth 100000 in
theorem swr_ok (S : SK Tryz.prog g lb sf sb enc k lt blk off n w) (hH : HoldsK enc k w blk off d) (hd : d.size = n) (a b m : Nat) (ha : a + m ≤ n) (hb : b + m ≤ n) :
    Calls Tryz.prog 98 #[.agg #[.func (.func g) #[] lb, .func (.func sf) #[] sb], .int .i64 a, .int .i64 b, .int .i64 m] w fun e w' => e = .returned (.tuple #[]) ∧ Sw enc k blk off w (swr a b m 0 d) w' := by
  have hsm := S.small
  obtain ⟨hw, hS1, hSW, hHH, hw1⟩ := boxed S hH hd
  clear S hH
  go_enter Tryz.func98, Tryz.ntmps98
  go_wp2
  go_loopw [8] (fun vi wr => ∃ (i : Nat) (dk : Array α), vi = .int .i64 i ∧ i ≤ m ∧ dk.size = n ∧ Sw enc k blk off (BX g lb sf sb w) dk wr ∧ swr a b m i dk = swr a b m 0 d) (fun vi _ => m - (intOf vi).toNat)
  case atStart => exact ⟨0, d, by go_num, Nat.zero_le _, hd, Sw.start hHH.out, rfl⟩
  case round =>
    obtain ⟨i, dk, rfl, him, hdk, hsw, he⟩ := hrel
    have HS := hid hsw
    have HE := hid he
    clear hsw he
    by_cases hlt : i < m
    · have q1 : (i : Int) < (m : Int) := by omega
      obtain ⟨c0, c1⟩ := bx_cell hw HS.out
      obtain ⟨w2, hr, hs2⟩ := hS1.out.step HS.out (HS.out.holds hHH.out (by omega) hw1) hdk (i := a + i) (j := b + i) (by omega) (by omega)
      rw [show (((a + i : Nat) : Int)) = (a : Int) + i by omega, show (((b + i : Nat) : Int)) = (b : Int) + i by omega] at hr
      have HS2 := hid hs2
      clear hs2
      go_wp2
      exact ⟨⟨i + 1, _, by go_num, hlt, by rw [size_swp]; exact hdk, HS2.out, (swr_go a b m i dk hlt).trans HE.out⟩, by simp [intOf]; omega⟩
    · have q1 : ¬ (i : Int) < (m : Int) := by omega
      go_wp2
      go_end0
      exact ⟨rfl, by rw [← HE.out, swr_end a b m i dk hlt]; exact hSW.out.trans HS.out (by omega) hw⟩
set_option maxHeartbeats 2000000 in
set_option maxRecDepth 100000 in
theorem rot_ok (S : SK Tryz.prog g lb sf sb enc k lt blk off n w) (hH : HoldsK enc k w blk off d) (hd : d.size = n) (a m b : Nat) (ha : a < m) (hb : m < b) (hbn : b ≤ n) :
    Calls Tryz.prog 92 #[.agg #[.func (.func g) #[] lb, .func (.func sf) #[] sb], .int .i64 a, .int .i64 m, .int .i64 b] w fun e w' => e = .returned (.tuple #[]) ∧ Sw enc k blk off w (rot m (m - a) (b - m) d) w' := by
  have hsm := S.small
  obtain ⟨hw, hS1, hSW, hHH, hw1⟩ := boxed S hH hd
  clear S hH
  go_enter Tryz.func92, Tryz.ntmps92
  go_wp2
  go_loopw [8, 9] (fun vi vj wr => ∃ (i j : Nat) (dk : Array α), vi = .int .i64 i ∧ vj = .int .i64 j ∧ 0 < i ∧ 0 < j ∧ i ≤ m ∧ m + j ≤ n ∧ dk.size = n ∧ Sw enc k blk off (BX g lb sf sb w) dk wr ∧ rot m i j dk = rot m (m - a) (b - m) d) (fun vi vj _ => (intOf vi).toNat + (intOf vj).toNat)
  case atStart => exact ⟨m - a, b - m, d, by congr 1; omega, by congr 1; omega, by omega, by omega, by omega, by omega, hd, Sw.start hHH.out, rfl⟩
  case round =>
    obtain ⟨i, j, dk, rfl, rfl, hi0, hj0, him, hjn, hdk, hsw, he⟩ := hrel
    have HS := hid hsw
    have HE := hid he
    clear hsw he
    obtain ⟨c0, c1⟩ := bx_cell hw HS.out
    have S2 := hid (hS1.out.move HS.out hdk)
    have H2 := hid (HS.out.holds hHH.out (by omega) hw1)
    by_cases hij : i = j
    · subst hij
      have hc := swr_ok S2.out H2.out hdk (m - i) m i (by omega) (by omega)
      rw [show (((m - i : Nat) : Int)) = (m : Int) - i by omega] at hc
      go_wp2_with fail
      refine hc.mono ?_; rintro e w1 ⟨rfl, hs1⟩
      go_wp2
      go_end0
      have HR := swr_spec 0 n (m - i) m i (i - 0) 0 dk rfl (by omega) (by omega) (by omega) (by omega) (by omega)
      refine ⟨rfl, ?_⟩
      rw [← HE.out, rot, if_pos (Or.inl rfl)]
      exact hSW.out.trans (HS.out.trans hs1 HR.1.1 hw1) (by rw [HR.1.1]; omega) hw
    · have q1 : ¬ (i : Int) = (j : Int) := by omega
      by_cases hji : j < i
      · have q2 : (j : Int) < (i : Int) := by omega
        have hc := swr_ok S2.out H2.out hdk (m - i) m j (by omega) (by omega)
        rw [show (((m - i : Nat) : Int)) = (m : Int) - i by omega] at hc
        have HR := swr_spec 0 n (m - i) m j (j - 0) 0 dk rfl (by omega) (by omega) (by omega) (by omega) (by omega)
        go_wp2_with fail
        refine hc.mono ?_; rintro e w1 ⟨rfl, hs1⟩
        go_wp2
        have HS1 := hid hs1
        clear hs1
        refine ⟨⟨i - j, j, _, by congr 1; omega, rfl, by omega, hj0, by omega, hjn, by rw [HR.1.1]; exact hdk, HS.out.trans HS1.out HR.1.1 hw1, ?_⟩, by simp [intOf]; omega⟩
        rw [← HE.out, rot.eq_def m i j dk, if_neg (by omega), if_pos hji]
      · have q2 : ¬ (j : Int) < (i : Int) := by omega
        have hc := swr_ok S2.out H2.out hdk (m - i) (m + j - i) i (by omega) (by omega)
        rw [show (((m - i : Nat) : Int)) = (m : Int) - i by omega, show (((m + j - i : Nat) : Int)) = (m : Int) + j - i by omega] at hc
        have HR := swr_spec 0 n (m - i) (m + j - i) i (i - 0) 0 dk rfl (by omega) (by omega) (by omega) (by omega) (by omega)
        go_wp2_with fail
        refine hc.mono ?_; rintro e w1 ⟨rfl, hs1⟩
        go_wp2
        have HS1 := hid hs1
        clear hs1
        refine ⟨⟨i, j - i, _, rfl, by congr 1; omega, hi0, by omega, him, by omega, by rw [HR.1.1]; exact hdk, HS.out.trans HS1.out HR.1.1 hw1, ?_⟩, by simp [intOf]; omega⟩
        rw [← HE.out, rot.eq_def m i j dk, if_neg (by omega), if_neg hji]
set_option maxHeartbeats 2000000 in
set_option maxRecDepth 100000 in
theorem ins_ok (S : SK Tryz.prog g lb sf sb enc k lt blk off n w) (hH : HoldsK enc k w blk off d) (hd : d.size = n) (a b : Nat) (hab : a ≤ b) (hb : b ≤ n) :
    Calls Tryz.prog 78 #[.agg #[.func (.func g) #[] lb, .func (.func sf) #[] sb], .int .i64 a, .int .i64 b] w fun e w' => e = .returned (.tuple #[]) ∧ Sw enc k blk off w (insertionSort lt d a b) w' := by
  have hsm := S.small
  obtain ⟨hw, hS1, hSW, hHH, hw1⟩ := boxed S hH hd
  clear S hH
  have eg := hS1.out.eg
  go_enter Tryz.func78, Tryz.ntmps78
  go_wp2
  go_loopw [6] (fun vi wr => ∃ (i : Nat) (dk : Array α), vi = .int .i64 i ∧ a < i ∧ i ≤ b + 1 ∧ dk.size = n ∧ Sw enc k blk off (BX g lb sf sb w) dk wr ∧ insOuter lt a b i dk = insOuter lt a b (a + 1) d) (fun vi _ => b + 1 - (intOf vi).toNat)
  case atStart => exact ⟨a + 1, d, by go_num, by omega, by omega, hd, Sw.start hHH.out, rfl⟩
  case round =>
    obtain ⟨i, dk, rfl, hai, hib, hdk, hsw, he⟩ := hrel
    have HSo := hid hsw
    have HEo := hid he
    clear hsw he
    by_cases hlt : i < b
    · have q1 : (i : Int) < (b : Int) := by omega
      go_wp2
      go_loopw [7] (fun vj wr2 => ∃ (j : Nat) (dj : Array α), vj = .int .i64 j ∧ a ≤ j ∧ j ≤ i ∧ dj.size = n ∧ Sw enc k blk off (BX g lb sf sb w) dj wr2 ∧ insInner lt a j dj = insInner lt a i dk) (fun vj _ => (intOf vj).toNat)
      case atStart => exact ⟨i, dk, rfl, by omega, Nat.le_refl _, hdk, HSo.out, rfl⟩
      case round =>
        obtain ⟨j, dj, rfl, haj, hji, hdj, hsw, he⟩ := hrel
        have HS := hid hsw
        have HE := hid he
        clear hsw he
        obtain ⟨c0, c1⟩ := bx_cell hw HS.out
        have hn : insInner lt a j dj = dj → ∃ i' dk', Value.int .i64 ((i : Int) + 1) = .int .i64 (i' : Nat) ∧ a < i' ∧ i' ≤ b + 1 ∧ dk'.size = n ∧ insOuter lt a b i' dk' = insOuter lt a b (a + 1) d ∧ dk' = dj := fun hs =>
          ⟨i + 1, dj, by go_num, by omega, by omega, hdj, by rw [← HEo.out, insOuter_go _ _ _ _ _ hlt, ← HE.out, hs], rfl⟩
        by_cases hja : a < j
        · have q2 : (a : Int) < (j : Int) := by omega
          have hl := hS1.out.less wr dj HS.out hdj j (j - 1) (by omega) (by omega)
          rw [show (((j - 1 : Nat) : Int)) = (j : Int) - 1 by omega] at hl
          cases hlv : lt dj[j]! dj[j - 1]! with
          | true =>
            rw [hlv] at hl
            go_wp2_with fail
            refine hl.mono ?_; rintro e w1 ⟨rfl, hs1⟩
            have HS1 := hid (HS.out.trans hs1 rfl hw1)
            clear hs1 hl
            obtain ⟨c0', c1'⟩ := bx_cell hw HS1.out
            obtain ⟨w2, hr, hs2⟩ := hS1.out.step HS1.out (HS1.out.holds hHH.out (by omega) hw1) hdj (i := j) (j := j - 1) (by omega) (by omega)
            rw [show (((j - 1 : Nat) : Int)) = (j : Int) - 1 by omega] at hr
            have HS2 := hid hs2
            clear hs2
            go_wp2
            exact ⟨⟨j - 1, _, by congr 1; omega, by omega, by omega, by rw [size_swp]; exact hdj, HS2.out, by rw [← HE.out, insInner_go lt a j dj hja hlv]⟩, by simp [intOf]; omega⟩
          | false =>
            rw [hlv] at hl
            go_wp2_with fail
            refine hl.mono ?_; rintro e w1 ⟨rfl, hs1⟩
            have HS1 := hid (HS.out.trans hs1 rfl hw1)
            clear hs1 hl
            go_wp2
            obtain ⟨i', dk', h1, h2, h3, h4, h5, rfl⟩ := hn (insInner_stop _ _ _ _ (Or.inr hlv))
            exact ⟨⟨i', dk', h1, h2, h3, h4, HS1.out, h5⟩, by simp [intOf]; omega⟩
        · have q2 : ¬ (a : Int) < (j : Int) := by omega
          go_wp2
          obtain ⟨i', dk', h1, h2, h3, h4, h5, rfl⟩ := hn (insInner_stop _ _ _ _ (Or.inl (by omega)))
          exact ⟨⟨i', dk', h1, h2, h3, h4, HS.out, h5⟩, by simp [intOf]; omega⟩
    · have q1 : ¬ (i : Int) < (b : Int) := by omega
      go_wp2
      go_end0
      exact ⟨rfl, by unfold Sort.insertionSort; rw [← HEo.out, insOuter_stop _ _ _ _ _ hlt]; exact hSW.out.trans HSo.out (by omega) hw⟩
set_option maxHeartbeats 2000000 in
set_option maxRecDepth 100000 in
theorem sym_ok1 (S : SK Tryz.prog g lb sf sb enc k lt blk off n w) (hH : HoldsK enc k w blk off d) (hd : d.size = n) (f a m b : Nat) (hm : m - a = 1) (ha : a < m) (hb : m < b) (hbn : b ≤ n) :
    Calls Tryz.prog 79 #[.agg #[.func (.func g) #[] lb, .func (.func sf) #[] sb], .int .i64 a, .int .i64 m, .int .i64 b] w fun e w' => e = .returned (.tuple #[]) ∧ Sw enc k blk off w (symM lt (f + 1) a m b d) w' := by
  have hsm := S.small
  obtain ⟨hw, hS1, hSW, hHH, hw1⟩ := boxed S hH hd
  clear S hH
  have eg := hS1.out.eg
  have hm' : (m : Int) - a = 1 := by omega
  rw [symM, if_pos hm]
  go_enter Tryz.func79, Tryz.ntmps79
  go_wp2
  go_loopw [8, 9] (fun vi vj wr => ∃ (i j : Nat), vi = .int .i64 i ∧ vj = .int .i64 j ∧ m ≤ i ∧ i ≤ j ∧ j ≤ b ∧ Sw enc k blk off (BX g lb sf sb w) d wr ∧ bsr (fun h => lt d[h]! d[a]!) i j = bsr (fun h => lt d[h]! d[a]!) m b) (fun vi vj _ => (intOf vj).toNat - (intOf vi).toNat)
  case atStart => exact ⟨m, b, by congr 1, by congr 1, Nat.le_refl _, by omega, Nat.le_refl _, Sw.start hHH.out, rfl⟩
  case round =>
    obtain ⟨i, j, rfl, rfl, hi, hij, hj, hsw, he⟩ := hrel
    have HS := hid hsw
    have HE := hid he
    clear hsw he
    obtain ⟨c0, c1⟩ := bx_cell hw HS.out
    by_cases hlt : i < j
    · have q1 : (i : Int) < (j : Int) := by omega
      have hl := hS1.out.less wr d HS.out hd ((i + j) / 2) (a) (by omega) (by omega)
      rw [show ((((i + j) / 2 : Nat) : Int)) = ((i : Int) + j) / 2 by omega] at hl
      cases hlv : lt d[(i + j) / 2]! d[a]! with
      | true =>
        rw [hlv] at hl
        go_wp2_with fail
        refine hl.mono ?_; rintro e w1 ⟨rfl, hs1⟩
        have HS1 := hid (HS.out.trans hs1 rfl hw1)
        clear hs1 hl
        go_wp2
        exact ⟨⟨(i + j) / 2 + 1, j, by go_num, rfl, by omega, by omega, hj, HS1.out, (bsr_yes _ i j hlt (by simp [hlv])).trans HE.out⟩, by simp [intOf]; omega⟩
      | false =>
        rw [hlv] at hl
        go_wp2_with fail
        refine hl.mono ?_; rintro e w1 ⟨rfl, hs1⟩
        have HS1 := hid (HS.out.trans hs1 rfl hw1)
        clear hs1 hl
        go_wp2
        exact ⟨⟨i, (i + j) / 2, rfl, by go_num, hi, by omega, by omega, HS1.out, (bsr_no _ i j hlt (by simp [hlv])).trans HE.out⟩, by simp [intOf]; omega⟩
    · have q1 : ¬ (i : Int) < (j : Int) := by omega
      have HB := HE.out
      rw [bsr_end _ i j hlt] at HB
      have HI := hid HB
      clear HB HE
      go_wp2
      go_loopw [11] (fun vk wr2 => ∃ (q : Nat) (dk : Array α), vk = .int .i64 q ∧ a ≤ q ∧ q ≤ i - 1 ∧ dk.size = n ∧ Sw enc k blk off (BX g lb sf sb w) dk wr2 ∧ upS q (i - 1) dk = upS a (i - 1) d) (fun vk _ => i - (intOf vk).toNat)
      case atStart => exact ⟨a, d, by congr 1, by omega, by omega, hd, HS.out, rfl⟩
      case round =>
        obtain ⟨q, dk, rfl, hq1, hq2, hdk, hsw, he⟩ := hrel
        have HT := hid hsw
        have HE := hid he
        clear hsw he
        obtain ⟨c0', c1'⟩ := bx_cell hw HT.out
        by_cases hlt2 : q < i - 1
        · have q2 : (q : Int) < (i : Int) - 1 := by omega
          obtain ⟨w2, hr, hs2⟩ := hS1.out.step HT.out (HT.out.holds hHH.out (by omega) hw1) hdk (i := q) (j := q + 1) (by omega) (by omega)
          rw [show (((q + 1 : Nat) : Int)) = (q : Int) + 1 by omega] at hr
          have HS2 := hid hs2
          clear hs2
          go_wp2
          exact ⟨⟨q + 1, _, by first | rfl | (congr 1; omega) | go_num, by omega, by omega, by rw [size_swp]; exact hdk, HS2.out, (upS_go q _ dk hlt2).trans HE.out⟩, by simp [intOf]; omega⟩
        · have q2 : ¬ (q : Int) < (i : Int) - 1 := by omega
          go_wp2

          (try simp only [Exit.inBlock, Exit.then]); refine bodyPost_ret (results_none rfl _ _ _) rfl ?_
          exact ⟨rfl, by rw [← HI.out, ← HE.out, upS_end _ _ _ hlt2]; exact hSW.out.trans HT.out (by omega) hw⟩
set_option maxHeartbeats 2000000 in
set_option maxRecDepth 100000 in
theorem sym_ok2 (S : SK Tryz.prog g lb sf sb enc k lt blk off n w) (hH : HoldsK enc k w blk off d) (hd : d.size = n) (f a m b : Nat) (hm : ¬ m - a = 1) (hb1 : b - m = 1) (ha : a < m) (hb : m < b) (hbn : b ≤ n) :
    Calls Tryz.prog 79 #[.agg #[.func (.func g) #[] lb, .func (.func sf) #[] sb], .int .i64 a, .int .i64 m, .int .i64 b] w fun e w' => e = .returned (.tuple #[]) ∧ Sw enc k blk off w (symM lt (f + 1) a m b d) w' := by
  have hsm := S.small
  obtain ⟨hw, hS1, hSW, hHH, hw1⟩ := boxed S hH hd
  clear S hH
  have eg := hS1.out.eg
  have hm' : ¬ (m : Int) - a = 1 := by omega
  have hb' : (b : Int) - m = 1 := by omega
  rw [symM, if_neg hm, if_pos hb1]
  go_enter Tryz.func79, Tryz.ntmps79
  go_wp2
  try rw [show (((m : Int) - a) == 1) = false by simp; omega]
  try rw [show (((b : Int) - m) == 1) = true by simp; omega]
  go_loopw [12, 13] (fun vi vj wr => ∃ (i j : Nat), vi = .int .i64 i ∧ vj = .int .i64 j ∧ a ≤ i ∧ i ≤ j ∧ j ≤ m ∧ Sw enc k blk off (BX g lb sf sb w) d wr ∧ bsr (fun h => !lt d[m]! d[h]!) i j = bsr (fun h => !lt d[m]! d[h]!) a m) (fun vi vj _ => (intOf vj).toNat - (intOf vi).toNat)
  case atStart => exact ⟨a, m, by congr 1, by congr 1, Nat.le_refl _, by omega, Nat.le_refl _, Sw.start hHH.out, rfl⟩
  case round =>
    obtain ⟨i, j, rfl, rfl, hi, hij, hj, hsw, he⟩ := hrel
    have HS := hid hsw
    have HE := hid he
    clear hsw he
    obtain ⟨c0, c1⟩ := bx_cell hw HS.out
    by_cases hlt : i < j
    · have q1 : (i : Int) < (j : Int) := by omega
      have hl := hS1.out.less wr d HS.out hd (m) ((i + j) / 2) (by omega) (by omega)
      rw [show ((((i + j) / 2 : Nat) : Int)) = ((i : Int) + j) / 2 by omega] at hl
      cases hlv : lt d[m]! d[(i + j) / 2]! with
      | false =>
        rw [hlv] at hl
        go_wp2_with fail
        refine hl.mono ?_; rintro e w1 ⟨rfl, hs1⟩
        have HS1 := hid (HS.out.trans hs1 rfl hw1)
        clear hs1 hl
        go_wp2
        exact ⟨⟨(i + j) / 2 + 1, j, by go_num, rfl, by omega, by omega, hj, HS1.out, (bsr_yes _ i j hlt (by simp [hlv])).trans HE.out⟩, by simp [intOf]; omega⟩
      | true =>
        rw [hlv] at hl
        go_wp2_with fail
        refine hl.mono ?_; rintro e w1 ⟨rfl, hs1⟩
        have HS1 := hid (HS.out.trans hs1 rfl hw1)
        clear hs1 hl
        go_wp2
        exact ⟨⟨i, (i + j) / 2, rfl, by go_num, hi, by omega, by omega, HS1.out, (bsr_no _ i j hlt (by simp [hlv])).trans HE.out⟩, by simp [intOf]; omega⟩
    · have q1 : ¬ (i : Int) < (j : Int) := by omega
      have HB := HE.out
      rw [bsr_end _ i j hlt] at HB
      have HI := hid HB
      clear HB HE
      go_wp2
      go_loopw [15] (fun vk wr2 => ∃ (q : Nat) (dk : Array α), vk = .int .i64 q ∧ i ≤ q ∧ q ≤ m ∧ dk.size = n ∧ Sw enc k blk off (BX g lb sf sb w) dk wr2 ∧ dnS i q dk = dnS i m d) (fun vk _ => (intOf vk).toNat)
      case atStart => exact ⟨m, d, by congr 1, by omega, by omega, hd, HS.out, rfl⟩
      case round =>
        obtain ⟨q, dk, rfl, hq1, hq2, hdk, hsw, he⟩ := hrel
        have HT := hid hsw
        have HE := hid he
        clear hsw he
        obtain ⟨c0', c1'⟩ := bx_cell hw HT.out
        by_cases hlt2 : i < q
        · have q2 : (i : Int) < (q : Int) := by omega
          obtain ⟨w2, hr, hs2⟩ := hS1.out.step HT.out (HT.out.holds hHH.out (by omega) hw1) hdk (i := q) (j := q - 1) (by omega) (by omega)
          rw [show (((q - 1 : Nat) : Int)) = (q : Int) - 1 by omega] at hr
          have HS2 := hid hs2
          clear hs2
          go_wp2
          exact ⟨⟨q - 1, _, by first | rfl | (congr 1; omega) | go_num, by omega, by omega, by rw [size_swp]; exact hdk, HS2.out, (dnS_go i q dk hlt2).trans HE.out⟩, by simp [intOf]; omega⟩
        · have q2 : ¬ (i : Int) < (q : Int) := by omega
          go_wp2
          (try simp only [Exit.inBlock, Exit.then]); refine bodyPost_ret (results_none rfl _ _ _) rfl ?_
          exact ⟨rfl, by rw [← HI.out, ← HE.out, dnS_end _ _ _ hlt2]; exact hSW.out.trans HT.out (by omega) hw⟩
end Go.Proofs.YtaecbmjmcpdgdaaGreat.Zs
