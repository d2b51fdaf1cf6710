/- The walks of the sort's functions. -/
import Derived.Test.YtaecbmjmcpdgdaaGreatCZa
import Derived.Test.YtaecbmjmcpdgdaaGreatCFa
import Derived.IntWalk
import Derived.WalkKit
namespace Go.Proofs.YtaecbmjmcpdgdaaGreat.Zs
open Go.Sort Go.Proofs Go.RowKit Go.Lib
set_option linter.unusedVariables false
set_option linter.unusedSimpArgs false
variable {α : Type} [Inhabited α] {g : Nat} {lb : Array Value} {sf : Nat} {sb : Array Value} {enc : α → List Value} {k : Nat} {lt : α → α → Bool} {blk off n : Nat} {w : World} {d : Array α}
theorem symM_gen {f a m b : Nat} {d d1 d2 : Array α} {s : Nat} (hm : ¬ m - a = 1) (hb : ¬ b - m = 1) (hs : stt lt a m b d = s) (h1 : (if s < m ∧ m < (a + b) / 2 + m - s then rot m (m - s) ((a + b) / 2 - s) d else d) = d1)
    (h2 : (if a < s ∧ s < (a + b) / 2 then symM lt f a s ((a + b) / 2) d1 else d1) = d2) :
    symM lt (f + 1) a m b d = if (a + b) / 2 < (a + b) / 2 + m - s ∧ (a + b) / 2 + m - s < b then symM lt f ((a + b) / 2) ((a + b) / 2 + m - s) b d2 else d2 := by
  rw [symM, if_neg hm, if_neg hb]; subst hs; subst h1; subst h2; rfl
def SymOk (P : Program) (F : Nat) (g : Nat) (lb : Array Value) (sf : Nat) (sb : Array Value) (enc : α → List Value) (k : Nat) (lt : α → α → Bool) (blk off n f : Nat) : Prop :=
  ∀ (a m b : Nat) (d : Array α) (w : World), SK P g lb sf sb enc k lt blk off n w → HoldsK enc k w blk off d → d.size = n → b - a ≤ f → a < m → m < b → b ≤ n →
    Calls P F #[.agg #[.func (.func g) #[] lb, .func (.func sf) #[] sb], .int .i64 a, .int .i64 m, .int .i64 b] w fun e w' => e = .returned (.tuple #[]) ∧ Sw enc k blk off w (symM lt f a m b d) w'
set_option maxHeartbeats 8000000 in
set_option maxRecDepth 100000 in
theorem sym_ok3 (hO : SWO lt) (S : SK Tryz.prog g lb sf sb enc k lt blk off n w) (hH : HoldsK enc k w blk off d) (hd : d.size = n) (f a m b : Nat) (hf : b - a ≤ f + 1) (hm : ¬ m - a = 1) (hb1 : ¬ b - m = 1) (ha : a < m) (hb : m < b) (hbn : b ≤ n)
    (ih : SymOk Tryz.prog 79 g lb sf sb enc k lt blk off n f) :
    Calls Tryz.prog 79 #[.agg #[.func (.func g) #[] lb, .func (.func sf) #[] sb], .int .i64 a, .int .i64 m, .int .i64 b] w fun e w' => e = .returned (.tuple #[]) ∧ Sw enc k blk off w (symM lt (f + 1) a m b d) w' := by
  have hsm := S.small
  obtain ⟨hw, hS1, hSW, hHH, hw1⟩ := boxed S hH hd
  clear S hH
  have eg := hS1.out.eg
  have hm' : ¬ (m : Int) - a = 1 := by omega
  have hb' : ¬ (b : Int) - m = 1 := by omega
  obtain ⟨g1, g2, g3, g4, g5, g6, g7, g8⟩ := stt_range (lt := lt) a m b d (by omega) (by omega)
  go_enter Tryz.func79, Tryz.ntmps79
  by_cases hc : (a + b) / 2 < m
  · have qc : ((a : Int) + b) / 2 < (m : Int) := by omega
    go_wp2
    try rw [show (((m : Int) - a) == 1) = false by simp; omega]
    try rw [show (((b : Int) - m) == 1) = false by simp; omega]
    go_loopw [18, 19] (fun vi vj wr => ∃ (i j : Nat), vi = .int .i64 i ∧ vj = .int .i64 j ∧ sM a m b ≤ i ∧ i ≤ j ∧ j ≤ sR a m b ∧ Sw enc k blk off (BX g lb sf sb w) d wr ∧ bsr (fun c => !lt d[(a + b) / 2 + m - 1 - c]! d[c]!) i j = stt lt a m b d) (fun vi vj _ => (intOf vj).toNat - (intOf vi).toNat)
    case atStart => exact ⟨sM a m b, sR a m b, by congr 1; unfold sM; rw [if_pos hc]; omega, by congr 1; unfold sR; rw [if_pos hc]; omega, Nat.le_refl _, g1, Nat.le_refl _, Sw.start hHH.out, rfl⟩
    case round =>
      obtain ⟨i, j, rfl, rfl, hi, hij, hj, hsw, he⟩ := hrel
      have HS := hid hsw
      have HE := hid he
      clear hsw he
      obtain ⟨c0, c1⟩ := bx_cell hw HS.out
      by_cases hlt : i < j
      · have q1 : (i : Int) < (j : Int) := by omega
        have hl := hS1.out.less wr d HS.out hd ((a + b) / 2 + m - 1 - (i + j) / 2) ((i + j) / 2) (by omega) (by omega)
        rw [show ((((a + b) / 2 + m - 1 - (i + j) / 2 : Nat) : Int)) = ((a : Int) + b) / 2 + m - 1 - ((i : Int) + j) / 2 by omega, show ((((i + j) / 2 : Nat) : Int)) = ((i : Int) + j) / 2 by omega] at hl
        cases hlv : lt d[(a + b) / 2 + m - 1 - (i + j) / 2]! d[(i + j) / 2]! with
        | false =>
          rw [hlv] at hl
          go_wp2_with fail
          refine hl.mono ?_; rintro e w1 ⟨rfl, hs1⟩
          have HS1 := hid (HS.out.trans hs1 rfl hw1)
          clear hs1 hl
          go_wp2
          exact ⟨⟨(i + j) / 2 + 1, j, by go_num, rfl, by omega, by omega, hj, HS1.out, (bsr_yes _ i j hlt (by simp [hlv])).trans HE.out⟩, by simp [intOf]; omega⟩
        | true =>
          rw [hlv] at hl
          go_wp2_with fail
          refine hl.mono ?_; rintro e w1 ⟨rfl, hs1⟩
          have HS1 := hid (HS.out.trans hs1 rfl hw1)
          clear hs1 hl
          go_wp2
          exact ⟨⟨i, (i + j) / 2, rfl, by go_num, hi, by omega, by omega, HS1.out, (bsr_no _ i j hlt (by simp [hlv])).trans HE.out⟩, by simp [intOf]; omega⟩
      · have q1 : ¬ (i : Int) < (j : Int) := by omega
        have HB := HE.out
        rw [bsr_end _ i j hlt] at HB
        have HI := hid HB.symm
        clear HB HE
        have e1 : (((a + b) / 2 + m - i : Nat) : Int) = ((a : Int) + b) / 2 + m - i := by omega
        have e2 : (((a + b) / 2 : Nat) : Int) = ((a : Int) + b) / 2 := by omega
        have e3 : (a + b) / 2 + m - i - m = (a + b) / 2 - i := by omega
        have e4 : True := trivial
        by_cases p1 : i < m
        · have p1i : (i : Int) < (m : Int) := by omega
          have p1j : ((a : Int) + b) / 2 < ((a : Int) + b) / 2 + m - i := by omega
          by_cases p2 : i < (a + b) / 2
          · have p2i : (m : Int) < ((a : Int) + b) / 2 + m - i := by omega
            have p2j : (i : Int) < ((a : Int) + b) / 2 := by omega
            by_cases p3 : a < i
            · have p3i : (a : Int) < (i : Int) := by omega
              by_cases p4 : (a + b) / 2 + m - i < b
              · have p4i : ((a : Int) + b) / 2 + m - i < (b : Int) := by omega
                first
                | (exfalso; omega)
                | (have SA := hid (hS1.out.move HS.out hd)
                   have GA := hid (HS.out.holds hHH.out (by omega) hw1)
                   have hcA := rot_ok SA.out GA.out hd i m ((a + b) / 2 + m - i) p1 (by omega) (by omega)
                   simp only [e1, e2, e3, e4] at hcA
                   have hzA : (rot m (m - i) ((a + b) / 2 - i) d).size = n := by rw [(rot_spec 0 n _ m (m - i) ((a + b) / 2 - i) d rfl (by omega) (by omega) (by omega) (by omega) (by omega) (by omega)).1.1]; exact hd
                   go_wp2_with fail
                   refine hcA.mono ?_; rintro e wA ⟨rfl, hsA⟩
                   have KA := hid (HS.out.trans hsA (by omega) hw1)
                   clear hsA hcA SA GA
                   obtain ⟨xA0, xA1⟩ := bx_cell hw KA.out
                   have h1 : (if i < m ∧ m < (a + b) / 2 + m - i then rot m (m - i) ((a + b) / 2 - i) d else d) = rot m (m - i) ((a + b) / 2 - i) d := if_pos ⟨p1, by omega⟩
                   have SB := hid (hS1.out.move KA.out hzA)
                   have GB := hid (KA.out.holds hHH.out (by omega) hw1)
                   have hcB := ih a i ((a + b) / 2) (rot m (m - i) ((a + b) / 2 - i) d) wA SB.out GB.out hzA (by omega) p3 p2 (by omega)
                   simp only [e1, e2, e3, e4] at hcB
                   have hzB : (symM lt f a i ((a + b) / 2) (rot m (m - i) ((a + b) / 2 - i) d)).size = n := by rw [(symM_spec hO f a i ((a + b) / 2) (rot m (m - i) ((a + b) / 2 - i) d) (by omega) p3 p2 (by omega)).1.1]; exact hzA
                   go_wp2_with fail
                   refine hcB.mono ?_; rintro e wB ⟨rfl, hsB⟩
                   have KB := hid (KA.out.trans hsB (by omega) hw1)
                   clear hsB hcB SB GB
                   obtain ⟨xB0, xB1⟩ := bx_cell hw KB.out
                   have h2 : (if a < i ∧ i < (a + b) / 2 then symM lt f a i ((a + b) / 2) (rot m (m - i) ((a + b) / 2 - i) d) else (rot m (m - i) ((a + b) / 2 - i) d)) = symM lt f a i ((a + b) / 2) (rot m (m - i) ((a + b) / 2 - i) d) := if_pos ⟨p3, p2⟩
                   have SC := hid (hS1.out.move KB.out hzB)
                   have GC := hid (KB.out.holds hHH.out (by omega) hw1)
                   have hcC := ih ((a + b) / 2) ((a + b) / 2 + m - i) b (symM lt f a i ((a + b) / 2) (rot m (m - i) ((a + b) / 2 - i) d)) wB SC.out GC.out hzB (by omega) (by omega) p4 hbn
                   simp only [e1, e2, e3, e4] at hcC
                   have hzC : (symM lt f ((a + b) / 2) ((a + b) / 2 + m - i) b (symM lt f a i ((a + b) / 2) (rot m (m - i) ((a + b) / 2 - i) d))).size = n := by rw [(symM_spec hO f ((a + b) / 2) ((a + b) / 2 + m - i) b (symM lt f a i ((a + b) / 2) (rot m (m - i) ((a + b) / 2 - i) d)) (by omega) (by omega) p4 (by omega)).1.1]; exact hzB
                   go_wp2_with fail
                   refine hcC.mono ?_; rintro e wC ⟨rfl, hsC⟩
                   have KC := hid (KB.out.trans hsC (by omega) hw1)
                   clear hsC hcC SC GC
                   obtain ⟨xC0, xC1⟩ := bx_cell hw KC.out
                   go_wp2
                   go_end0
                   exact ⟨rfl, by rw [symM_gen hm hb1 HI.out h1 h2, if_pos ⟨by omega, p4⟩]; exact hSW.out.trans KC.out (by omega) hw⟩)
              · have p4i : ¬ ((a : Int) + b) / 2 + m - i < (b : Int) := by omega
                first
                | (exfalso; omega)
                | (have SA := hid (hS1.out.move HS.out hd)
                   have GA := hid (HS.out.holds hHH.out (by omega) hw1)
                   have hcA := rot_ok SA.out GA.out hd i m ((a + b) / 2 + m - i) p1 (by omega) (by omega)
                   simp only [e1, e2, e3, e4] at hcA
                   have hzA : (rot m (m - i) ((a + b) / 2 - i) d).size = n := by rw [(rot_spec 0 n _ m (m - i) ((a + b) / 2 - i) d rfl (by omega) (by omega) (by omega) (by omega) (by omega) (by omega)).1.1]; exact hd
                   go_wp2_with fail
                   refine hcA.mono ?_; rintro e wA ⟨rfl, hsA⟩
                   have KA := hid (HS.out.trans hsA (by omega) hw1)
                   clear hsA hcA SA GA
                   obtain ⟨xA0, xA1⟩ := bx_cell hw KA.out
                   have h1 : (if i < m ∧ m < (a + b) / 2 + m - i then rot m (m - i) ((a + b) / 2 - i) d else d) = rot m (m - i) ((a + b) / 2 - i) d := if_pos ⟨p1, by omega⟩
                   have SB := hid (hS1.out.move KA.out hzA)
                   have GB := hid (KA.out.holds hHH.out (by omega) hw1)
                   have hcB := ih a i ((a + b) / 2) (rot m (m - i) ((a + b) / 2 - i) d) wA SB.out GB.out hzA (by omega) p3 p2 (by omega)
                   simp only [e1, e2, e3, e4] at hcB
                   have hzB : (symM lt f a i ((a + b) / 2) (rot m (m - i) ((a + b) / 2 - i) d)).size = n := by rw [(symM_spec hO f a i ((a + b) / 2) (rot m (m - i) ((a + b) / 2 - i) d) (by omega) p3 p2 (by omega)).1.1]; exact hzA
                   go_wp2_with fail
                   refine hcB.mono ?_; rintro e wB ⟨rfl, hsB⟩
                   have KB := hid (KA.out.trans hsB (by omega) hw1)
                   clear hsB hcB SB GB
                   obtain ⟨xB0, xB1⟩ := bx_cell hw KB.out
                   have h2 : (if a < i ∧ i < (a + b) / 2 then symM lt f a i ((a + b) / 2) (rot m (m - i) ((a + b) / 2 - i) d) else (rot m (m - i) ((a + b) / 2 - i) d)) = symM lt f a i ((a + b) / 2) (rot m (m - i) ((a + b) / 2 - i) d) := if_pos ⟨p3, p2⟩
                   go_wp2
                   go_end0
                   exact ⟨rfl, by rw [symM_gen hm hb1 HI.out h1 h2, if_neg (by omega)]; exact hSW.out.trans KB.out (by omega) hw⟩)
            · have p3i : ¬ (a : Int) < (i : Int) := by omega
              by_cases p4 : (a + b) / 2 + m - i < b
              · have p4i : ((a : Int) + b) / 2 + m - i < (b : Int) := by omega
                first
                | (exfalso; omega)
                | (have SA := hid (hS1.out.move HS.out hd)
                   have GA := hid (HS.out.holds hHH.out (by omega) hw1)
                   have hcA := rot_ok SA.out GA.out hd i m ((a + b) / 2 + m - i) p1 (by omega) (by omega)
                   simp only [e1, e2, e3, e4] at hcA
                   have hzA : (rot m (m - i) ((a + b) / 2 - i) d).size = n := by rw [(rot_spec 0 n _ m (m - i) ((a + b) / 2 - i) d rfl (by omega) (by omega) (by omega) (by omega) (by omega) (by omega)).1.1]; exact hd
                   go_wp2_with fail
                   refine hcA.mono ?_; rintro e wA ⟨rfl, hsA⟩
                   have KA := hid (HS.out.trans hsA (by omega) hw1)
                   clear hsA hcA SA GA
                   obtain ⟨xA0, xA1⟩ := bx_cell hw KA.out
                   have h1 : (if i < m ∧ m < (a + b) / 2 + m - i then rot m (m - i) ((a + b) / 2 - i) d else d) = rot m (m - i) ((a + b) / 2 - i) d := if_pos ⟨p1, by omega⟩
                   have h2 : (if a < i ∧ i < (a + b) / 2 then symM lt f a i ((a + b) / 2) (rot m (m - i) ((a + b) / 2 - i) d) else (rot m (m - i) ((a + b) / 2 - i) d)) = (rot m (m - i) ((a + b) / 2 - i) d) := if_neg (by omega)
                   have SC := hid (hS1.out.move KA.out hzA)
                   have GC := hid (KA.out.holds hHH.out (by omega) hw1)
                   have hcC := ih ((a + b) / 2) ((a + b) / 2 + m - i) b (rot m (m - i) ((a + b) / 2 - i) d) wA SC.out GC.out hzA (by omega) (by omega) p4 hbn
                   simp only [e1, e2, e3, e4] at hcC
                   have hzC : (symM lt f ((a + b) / 2) ((a + b) / 2 + m - i) b (rot m (m - i) ((a + b) / 2 - i) d)).size = n := by rw [(symM_spec hO f ((a + b) / 2) ((a + b) / 2 + m - i) b (rot m (m - i) ((a + b) / 2 - i) d) (by omega) (by omega) p4 (by omega)).1.1]; exact hzA
                   go_wp2_with fail
                   refine hcC.mono ?_; rintro e wC ⟨rfl, hsC⟩
                   have KC := hid (KA.out.trans hsC (by omega) hw1)
                   clear hsC hcC SC GC
                   obtain ⟨xC0, xC1⟩ := bx_cell hw KC.out
                   go_wp2
                   go_end0
                   exact ⟨rfl, by rw [symM_gen hm hb1 HI.out h1 h2, if_pos ⟨by omega, p4⟩]; exact hSW.out.trans KC.out (by omega) hw⟩)
              · have p4i : ¬ ((a : Int) + b) / 2 + m - i < (b : Int) := by omega
                first
                | (exfalso; omega)
                | (have SA := hid (hS1.out.move HS.out hd)
                   have GA := hid (HS.out.holds hHH.out (by omega) hw1)
                   have hcA := rot_ok SA.out GA.out hd i m ((a + b) / 2 + m - i) p1 (by omega) (by omega)
                   simp only [e1, e2, e3, e4] at hcA
                   have hzA : (rot m (m - i) ((a + b) / 2 - i) d).size = n := by rw [(rot_spec 0 n _ m (m - i) ((a + b) / 2 - i) d rfl (by omega) (by omega) (by omega) (by omega) (by omega) (by omega)).1.1]; exact hd
                   go_wp2_with fail
                   refine hcA.mono ?_; rintro e wA ⟨rfl, hsA⟩
                   have KA := hid (HS.out.trans hsA (by omega) hw1)
                   clear hsA hcA SA GA
                   obtain ⟨xA0, xA1⟩ := bx_cell hw KA.out
                   have h1 : (if i < m ∧ m < (a + b) / 2 + m - i then rot m (m - i) ((a + b) / 2 - i) d else d) = rot m (m - i) ((a + b) / 2 - i) d := if_pos ⟨p1, by omega⟩
                   have h2 : (if a < i ∧ i < (a + b) / 2 then symM lt f a i ((a + b) / 2) (rot m (m - i) ((a + b) / 2 - i) d) else (rot m (m - i) ((a + b) / 2 - i) d)) = (rot m (m - i) ((a + b) / 2 - i) d) := if_neg (by omega)
                   go_wp2
                   go_end0
                   exact ⟨rfl, by rw [symM_gen hm hb1 HI.out h1 h2, if_neg (by omega)]; exact hSW.out.trans KA.out (by omega) hw⟩)
          · have p2i : ¬ (m : Int) < ((a : Int) + b) / 2 + m - i := by omega
            have p2j : ¬ (i : Int) < ((a : Int) + b) / 2 := by omega
            by_cases p3 : a < i
            · have p3i : (a : Int) < (i : Int) := by omega
              by_cases p4 : (a + b) / 2 + m - i < b
              · have p4i : ((a : Int) + b) / 2 + m - i < (b : Int) := by omega
                first
                | (exfalso; omega)
                | (have h1 : (if i < m ∧ m < (a + b) / 2 + m - i then rot m (m - i) ((a + b) / 2 - i) d else d) = d := if_neg (by omega)
                   have h2 : (if a < i ∧ i < (a + b) / 2 then symM lt f a i ((a + b) / 2) d else d) = d := if_neg (by omega)
                   have SC := hid (hS1.out.move HS.out hd)
                   have GC := hid (HS.out.holds hHH.out (by omega) hw1)
                   have hcC := ih ((a + b) / 2) ((a + b) / 2 + m - i) b d wr SC.out GC.out hd (by omega) (by omega) p4 hbn
                   simp only [e1, e2, e3, e4] at hcC
                   have hzC : (symM lt f ((a + b) / 2) ((a + b) / 2 + m - i) b d).size = n := by rw [(symM_spec hO f ((a + b) / 2) ((a + b) / 2 + m - i) b d (by omega) (by omega) p4 (by omega)).1.1]; exact hd
                   go_wp2_with fail
                   refine hcC.mono ?_; rintro e wC ⟨rfl, hsC⟩
                   have KC := hid (HS.out.trans hsC (by omega) hw1)
                   clear hsC hcC SC GC
                   obtain ⟨xC0, xC1⟩ := bx_cell hw KC.out
                   go_wp2
                   go_end0
                   exact ⟨rfl, by rw [symM_gen hm hb1 HI.out h1 h2, if_pos ⟨by omega, p4⟩]; exact hSW.out.trans KC.out (by omega) hw⟩)
              · have p4i : ¬ ((a : Int) + b) / 2 + m - i < (b : Int) := by omega
                first
                | (exfalso; omega)
                | (have h1 : (if i < m ∧ m < (a + b) / 2 + m - i then rot m (m - i) ((a + b) / 2 - i) d else d) = d := if_neg (by omega)
                   have h2 : (if a < i ∧ i < (a + b) / 2 then symM lt f a i ((a + b) / 2) d else d) = d := if_neg (by omega)
                   go_wp2
                   go_end0
                   exact ⟨rfl, by rw [symM_gen hm hb1 HI.out h1 h2, if_neg (by omega)]; exact hSW.out.trans HS.out (by omega) hw⟩)
            · have p3i : ¬ (a : Int) < (i : Int) := by omega
              by_cases p4 : (a + b) / 2 + m - i < b
              · have p4i : ((a : Int) + b) / 2 + m - i < (b : Int) := by omega
                first
                | (exfalso; omega)
                | (have h1 : (if i < m ∧ m < (a + b) / 2 + m - i then rot m (m - i) ((a + b) / 2 - i) d else d) = d := if_neg (by omega)
                   have h2 : (if a < i ∧ i < (a + b) / 2 then symM lt f a i ((a + b) / 2) d else d) = d := if_neg (by omega)
                   have SC := hid (hS1.out.move HS.out hd)
                   have GC := hid (HS.out.holds hHH.out (by omega) hw1)
                   have hcC := ih ((a + b) / 2) ((a + b) / 2 + m - i) b d wr SC.out GC.out hd (by omega) (by omega) p4 hbn
                   simp only [e1, e2, e3, e4] at hcC
                   have hzC : (symM lt f ((a + b) / 2) ((a + b) / 2 + m - i) b d).size = n := by rw [(symM_spec hO f ((a + b) / 2) ((a + b) / 2 + m - i) b d (by omega) (by omega) p4 (by omega)).1.1]; exact hd
                   go_wp2_with fail
                   refine hcC.mono ?_; rintro e wC ⟨rfl, hsC⟩
                   have KC := hid (HS.out.trans hsC (by omega) hw1)
                   clear hsC hcC SC GC
                   obtain ⟨xC0, xC1⟩ := bx_cell hw KC.out
                   go_wp2
                   go_end0
                   exact ⟨rfl, by rw [symM_gen hm hb1 HI.out h1 h2, if_pos ⟨by omega, p4⟩]; exact hSW.out.trans KC.out (by omega) hw⟩)
              · have p4i : ¬ ((a : Int) + b) / 2 + m - i < (b : Int) := by omega
                first
                | (exfalso; omega)
                | (have h1 : (if i < m ∧ m < (a + b) / 2 + m - i then rot m (m - i) ((a + b) / 2 - i) d else d) = d := if_neg (by omega)
                   have h2 : (if a < i ∧ i < (a + b) / 2 then symM lt f a i ((a + b) / 2) d else d) = d := if_neg (by omega)
                   go_wp2
                   go_end0
                   exact ⟨rfl, by rw [symM_gen hm hb1 HI.out h1 h2, if_neg (by omega)]; exact hSW.out.trans HS.out (by omega) hw⟩)
        · have p1i : ¬ (i : Int) < (m : Int) := by omega
          have p1j : ¬ ((a : Int) + b) / 2 < ((a : Int) + b) / 2 + m - i := by omega
          by_cases p2 : i < (a + b) / 2
          · have p2i : (m : Int) < ((a : Int) + b) / 2 + m - i := by omega
            have p2j : (i : Int) < ((a : Int) + b) / 2 := by omega
            by_cases p3 : a < i
            · have p3i : (a : Int) < (i : Int) := by omega
              by_cases p4 : (a + b) / 2 + m - i < b
              · have p4i : ((a : Int) + b) / 2 + m - i < (b : Int) := by omega
                first
                | (exfalso; omega)
                | (have h1 : (if i < m ∧ m < (a + b) / 2 + m - i then rot m (m - i) ((a + b) / 2 - i) d else d) = d := if_neg (by omega)
                   have SB := hid (hS1.out.move HS.out hd)
                   have GB := hid (HS.out.holds hHH.out (by omega) hw1)
                   have hcB := ih a i ((a + b) / 2) d wr SB.out GB.out hd (by omega) p3 p2 (by omega)
                   simp only [e1, e2, e3, e4] at hcB
                   have hzB : (symM lt f a i ((a + b) / 2) d).size = n := by rw [(symM_spec hO f a i ((a + b) / 2) d (by omega) p3 p2 (by omega)).1.1]; exact hd
                   go_wp2_with fail
                   refine hcB.mono ?_; rintro e wB ⟨rfl, hsB⟩
                   have KB := hid (HS.out.trans hsB (by omega) hw1)
                   clear hsB hcB SB GB
                   obtain ⟨xB0, xB1⟩ := bx_cell hw KB.out
                   have h2 : (if a < i ∧ i < (a + b) / 2 then symM lt f a i ((a + b) / 2) d else d) = symM lt f a i ((a + b) / 2) d := if_pos ⟨p3, p2⟩
                   go_wp2
                   go_end0
                   exact ⟨rfl, by rw [symM_gen hm hb1 HI.out h1 h2, if_neg (by omega)]; exact hSW.out.trans KB.out (by omega) hw⟩)
              · have p4i : ¬ ((a : Int) + b) / 2 + m - i < (b : Int) := by omega
                first
                | (exfalso; omega)
                | (have h1 : (if i < m ∧ m < (a + b) / 2 + m - i then rot m (m - i) ((a + b) / 2 - i) d else d) = d := if_neg (by omega)
                   have SB := hid (hS1.out.move HS.out hd)
                   have GB := hid (HS.out.holds hHH.out (by omega) hw1)
                   have hcB := ih a i ((a + b) / 2) d wr SB.out GB.out hd (by omega) p3 p2 (by omega)
                   simp only [e1, e2, e3, e4] at hcB
                   have hzB : (symM lt f a i ((a + b) / 2) d).size = n := by rw [(symM_spec hO f a i ((a + b) / 2) d (by omega) p3 p2 (by omega)).1.1]; exact hd
                   go_wp2_with fail
                   refine hcB.mono ?_; rintro e wB ⟨rfl, hsB⟩
                   have KB := hid (HS.out.trans hsB (by omega) hw1)
                   clear hsB hcB SB GB
                   obtain ⟨xB0, xB1⟩ := bx_cell hw KB.out
                   have h2 : (if a < i ∧ i < (a + b) / 2 then symM lt f a i ((a + b) / 2) d else d) = symM lt f a i ((a + b) / 2) d := if_pos ⟨p3, p2⟩
                   go_wp2
                   go_end0
                   exact ⟨rfl, by rw [symM_gen hm hb1 HI.out h1 h2, if_neg (by omega)]; exact hSW.out.trans KB.out (by omega) hw⟩)
            · have p3i : ¬ (a : Int) < (i : Int) := by omega
              by_cases p4 : (a + b) / 2 + m - i < b
              · have p4i : ((a : Int) + b) / 2 + m - i < (b : Int) := by omega
                first
                | (exfalso; omega)
                | (have h1 : (if i < m ∧ m < (a + b) / 2 + m - i then rot m (m - i) ((a + b) / 2 - i) d else d) = d := if_neg (by omega)
                   have h2 : (if a < i ∧ i < (a + b) / 2 then symM lt f a i ((a + b) / 2) d else d) = d := if_neg (by omega)
                   go_wp2
                   go_end0
                   exact ⟨rfl, by rw [symM_gen hm hb1 HI.out h1 h2, if_neg (by omega)]; exact hSW.out.trans HS.out (by omega) hw⟩)
              · have p4i : ¬ ((a : Int) + b) / 2 + m - i < (b : Int) := by omega
                first
                | (exfalso; omega)
                | (have h1 : (if i < m ∧ m < (a + b) / 2 + m - i then rot m (m - i) ((a + b) / 2 - i) d else d) = d := if_neg (by omega)
                   have h2 : (if a < i ∧ i < (a + b) / 2 then symM lt f a i ((a + b) / 2) d else d) = d := if_neg (by omega)
                   go_wp2
                   go_end0
                   exact ⟨rfl, by rw [symM_gen hm hb1 HI.out h1 h2, if_neg (by omega)]; exact hSW.out.trans HS.out (by omega) hw⟩)
          · have p2i : ¬ (m : Int) < ((a : Int) + b) / 2 + m - i := by omega
            have p2j : ¬ (i : Int) < ((a : Int) + b) / 2 := by omega
            by_cases p3 : a < i
            · have p3i : (a : Int) < (i : Int) := by omega
              by_cases p4 : (a + b) / 2 + m - i < b
              · have p4i : ((a : Int) + b) / 2 + m - i < (b : Int) := by omega
                first
                | (exfalso; omega)
                | (have h1 : (if i < m ∧ m < (a + b) / 2 + m - i then rot m (m - i) ((a + b) / 2 - i) d else d) = d := if_neg (by omega)
                   have h2 : (if a < i ∧ i < (a + b) / 2 then symM lt f a i ((a + b) / 2) d else d) = d := if_neg (by omega)
                   go_wp2
                   go_end0
                   exact ⟨rfl, by rw [symM_gen hm hb1 HI.out h1 h2, if_neg (by omega)]; exact hSW.out.trans HS.out (by omega) hw⟩)
              · have p4i : ¬ ((a : Int) + b) / 2 + m - i < (b : Int) := by omega
                first
                | (exfalso; omega)
                | (have h1 : (if i < m ∧ m < (a + b) / 2 + m - i then rot m (m - i) ((a + b) / 2 - i) d else d) = d := if_neg (by omega)
                   have h2 : (if a < i ∧ i < (a + b) / 2 then symM lt f a i ((a + b) / 2) d else d) = d := if_neg (by omega)
                   go_wp2
                   go_end0
                   exact ⟨rfl, by rw [symM_gen hm hb1 HI.out h1 h2, if_neg (by omega)]; exact hSW.out.trans HS.out (by omega) hw⟩)
            · have p3i : ¬ (a : Int) < (i : Int) := by omega
              by_cases p4 : (a + b) / 2 + m - i < b
              · have p4i : ((a : Int) + b) / 2 + m - i < (b : Int) := by omega
                first
                | (exfalso; omega)
                | (have h1 : (if i < m ∧ m < (a + b) / 2 + m - i then rot m (m - i) ((a + b) / 2 - i) d else d) = d := if_neg (by omega)
                   have h2 : (if a < i ∧ i < (a + b) / 2 then symM lt f a i ((a + b) / 2) d else d) = d := if_neg (by omega)
                   go_wp2
                   go_end0
                   exact ⟨rfl, by rw [symM_gen hm hb1 HI.out h1 h2, if_neg (by omega)]; exact hSW.out.trans HS.out (by omega) hw⟩)
              · have p4i : ¬ ((a : Int) + b) / 2 + m - i < (b : Int) := by omega
                first
                | (exfalso; omega)
                | (have h1 : (if i < m ∧ m < (a + b) / 2 + m - i then rot m (m - i) ((a + b) / 2 - i) d else d) = d := if_neg (by omega)
                   have h2 : (if a < i ∧ i < (a + b) / 2 then symM lt f a i ((a + b) / 2) d else d) = d := if_neg (by omega)
                   go_wp2
                   go_end0
                   exact ⟨rfl, by rw [symM_gen hm hb1 HI.out h1 h2, if_neg (by omega)]; exact hSW.out.trans HS.out (by omega) hw⟩)
  · have qc : ¬ ((a : Int) + b) / 2 < (m : Int) := by omega
    go_wp2
    try rw [show (((m : Int) - a) == 1) = false by simp; omega]
    try rw [show (((b : Int) - m) == 1) = false by simp; omega]
    go_loopw [18, 19] (fun vi vj wr => ∃ (i j : Nat), vi = .int .i64 i ∧ vj = .int .i64 j ∧ sM a m b ≤ i ∧ i ≤ j ∧ j ≤ sR a m b ∧ Sw enc k blk off (BX g lb sf sb w) d wr ∧ bsr (fun c => !lt d[(a + b) / 2 + m - 1 - c]! d[c]!) i j = stt lt a m b d) (fun vi vj _ => (intOf vj).toNat - (intOf vi).toNat)
    case atStart => exact ⟨sM a m b, sR a m b, by congr 1; unfold sM; rw [if_neg hc], by congr 1; unfold sR; rw [if_neg hc], Nat.le_refl _, g1, Nat.le_refl _, Sw.start hHH.out, rfl⟩
    case round =>
      obtain ⟨i, j, rfl, rfl, hi, hij, hj, hsw, he⟩ := hrel
      have HS := hid hsw
      have HE := hid he
      clear hsw he
      obtain ⟨c0, c1⟩ := bx_cell hw HS.out
      by_cases hlt : i < j
      · have q1 : (i : Int) < (j : Int) := by omega
        have hl := hS1.out.less wr d HS.out hd ((a + b) / 2 + m - 1 - (i + j) / 2) ((i + j) / 2) (by omega) (by omega)
        rw [show ((((a + b) / 2 + m - 1 - (i + j) / 2 : Nat) : Int)) = ((a : Int) + b) / 2 + m - 1 - ((i : Int) + j) / 2 by omega, show ((((i + j) / 2 : Nat) : Int)) = ((i : Int) + j) / 2 by omega] at hl
        cases hlv : lt d[(a + b) / 2 + m - 1 - (i + j) / 2]! d[(i + j) / 2]! with
        | false =>
          rw [hlv] at hl
          go_wp2_with fail
          refine hl.mono ?_; rintro e w1 ⟨rfl, hs1⟩
          have HS1 := hid (HS.out.trans hs1 rfl hw1)
          clear hs1 hl
          go_wp2
          exact ⟨⟨(i + j) / 2 + 1, j, by go_num, rfl, by omega, by omega, hj, HS1.out, (bsr_yes _ i j hlt (by simp [hlv])).trans HE.out⟩, by simp [intOf]; omega⟩
        | true =>
          rw [hlv] at hl
          go_wp2_with fail
          refine hl.mono ?_; rintro e w1 ⟨rfl, hs1⟩
          have HS1 := hid (HS.out.trans hs1 rfl hw1)
          clear hs1 hl
          go_wp2
          exact ⟨⟨i, (i + j) / 2, rfl, by go_num, hi, by omega, by omega, HS1.out, (bsr_no _ i j hlt (by simp [hlv])).trans HE.out⟩, by simp [intOf]; omega⟩
      · have q1 : ¬ (i : Int) < (j : Int) := by omega
        have HB := HE.out
        rw [bsr_end _ i j hlt] at HB
        have HI := hid HB.symm
        clear HB HE
        have e1 : (((a + b) / 2 + m - i : Nat) : Int) = ((a : Int) + b) / 2 + m - i := by omega
        have e2 : (((a + b) / 2 : Nat) : Int) = ((a : Int) + b) / 2 := by omega
        have e3 : (a + b) / 2 + m - i - m = (a + b) / 2 - i := by omega
        have e4 : True := trivial
        by_cases p1 : i < m
        · have p1i : (i : Int) < (m : Int) := by omega
          have p1j : ((a : Int) + b) / 2 < ((a : Int) + b) / 2 + m - i := by omega
          by_cases p2 : i < (a + b) / 2
          · have p2i : (m : Int) < ((a : Int) + b) / 2 + m - i := by omega
            have p2j : (i : Int) < ((a : Int) + b) / 2 := by omega
            by_cases p3 : a < i
            · have p3i : (a : Int) < (i : Int) := by omega
              by_cases p4 : (a + b) / 2 + m - i < b
              · have p4i : ((a : Int) + b) / 2 + m - i < (b : Int) := by omega
                first
                | (exfalso; omega)
                | (have SA := hid (hS1.out.move HS.out hd)
                   have GA := hid (HS.out.holds hHH.out (by omega) hw1)
                   have hcA := rot_ok SA.out GA.out hd i m ((a + b) / 2 + m - i) p1 (by omega) (by omega)
                   simp only [e1, e2, e3, e4] at hcA
                   have hzA : (rot m (m - i) ((a + b) / 2 - i) d).size = n := by rw [(rot_spec 0 n _ m (m - i) ((a + b) / 2 - i) d rfl (by omega) (by omega) (by omega) (by omega) (by omega) (by omega)).1.1]; exact hd
                   go_wp2_with fail
                   refine hcA.mono ?_; rintro e wA ⟨rfl, hsA⟩
                   have KA := hid (HS.out.trans hsA (by omega) hw1)
                   clear hsA hcA SA GA
                   obtain ⟨xA0, xA1⟩ := bx_cell hw KA.out
                   have h1 : (if i < m ∧ m < (a + b) / 2 + m - i then rot m (m - i) ((a + b) / 2 - i) d else d) = rot m (m - i) ((a + b) / 2 - i) d := if_pos ⟨p1, by omega⟩
                   have SB := hid (hS1.out.move KA.out hzA)
                   have GB := hid (KA.out.holds hHH.out (by omega) hw1)
                   have hcB := ih a i ((a + b) / 2) (rot m (m - i) ((a + b) / 2 - i) d) wA SB.out GB.out hzA (by omega) p3 p2 (by omega)
                   simp only [e1, e2, e3, e4] at hcB
                   have hzB : (symM lt f a i ((a + b) / 2) (rot m (m - i) ((a + b) / 2 - i) d)).size = n := by rw [(symM_spec hO f a i ((a + b) / 2) (rot m (m - i) ((a + b) / 2 - i) d) (by omega) p3 p2 (by omega)).1.1]; exact hzA
                   go_wp2_with fail
                   refine hcB.mono ?_; rintro e wB ⟨rfl, hsB⟩
                   have KB := hid (KA.out.trans hsB (by omega) hw1)
                   clear hsB hcB SB GB
                   obtain ⟨xB0, xB1⟩ := bx_cell hw KB.out
                   have h2 : (if a < i ∧ i < (a + b) / 2 then symM lt f a i ((a + b) / 2) (rot m (m - i) ((a + b) / 2 - i) d) else (rot m (m - i) ((a + b) / 2 - i) d)) = symM lt f a i ((a + b) / 2) (rot m (m - i) ((a + b) / 2 - i) d) := if_pos ⟨p3, p2⟩
                   have SC := hid (hS1.out.move KB.out hzB)
                   have GC := hid (KB.out.holds hHH.out (by omega) hw1)
                   have hcC := ih ((a + b) / 2) ((a + b) / 2 + m - i) b (symM lt f a i ((a + b) / 2) (rot m (m - i) ((a + b) / 2 - i) d)) wB SC.out GC.out hzB (by omega) (by omega) p4 hbn
                   simp only [e1, e2, e3, e4] at hcC
                   have hzC : (symM lt f ((a + b) / 2) ((a + b) / 2 + m - i) b (symM lt f a i ((a + b) / 2) (rot m (m - i) ((a + b) / 2 - i) d))).size = n := by rw [(symM_spec hO f ((a + b) / 2) ((a + b) / 2 + m - i) b (symM lt f a i ((a + b) / 2) (rot m (m - i) ((a + b) / 2 - i) d)) (by omega) (by omega) p4 (by omega)).1.1]; exact hzB
                   go_wp2_with fail
                   refine hcC.mono ?_; rintro e wC ⟨rfl, hsC⟩
                   have KC := hid (KB.out.trans hsC (by omega) hw1)
                   clear hsC hcC SC GC
                   obtain ⟨xC0, xC1⟩ := bx_cell hw KC.out
                   go_wp2
                   go_end0
                   exact ⟨rfl, by rw [symM_gen hm hb1 HI.out h1 h2, if_pos ⟨by omega, p4⟩]; exact hSW.out.trans KC.out (by omega) hw⟩)
              · have p4i : ¬ ((a : Int) + b) / 2 + m - i < (b : Int) := by omega
                first
                | (exfalso; omega)
                | (have SA := hid (hS1.out.move HS.out hd)
                   have GA := hid (HS.out.holds hHH.out (by omega) hw1)
                   have hcA := rot_ok SA.out GA.out hd i m ((a + b) / 2 + m - i) p1 (by omega) (by omega)
                   simp only [e1, e2, e3, e4] at hcA
                   have hzA : (rot m (m - i) ((a + b) / 2 - i) d).size = n := by rw [(rot_spec 0 n _ m (m - i) ((a + b) / 2 - i) d rfl (by omega) (by omega) (by omega) (by omega) (by omega) (by omega)).1.1]; exact hd
                   go_wp2_with fail
                   refine hcA.mono ?_; rintro e wA ⟨rfl, hsA⟩
                   have KA := hid (HS.out.trans hsA (by omega) hw1)
                   clear hsA hcA SA GA
                   obtain ⟨xA0, xA1⟩ := bx_cell hw KA.out
                   have h1 : (if i < m ∧ m < (a + b) / 2 + m - i then rot m (m - i) ((a + b) / 2 - i) d else d) = rot m (m - i) ((a + b) / 2 - i) d := if_pos ⟨p1, by omega⟩
                   have SB := hid (hS1.out.move KA.out hzA)
                   have GB := hid (KA.out.holds hHH.out (by omega) hw1)
                   have hcB := ih a i ((a + b) / 2) (rot m (m - i) ((a + b) / 2 - i) d) wA SB.out GB.out hzA (by omega) p3 p2 (by omega)
                   simp only [e1, e2, e3, e4] at hcB
                   have hzB : (symM lt f a i ((a + b) / 2) (rot m (m - i) ((a + b) / 2 - i) d)).size = n := by rw [(symM_spec hO f a i ((a + b) / 2) (rot m (m - i) ((a + b) / 2 - i) d) (by omega) p3 p2 (by omega)).1.1]; exact hzA
                   go_wp2_with fail
                   refine hcB.mono ?_; rintro e wB ⟨rfl, hsB⟩
                   have KB := hid (KA.out.trans hsB (by omega) hw1)
                   clear hsB hcB SB GB
                   obtain ⟨xB0, xB1⟩ := bx_cell hw KB.out
                   have h2 : (if a < i ∧ i < (a + b) / 2 then symM lt f a i ((a + b) / 2) (rot m (m - i) ((a + b) / 2 - i) d) else (rot m (m - i) ((a + b) / 2 - i) d)) = symM lt f a i ((a + b) / 2) (rot m (m - i) ((a + b) / 2 - i) d) := if_pos ⟨p3, p2⟩
                   go_wp2
                   go_end0
                   exact ⟨rfl, by rw [symM_gen hm hb1 HI.out h1 h2, if_neg (by omega)]; exact hSW.out.trans KB.out (by omega) hw⟩)
            · have p3i : ¬ (a : Int) < (i : Int) := by omega
              by_cases p4 : (a + b) / 2 + m - i < b
              · have p4i : ((a : Int) + b) / 2 + m - i < (b : Int) := by omega
                first
                | (exfalso; omega)
                | (have SA := hid (hS1.out.move HS.out hd)
                   have GA := hid (HS.out.holds hHH.out (by omega) hw1)
                   have hcA := rot_ok SA.out GA.out hd i m ((a + b) / 2 + m - i) p1 (by omega) (by omega)
                   simp only [e1, e2, e3, e4] at hcA
                   have hzA : (rot m (m - i) ((a + b) / 2 - i) d).size = n := by rw [(rot_spec 0 n _ m (m - i) ((a + b) / 2 - i) d rfl (by omega) (by omega) (by omega) (by omega) (by omega) (by omega)).1.1]; exact hd
                   go_wp2_with fail
                   refine hcA.mono ?_; rintro e wA ⟨rfl, hsA⟩
                   have KA := hid (HS.out.trans hsA (by omega) hw1)
                   clear hsA hcA SA GA
                   obtain ⟨xA0, xA1⟩ := bx_cell hw KA.out
                   have h1 : (if i < m ∧ m < (a + b) / 2 + m - i then rot m (m - i) ((a + b) / 2 - i) d else d) = rot m (m - i) ((a + b) / 2 - i) d := if_pos ⟨p1, by omega⟩
                   have h2 : (if a < i ∧ i < (a + b) / 2 then symM lt f a i ((a + b) / 2) (rot m (m - i) ((a + b) / 2 - i) d) else (rot m (m - i) ((a + b) / 2 - i) d)) = (rot m (m - i) ((a + b) / 2 - i) d) := if_neg (by omega)
                   have SC := hid (hS1.out.move KA.out hzA)
                   have GC := hid (KA.out.holds hHH.out (by omega) hw1)
                   have hcC := ih ((a + b) / 2) ((a + b) / 2 + m - i) b (rot m (m - i) ((a + b) / 2 - i) d) wA SC.out GC.out hzA (by omega) (by omega) p4 hbn
                   simp only [e1, e2, e3, e4] at hcC
                   have hzC : (symM lt f ((a + b) / 2) ((a + b) / 2 + m - i) b (rot m (m - i) ((a + b) / 2 - i) d)).size = n := by rw [(symM_spec hO f ((a + b) / 2) ((a + b) / 2 + m - i) b (rot m (m - i) ((a + b) / 2 - i) d) (by omega) (by omega) p4 (by omega)).1.1]; exact hzA
                   go_wp2_with fail
                   refine hcC.mono ?_; rintro e wC ⟨rfl, hsC⟩
                   have KC := hid (KA.out.trans hsC (by omega) hw1)
                   clear hsC hcC SC GC
                   obtain ⟨xC0, xC1⟩ := bx_cell hw KC.out
                   go_wp2
                   go_end0
                   exact ⟨rfl, by rw [symM_gen hm hb1 HI.out h1 h2, if_pos ⟨by omega, p4⟩]; exact hSW.out.trans KC.out (by omega) hw⟩)
              · have p4i : ¬ ((a : Int) + b) / 2 + m - i < (b : Int) := by omega
                first
                | (exfalso; omega)
                | (have SA := hid (hS1.out.move HS.out hd)
                   have GA := hid (HS.out.holds hHH.out (by omega) hw1)
                   have hcA := rot_ok SA.out GA.out hd i m ((a + b) / 2 + m - i) p1 (by omega) (by omega)
                   simp only [e1, e2, e3, e4] at hcA
                   have hzA : (rot m (m - i) ((a + b) / 2 - i) d).size = n := by rw [(rot_spec 0 n _ m (m - i) ((a + b) / 2 - i) d rfl (by omega) (by omega) (by omega) (by omega) (by omega) (by omega)).1.1]; exact hd
                   go_wp2_with fail
                   refine hcA.mono ?_; rintro e wA ⟨rfl, hsA⟩
                   have KA := hid (HS.out.trans hsA (by omega) hw1)
                   clear hsA hcA SA GA
                   obtain ⟨xA0, xA1⟩ := bx_cell hw KA.out
                   have h1 : (if i < m ∧ m < (a + b) / 2 + m - i then rot m (m - i) ((a + b) / 2 - i) d else d) = rot m (m - i) ((a + b) / 2 - i) d := if_pos ⟨p1, by omega⟩
                   have h2 : (if a < i ∧ i < (a + b) / 2 then symM lt f a i ((a + b) / 2) (rot m (m - i) ((a + b) / 2 - i) d) else (rot m (m - i) ((a + b) / 2 - i) d)) = (rot m (m - i) ((a + b) / 2 - i) d) := if_neg (by omega)
                   go_wp2
                   go_end0
                   exact ⟨rfl, by rw [symM_gen hm hb1 HI.out h1 h2, if_neg (by omega)]; exact hSW.out.trans KA.out (by omega) hw⟩)
          · have p2i : ¬ (m : Int) < ((a : Int) + b) / 2 + m - i := by omega
            have p2j : ¬ (i : Int) < ((a : Int) + b) / 2 := by omega
            by_cases p3 : a < i
            · have p3i : (a : Int) < (i : Int) := by omega
              by_cases p4 : (a + b) / 2 + m - i < b
              · have p4i : ((a : Int) + b) / 2 + m - i < (b : Int) := by omega
                first
                | (exfalso; omega)
                | (have h1 : (if i < m ∧ m < (a + b) / 2 + m - i then rot m (m - i) ((a + b) / 2 - i) d else d) = d := if_neg (by omega)
                   have h2 : (if a < i ∧ i < (a + b) / 2 then symM lt f a i ((a + b) / 2) d else d) = d := if_neg (by omega)
                   have SC := hid (hS1.out.move HS.out hd)
                   have GC := hid (HS.out.holds hHH.out (by omega) hw1)
                   have hcC := ih ((a + b) / 2) ((a + b) / 2 + m - i) b d wr SC.out GC.out hd (by omega) (by omega) p4 hbn
                   simp only [e1, e2, e3, e4] at hcC
                   have hzC : (symM lt f ((a + b) / 2) ((a + b) / 2 + m - i) b d).size = n := by rw [(symM_spec hO f ((a + b) / 2) ((a + b) / 2 + m - i) b d (by omega) (by omega) p4 (by omega)).1.1]; exact hd
                   go_wp2_with fail
                   refine hcC.mono ?_; rintro e wC ⟨rfl, hsC⟩
                   have KC := hid (HS.out.trans hsC (by omega) hw1)
                   clear hsC hcC SC GC
                   obtain ⟨xC0, xC1⟩ := bx_cell hw KC.out
                   go_wp2
                   go_end0
                   exact ⟨rfl, by rw [symM_gen hm hb1 HI.out h1 h2, if_pos ⟨by omega, p4⟩]; exact hSW.out.trans KC.out (by omega) hw⟩)
              · have p4i : ¬ ((a : Int) + b) / 2 + m - i < (b : Int) := by omega
                first
                | (exfalso; omega)
                | (have h1 : (if i < m ∧ m < (a + b) / 2 + m - i then rot m (m - i) ((a + b) / 2 - i) d else d) = d := if_neg (by omega)
                   have h2 : (if a < i ∧ i < (a + b) / 2 then symM lt f a i ((a + b) / 2) d else d) = d := if_neg (by omega)
                   go_wp2
                   go_end0
                   exact ⟨rfl, by rw [symM_gen hm hb1 HI.out h1 h2, if_neg (by omega)]; exact hSW.out.trans HS.out (by omega) hw⟩)
            · have p3i : ¬ (a : Int) < (i : Int) := by omega
              by_cases p4 : (a + b) / 2 + m - i < b
              · have p4i : ((a : Int) + b) / 2 + m - i < (b : Int) := by omega
                first
                | (exfalso; omega)
                | (have h1 : (if i < m ∧ m < (a + b) / 2 + m - i then rot m (m - i) ((a + b) / 2 - i) d else d) = d := if_neg (by omega)
                   have h2 : (if a < i ∧ i < (a + b) / 2 then symM lt f a i ((a + b) / 2) d else d) = d := if_neg (by omega)
                   have SC := hid (hS1.out.move HS.out hd)
                   have GC := hid (HS.out.holds hHH.out (by omega) hw1)
                   have hcC := ih ((a + b) / 2) ((a + b) / 2 + m - i) b d wr SC.out GC.out hd (by omega) (by omega) p4 hbn
                   simp only [e1, e2, e3, e4] at hcC
                   have hzC : (symM lt f ((a + b) / 2) ((a + b) / 2 + m - i) b d).size = n := by rw [(symM_spec hO f ((a + b) / 2) ((a + b) / 2 + m - i) b d (by omega) (by omega) p4 (by omega)).1.1]; exact hd
                   go_wp2_with fail
                   refine hcC.mono ?_; rintro e wC ⟨rfl, hsC⟩
                   have KC := hid (HS.out.trans hsC (by omega) hw1)
                   clear hsC hcC SC GC
                   obtain ⟨xC0, xC1⟩ := bx_cell hw KC.out
                   go_wp2
                   go_end0
                   exact ⟨rfl, by rw [symM_gen hm hb1 HI.out h1 h2, if_pos ⟨by omega, p4⟩]; exact hSW.out.trans KC.out (by omega) hw⟩)
              · have p4i : ¬ ((a : Int) + b) / 2 + m - i < (b : Int) := by omega
                first
                | (exfalso; omega)
                | (have h1 : (if i < m ∧ m < (a + b) / 2 + m - i then rot m (m - i) ((a + b) / 2 - i) d else d) = d := if_neg (by omega)
                   have h2 : (if a < i ∧ i < (a + b) / 2 then symM lt f a i ((a + b) / 2) d else d) = d := if_neg (by omega)
                   go_wp2
                   go_end0
                   exact ⟨rfl, by rw [symM_gen hm hb1 HI.out h1 h2, if_neg (by omega)]; exact hSW.out.trans HS.out (by omega) hw⟩)
        · have p1i : ¬ (i : Int) < (m : Int) := by omega
          have p1j : ¬ ((a : Int) + b) / 2 < ((a : Int) + b) / 2 + m - i := by omega
          by_cases p2 : i < (a + b) / 2
          · have p2i : (m : Int) < ((a : Int) + b) / 2 + m - i := by omega
            have p2j : (i : Int) < ((a : Int) + b) / 2 := by omega
            by_cases p3 : a < i
            · have p3i : (a : Int) < (i : Int) := by omega
              by_cases p4 : (a + b) / 2 + m - i < b
              · have p4i : ((a : Int) + b) / 2 + m - i < (b : Int) := by omega
                first
                | (exfalso; omega)
                | (have h1 : (if i < m ∧ m < (a + b) / 2 + m - i then rot m (m - i) ((a + b) / 2 - i) d else d) = d := if_neg (by omega)
                   have SB := hid (hS1.out.move HS.out hd)
                   have GB := hid (HS.out.holds hHH.out (by omega) hw1)
                   have hcB := ih a i ((a + b) / 2) d wr SB.out GB.out hd (by omega) p3 p2 (by omega)
                   simp only [e1, e2, e3, e4] at hcB
                   have hzB : (symM lt f a i ((a + b) / 2) d).size = n := by rw [(symM_spec hO f a i ((a + b) / 2) d (by omega) p3 p2 (by omega)).1.1]; exact hd
                   go_wp2_with fail
                   refine hcB.mono ?_; rintro e wB ⟨rfl, hsB⟩
                   have KB := hid (HS.out.trans hsB (by omega) hw1)
                   clear hsB hcB SB GB
                   obtain ⟨xB0, xB1⟩ := bx_cell hw KB.out
                   have h2 : (if a < i ∧ i < (a + b) / 2 then symM lt f a i ((a + b) / 2) d else d) = symM lt f a i ((a + b) / 2) d := if_pos ⟨p3, p2⟩
                   go_wp2
                   go_end0
                   exact ⟨rfl, by rw [symM_gen hm hb1 HI.out h1 h2, if_neg (by omega)]; exact hSW.out.trans KB.out (by omega) hw⟩)
              · have p4i : ¬ ((a : Int) + b) / 2 + m - i < (b : Int) := by omega
                first
                | (exfalso; omega)
                | (have h1 : (if i < m ∧ m < (a + b) / 2 + m - i then rot m (m - i) ((a + b) / 2 - i) d else d) = d := if_neg (by omega)
                   have SB := hid (hS1.out.move HS.out hd)
                   have GB := hid (HS.out.holds hHH.out (by omega) hw1)
                   have hcB := ih a i ((a + b) / 2) d wr SB.out GB.out hd (by omega) p3 p2 (by omega)
                   simp only [e1, e2, e3, e4] at hcB
                   have hzB : (symM lt f a i ((a + b) / 2) d).size = n := by rw [(symM_spec hO f a i ((a + b) / 2) d (by omega) p3 p2 (by omega)).1.1]; exact hd
                   go_wp2_with fail
                   refine hcB.mono ?_; rintro e wB ⟨rfl, hsB⟩
                   have KB := hid (HS.out.trans hsB (by omega) hw1)
                   clear hsB hcB SB GB
                   obtain ⟨xB0, xB1⟩ := bx_cell hw KB.out
                   have h2 : (if a < i ∧ i < (a + b) / 2 then symM lt f a i ((a + b) / 2) d else d) = symM lt f a i ((a + b) / 2) d := if_pos ⟨p3, p2⟩
                   go_wp2
                   go_end0
                   exact ⟨rfl, by rw [symM_gen hm hb1 HI.out h1 h2, if_neg (by omega)]; exact hSW.out.trans KB.out (by omega) hw⟩)
            · have p3i : ¬ (a : Int) < (i : Int) := by omega
              by_cases p4 : (a + b) / 2 + m - i < b
              · have p4i : ((a : Int) + b) / 2 + m - i < (b : Int) := by omega
                first
                | (exfalso; omega)
                | (have h1 : (if i < m ∧ m < (a + b) / 2 + m - i then rot m (m - i) ((a + b) / 2 - i) d else d) = d := if_neg (by omega)
                   have h2 : (if a < i ∧ i < (a + b) / 2 then symM lt f a i ((a + b) / 2) d else d) = d := if_neg (by omega)
                   go_wp2
                   go_end0
                   exact ⟨rfl, by rw [symM_gen hm hb1 HI.out h1 h2, if_neg (by omega)]; exact hSW.out.trans HS.out (by omega) hw⟩)
              · have p4i : ¬ ((a : Int) + b) / 2 + m - i < (b : Int) := by omega
                first
                | (exfalso; omega)
                | (have h1 : (if i < m ∧ m < (a + b) / 2 + m - i then rot m (m - i) ((a + b) / 2 - i) d else d) = d := if_neg (by omega)
                   have h2 : (if a < i ∧ i < (a + b) / 2 then symM lt f a i ((a + b) / 2) d else d) = d := if_neg (by omega)
                   go_wp2
                   go_end0
                   exact ⟨rfl, by rw [symM_gen hm hb1 HI.out h1 h2, if_neg (by omega)]; exact hSW.out.trans HS.out (by omega) hw⟩)
          · have p2i : ¬ (m : Int) < ((a : Int) + b) / 2 + m - i := by omega
            have p2j : ¬ (i : Int) < ((a : Int) + b) / 2 := by omega
            by_cases p3 : a < i
            · have p3i : (a : Int) < (i : Int) := by omega
              by_cases p4 : (a + b) / 2 + m - i < b
              · have p4i : ((a : Int) + b) / 2 + m - i < (b : Int) := by omega
                first
                | (exfalso; omega)
                | (have h1 : (if i < m ∧ m < (a + b) / 2 + m - i then rot m (m - i) ((a + b) / 2 - i) d else d) = d := if_neg (by omega)
                   have h2 : (if a < i ∧ i < (a + b) / 2 then symM lt f a i ((a + b) / 2) d else d) = d := if_neg (by omega)
                   go_wp2
                   go_end0
                   exact ⟨rfl, by rw [symM_gen hm hb1 HI.out h1 h2, if_neg (by omega)]; exact hSW.out.trans HS.out (by omega) hw⟩)
              · have p4i : ¬ ((a : Int) + b) / 2 + m - i < (b : Int) := by omega
                first
                | (exfalso; omega)
                | (have h1 : (if i < m ∧ m < (a + b) / 2 + m - i then rot m (m - i) ((a + b) / 2 - i) d else d) = d := if_neg (by omega)
                   have h2 : (if a < i ∧ i < (a + b) / 2 then symM lt f a i ((a + b) / 2) d else d) = d := if_neg (by omega)
                   go_wp2
                   go_end0
                   exact ⟨rfl, by rw [symM_gen hm hb1 HI.out h1 h2, if_neg (by omega)]; exact hSW.out.trans HS.out (by omega) hw⟩)
            · have p3i : ¬ (a : Int) < (i : Int) := by omega
              by_cases p4 : (a + b) / 2 + m - i < b
              · have p4i : ((a : Int) + b) / 2 + m - i < (b : Int) := by omega
                first
                | (exfalso; omega)
                | (have h1 : (if i < m ∧ m < (a + b) / 2 + m - i then rot m (m - i) ((a + b) / 2 - i) d else d) = d := if_neg (by omega)
                   have h2 : (if a < i ∧ i < (a + b) / 2 then symM lt f a i ((a + b) / 2) d else d) = d := if_neg (by omega)
                   go_wp2
                   go_end0
                   exact ⟨rfl, by rw [symM_gen hm hb1 HI.out h1 h2, if_neg (by omega)]; exact hSW.out.trans HS.out (by omega) hw⟩)
              · have p4i : ¬ ((a : Int) + b) / 2 + m - i < (b : Int) := by omega
                first
                | (exfalso; omega)
                | (have h1 : (if i < m ∧ m < (a + b) / 2 + m - i then rot m (m - i) ((a + b) / 2 - i) d else d) = d := if_neg (by omega)
                   have h2 : (if a < i ∧ i < (a + b) / 2 then symM lt f a i ((a + b) / 2) d else d) = d := if_neg (by omega)
                   go_wp2
                   go_end0
                   exact ⟨rfl, by rw [symM_gen hm hb1 HI.out h1 h2, if_neg (by omega)]; exact hSW.out.trans HS.out (by omega) hw⟩)
theorem sym_ok (hO : SWO lt) : ∀ f : Nat, SymOk Tryz.prog 79 g lb sf sb enc k lt blk off n f
  | 0 => fun a m b d w S hH hd hf ha hb hbn => by omega
  | f + 1 => fun a m b d w S hH hd hf ha hb hbn => by
    by_cases c1 : m - a = 1
    · exact sym_ok1 S hH hd f a m b c1 ha hb hbn
    · by_cases c2 : b - m = 1
      · exact sym_ok2 S hH hd f a m b c1 c2 ha hb hbn
      · exact sym_ok3 hO S hH hd f a m b hf c1 c2 ha hb hbn (sym_ok hO f)
theorem blk_go (n a : Nat) (d : Array α) (h : a + 20 ≤ n) : Zs.blk lt n (a + 20) (insertionSort lt d a (a + 20)) = Zs.blk lt n a d := by rw [Zs.blk.eq_def lt n a d, if_pos h]
theorem blk_end (n a : Nat) (d : Array α) (h : ¬ a + 20 ≤ n) : insertionSort lt d a n = Zs.blk lt n a d := by rw [Zs.blk.eq_def lt n a d, if_neg h]
theorem pas_go (bs n a : Nat) (d : Array α) (h : a + 2 * bs ≤ n) (hb : 0 < bs) : pas lt bs n (a + 2 * bs) (symM lt (2 * bs) a (a + bs) (a + 2 * bs) d) = pas lt bs n a d := by rw [pas.eq_def lt bs n a d, if_pos ⟨h, hb⟩]
theorem pas_last (bs n a : Nat) (d : Array α) (h : ¬ a + 2 * bs ≤ n) (hb : a + bs < n) : symM lt (n - a) a (a + bs) n d = pas lt bs n a d := by rw [pas.eq_def lt bs n a d, if_neg (by omega), if_pos hb]
theorem pas_end (bs n a : Nat) (d : Array α) (h : ¬ a + 2 * bs ≤ n) (hb : ¬ a + bs < n) : d = pas lt bs n a d := by rw [pas.eq_def lt bs n a d, if_neg (by omega), if_neg hb]
theorem mrg_go (n bs : Nat) (d : Array α) (h : bs < n) (hb : 0 < bs) : mrg lt n (2 * bs) (pas lt bs n 0 d) = mrg lt n bs d := by rw [mrg.eq_def lt n bs d, if_pos ⟨h, hb⟩]
theorem mrg_end (n bs : Nat) (d : Array α) (h : ¬ bs < n) : d = mrg lt n bs d := by rw [mrg.eq_def lt n bs d, if_neg (by omega)]
theorem ins_size (hO : SWO lt) {a b : Nat} {d : Array α} (hab : a ≤ b) (hb : b ≤ d.size) : (insertionSort lt d a b).size = d.size := (insertionSort_holds (lt := lt) hO d a b hab hb).1.1
theorem symM_size (hO : SWO lt) {f a m b : Nat} {d : Array α} (hf : b - a ≤ f) (ha : a < m) (hm : m < b) (hb : b ≤ d.size) : (symM lt f a m b d).size = d.size := (symM_spec hO f a m b d hf ha hm hb).1.1
theorem pas_size (hO : SWO lt) {bs n a : Nat} {d : Array α} (hbs : 0 < bs) (hn : n ≤ d.size) : (pas lt bs n a d).size = d.size := (pas_spec hO bs n hbs _ a d rfl hn).1.1
set_option maxHeartbeats 4000000 in
set_option maxRecDepth 100000 in
theorem stb_ok (hO : SWO lt) (S : SK Tryz.prog g lb sf sb enc k lt blk off n w) (hH : HoldsK enc k w blk off d) (hd : d.size = n) :
    Calls Tryz.prog 52 #[.agg #[.func (.func g) #[] lb, .func (.func sf) #[] sb], .int .i64 n] w fun e w' => e = .returned (.tuple #[]) ∧ Sw enc k blk off w (stab lt n d) w' := by
  have hsm := S.small
  obtain ⟨hw, hS1, hSW, hHH, hw1⟩ := boxed S hH hd
  clear S hH
  go_enter Tryz.func52, Tryz.ntmps52
  go_wp2
  go_loopw [5, 6] (fun va vb wr => ∃ (a : Nat) (dk : Array α), va = .int .i64 a ∧ vb = .int .i64 ((a : Int) + 20) ∧ a ≤ n ∧ dk.size = n ∧ Sw enc k blk off (BX g lb sf sb w) dk wr ∧ Zs.blk lt n a dk = Zs.blk lt n 0 d) (fun va _ _ => n + 20 - (intOf va).toNat)
  case atStart => exact ⟨0, d, by go_num, by go_num, Nat.zero_le _, hd, Sw.start hHH.out, rfl⟩
  case round =>
    obtain ⟨a, dk, rfl, rfl, han, hdk, hsw, he⟩ := hrel
    have HS := hid hsw
    have HE := hid he
    clear hsw he
    obtain ⟨c0, c1⟩ := bx_cell hw HS.out
    have SA := hid (hS1.out.move HS.out hdk)
    have GA := hid (HS.out.holds hHH.out (by omega) hw1)
    by_cases hlt : a + 20 ≤ n
    · have q1 : (a : Int) + 20 ≤ (n : Int) := by omega
      have hc := ins_ok SA.out GA.out hdk a (a + 20) (by omega) hlt
      rw [show (((a + 20 : Nat) : Int)) = (a : Int) + 20 by omega] at hc
      go_wp2_with fail
      refine hc.mono ?_; rintro e w1 ⟨rfl, hs1⟩
      have hz := ins_size (lt := lt) hO (a := a) (b := a + 20) (d := dk) (by omega) (by omega)
      have K1 := hid (HS.out.trans hs1 hz hw1)
      clear hs1 hc SA GA
      go_wp2
      exact ⟨⟨a + 20, _, by go_num, by first | (congr 1; done) | (congr 1; omega), hlt, by omega, K1.out, (blk_go n a dk hlt).trans HE.out⟩, by simp [intOf]; omega⟩
    · have q1 : ¬ (a : Int) + 20 ≤ (n : Int) := by omega
      have hc := ins_ok SA.out GA.out hdk a n han (Nat.le_refl _)
      have hz := ins_size (lt := lt) hO (a := a) (b := n) (d := dk) han (by omega)
      rw [blk_end n a dk hlt, HE.out] at hc hz
      go_wp2_with fail
      refine hc.mono ?_; rintro e w1 ⟨rfl, hs1⟩
      have K1 := hid (HS.out.trans hs1 hz hw1)
      clear hs1 hc SA GA HS HE c0 c1
      have hz1 : (Zs.blk lt n 0 d).size = n := by omega
      go_wp2
      go_loopw [4] (fun vb wr => ∃ (bs : Nat) (dj : Array α), vb = .int .i64 bs ∧ 0 < bs ∧ bs ≤ 2 * n + 20 ∧ dj.size = n ∧ Sw enc k blk off (BX g lb sf sb w) dj wr ∧ mrg lt n bs dj = mrg lt n 20 (Zs.blk lt n 0 d)) (fun vb _ => n + 20 - (intOf vb).toNat)
      case atStart => exact ⟨20, _, by go_num, by omega, by omega, hz1, K1.out, rfl⟩
      case round =>
        obtain ⟨bs, dj, rfl, hb0, hb1, hdj, hsw, he⟩ := hrel
        have HS := hid hsw
        have HE := hid he
        clear hsw he
        by_cases hlt2 : bs < n
        · have q2 : (bs : Int) < (n : Int) := by omega
          go_wp2
          go_loopw [5, 6] (fun va vb wr => ∃ (a : Nat) (dk : Array α), va = .int .i64 a ∧ vb = .int .i64 ((a : Int) + 2 * bs) ∧ a ≤ n ∧ dk.size = n ∧ Sw enc k blk off (BX g lb sf sb w) dk wr ∧ pas lt bs n a dk = pas lt bs n 0 dj) (fun va _ _ => n - (intOf va).toNat)
          case atStart => exact ⟨0, dj, by go_num, by go_num, Nat.zero_le _, hdj, HS.out, rfl⟩
          case round =>
            obtain ⟨a, dk, rfl, rfl, han, hdk, hsw, he⟩ := hrel
            have HT := hid hsw
            have HF := hid he
            clear hsw he
            obtain ⟨c0, c1⟩ := bx_cell hw HT.out
            have SA := hid (hS1.out.move HT.out hdk)
            have GA := hid (HT.out.holds hHH.out (by omega) hw1)
            by_cases hlt3 : a + 2 * bs ≤ n
            · have q3 : (a : Int) + 2 * bs ≤ (n : Int) := by omega
              have hc := sym_ok hO (2 * bs) a (a + bs) (a + 2 * bs) dk wr SA.out GA.out hdk (by omega) (by omega) (by omega) hlt3
              rw [show (((a + bs : Nat) : Int)) = (a : Int) + bs by omega, show (((a + 2 * bs : Nat) : Int)) = (a : Int) + 2 * bs by omega] at hc
              have hz := symM_size (lt := lt) hO (f := 2 * bs) (a := a) (m := a + bs) (b := a + 2 * bs) (d := dk) (by omega) (by omega) (by omega) (by omega)
              go_wp2_with fail
              refine hc.mono ?_; rintro e w1 ⟨rfl, hs1⟩
              have K2 := hid (HT.out.trans hs1 hz hw1)
              clear hs1 hc SA GA
              go_wp2
              exact ⟨⟨a + 2 * bs, _, by go_num, by first | (congr 1; done) | (congr 1; omega), hlt3, by omega, K2.out, (pas_go bs n a dk hlt3 hb0).trans HF.out⟩, by simp [intOf]; omega⟩
            · have q3 : ¬ (a : Int) + 2 * bs ≤ (n : Int) := by omega
              have hpz : (pas lt bs n 0 dj).size = n := by rw [pas_size hO hb0 (by omega)]; exact hdj
              by_cases hlt4 : a + bs < n
              · have q4 : (a : Int) + bs < (n : Int) := by omega
                have hc := sym_ok hO (n - a) a (a + bs) n dk wr SA.out GA.out hdk (by omega) (by omega) (by omega) (Nat.le_refl _)
                rw [show (((a + bs : Nat) : Int)) = (a : Int) + bs by omega, pas_last bs n a dk hlt3 hlt4, HF.out] at hc
                go_wp2_with fail
                refine hc.mono ?_; rintro e w1 ⟨rfl, hs1⟩
                have K2 := hid (HT.out.trans hs1 (by omega) hw1)
                clear hs1 hc SA GA
                go_wp2
                exact ⟨⟨2 * bs, _, by first | (congr 1; done) | (congr 1; omega), by omega, by omega, hpz, K2.out, (mrg_go n bs dj hlt2 hb0).trans HE.out⟩, by simp [intOf]; omega⟩
              · have q4 : ¬ (a : Int) + bs < (n : Int) := by omega
                have hdk2 := (pas_end (lt := lt) bs n a dk hlt3 hlt4).trans HF.out
                go_wp2
                exact ⟨⟨2 * bs, _, by first | (congr 1; done) | (congr 1; omega), by omega, by omega, hpz, by rw [← hdk2]; exact HT.out, (mrg_go n bs dj hlt2 hb0).trans HE.out⟩, by simp [intOf]; omega⟩
        · have q2 : ¬ (bs : Int) < (n : Int) := by omega
          go_wp2
          go_end0
          exact ⟨rfl, by unfold stab; rw [← HE.out, ← mrg_end n bs dj hlt2]; exact hSW.out.trans HS.out (by omega) hw⟩
end Go.Proofs.YtaecbmjmcpdgdaaGreat.Zs
