/- The law FnExactNewReads, walked over any two tapes' lists. -/
import Derived.Test.YtidjlboppokloaaNx
namespace Go.Proofs.Ytidjlboppokloaa
open Go.RowKit Ab
set_option linter.unusedVariables false
set_option linter.unusedSimpArgs false
set_option maxRecDepth 100000
set_option maxHeartbeats 8000000
theorem glFar {W w : World} {F : Nat → Prop} (h : GlR T W (fun _ => False)) (hb : Below W.heap.size W w) (hF : ∀ b, F b → W.heap.size ≤ b) : GlR T w F := h.move ⟨hb.size, fun b hb' _ => hb.block b hb'⟩ fun b hb' hi => Nat.not_le_of_lt hb' (hF b hi)
theorem DeepV.mk {T : Tab} {w w' : World} {F G : Nat → Prop} {e : TypeId} {v v' : Value} {rows : List (List D)} {ct : CT} {d : D} (h : DeepV T w G ct v' d) (hm : MkEnd T w w' F e v rows) (hd : ∀ b, G b → ¬ F b) : DeepV T w' G ct v' d := h.move fun b hb => hm.block b (h.lt b hb) (hd b hb)
theorem lawNR (mt : Int → ByteArray) (hmt : FOk Try.prog T 48 (spMT mt)) (W : World) (hL : GlR T W (fun _ => False)) {v0 v1 : Value} {a b : List (List D)} (R0 : RdR T W (fun _ => False) (.l 51) v0 (.l a)) (R1 : RdR T W (fun _ => False) (.l 51) v1 (.l b)) :
    Calls Try.prog 3 #[v0, v1] W fun e W' => e = .returned (.bool true) ∧ Below W.heap.size W W' := by
  obtain ⟨A0, n0, c0, rfl⟩ := R0.slice
  obtain ⟨A1, n1, c1, rfl⟩ := R1.slice
  have HL := Lib.hid hL
  have HR0 := Lib.hid R0
  have HR1 := Lib.hid R1
  clear hL R0 R1
  have H0 := Lib.hid (Below.refl W.heap.size W)
  go_enter Try.func3, Try.ntmps3
  go_wp2_with fail
  refine (szT HL.out HR0.out (l := 1048576) (by decide) (by decide)).mono ?_; rintro e w1 ⟨rfl, h1⟩
  have H1 := Lib.hid h1
  clear h1
  obtain ⟨na, hna⟩ : ∃ na, a.length + wRows a = na := ⟨_, rfl⟩
  rw [hna]
  by_cases hA : 1048576 < na
  · rw [szR_lt (show (1048576 : Int) < (na : Int) by omega)]
    go_wp2
    go_ret
    exact ⟨rfl, H1.out⟩
  rw [szR_ge (show (na : Int) ≤ 1048576 by omega)]
  have hl0 : 0 ≤ 1048576 - (na : Int) := by omega
  have hl1 : ¬ (1048576 - (na : Int) < 0) := by omega
  obtain ⟨la, hla⟩ : ∃ la, 1048576 - (na : Int) = la := ⟨_, rfl⟩
  rw [hla] at hl0 hl1 ⊢
  go_wp2_with fail
  refine (szT (HL.out.bel H1.out) (HR1.out.belV H1.out) (l := la) hl0 (by omega)).mono ?_; rintro e w2 ⟨rfl, h2⟩
  have H2 := Lib.hid (H1.out.trans (h2.mono H1.out.size))
  clear h2
  obtain ⟨nb, hnb⟩ : ∃ nb, b.length + wRows b = nb := ⟨_, rfl⟩
  rw [hnb]
  by_cases hB : la < nb
  · rw [szR_lt (show la < (nb : Int) by omega)]
    go_wp2
    go_ret
    exact ⟨rfl, H2.out⟩
  rw [szR_ge (show (nb : Int) ≤ la by omega)]
  have hm0 : ¬ (la - (nb : Int) < 0) := by omega
  have SA : a.length + wRows a ≤ 1048576 := by omega
  have SB : b.length + wRows b ≤ 1048576 := by omega
  have HSA := Lib.hid SA
  have HSB := Lib.hid SB
  clear SA SB hna hnb
  go_wp2_with fail
  refine (toT (HL.out.bel H2.out) (HR0.out.belV H2.out) HSA.out).mono ?_; rintro e w3 ⟨t3, G3, rfl, h3, d3, g3⟩
  obtain ⟨X3, y3, z3, rfl⟩ := (d3.shared (X' := fun _ => False) fun _ _ hx => hx).slice
  have DA := Lib.hid d3
  have H3 := Lib.hid (H2.out.trans (h3.mono H2.out.size))
  clear d3 g3
  go_wp2_with fail
  clear h3
  refine (toT (HL.out.bel H3.out) (HR1.out.belV H3.out) HSB.out).mono ?_; rintro e w4 ⟨t4, G4, rfl, h4, d4, g4⟩
  obtain ⟨X4, y4, z4, rfl⟩ := (d4.shared (X' := fun _ => False) fun _ _ hx => hx).slice
  have DB := Lib.hid d4
  have DA4 := Lib.hid (DA.out.belV h4)
  have H4 := Lib.hid (H3.out.trans (h4.mono H3.out.size))
  clear d4 g4 h4
  go_wp2_with fail
  refine (nrS (HL.out.bel H4.out) (DA4.out.shared fun _ _ hx => hx) (DB.out.shared fun _ _ hx => hx) HSA.out HSB.out).mono ?_; rintro e w5 ⟨t5, rfl, h5, s5⟩
  obtain ⟨X5, y5, z5, rfl⟩ := s5.slice
  have S5 := Lib.hid s5
  have H5 := Lib.hid (H4.out.trans (h5.mono H4.out.size))
  clear s5 h5
  go_wp2_with fail
  refine (toT (HL.out.bel H5.out) (HR0.out.belV H5.out) HSA.out).mono ?_; rintro e w6 ⟨t6, F0, rfl, h6, d6, g6⟩
  obtain ⟨X6, y6, z6, rfl⟩ := (d6.shared (X' := fun _ => False) fun _ _ hx => hx).slice
  have P6 := Lib.hid d6
  have L0 := Lib.hid g6
  have C6 := Lib.hid h6
  have H6 := Lib.hid (H5.out.trans (h6.mono H5.out.size))
  clear d6 g6 h6
  go_wp2_with fail
  refine (toT (HL.out.bel H6.out) (HR1.out.belV H6.out) HSB.out).mono ?_; rintro e w7 ⟨t7, F1, rfl, h7, d7, g7⟩
  obtain ⟨X7, y7, z7, rfl⟩ := (d7.shared (X' := fun _ => False) fun _ _ hx => hx).slice
  have Q7 := Lib.hid d7
  have L1 := Lib.hid g7
  have P7 := Lib.hid (P6.out.belV h7)
  have C7 := Lib.hid (C6.out.trans (h7.mono C6.out.size))
  have H7 := Lib.hid (H6.out.trans (h7.mono H6.out.size))
  clear d7 g7 h7
  go_wp2_with fail
  refine (nrI (HL.out.bel H7.out) (P7.out.shared fun _ _ hx => hx) (Q7.out.shared fun _ _ hx => hx) HSA.out HSB.out).mono ?_; rintro e w8 ⟨t8, F2, rfl, h8, d8, g8⟩
  obtain ⟨X8, y8, z8, rfl⟩ := (d8.shared (X' := fun _ => False) fun _ _ hx => hx).slice
  have V8 := Lib.hid d8
  have L2 := Lib.hid g8
  have P8 := Lib.hid (P7.out.belV h8)
  have Q8 := Lib.hid (Q7.out.belV h8)
  have C8 := Lib.hid (C7.out.trans (h8.mono C7.out.size))
  have H8 := Lib.hid (H7.out.trans (h8.mono H7.out.size))
  clear d8 g8 h8
  go_wp2_with fail
  refine (eqT (HL.out.bel H8.out) (V8.out.shared fun _ _ hx => hx) (S5.out.belV C8.out)).mono ?_; rintro e w9 ⟨rfl, h9⟩
  have P9 := Lib.hid (P8.out.belV h9)
  have Q9 := Lib.hid (Q8.out.belV h9)
  have V9 := Lib.hid (V8.out.belV h9)
  have C9 := Lib.hid (C8.out.trans (h9.mono C8.out.size))
  have H9 := Lib.hid (H8.out.trans (h9.mono H8.out.size))
  clear h9
  go_wp2_with fail
  refine (toT (HL.out.bel H9.out) (HR0.out.belV H9.out) HSA.out).mono ?_; rintro e w10 ⟨t10, G10, rfl, h10, d10, g10⟩
  obtain ⟨X10, y10, z10, rfl⟩ := (d10.shared (X' := fun _ => False) fun _ _ hx => hx).slice
  have E10 := Lib.hid d10
  have P10 := Lib.hid (P9.out.belV h10)
  have Q10 := Lib.hid (Q9.out.belV h10)
  have V10 := Lib.hid (V9.out.belV h10)
  have C10 := Lib.hid (C9.out.trans (h10.mono C9.out.size))
  have H10 := Lib.hid (H9.out.trans (h10.mono H9.out.size))
  clear h10
  clear d10 g10
  go_wp2_with fail
  refine (eqT (HL.out.bel H10.out) (P10.out.shared fun _ _ hx => hx) (E10.out.shared fun _ _ hx => hx)).mono ?_; rintro e w11 ⟨rfl, h11⟩
  have P11 := Lib.hid (P10.out.belV h11)
  have Q11 := Lib.hid (Q10.out.belV h11)
  have V11 := Lib.hid (V10.out.belV h11)
  have C11 := Lib.hid (C10.out.trans (h11.mono C10.out.size))
  have H11 := Lib.hid (H10.out.trans (h11.mono H10.out.size))
  clear h11
  go_wp2_with fail
  refine (toT (HL.out.bel H11.out) (HR1.out.belV H11.out) HSB.out).mono ?_; rintro e w12 ⟨t12, G12, rfl, h12, d12, g12⟩
  obtain ⟨X12, y12, z12, rfl⟩ := (d12.shared (X' := fun _ => False) fun _ _ hx => hx).slice
  have E12 := Lib.hid d12
  have P12 := Lib.hid (P11.out.belV h12)
  have Q12 := Lib.hid (Q11.out.belV h12)
  have V12 := Lib.hid (V11.out.belV h12)
  have C12 := Lib.hid (C11.out.trans (h12.mono C11.out.size))
  have H12 := Lib.hid (H11.out.trans (h12.mono H11.out.size))
  clear h12
  clear d12 g12
  go_wp2_with fail
  refine (eqT (HL.out.bel H12.out) (Q12.out.shared fun _ _ hx => hx) (E12.out.shared fun _ _ hx => hx)).mono ?_; rintro e w13 ⟨rfl, h13⟩
  have P13 := Lib.hid (P12.out.belV h13)
  have Q13 := Lib.hid (Q12.out.belV h13)
  have V13 := Lib.hid (V12.out.belV h13)
  have C13 := Lib.hid (C12.out.trans (h13.mono C12.out.size))
  have H13 := Lib.hid (H12.out.trans (h13.mono H12.out.size))
  clear h13
  have HWA := Lib.hid (cRows_wf P13.out.wf HSA.out)
  have HWB := Lib.hid (cRows_wf Q13.out.wf HSB.out)
  have HWR := Lib.hid (cRows_wf V13.out.wf (Nat.le_trans (newR_size a b) HSB.out))
  have f01 : ∀ x, F1 x → ¬ F0 x := fun x h1 h0 => Nat.not_le_of_lt (P6.out.lt x h0) (L1.out x h1)
  have f20 : ∀ x, F2 x → ¬ F0 x := fun x h1 h0 => Nat.not_le_of_lt (P7.out.lt x h0) (L2.out x h1)
  have f21 : ∀ x, F2 x → ¬ F1 x := fun x h1 h0 => Nat.not_le_of_lt (Q7.out.lt x h0) (L2.out x h1)
  have H01 := Lib.hid f01
  have H20 := Lib.hid f20
  have H21 := Lib.hid f21
  clear f01 f20 f21
  go_wp2_with fail
  refine (mk_10 mt hmt (wD (.l a) + 1) w13 F0 _ a (1) (by omega) (by have := HWA.out; have := HWB.out; have := HWR.out; omega) (Nat.lt_succ_self _) (glFar HL.out H13.out fun x hx => Nat.le_trans H5.out.size (L0.out x hx)) P13.out).mono ?_; rintro e w14 ⟨rfl, m14⟩
  have P14 := Lib.hid m14.deep
  have Q14 := Lib.hid (DeepV.mk Q13.out m14 H01.out)
  have V14 := Lib.hid (DeepV.mk V13.out m14 H20.out)
  have hk14 : 0 ≤ 1 + (cRows a : Int) := by omega
  have b14 := m14.belowV (B := w5.heap.size) (fun x hx => L0.out x hx) C13.out.size
  have C14 := Lib.hid (C13.out.trans b14)
  have H14 := Lib.hid (H13.out.trans (b14.mono H5.out.size))
  clear b14 m14
  go_wp2_with fail
  refine (mk_10 mt hmt (wD (.l b) + 1) w14 F1 _ b (1 + (cRows a : Int)) (by omega) (by have := HWA.out; have := HWB.out; have := HWR.out; omega) (Nat.lt_succ_self _) (glFar HL.out H14.out fun x hx => Nat.le_trans H5.out.size (Nat.le_trans C6.out.size (L1.out x hx))) Q14.out).mono ?_; rintro e w15 ⟨rfl, m15⟩
  have Q15 := Lib.hid m15.deep
  have V15 := Lib.hid (DeepV.mk V14.out m15 H21.out)
  have hk15 : ¬ (1 + (cRows a : Int) + (cRows b : Int) < 0) := by omega
  have b15 := m15.belowV (B := w5.heap.size) (fun x hx => Nat.le_trans C6.out.size (L1.out x hx)) C14.out.size
  have C15 := Lib.hid (C14.out.trans b15)
  have H15 := Lib.hid (H14.out.trans (b15.mono H5.out.size))
  clear b15 m15
  go_wp2_with fail
  refine (eqT (HL.out.bel H15.out) (V15.out.shared fun _ _ hx => hx) (S5.out.belV C15.out)).mono ?_; rintro e w16 ⟨rfl, h16⟩
  have V16 := Lib.hid (V15.out.belV h16)
  have C16 := Lib.hid (C15.out.trans (h16.mono C15.out.size))
  have H16 := Lib.hid (H15.out.trans (h16.mono H15.out.size))
  clear h16
  go_wp2_with fail
  refine (mk_10 mt hmt (wD (.l (newR a b)) + 1) w16 F2 _ (newR a b) (1) (by omega) (by have := HWA.out; have := HWB.out; have := HWR.out; omega) (Nat.lt_succ_self _) (glFar HL.out H16.out fun x hx => Nat.le_trans H5.out.size (Nat.le_trans C7.out.size (L2.out x hx))) V16.out).mono ?_; rintro e w17 ⟨rfl, m17⟩
  have V17 := Lib.hid m17.deep
  have b17 := m17.belowV (B := w5.heap.size) (fun x hx => Nat.le_trans C7.out.size (L2.out x hx)) C16.out.size
  have C17 := Lib.hid (C16.out.trans b17)
  have H17 := Lib.hid (H16.out.trans (b17.mono H5.out.size))
  clear b17 m17
  go_wp2_with fail
  have hcr : 1 + (cRows (newR a b) : Int) ≤ 4611686018427387904 := by have := HWR.out; omega
  have hc0 : ¬ (1 + (cRows (newR a b) : Int) < 0) := by omega
  refine (hdT (HL.out.bel H17.out) mt hmt V8.out.wf hcr (V17.out.shared fun _ _ hx => hx)).mono ?_; rintro e w18 ⟨rfl, h18⟩
  have V18 := Lib.hid (V17.out.belV h18)
  have C18 := Lib.hid (C17.out.trans (h18.mono C17.out.size))
  have H18 := Lib.hid (H17.out.trans (h18.mono H17.out.size))
  clear h18
  go_wp2_with fail
  refine (toT (HL.out.bel H18.out) (HR0.out.belV H18.out) HSA.out).mono ?_; rintro e w19 ⟨t19, G19, rfl, h19, d19, g19⟩
  obtain ⟨X19, y19, z19, rfl⟩ := (d19.shared (X' := fun _ => False) fun _ _ hx => hx).slice
  have E19 := Lib.hid d19
  have V19 := Lib.hid (V18.out.belV h19)
  have C19 := Lib.hid (C18.out.trans (h19.mono C18.out.size))
  have H19 := Lib.hid (H18.out.trans (h19.mono H18.out.size))
  clear h19
  clear d19 g19
  go_wp2_with fail
  refine (toT (HL.out.bel H19.out) (HR1.out.belV H19.out) HSB.out).mono ?_; rintro e w20 ⟨t20, G20, rfl, h20, d20, g20⟩
  obtain ⟨X20, y20, z20, rfl⟩ := (d20.shared (X' := fun _ => False) fun _ _ hx => hx).slice
  have E20 := Lib.hid d20
  have U20 := Lib.hid (E19.out.belV h20)
  have V20 := Lib.hid (V19.out.belV h20)
  have C20 := Lib.hid (C19.out.trans (h20.mono C19.out.size))
  have H20 := Lib.hid (H19.out.trans (h20.mono H19.out.size))
  clear h20
  clear d20 g20
  go_wp2_with fail
  refine (nrI (HL.out.bel H20.out) (U20.out.shared fun _ _ hx => hx) (E20.out.shared fun _ _ hx => hx) HSA.out HSB.out).mono ?_; rintro e w21 ⟨t21, G21, rfl, h21, d21, g21⟩
  obtain ⟨X21, y21, z21, rfl⟩ := (d21.shared (X' := fun _ => False) fun _ _ hx => hx).slice
  have E21 := Lib.hid d21
  have V21 := Lib.hid (V20.out.belV h21)
  have C21 := Lib.hid (C20.out.trans (h21.mono C20.out.size))
  have H21 := Lib.hid (H20.out.trans (h21.mono H20.out.size))
  clear h21
  clear d21 g21
  go_wp2_with fail
  refine (eqT (HL.out.bel H21.out) (E21.out.shared fun _ _ hx => hx) (S5.out.belV C21.out)).mono ?_; rintro e w22 ⟨rfl, h22⟩
  have V22 := Lib.hid (V21.out.belV h22)
  have C22 := Lib.hid (C21.out.trans (h22.mono C21.out.size))
  have H22 := Lib.hid (H21.out.trans (h22.mono H21.out.size))
  clear h22
  go_wp2_with fail
  refine (hdT (HL.out.bel H22.out) mt hmt V8.out.wf hcr (V22.out.shared fun _ _ hx => hx)).mono ?_; rintro e w23 ⟨rfl, h23⟩
  have H23 := Lib.hid (H22.out.trans (h23.mono H22.out.size))
  go_wp2
  go_ret
  exact ⟨rfl, H23.out⟩
end Go.Proofs.Ytidjlboppokloaa
