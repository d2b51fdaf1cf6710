/- The walks of the draw of a turned text, and of at0. -/
import Derived.Test.YtpkgppfcnddgaabDoorDraw2
import Derived.Deep.RegionWith
namespace Go.Proofs.YtpkgppfcnddgaabDoor
open Go.ChangeShapes Go.WideShapes Go.ChangeAt Go.RowKit

theorem IsBytes.keep_drew {w : World} {B : Nat} {A : Option Addr} {n : Nat} {l : List UInt8} (h : IsBytes w B A n l) : IsBytes w.drew B A n l := h
set_option maxHeartbeats 1000000 in
theorem turned_any (s : ByteArray) (ss : List ByteArray) (hle : ∀ p ∈ ss, p.size ≤ 8) (bl N : Nat) (hN : ss.length = N) (A : Option Addr) (n c g B : Nat) (l : List UInt8) (w : World) (hs : s.size ≤ 100) (hm0 : 0 < N) (hm1 : N ≤ 256) (hn : n ≤ 1048576) (hb : IsBytes w B A n l) (hB : B ≤ g) (hBw : B ≤ w.heap.size) (hC : Cur w g A n c)
    (hss : ∀ k (h : k < ss.length), w.cell? ⟨bl, k, none⟩ = some (.string ss[k])) (hbg : bl ≠ g) (hbl : bl < w.heap.size) :
    Calls Tryd.prog 21 #[.pointer (some ⟨g, 0, none⟩), .string s, .slice (some ⟨bl, 0, none⟩) N N] w (TextOut (s.size + 8) w g A n c) := by
  have HC := Lib.hid hC
  have HBB := Lib.hid hb
  have HS := Lib.hid hss
  have HLE := Lib.hid hle
  have HN := Lib.hid hN
  clear hC hb hss hle hN
  go_enter Tryd.func21, Tryd.ntmps21
  go_wp2_with fail
  refine (below_any ((s.size : Int) + 1) A n c g B l _ (by omega) (by omega) hn HBB.out hB HC.out).mono ?_; rintro e w1 ⟨x, rfl, hx0, hx1, hC1, hg1⟩
  obtain ⟨j, rfl⟩ := Int.eq_ofNat_of_zero_le hx0
  have hj : j ≤ s.size := by omega
  have H1 := Lib.hid hg1
  have HC1 := Lib.hid hC1
  clear hC1 hg1
  go_wp2_with fail
  refine (below_any 6 A n c g B l _ (by omega) (by omega) hn (HBB.out.grown H1.out hB hBw) hB HC1.out).mono ?_; rintro e w2 ⟨y, rfl, hy0, hy1, hC2, hg2⟩
  have H2 := Lib.hid (grown_trans H1.out hg2)
  have HC2 := Lib.hid hC2
  clear hC2 hg2
  have hsz2 := H2.out.size
  by_cases h0 : y = 0
  · subst h0
    have q1 : (0 : Int) ≤ (j : Int) := by omega
    have q2 : (j : Int) ≤ (s.size : Int) := by omega
    have z1 : (s.extract 0 j).size ≤ 100 := by simp; omega
    have z2 : (s.extract j s.size).size ≤ 100 := by simp; omega
    have hss2 : ∀ k (h : k < ss.length), w2.cell? ⟨bl, k, none⟩ = some (.string ss[k]) := fun k h => (H2.out.cell_far ⟨bl, k, none⟩ hbl (by intro e; exact hbg (Option.some.inj e))).trans (HS.out k h)
    have HS2 := Lib.hid hss2
    clear hss2
    have HP : Hid (Calls Tryd.prog 22 #[.pointer (some ⟨g, 0, none⟩), .slice (some ⟨bl, 0, none⟩) N N] w2.drew (PickOut ss w2.drew g A n c)) :=
      pick_any ss bl N HN.out A n c g B l w2.drew hm0 hm1 hn ((HBB.out.grown H2.out hB hBw).keep_drew) hB HC2.out HS2.out hbg (Nat.lt_of_lt_of_le hbl hsz2)
    go_wp2_with fail
    go_region_with (go_at_call 22; refine HP.out.mono ?_; rintro e w3 ⟨p, rfl, hpm, hC3, hg3⟩; have hp8 := HLE.out p hpm)
    all_goals go_wp2
    all_goals go_ret
    all_goals exact ⟨_, rfl, by simp only [ByteArray.size_append, ByteArray.size_extract]; omega, hC3, grown_trans H2.out (w' := w2) ⟨hg3.os, hg3.tape, hg3.output, hg3.size, hg3.block⟩⟩
  · by_cases h1 : y = 1
    · subst h1
      go_wp2
      go_ret
      exact ⟨_, rfl, by simp; omega, HC2.out, H2.out⟩
    · have b0 : (y == 0) = false := by rw [beq_eq_false_iff_ne]; exact h0
      have b1 : (y == 1) = false := by rw [beq_eq_false_iff_ne]; exact h1
      clear h0 h1
      go_wp2
      go_ret
      exact ⟨s, rfl, by omega, HC2.out, H2.out⟩
theorem drawDec_any (A : Option Addr) (n c : Nat) (l : List UInt8) (w : World) (hn : n ≤ 1048576) (hb : IsBytes w w.heap.size A n l) :
    Calls Tryd.prog 11 #[.slice A n c] w (StrOut 40 w) := by
  have HBB := Lib.hid hb
  clear hb
  go_enter Tryd.func11, Tryd.ntmps11
  go_wp2_with fail
  refine (new_any A n c l _ hn HBB.out).mono ?_; rintro e w1 ⟨g, rfl, hg, hC1, hb1⟩
  have HC1 := Lib.hid hC1
  have HB1 := Lib.hid hb1
  have hsz1 := hb1.size
  clear hC1 hb1
  go_wp2_with fail
  refine (raw_any A n c g w.heap.size l _ hn (HBB.out.below HB1.out) hg HC1.out hsz1).mono ?_; rintro e w2 ⟨s, rfl, hs, hC2, hg2⟩
  have HB2 := Lib.hid (HB1.out.trans (grown_below hg2 hg hsz1))
  have HC2 := Lib.hid hC2
  clear hC2 hg2
  go_wp2_with fail
  refine (specEnc s _ (by omega)).mono ?_; rintro e w3 ⟨rfl, hb3⟩
  have hsz3 := hb3.size
  have HB3 := Lib.hid (HB2.out.trans (hb3.mono HB2.out.size))
  have HC3 := Lib.hid (HC2.out.below hb3)
  have hlt3 := HC3.out.lt
  have hsz := HB3.out.size
  clear hb3
  have hel : (⟨(encS s.data.toList).toArray⟩ : ByteArray).size ≤ 16 := by
    show (encS s.data.toList).toArray.size ≤ 16
    rw [List.size_toArray, encS]
    split
    · simp
    · rw [Lib.Hx.encode_length]; simp; omega
  generalize (⟨(encS s.data.toList).toArray⟩ : ByteArray) = q at *
  go_wp2_with fail
  refine (turned_any q turnTexts turnTexts_le w3.heap.size 5 rfl A n c g w.heap.size l _ (by omega) (by decide) (by decide) hn (HBB.out.below (HB3.out.alloc hsz _)) hg (by simp; omega) (HC3.out.alloc _) (texts_at w3 turnTexts _) (by omega) (by simp)).mono ?_
  rintro e w4 ⟨p, rfl, hp, hC4, hg4⟩
  have H := Lib.hid ((HB3.out.alloc hsz _).trans (grown_below hg4 hg (by simp; omega)))
  clear hC4 hg4
  go_wp2
  go_ret
  exact ⟨p, rfl, by omega, H.out⟩
def at0v (l : List UInt8) (i : Nat) : Int := if i < l.length then ((l[i]?.getD 0).toNat : Int) else ((i : Int) * 7 + l.length) % 256
theorem at0v_in (l : List UInt8) (i : Nat) : 0 ≤ at0v l i ∧ at0v l i ≤ 255 := by
  unfold at0v
  split
  · have := (l[i]?.getD 0).toNat_lt; omega
  · omega
theorem at0_any (i : Nat) (A : Option Addr) (n c B : Nat) (l : List UInt8) (w : World) (hi : i ≤ 10) (hn : n ≤ 1048576) (hb : IsBytes w B A n l) :
    Calls Tryd.prog 15 #[.slice A n c, .int .i64 i] w fun e w' => e = .returned (.int .i64 (at0v l i)) ∧ w = w' := by
  have hl := hb.1
  by_cases h : i < n
  · obtain ⟨ad, rfl, hs, hbk, hcell⟩ := hb.2 (by omega)
    obtain ⟨b, off, spot⟩ := ad
    have hs' : spot = none := hs
    subst hs'
    have hkl : i < l.length := by omega
    have hcx := hcell i hkl
    rw [addr_add] at hcx
    have hv : at0v l i = ((l[i]'hkl).toNat : Int) := by unfold at0v; rw [if_pos hkl, List.getElem?_eq_getElem hkl]; rfl
    have hvl := (l[i]'hkl).toNat_lt
    generalize (l[i]'hkl).toNat = v at *
    have HV := Lib.hid hv
    clear hcell hs hb hv hl
    go_enter Tryd.func15, Tryd.ntmps15
    go_wp2
    go_ret
    exact ⟨by rw [HV.out]; rfl, rfl⟩
  · have hv : at0v l i = ((i : Int) * 7 + n) % 256 := by unfold at0v; rw [if_neg (by omega), hl]
    have HV := Lib.hid hv
    clear hb hv hl
    go_enter Tryd.func15, Tryd.ntmps15
    go_wp2
    go_ret
    exact ⟨by rw [HV.out]; rfl, rfl⟩
end Go.Proofs.YtpkgppfcnddgaabDoor
