/- The walks of the draws of texts. -/
import Derived.Test.YtpkgppfcnddgaabDoorDraw
import Derived.Test.YtpkgppfcnddgaabDoorWD
namespace Go.Proofs.YtpkgppfcnddgaabDoor
open Go.ChangeShapes Go.WideShapes Go.ChangeAt Go.RowKit

theorem grown_trans {w w' w'' : World} {r : Option Nat} (h : w.grownBy w' r) (h' : w'.grownBy w'' r) : w.grownBy w'' r :=
  ⟨h'.os.trans h.os, h'.tape.trans h.tape, h'.output.trans h.output, Nat.le_trans h.size h'.size, fun k hk hn => (h'.block k (Nat.lt_of_lt_of_le hk h.size) hn).trans (h.block k hk hn)⟩
theorem grown_below {B : Nat} {w w' : World} {g : Nat} (h : w.grownBy w' (some g)) (hB : B ≤ g) (hw : B ≤ w.heap.size) : Below B w w' := (Below.refl B w).grown h hw (by intro k hk; have := Option.some.inj hk; omega)
theorem grown_alloc (w : World) (o : Obj) (r : Option Nat) : w.grownBy (w.alloc o) r :=
  ⟨rfl, rfl, rfl, by simp, fun k hk _ => Below.heap_alloc w o k hk⟩
theorem Cur.alloc {w : World} {g : Nat} {A : Option Addr} {n c : Nat} (h : Cur w g A n c) (o : Obj) : Cur (w.alloc o) g A n c := by
  have hlt := h.lt
  obtain ⟨k, x, hk, hg⟩ := h
  exact ⟨k, x, hk, (Below.heap_alloc w o g hlt).trans hg⟩
theorem Cur.below {w w' : World} {g : Nat} {A : Option Addr} {n c : Nat} (h : Cur w g A n c) (hb : Below w.heap.size w w') : Cur w' g A n c := by
  have hlt := h.lt
  obtain ⟨k, x, hk, hg⟩ := h
  exact ⟨k, x, hk, (hb.block g hlt).trans hg⟩
def TextOut (m : Nat) (w : World) (g : Nat) (A : Option Addr) (n c : Nat) (e : Ending) (w' : World) : Prop := ∃ s : ByteArray, e = .returned (.string s) ∧ s.size ≤ m ∧ Cur w' g A n c ∧ w.grownBy w' (some g)
def rawTexts : List ByteArray := [⟨#[]⟩, ⟨#[97]⟩, ⟨#[97, 98]⟩, ⟨#[97, 32, 98]⟩, ⟨#[0, 255]⟩, ⟨#[45]⟩, ⟨#[126]⟩]
def sumTexts : List ByteArray := [⟨#[]⟩, ⟨#[97]⟩, ⟨#[49, 50, 51, 52, 53, 54, 55, 56, 57]⟩, ⟨#[104, 101, 108, 108, 111, 32, 119, 111, 114, 108, 100]⟩, ⟨#[0, 255]⟩]
def turnTexts : List ByteArray := [⟨#[48]⟩, ⟨#[65]⟩, ⟨#[45]⟩, ⟨#[103]⟩, ⟨#[54, 49]⟩]
theorem rawTexts_le : ∀ s ∈ rawTexts, s.size ≤ 8 := by decide
theorem sumTexts_le : ∀ s ∈ sumTexts, s.size ≤ 16 := by decide
theorem turnTexts_le : ∀ s ∈ turnTexts, s.size ≤ 8 := by decide
theorem raw_any (A : Option Addr) (n c g B : Nat) (l : List UInt8) (w : World) (hn : n ≤ 1048576) (hb : IsBytes w B A n l) (hB : B ≤ g) (hC : Cur w g A n c) (hBw : B ≤ w.heap.size) :
    Calls Tryd.prog 18 #[.pointer (some ⟨g, 0, none⟩)] w (TextOut 8 w g A n c) := by
  have hlt := hC.lt
  have HC := Lib.hid hC
  have HBB := Lib.hid hb
  clear hC hb
  go_enter Tryd.func18, Tryd.ntmps18
  go_wp2_with fail
  refine (pick_any rawTexts w.heap.size 7 rfl A n c g B l _ (by decide) (by decide) hn (HBB.out.below (Below.alloc (Below.refl _ _) hBw _)) hB (HC.out.alloc _) (texts_at w rawTexts _) (by omega) (by simp)).mono ?_
  rintro e w1 ⟨s, rfl, hm, hC1, hg1⟩
  have H := Lib.hid (And.intro (rawTexts_le s hm) (And.intro hC1 hg1))
  clear hm hC1 hg1
  go_wp2
  go_ret
  exact ⟨s, rfl, H.out.1, H.out.2.1, grown_trans (grown_alloc _ _ _) H.out.2.2⟩
def StrOut (m : Nat) (w : World) (e : Ending) (w' : World) : Prop := ∃ s : ByteArray, e = .returned (.string s) ∧ s.size ≤ m ∧ Below w.heap.size w w'
theorem drawEnc_any (A : Option Addr) (n c : Nat) (l : List UInt8) (w : World) (hn : n ≤ 1048576) (hb : IsBytes w w.heap.size A n l) :
    Calls Tryd.prog 8 #[.slice A n c] w (StrOut 8 w) := by
  have HBB := Lib.hid hb
  clear hb
  go_enter Tryd.func8, Tryd.ntmps8
  go_wp2_with fail
  refine (new_any A n c l _ hn HBB.out).mono ?_; rintro e w1 ⟨g, rfl, hg, hC1, hb1⟩
  go_wp2_with fail
  refine (raw_any A n c g w.heap.size l _ hn (HBB.out.below hb1) hg hC1 hb1.size).mono ?_; rintro e w2 ⟨s, rfl, hs, hC2, hg2⟩
  have H := Lib.hid (And.intro hs (hb1.trans (grown_below hg2 hg hb1.size)))
  clear hs hC2 hg2 hb1 hC1
  go_wp2
  go_ret
  exact ⟨s, rfl, H.out.1, H.out.2⟩
theorem drawSum_any (A : Option Addr) (n c : Nat) (l : List UInt8) (w : World) (hn : n ≤ 1048576) (hb : IsBytes w w.heap.size A n l) :
    Calls Tryd.prog 12 #[.slice A n c] w (StrOut 16 w) := by
  have HBB := Lib.hid hb
  clear hb
  go_enter Tryd.func12, Tryd.ntmps12
  go_wp2_with fail
  refine (new_any A n c l _ hn HBB.out).mono ?_; rintro e w1 ⟨g, rfl, hg, hC1, hb1⟩
  have hlt := hC1.lt
  have HC := Lib.hid hC1
  have HB1 := Lib.hid hb1
  have hsz := hb1.size
  clear hC1 hb1
  go_wp2_with fail
  refine (pick_any sumTexts w1.heap.size 5 rfl A n c g w.heap.size l _ (by decide) (by decide) hn (HBB.out.below (HB1.out.trans (Below.alloc (Below.refl _ _) hsz _))) hg (HC.out.alloc _) (texts_at w1 sumTexts _) (by omega) (by simp)).mono ?_
  rintro e w2 ⟨s, rfl, hm, hC2, hg2⟩
  have H := Lib.hid (And.intro (sumTexts_le s hm) ((HB1.out.alloc hsz _).trans (grown_below hg2 hg (by simp; omega))))
  clear hm hC2 hg2
  go_wp2
  go_ret
  exact ⟨s, rfl, H.out.1, H.out.2⟩
end Go.Proofs.YtpkgppfcnddgaabDoor
