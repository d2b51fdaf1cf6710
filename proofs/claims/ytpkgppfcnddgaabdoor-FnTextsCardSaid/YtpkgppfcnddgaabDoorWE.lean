/- The walk of the program's DecodeText. -/
import Derived.Test.YtpkgppfcnddgaabDoorWD
namespace Go.Proofs.YtpkgppfcnddgaabDoor
open Go.ChangeShapes Go.WideShapes Go.ChangeAt Go.RowKit

/-- What the library's decoding hands back, for a text that can be made of it later. -/
theorem hexDec (s : ByteArray) (w : World) (ev : Value) (hE : w.cell? ⟨0, 0, none⟩ = some ev) (hbig : s.size ≤ 1048576) :
    Calls Tryd.prog 17 #[.string s] w fun e w' => e = .returned (.tuple #[.slice (some ⟨w.heap.size, 0, none⟩) (Lib.Hx.decode s.data.toList).1.length (s.size / 2), Lib.Hx.errVal 51 ev (Lib.Hx.decode s.data.toList).2]) ∧
      (∀ W, Below w'.heap.size w' W → (convert 25 9 (.slice (some ⟨w.heap.size, 0, none⟩) (Lib.Hx.decode s.data.toList).1.length (s.size / 2))).run Tryd.prog W = .ok (.string ⟨(Lib.Hx.decode s.data.toList).1.toArray⟩) W) ∧ Below w.heap.size w w' := by
  refine (Tryd.hex_DecodeString s w ev hE (by omega)).mono fun e w' ⟨he, hr, hb⟩ => ⟨he, fun W hW => ?_, hb⟩
  refine run_convert_bytes_back (P := Tryd.prog) W 25 9 5 ⟨w.heap.size, 0, none⟩ _ _ Tryd.underlying25 Tryd.underlying5 Tryd.underlying9 (fun j hj => ?_)
  have hl := Lib.Hx.decode_len s.data.toList
  have hsz : s.data.toList.length = s.size := by simp
  have ha : (⟨w.heap.size, 0, none⟩ : Addr).add j = ⟨w.heap.size, j, none⟩ := by unfold Addr.add; split <;> simp_all
  have hlt : w.heap.size < w'.heap.size := by
    obtain ⟨c, hc, _⟩ := hr
    rcases Nat.lt_or_ge w.heap.size w'.heap.size with h | h
    · exact h
    · rw [Array.getElem?_eq_none h] at hc; cases hc
  rw [ha, hW.cell (p := ⟨w.heap.size, j, none⟩) hlt, hr.cell (by omega)]
  unfold Lib.Hx.rowP
  rw [if_pos (by omega), Nat.sub_zero, List.getElem?_eq_getElem hj]
  rfl
theorem implDec_dash (w : World) : Calls Tryd.prog 6 #[.string ⟨#[45]⟩] w fun e w' => e = .returned (.tuple #[.string ⟨#[]⟩, .bool true]) ∧ Below w.heap.size w w' := by
  go_enter Tryd.func6, Tryd.ntmps6
  go_wp2
  go_ret2
  exact ⟨rfl, Below.refl _ _⟩
theorem implDec_err (s : ByteArray) (w : World) (u : TypeId) (x : Value) (hE : w.cell? ⟨0, 0, none⟩ = some (.iface u x)) (hs : s.size ≤ 1048576) (hm : ¬ s.data.toList = [45]) (ho : isOk (Lib.Hx.decode s.data.toList).2 = false) :
    Calls Tryd.prog 6 #[.string s] w fun e w' => e = .returned (.tuple #[.string ⟨#[]⟩, .bool false]) ∧ Below w.heap.size w w' := by
  have hm' : (s.toList == [45]) = false := by rw [ByteArray.toList_eq]; simpa using hm
  have hx := hexDec s w _ hE hs
  obtain ⟨u', x', hu⟩ : ∃ u' x', Lib.Hx.errVal 51 (.iface u x) (Lib.Hx.decode s.data.toList).2 = .iface u' x' := by
    revert ho
    cases (Lib.Hx.decode s.data.toList).2 with
    | ok => intro h; cases h
    | bad c => intro _; exact ⟨_, _, rfl⟩
    | odd => intro _; exact ⟨_, _, rfl⟩
  rw [hu] at hx
  have HX := Lib.hid hx
  clear hx hu hE
  go_enter Tryd.func6, Tryd.ntmps6
  go_wp2_with fail
  refine HX.out.mono ?_; rintro e w1 ⟨rfl, _, hb1⟩
  go_wp2
  go_ret2
  exact ⟨rfl, hb1⟩
theorem implDec_ok (s : ByteArray) (w : World) (u : TypeId) (x : Value) (hE : w.cell? ⟨0, 0, none⟩ = some (.iface u x)) (hs : s.size ≤ 1048576) (hm : ¬ s.data.toList = [45]) (ho : isOk (Lib.Hx.decode s.data.toList).2 = true) :
    Calls Tryd.prog 6 #[.string s] w fun e w' => e = .returned (.tuple #[.string ⟨(decI s.data.toList).1.toArray⟩, .bool (decI s.data.toList).2]) ∧ Below w.heap.size w w' := by
  have hm' : (s.toList == [45]) = false := by rw [ByteArray.toList_eq]; simpa using hm
  have hx := hexDec s w _ hE hs
  have hu : Lib.Hx.errVal 51 (.iface u x) (Lib.Hx.decode s.data.toList).2 = .nilIface := by
    revert ho
    cases (Lib.Hx.decode s.data.toList).2 with
    | ok => intro _; rfl
    | bad c => intro h; cases h
    | odd => intro h; cases h
  rw [hu] at hx
  have hl := Lib.Hx.decode_len s.data.toList
  have hsz : s.data.toList.length = s.size := by simp
  have hps : (⟨(Lib.Hx.decode s.data.toList).1.toArray⟩ : ByteArray).size ≤ 1048576 := by
    show (Lib.Hx.decode s.data.toList).1.toArray.size ≤ _
    rw [List.size_toArray]; omega
  have hpt : (⟨(Lib.Hx.decode s.data.toList).1.toArray⟩ : ByteArray).data.toList = (Lib.Hx.decode s.data.toList).1 := rfl
  have hd : decI s.data.toList = if encS (Lib.Hx.decode s.data.toList).1 = s.data.toList then ((Lib.Hx.decode s.data.toList).1, true) else ([], false) := by
    unfold decI
    rw [if_neg hm]
    simp only [ho, true_and]
  generalize (Lib.Hx.decode s.data.toList).1 = P at *
  have HX := Lib.hid hx
  clear hx hu hE hl hsz ho
  by_cases he : encS P = s.data.toList
  · have HR := Lib.hid (hd.trans (if_pos he))
    have hq : (encS P == s.toList) = true := by rw [ByteArray.toList_eq]; simpa using he
    clear he hm hd
    go_enter Tryd.func6, Tryd.ntmps6
    go_wp2_with fail
    refine HX.out.mono ?_; rintro e w1 ⟨rfl, hcv, hb1⟩
    have HC := Lib.hid hcv
    have hc1 := hcv w1 (Below.refl _ _)
    clear hcv
    go_wp2_with fail
    refine (implEnc _ _ hps).mono ?_; rintro e w2 ⟨rfl, hb2⟩
    have hc2 := HC.out w2 hb2
    go_wp2
    go_ret2
    exact ⟨by rw [HR.out]; rfl, stepB hb1 hb2⟩
  · have HR := Lib.hid (hd.trans (if_neg he))
    have hq : (encS P == s.toList) = false := by rw [ByteArray.toList_eq]; simpa using he
    clear he hm hd
    go_enter Tryd.func6, Tryd.ntmps6
    go_wp2_with fail
    refine HX.out.mono ?_; rintro e w1 ⟨rfl, hcv, hb1⟩
    have hc1 := hcv w1 (Below.refl _ _)
    clear hcv
    go_wp2_with fail
    refine (implEnc _ _ hps).mono ?_; rintro e w2 ⟨rfl, hb2⟩
    go_wp2
    go_ret2
    exact ⟨by rw [HR.out]; rfl, stepB hb1 hb2⟩
theorem implDec (s : ByteArray) (w : World) (u : TypeId) (x : Value) (hE : w.cell? ⟨0, 0, none⟩ = some (.iface u x)) (hs : s.size ≤ 1048576) :
    Calls Tryd.prog 6 #[.string s] w fun e w' => e = .returned (.tuple #[.string ⟨(decR s.data.toList).1.toArray⟩, .bool (decR s.data.toList).2]) ∧ Below w.heap.size w w' := by
  rw [← dec_same]
  by_cases hm : s.data.toList = [45]
  · have hs1 : s = ⟨#[45]⟩ := by
      cases s with
      | mk d => cases d with | mk l => simp at hm; subst hm; rfl
    subst hs1
    exact implDec_dash w
  · cases ho : isOk (Lib.Hx.decode s.data.toList).2
    · have hd : decI s.data.toList = ([], false) := by
        unfold decI
        rw [if_neg hm, if_neg (by rw [ho]; simp)]
      rw [hd]
      exact implDec_err s w u x hE hs hm ho
    · exact implDec_ok s w u x hE hs hm ho
theorem decLaw (s : ByteArray) (w : World) (u : TypeId) (x : Value) (hE : w.cell? ⟨0, 0, none⟩ = some (.iface u x)) (hm : s.size ≤ maxLen) :
    Calls Tryd.prog 3 #[.string s] w fun e w' => e = .returned (.bool true) ∧ Below w.heap.size w w' := by
  unfold maxLen at hm
  by_cases hs : s.size ≤ 1048576
  · have hlt : 0 < w.heap.size := World.block_lt_of_cell? w _ hE
    go_enter Tryd.func3, Tryd.ntmps3
    go_wp2_with fail
    refine (specDec _ _ hs).mono ?_; rintro e w1 ⟨rfl, hb1⟩
    have hE1 : w1.cell? ⟨0, 0, none⟩ = some (.iface u x) := (hb1.cell (p := ⟨0, 0, none⟩) hlt).trans hE
    go_wp2_with fail
    refine (implDec _ _ _ _ hE1 hs).mono ?_; rintro e w2 ⟨rfl, hb2⟩
    go_wp2
    go_ret
    exact ⟨rfl, stepB hb1 hb2⟩
  · go_enter Tryd.func3, Tryd.ntmps3
    go_wp2
    go_ret
    exact ⟨rfl, Below.refl _ _⟩
end Go.Proofs.YtpkgppfcnddgaabDoor
