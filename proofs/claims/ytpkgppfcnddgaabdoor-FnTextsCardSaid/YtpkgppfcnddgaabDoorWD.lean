/- The walks of DecodeText, the reference's and the program's. -/
import Derived.Test.YtpkgppfcnddgaabDoorWC
import Derived.Test.YtpkgppfcnddgaabDoorPD
import Derived.WalkLawsBesides
namespace Go.Proofs.YtpkgppfcnddgaabDoor
open Go.ChangeShapes Go.WideShapes Go.ChangeAt Go.RowKit

theorem digit_any (c : UInt8) (w : World) : Calls Tryd.prog 16 #[.int .u8 (c.toNat : Int)] w fun e w' => e = .returned (.int .i64 (dg c : Int)) ∧ w = w' := by
  have hc := c.toNat_lt
  rcases (by omega : (48 ≤ c.toNat ∧ c.toNat ≤ 57) ∨ (97 ≤ c.toNat ∧ c.toNat ≤ 102) ∨ (c.toNat < 48 ∨ (57 < c.toNat ∧ c.toNat < 97) ∨ 102 < c.toNat)) with ⟨h1, h2⟩ | ⟨h1, h2⟩ | h
  · have hv : (dg c : Int) = (c.toNat : Int) - 48 := by unfold dg; rw [if_pos ⟨h1, h2⟩]; omega
    have HV := Lib.hid hv
    clear hv
    have h1' : (48 : Int) ≤ (c.toNat : Int) := by omega
    have h2' : (c.toNat : Int) ≤ 57 := by omega
    go_enter Tryd.func16, Tryd.ntmps16
    go_wp2
    go_ret
    exact ⟨by rw [HV.out]; rfl, rfl⟩
  · have hv : (dg c : Int) = (c.toNat : Int) - 97 + 10 := by unfold dg; rw [if_neg (by omega), if_pos ⟨h1, h2⟩]; omega
    have HV := Lib.hid hv
    clear hv
    have h1' : (97 : Int) ≤ (c.toNat : Int) := by omega
    have h2' : (c.toNat : Int) ≤ 102 := by omega
    go_enter Tryd.func16, Tryd.ntmps16
    go_wp2
    go_ret
    exact ⟨by rw [HV.out]; rfl, rfl⟩
  · have hv : (dg c : Int) = 0 := by unfold dg; rw [if_neg (by omega), if_neg (by omega)]; rfl
    have HV := Lib.hid hv
    clear hv
    rcases h with h | ⟨h, h'⟩ | h
    all_goals
      go_enter Tryd.func16, Tryd.ntmps16
      go_wp2
      go_ret
      exact ⟨by rw [HV.out]; rfl, rfl⟩

/-- EncodeText, either one, at every string. -/
theorem specEnc (s : ByteArray) (w : World) (hs : s.size ≤ 1048576) : Calls Tryd.prog 10 #[.string s] w fun e w' => e = .returned (.string ⟨(encS s.data.toList).toArray⟩) ∧ Below w.heap.size w w' := by
  cases hne : s.toList.isEmpty
  · refine (specEnc_full s w hs hne).mono fun e w' h => ⟨?_, h.2⟩
    rw [h.1, encS, if_neg]
    intro h0
    have : s.toList = [] := by rw [ByteArray.toList_eq]; exact h0
    simp [this] at hne
  · refine (specEnc_empty s w hne).mono fun e w' h => ⟨?_, h.2⟩
    have : s.data.toList = [] := by rw [← ByteArray.toList_eq]; simpa using hne
    rw [h.1, encS, if_pos this]
theorem implEnc (s : ByteArray) (w : World) (hs : s.size ≤ 1048576) : Calls Tryd.prog 9 #[.string s] w fun e w' => e = .returned (.string ⟨(encS s.data.toList).toArray⟩) ∧ Below w.heap.size w w' := by
  cases hne : s.toList.isEmpty
  · refine (implEnc_full s w hs hne).mono fun e w' h => ⟨?_, h.2⟩
    rw [h.1, encS, if_neg]
    intro h0
    have : s.toList = [] := by rw [ByteArray.toList_eq]; exact h0
    simp [this] at hne
  · refine (implEnc_empty s w hne).mono fun e w' h => ⟨?_, h.2⟩
    have : s.data.toList = [] := by rw [← ByteArray.toList_eq]; simpa using hne
    rw [h.1, encS, if_pos this]
theorem row_back (l : List UInt8) (w : World) (base g n cap : Nat) (hn : l.length = n) (h : w.ownsRow base 5 1 (.slice (some ⟨g, 0, none⟩) n cap) n (bytesV l)) :
    (convert 25 9 (.slice (some ⟨g, 0, none⟩) n cap)).run Tryd.prog w = .ok (.string ⟨l.toArray⟩) w := by
  subst hn
  exact run_convert_bytes_back (P := Tryd.prog) w 25 9 5 ⟨g, 0, none⟩ cap l Tryd.underlying25 Tryd.underlying5 Tryd.underlying9 (fun j hj => by
    have ha : (⟨g, 0, none⟩ : Addr).add j = ⟨g, j, none⟩ := by unfold Addr.add; split <;> simp_all
    rw [ha, h.cellAt j (by omega)]
    simp [bytesV, hj])
theorem own_below {w w' : World} {base size n : Nat} {e : TypeId} {v : Value} {xs : List Value} (h : w.ownsRow base e size v n xs) (hb : Below w.heap.size w w') : w'.ownsRow base e size v n xs := by
  refine ⟨h.1, ?_⟩
  rcases h.2 with h0 | ⟨g, cap, cur, hv, hg, hh, r⟩
  · exact .inl h0
  · refine .inr ⟨g, cap, cur, hv, hg, (hb.block g ?_).trans hh, r⟩
    rcases Nat.lt_or_ge g w.heap.size with h' | h'
    · exact h'
    · rw [Array.getElem?_eq_none h'] at hh; cases hh
theorem pair_snoc (s : ByteArray) (j : Nat) (hj : j % 2 = 0) (h : j + 1 < s.size) :
    bytesV (pairs (s.data.toList.take j)) ++ [(.int .u8 (16 * (dg s[j] : Int) + (dg s[j + 1] : Int)))] = bytesV (pairs (s.data.toList.take (j + 2))) := by
  have h1 := dg_le s[j]
  have h2 := dg_le s[j + 1]
  rw [pairs_step s j hj h]
  unfold bytesV
  rw [List.map_append]
  congr 1
  simp only [List.map_cons, List.map_nil, List.cons.injEq, and_true]
  congr 1
  rw [UInt8.toNat_ofNat', Nat.mod_eq_of_lt (by omega)]
  omega

set_option maxHeartbeats 1000000 in
theorem specDec (s : ByteArray) (w : World) (hs : s.size ≤ 1048576) :
    Calls Tryd.prog 5 #[.string s] w fun e w' => e = .returned (.tuple #[.string ⟨(decR s.data.toList).1.toArray⟩, .bool (decR s.data.toList).2]) ∧ Below w.heap.size w w' := by
  obtain ⟨i0, hi, hz0, hz1, hz2⟩ := info_parts info_u8
  go_enter Tryd.func5, Tryd.ntmps5
  go_wp2_with fail
  go_loopw [4, 5] (fun v i wr => ∃ j g cap : Nat, j ≤ s.size ∧ j % 2 = 0 ∧ i = .int .i64 j ∧ v = .slice (some ⟨g, 0, none⟩) (j / 2) cap ∧ wr.ownsRow w.heap.size 5 1 (.slice (some ⟨g, 0, none⟩) (j / 2) cap) (j / 2) (bytesV (pairs (s.data.toList.take j))) ∧ Below w.heap.size w wr) (fun _ i _ => s.size - (intOf i).toNat)
  case atStart => exact ⟨0, _, _, Nat.zero_le _, rfl, rfl, rfl, ⟨rfl, .inr ⟨_, 0, #[], rfl, Nat.le_refl _, heap_alloc_new w _, Nat.le_refl _, by simp [maxLen], rfl, rfl⟩⟩, firstB _ _⟩
  case round =>
    obtain ⟨j, g, cap, hj, hj2, rfl, rfl, hown, hbel⟩ := hrel
    have HJ := Lib.hid hj2
    clear hj2
    by_cases hlt : j + 1 < s.size
    · have hj1 : j < s.size := by omega
      have d1 := dg_le (s[j]'hj1)
      have d2 := dg_le (s[j + 1]'hlt)
      have q0 : (0 : Int) ≤ (j : Int) := by omega
      have q1 : (j : Int) < (s.size : Int) := by omega
      have q2 : (0 : Int) ≤ (j : Int) + 1 := by omega
      have q3 : (j : Int) + 1 < (s.size : Int) := by omega
      have q4 : IntKind.i64.wrap ((j : Int) + 1) = (j : Int) + 1 := IntWalk.i64_in _ (by omega)
      have q5 : IntKind.i64.wrap (16 * (dg (s[j]'hj1) : Int)) = 16 * (dg (s[j]'hj1) : Int) := IntWalk.i64_in _ (by omega)
      have q6 : IntKind.i64.wrap (16 * (dg (s[j]'hj1) : Int) + (dg (s[j + 1]'hlt) : Int)) = 16 * (dg (s[j]'hj1) : Int) + (dg (s[j + 1]'hlt) : Int) := IntWalk.i64_in _ (by omega)
      have q7 : IntKind.u8.wrap (16 * (dg (s[j]'hj1) : Int) + (dg (s[j + 1]'hlt) : Int)) = 16 * (dg (s[j]'hj1) : Int) + (dg (s[j + 1]'hlt) : Int) := IntWalk.u8_in _ (by omega)
      have hsz := hbel.size
      have HE := Lib.hid (pair_snoc s j HJ.out hlt)
      go_wp2_with fail
      go_region_held3 (fun _ => True) (trivial) (first | (go_at_call 16; refine (digit_any _ _).mono ?_; rintro e w' ⟨rfl, rfl⟩) | (refine step_append_lies _ (by rfl) _ _ _ (by rfl) w.heap.size 5 i0 _ 1 1 Tryd.underlying25 hi hz0 hz1 hz2 rfl (by omega) (.slice (some ⟨g, 0, none⟩) (j / 2) cap) (j / 2) (bytesV (pairs (s.data.toList.take j))) (by rfl) ((hown.alloc _).drew) ⟨wr.heap.size, 0, none⟩ 1 1 [(.int .u8 (16 * (dg (s[j]'hj1) : Int) + (dg (s[j + 1]'hlt) : Int)))] (by rfl) (by rfl) (World.news_of_block (cs := #[(.int .u8 (16 * (dg (s[j]'hj1) : Int) + (dg (s[j + 1]'hlt) : Int)))]) (t := 5) (fr := (0, 0)) (heap_alloc_new wr _)) (by simp [Value.oneCell']) (by omega) (by unfold maxLen; omega) (by omega) (by simp; omega) (wr.heap.size + 1) (by simp) ?_; intro gg cap' w1 hown1 hgrow hat hlt1))
      clear q4 q5 q6 q7
      go_wp2
      all_goals
        go_roundw
        · exact ⟨j + 2, gg, cap', by omega, by have := HJ.out; omega, by go_num, by rw [show (j + 2) / 2 = j / 2 + 1 by omega], by have h := hown1; rw [HE.out] at h; rw [show (j + 2) / 2 = j / 2 + 1 by omega]; exact h, ((hbel.alloc hsz _).drew).grown hgrow (by simp; omega) (own_ge hown)⟩
        · simp [intOf]; omega
    · have hl : s.data.toList.length = s.size := by simp
      rw [pairs_end s.data.toList j HJ.out (by omega) (by omega)] at hown
      have hpl : (pairs s.data.toList).length = j / 2 := by
        have := HJ.out
        rw [pairs_length, hl]; omega
      have hps : (⟨(pairs s.data.toList).toArray⟩ : ByteArray).size ≤ 1048576 := by
        show (pairs s.data.toList).toArray.size ≤ _
        rw [List.size_toArray]; omega
      have hpt : (⟨(pairs s.data.toList).toArray⟩ : ByteArray).data.toList = pairs s.data.toList := rfl
      by_cases hm : s.data.toList = [45]
      · have hs1 : s = ⟨#[45]⟩ := by
          cases s with
          | mk d => cases d with | mk l => simp at hm; subst hm; rfl
        subst hs1
        clear hown hpl hps hpt hl
        have hca : ∀ W : World, (convert 25 9 (.slice (some ⟨wr.heap.size, 0, none⟩) 0 0)).run Tryd.prog W = .ok (.string ⟨#[]⟩) W := fun W =>
          run_convert_bytes_back (P := Tryd.prog) W 25 9 5 ⟨wr.heap.size, 0, none⟩ 0 [] Tryd.underlying25 Tryd.underlying5 Tryd.underlying9 (fun j hj => absurd hj (by simp))
        go_wp2_with fail
        refine (specEnc_empty _ _ (by rw [ByteArray.toList_eq]; rfl)).mono ?_; rintro e w1 ⟨rfl, hb1⟩
        go_wp2
        go_ret2
        exact ⟨rfl, stepB (allocB hbel _) hb1⟩
      · have hm' : (s.toList == [45]) = false := by rw [ByteArray.toList_eq]; simpa using hm
        have hc := row_back _ wr _ _ _ _ hpl hown
        have HO := Lib.hid hown
        have HPL := Lib.hid hpl
        clear hown hpl hm
        by_cases he : encS (pairs s.data.toList) = s.data.toList
        · have HR := Lib.hid (show decR s.data.toList = (pairs s.data.toList, true) by unfold decR; rw [if_pos he])
          have hq : (encS (pairs s.data.toList) == s.toList) = true := by rw [ByteArray.toList_eq]; simpa using he
          clear he
          generalize pairs s.data.toList = P at *
          go_wp2_with fail
          refine (specEnc _ _ hps).mono ?_; rintro e w1 ⟨rfl, hb1⟩
          have hc1 := row_back _ w1 _ _ _ _ HPL.out (own_below HO.out hb1)
          go_wp2
          go_ret2
          exact ⟨by rw [HR.out]; rfl, stepB hbel hb1⟩
        · have HR := Lib.hid (show decR s.data.toList = ([], false) by unfold decR; rw [if_neg he])
          have hq : (encS (pairs s.data.toList) == s.toList) = false := by rw [ByteArray.toList_eq]; simpa using he
          clear he
          generalize pairs s.data.toList = P at *
          go_wp2_with fail
          refine (specEnc _ _ hps).mono ?_; rintro e w1 ⟨rfl, hb1⟩
          go_wp2
          go_ret2
          exact ⟨by rw [HR.out]; rfl, stepB hbel hb1⟩
end Go.Proofs.YtpkgppfcnddgaabDoor
