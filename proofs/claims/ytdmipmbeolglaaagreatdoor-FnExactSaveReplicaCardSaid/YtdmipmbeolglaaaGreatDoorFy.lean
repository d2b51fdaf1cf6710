/- Stores of many operations in plain Lean: sizes, and a description of the functions that write them. No program in sight. -/
import Derived.Test.YtdmipmbeolglaaaGreatDoorLv
namespace Go.Proofs.YtdmipmbeolglaaaGreatDoor.Ab
open Go.RowKit
set_option linter.unusedVariables false
theorem opText_n {a : List D} (hs : SmO a) (hg : goodOp a = true) : (joinT (strsOf (opWordsTo a (rds a).length)) ⟨#[32]⟩).size ≤ ((a.getD 3 default).rows.length + 16 + 5 * (rds a).length) * 2097154 := by
  have hl : (strsOf (opWordsTo a (rds a).length)).length = (a.getD 3 default).rows.length + 16 + 5 * (rds a).length := by rw [strsOf, List.length_map, opWordsTo_length (Nat.le_refl _)]
  simp only [goodOp, Bool.and_eq_true] at hg
  have hw : ∀ r ∈ opWordsTo a (rds a).length, wordOk 2097153 r := by
    have nums : ∀ r ∈ opNumsTo a (rds a).length, (itoaB (intOf r)).size ≤ 2097153 := fun r hr => Nat.le_trans (itoaB_small (List.all_eq_true.1 hg.2.1 r hr)) (by decide)
    have enc : ∀ s : ByteArray, s.size ≤ 1048576 → (encB s).size ≤ 2097153 := fun s h => by have := encB_size s; omega
    have n14 : (itoaB (a.getD 14 default).int).size ≤ 2097153 := nums (numI (a.getD 14 default).int) (by simp [opNumsTo, ints])
    have n15 : (itoaB (a.getD 15 default).int).size ≤ 2097153 := nums (numI (a.getD 15 default).int) (by simp [opNumsTo, ints])
    have nl : (itoaB ((rds a).length : Int)).size ≤ 2097153 := Nat.le_trans (itoaB_small (by have := hs.2.1; simp only [inR, Bool.and_eq_true, decide_eq_true_eq]; omega)) (by decide)
    intro r hr
    unfold opWordsTo opWords2 opWords1 at hr
    rcases List.mem_append.1 hr with hr | hr
    · rcases List.mem_append.1 hr with hr | hr
      · rcases List.mem_append.1 hr with hr | hr
        · obtain ⟨x, hx, rfl⟩ := List.mem_map.1 hr
          exact nums x (by unfold opNumsTo; exact List.mem_append_left _ (List.mem_append_left _ hx))
        · simp only [List.mem_cons, List.not_mem_nil, or_false] at hr
          rcases hr with rfl | rfl | rfl | rfl
          · exact enc _ hs.2.2.1.1
          · exact enc _ hs.2.2.1.2.1
          · exact enc _ hs.2.2.1.2.2.1
          · exact enc _ hs.2.2.1.2.2.2
      · simp only [List.mem_cons, List.not_mem_nil, or_false] at hr
        rcases hr with rfl | rfl | rfl
        · exact n14
        · exact n15
        · exact nl
    · rw [List.take_length] at hr
      obtain ⟨x, hx, hr⟩ := List.mem_flatMap.1 hr
      have hgx := List.all_eq_true.1 hg.1 x hx
      obtain ⟨i, hi, he⟩ := List.mem_iff_getElem.1 hx
      have hb := hs.2.2.2 i hi
      rw [show (rds a).getD i [] = x by rw [List.getD_eq_getElem?_getD, List.getElem?_eq_getElem hi, he]; rfl] at hb
      have hin : ∀ j, j = 0 ∨ j = 1 ∨ j = 2 → (itoaB (x.getD j default).int).size ≤ 2097153 := fun j hj => nums (numI (x.getD j default).int) (by
        unfold opNumsTo
        refine List.mem_append_right _ ?_
        rw [List.take_length]
        refine List.mem_flatMap.2 ⟨x, hx, ?_⟩
        rcases hj with rfl | rfl | rfl <;> simp [rdNums, ints])
      simp only [rdWords, List.mem_cons, List.not_mem_nil, or_false] at hr
      rcases hr with rfl | rfl | rfl | rfl | rfl
      · exact hin 0 (.inl rfl)
      · exact hin 1 (.inr (.inl rfl))
      · exact hin 2 (.inr (.inr rfl))
      · exact enc _ hb.1
      · exact enc _ (Nat.le_trans (fmtVal_size (goodRd_val hgx) (goodRd_kind hgx)) (by decide))
  have := joinT_len (xs := strsOf (opWordsTo a (rds a).length)) (sep := ⟨#[32]⟩) (M := 2097153) (fun x hx => by
    obtain ⟨r, hr, rfl⟩ := List.mem_map.1 hx
    exact hw r hr)
  rw [hl] at this
  exact this
theorem opText_w0 {a : List D} (hw : wRow a ≤ 1048576) (hg : goodOp a = true) : (joinT (strsOf (opWordsTo a (rds a).length)) ⟨#[32]⟩).size ≤ (6 * wRow a + 16) * 2097154 := by
  have h3 := wRows_cell a 3
  have h16 := wRows_cell a 16
  have hr : (rds a).length ≤ wRow a := by unfold rds; omega
  exact Nat.le_trans (opText_n (smO hw) hg) (Nat.mul_le_mul (by omega) (Nat.le_refl _))
theorem opText_w {a : List D} (hw : wRow a ≤ 1048576) : (opText a).size ≤ (6 * wRow a + 16) * 2097154 := by
  unfold opText
  split
  · rename_i hg
    exact opText_w0 hw hg
  · exact Nat.zero_le _
def dkTo (g : List D → ByteArray) (rows : List (List D)) (i : Nat) : ByteArray := (rows.take i).foldl (fun d r => wrD (g r) d 0) ⟨#[]⟩
theorem dkTo_zero (g : List D → ByteArray) (rows : List (List D)) : dkTo g rows 0 = ⟨#[]⟩ := rfl
theorem dkTo_next {g : List D → ByteArray} {rows : List (List D)} {i : Int} (h0 : 0 ≤ i) (hi : i < rows.length) : dkTo g rows (i + 1).toNat = wrD (g (rows.getD i.toNat [])) (dkTo g rows i.toNat) 0 := by
  have e : (i + 1).toNat = i.toNat + 1 := by omega
  unfold dkTo
  rw [e, List.take_add_one, row_at h0 hi, List.foldl_append]
  rfl
/-- What each operation's text takes. -/
def GW (g : List D → ByteArray) : Prop := ∀ r, wRow r ≤ 1048576 → (g r).size ≤ 35651618 * (1 + wRow r)
theorem wrD_size {t d : ByteArray} {n : Int} : (wrD t d n).size ≤ d.size + t.size := by
  unfold wrD
  split
  · rw [ByteArray.size_append]; exact Nat.le_refl _
  · omega
theorem dkTo_size {g : List D → ByteArray} (hg : GW g) {rows : List (List D)} (hw : wRows rows ≤ 1048576) : ∀ k, k ≤ rows.length → (dkTo g rows k).size ≤ 35651618 * (k + wRows (rows.take k))
  | 0, _ => Nat.zero_le _
  | k + 1, hk => by
    have ih := dkTo_size hg hw k (by omega)
    have h1 := dkTo_next (g := g) (rows := rows) (i := (k : Int)) (by omega) (by omega)
    have h2 := wRows_next (a := rows) (i := (k : Int)) (by omega) (by omega)
    have h3 := wRow_le (a := rows) (k := k) (by omega)
    have e : ((k : Int) + 1).toNat = k + 1 := by omega
    rw [e, Int.toNat_natCast] at h1 h2
    have h4 := hg (rows.getD k []) (by omega)
    have h5 := wrD_size (t := g (rows.getD k [])) (d := dkTo g rows k) (n := 0)
    rw [h1, h2]
    omega
theorem dkTo_le {g : List D → ByteArray} (hg : GW g) {rows : List (List D)} (hw : rows.length + wRows rows ≤ 1048576) {k : Nat} (hk : k ≤ rows.length) : (dkTo g rows k).size ≤ 37383430995968 := by
  have h1 := dkTo_size hg (rows := rows) (by omega) k hk
  have h2 := wRows_le rows k
  omega
theorem rec_w (a : List D) (hw : wRow a ≤ 1048576) : (recT (opText a)).size ≤ 35651618 * (1 + wRow a) := by
  have h1 := opText_w hw
  have h2 := recT_le (t := opText a)
  omega
def spSv (T : Tab) (cts : List CT) (g : List D → ByteArray) : FSpec where
  pre args := ∃ a : List D, WfRow T cts a ∧ (a.getD 1 default).rows.length + wRows (a.getD 1 default).rows ≤ 1048576 ∧ args = [argG cts a]
  res args := match args with
    | [.val _ [_, .sl _ _ rows]] => .val true [.s (dkTo g rows rows.length), .i .i64 (dkTo g rows rows.length).size]
    | _ => .none
theorem size_inK {x : ByteArray} (h : x.size ≤ maxLen) : inK .i64 (x.size : Int) := by
  have h1 : IntKind.i64.min = -9223372036854775808 := by decide
  have h2 : IntKind.i64.max = 9223372036854775807 := by decide
  simp only [maxLen] at h
  rw [inK, h1, h2]
  omega
theorem snapD (f : ByteArray → Int → Snap) {d d' : ByteArray} {a b : Int} (h : d = d') (h2 : a = b) : f d a = f d' b := by rw [h, h2]
theorem resSv {g : List D → ByteArray} {rows : List (List D)} {i : Int} (h1 : 0 ≤ i) (h2 : i ≤ rows.length) (h : decide (i < (rows.length : Int)) = false) : [CV.s (dkTo g rows i.toNat), CV.i .i64 (dkTo g rows i.toNat).size] = [CV.s (dkTo g rows rows.length), CV.i .i64 (dkTo g rows rows.length).size] := by
  have : ¬ i < (rows.length : Int) := of_decide_eq_false h
  rw [show i.toNat = rows.length by omega]
end Go.Proofs.YtdmipmbeolglaaaGreatDoor.Ab
