/- Stores of replicas: printed by a program of this claim. -/
import Derived.Test.YtdmipmbeolglaaaGreatDoorFy
import Derived.Test.YtdmipmbeolglaaaGreatDoorFx
namespace Go.Proofs.YtdmipmbeolglaaaGreatDoor.Ab
open Go.RowKit
set_option linter.unusedVariables false
set_option linter.unusedSimpArgs false
set_option maxRecDepth 100000
set_option maxHeartbeats 1000000
/-- spec.SaveReplica -/
theorem ok20 (g : List D → ByteArray) (hg : GW g) (hwr : FOk Tryz.prog T 15 (spWr T [.s, .i .i64] [.i .i64, .i .i64, .i .i64, .l 3, .i .i64, .i .i64, .i .i64, .i .i64, .i .i64, .s, .s, .i .i64, .s, .s, .i .i64, .i .i64, .l 74] SmO g)) : FOk Tryz.prog T 20 (spSv T [.i .i64, .l 37] g) := by
  refine fok (env := envL [(15, (spWr T [.s, .i .i64] [.i .i64, .i .i64, .i .i64, .l 3, .i .i64, .i .i64, .i .i64, .i .i64, .i .i64, .s, .s, .i .i64, .s, .s, .i .i64, .i .i64, .l 74] SmO g)), (51, (spStS T [.s, .i .i64]))]) (N := 25) tabT (envL_cons hwr (envL_cons ok51 envL_nil)) mixed Tryz.func20 rfl Tryz.call20 Tryz.ntmps20 ?_
  rintro args ⟨a, wa, hw, rfl⟩ hwf
  refine ⟨by simp, ?_⟩
  clear hwf
  have wR : WfD T (.l 37) (.l (a.getD 1 default).rows) := wa.rows (j := 1) rfl
  have lr : (a.getD 1 default).rows.length ≤ maxLen := wR.len
  have hdk : ∀ k, k ≤ (a.getD 1 default).rows.length → (dkTo g (a.getD 1 default).rows k).size ≤ 37383430995968 := fun k hk => dkTo_le hg hw hk
  rw [Tryz.results20]
  repeat' first
    | (refine And.intro ?_ ?_)
    | (intro h)
  all_goals first
    | (show lowEdges _ = true; kernel_rfl) | (show logOk _ _ = true; kernel_rfl) | exact True.intro | exact Or.inr rfl
    | skip
  refine awp_loop (Q := _) [1, 2, 3, 4] [1, 2, 3] (fun n s => ∃ i : Int, s = ([.ptr 1 1 0, .ptr 2 1 0, .ptr 3 1 0, .val false [.i .i64 i]], [(1, (rowC [.i .i64, .l 37] a).map fun c => .val false [c]), (1, [.val false [.s ByteArray.empty], .val false [.i .i64 0]]), (1, [.val false [.s (dkTo g (a.getD 1 default).rows i.toNat)], .val false [.i .i64 0]])]) ∧ 0 ≤ i ∧ i ≤ (a.getD 1 default).rows.length ∧ n = (a.getD 1 default).rows.length - i.toNat) ?_ ?_
  · exact ⟨rfl, (a.getD 1 default).rows.length - 0, 0, rfl, by omega, by omega, rfl⟩
  rintro n s ⟨i, rfl, h1, h2, h3⟩
  have hd := hdk i.toNat (by omega)
  repeat' first
    | (refine And.intro ?_ ?_)
    | (intro h)
  all_goals first
    | (show lowEdges _ = true; kernel_rfl) | (show logOk _ _ = true; kernel_rfl) | exact True.intro | exact Or.inr rfl
    | omega
    | exact of_decide_eq_true ‹_›
    | (have hi : i < ((a.getD 1 default).rows.length : Int) := of_decide_eq_true ‹decide (i < ((a.getD 1 default).rows.length : Int)) = true›
       have wr : WfRow T [.i .i64, .i .i64, .i .i64, .l 3, .i .i64, .i .i64, .i .i64, .i .i64, .i .i64, .s, .s, .i .i64, .s, .s, .i .i64, .i .i64, .l 74] ((a.getD 1 default).rows.getD i.toNat []) := wR.row rfl (by omega)
       have hwr2 := wRow_le (a := (a.getD 1 default).rows) (k := i.toNat) (by omega)
       first
         | exact ⟨[.s (dkTo g (a.getD 1 default).rows i.toNat), .i 0], _, wf_st (by simp only [maxLen]; omega) ⟨by decide, by decide⟩, wr, smO (by omega), (show (dkTo g (a.getD 1 default).rows i.toNat).size ≤ 70368744177664 by omega), rfl⟩
         | (refine ⟨(a.getD 1 default).rows.length - (i + 1).toNat, by omega, i + 1, ?_, by omega, by omega, rfl⟩
            have e1 : wrD (g (csD (rowC [.i .i64, .i .i64, .i .i64, .l 3, .i .i64, .i .i64, .i .i64, .i .i64, .i .i64, .s, .s, .i .i64, .s, .s, .i .i64, .i .i64, .l 74] ((a.getD 1 default).rows.getD i.toNat [])))) (dkTo g (a.getD 1 default).rows i.toNat) 0 = dkTo g (a.getD 1 default).rows (i + 1).toNat := by rw [csD_rowC wr, dkTo_next h1 hi]
            exact snapD (fun d z => (([.ptr 1 1 0, .ptr 2 1 0, .ptr 3 1 0, .val false [.i .i64 z]], [(1, (rowC [.i .i64, .l 37] a).map fun c => .val false [c]), (1, [.val false [.s ByteArray.empty], .val false [.i .i64 0]]), (1, [.val false [.s d], .val false [.i .i64 0]])]) : Snap)) e1 (wrap_next h1 hi lr)))
    | exact rfl
    | exact ⟨[.s (dkTo g (a.getD 1 default).rows i.toNat), .i 0], wf_st (by simp only [maxLen]; omega) ⟨by decide, by decide⟩, rfl⟩
    | exact resSv h1 h2 ‹decide (i < ((a.getD 1 default).rows.length : Int)) = false›
/-- impl.SaveReplica -/
theorem ok22 (g : List D → ByteArray) (hg : GW g) (hwr : FOk Tryz.prog T 17 (spWr T [.s, .i .i64] [.i .i64, .i .i64, .i .i64, .l 3, .i .i64, .i .i64, .i .i64, .i .i64, .i .i64, .s, .s, .i .i64, .s, .s, .i .i64, .i .i64, .l 74] SmO g)) : FOk Tryz.prog T 22 (spSv T [.i .i64, .l 37] g) := by
  refine fok (env := envL [(17, (spWr T [.s, .i .i64] [.i .i64, .i .i64, .i .i64, .l 3, .i .i64, .i .i64, .i .i64, .i .i64, .i .i64, .s, .s, .i .i64, .s, .s, .i .i64, .i .i64, .l 74] SmO g)), (53, (spStS T [.s, .i .i64]))]) (N := 23) tabT (envL_cons hwr (envL_cons ok53 envL_nil)) mixed Tryz.func22 rfl Tryz.call22 Tryz.ntmps22 ?_
  rintro args ⟨a, wa, hw, rfl⟩ hwf
  refine ⟨by simp, ?_⟩
  clear hwf
  have wR : WfD T (.l 37) (.l (a.getD 1 default).rows) := wa.rows (j := 1) rfl
  have lr : (a.getD 1 default).rows.length ≤ maxLen := wR.len
  have hdk : ∀ k, k ≤ (a.getD 1 default).rows.length → (dkTo g (a.getD 1 default).rows k).size ≤ 37383430995968 := fun k hk => dkTo_le hg hw hk
  rw [Tryz.results22]
  repeat' first
    | (refine And.intro ?_ ?_)
    | (intro h)
  all_goals first
    | (show lowEdges _ = true; kernel_rfl) | (show logOk _ _ = true; kernel_rfl) | exact True.intro | exact Or.inr rfl
    | skip
  refine awp_loop (Q := _) [1, 2, 3, 8, 9, 10] [1, 2, 3] (fun n s => ∃ i : Int, s = ([.ptr 1 1 0, .ptr 2 1 0, .ptr 3 1 0, .val false [.sl false 37 (a.getD 1 default).rows], .val false [.i .i64 (a.getD 1 default).rows.length], .val false [.i .i64 i]], [(1, (rowC [.i .i64, .l 37] a).map fun c => .val false [c]), (1, [.val false [.s ByteArray.empty], .val false [.i .i64 0]]), (1, [.val false [.s (dkTo g (a.getD 1 default).rows i.toNat)], .val false [.i .i64 0]])]) ∧ 0 ≤ i ∧ i ≤ (a.getD 1 default).rows.length ∧ n = (a.getD 1 default).rows.length - i.toNat) ?_ ?_
  · exact ⟨rfl, (a.getD 1 default).rows.length - 0, 0, rfl, by omega, by omega, rfl⟩
  rintro n s ⟨i, rfl, h1, h2, h3⟩
  have hd := hdk i.toNat (by omega)
  repeat' first
    | (refine And.intro ?_ ?_)
    | (intro h)
  all_goals first
    | (show lowEdges _ = true; kernel_rfl) | (show logOk _ _ = true; kernel_rfl) | exact True.intro | exact Or.inr rfl
    | omega
    | exact of_decide_eq_true ‹_›
    | (have hi : i < ((a.getD 1 default).rows.length : Int) := of_decide_eq_true ‹decide (i < ((a.getD 1 default).rows.length : Int)) = true›
       have wr : WfRow T [.i .i64, .i .i64, .i .i64, .l 3, .i .i64, .i .i64, .i .i64, .i .i64, .i .i64, .s, .s, .i .i64, .s, .s, .i .i64, .i .i64, .l 74] ((a.getD 1 default).rows.getD i.toNat []) := wR.row rfl (by omega)
       have hwr2 := wRow_le (a := (a.getD 1 default).rows) (k := i.toNat) (by omega)
       first
         | exact ⟨[.s (dkTo g (a.getD 1 default).rows i.toNat), .i 0], _, wf_st (by simp only [maxLen]; omega) ⟨by decide, by decide⟩, wr, smO (by omega), (show (dkTo g (a.getD 1 default).rows i.toNat).size ≤ 70368744177664 by omega), rfl⟩
         | (refine ⟨(a.getD 1 default).rows.length - (i + 1).toNat, by omega, i + 1, ?_, by omega, by omega, rfl⟩
            have e1 : wrD (g (csD (rowC [.i .i64, .i .i64, .i .i64, .l 3, .i .i64, .i .i64, .i .i64, .i .i64, .i .i64, .s, .s, .i .i64, .s, .s, .i .i64, .i .i64, .l 74] ((a.getD 1 default).rows.getD i.toNat [])))) (dkTo g (a.getD 1 default).rows i.toNat) 0 = dkTo g (a.getD 1 default).rows (i + 1).toNat := by rw [csD_rowC wr, dkTo_next h1 hi]
            exact snapD (fun d z => (([.ptr 1 1 0, .ptr 2 1 0, .ptr 3 1 0, .val false [.sl false 37 (a.getD 1 default).rows], .val false [.i .i64 (a.getD 1 default).rows.length], .val false [.i .i64 z]], [(1, (rowC [.i .i64, .l 37] a).map fun c => .val false [c]), (1, [.val false [.s ByteArray.empty], .val false [.i .i64 0]]), (1, [.val false [.s d], .val false [.i .i64 0]])]) : Snap)) e1 (wrap_next h1 hi lr)))
    | exact rfl
    | exact ⟨[.s (dkTo g (a.getD 1 default).rows i.toNat), .i 0], wf_st (by simp only [maxLen]; omega) ⟨by decide, by decide⟩, rfl⟩
    | exact resSv h1 h2 ‹decide (i < ((a.getD 1 default).rows.length : Int)) = false›
end Go.Proofs.YtdmipmbeolglaaaGreatDoor.Ab
