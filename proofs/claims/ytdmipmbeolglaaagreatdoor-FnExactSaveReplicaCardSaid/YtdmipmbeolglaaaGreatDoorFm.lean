/- The writer: numbers and texts appended to words; printed by a program of this claim. -/
import Derived.Test.YtdmipmbeolglaaaGreatDoorFl
namespace Go.Proofs.YtdmipmbeolglaaaGreatDoor.Ab
open Go.RowKit
set_option linter.unusedVariables false
set_option linter.unusedSimpArgs false
set_option maxRecDepth 100000
set_option maxHeartbeats 1000000
theorem all_take {p : List D → Bool} {rows : List (List D)} {i : Int} (h0 : 0 ≤ i) (hi : i < rows.length) : (rows.take (i + 1).toNat).all p = ((rows.take i.toNat).all p && p (rows.getD i.toNat [])) := by
  have e : (i + 1).toNat = i.toNat + 1 := by omega
  rw [e, List.take_add_one, row_at h0 hi, List.all_append]
  simp
theorem snapW (f : List (List D) → Bool → Int → Snap) {r r' : List (List D)} {x x' : Bool} {a b : Int} (h : r = r') (h1 : x = x') (h2 : a = b) : f r x a = f r' x' b := by rw [h, h1, h2]
theorem flag1 {b y z : Bool} (h : (b || !y) = true) : true = (b || !(y && z)) := by revert h; cases b <;> cases y <;> cases z <;> simp
theorem flag2 {b y z : Bool} (h : (b || !y) = false) : (!z) = (b || !(y && z)) := by revert h; cases b <;> cases y <;> cases z <;> simp
/-- (*impl.writer).numbers -/
theorem ok37 : FOk Tryz.prog T 37 (spWNum 9) := by
  refine fokB (env := envL [(64, spNum), (46, spItoa)]) (N := 36) tabT (envL_cons ok64 (envL_cons ok46 envL_nil)) mixed Tryz.func37 rfl Tryz.call37 Tryz.ntmps37 ?_
  rintro cs args ⟨ws, nums, b, hl, he⟩ hwf
  simp only [List.cons.injEq, SV.tup.injEq, Prod.mk.injEq, true_and, and_true] at he
  obtain ⟨rfl, rfl⟩ := he
  have wa : WfD T (.l 3) (.l nums) := arg0 hwf (List.mem_singleton_self _)
  have la := wa.len
  clear hwf
  refine ⟨by simp, ?_⟩
  rw [Tryz.results37]
  repeat' first
    | (refine And.intro ?_ ?_)
    | (intro h; cases h)
    | (intro h; rw [h])
    | (intro h)
  all_goals first
    | (show lowEdges _ = true; kernel_rfl) | (show logOk _ _ = true; kernel_rfl) | exact True.intro | exact rfl | exact Or.inr rfl | exact Or.inl rfl
    | skip
  refine awp_loop (Q := _) [0, 6, 7, 8] [36] (fun n q => ∃ i : Int, q = ([.ptr 36 0 0, argS 3 nums, .val false [.i .i64 (nums.length : Int)], .val false [.i .i64 i]], [(0, [.val false [.sl true 9 (ws ++ (nums.take (i).toNat).map rowW)], .val false [.b (b || !((nums.take (i).toNat).all numRow))]])]) ∧ 0 ≤ i ∧ i ≤ nums.length ∧ n = nums.length - i.toNat) ?_ ?_
  · refine ⟨rfl, nums.length - 0, 0, ?_, by omega, by omega, rfl⟩
    have h1 : ws ++ (nums.take (0 : Int).toNat).map rowW = ws := by simp
    have h2 : (b || !((nums.take (0 : Int).toNat).all numRow)) = b := by simp
    rw [h1, h2]
    rfl
  rintro n q ⟨i, rfl, h1, h2, h3⟩
  repeat' first
    | (refine And.intro ?_ ?_)
    | (intro h; cases h)
    | (intro h; rw [h])
    | (intro h)
  all_goals first
    | (show lowEdges _ = true; kernel_rfl) | (show logOk _ _ = true; kernel_rfl) | exact True.intro | exact rfl | exact Or.inr rfl | exact Or.inl rfl
    | omega
    | exact of_decide_eq_true ‹_›
    | exact ⟨_, rfl⟩
    | (have hi : i < (nums.length : Int) := of_decide_eq_true ‹decide (i < (nums.length : Int)) = true›
       have hln : (ws ++ (nums.take i.toNat).map rowW).length = ws.length + i.toNat := by rw [List.length_append, List.length_map, List.length_take, Nat.min_eq_left (by omega)]
       first
         | (rw [hln]; show ws.length + i.toNat + 1 ≤ maxLen; simp only [maxLen]; omega)
         | (rw [hln]; show (ws.length + i.toNat + 1) * 16 ≤ 140737488355328; omega)
         | (refine ⟨nums.length - (i + 1).toNat, by omega, i + 1, ?_, by omega, by omega, rfl⟩
            exact snapW (fun r x z => ([.ptr 36 0 0, argS 3 nums, .val false [.i .i64 (nums.length : Int)], .val false [.i .i64 z]], [(0, [.val false [.sl true 9 r], .val false [.b x]])])) (by rw [map_next h1 hi, List.append_assoc]; rfl) (by rw [all_take h1 hi]; first | exact flag1 ‹_› | exact flag2 ‹_›) (wrap_next h1 hi la)))
    | (have he : i.toNat = nums.length := by
         have : ¬ i < (nums.length : Int) := of_decide_eq_false (by assumption)
         omega
       simp only [he, List.take_length]
       rfl)
/-- (*impl.writer).texts -/
theorem ok38 : FOk Tryz.prog T 38 (spWText 9) := by
  refine fokB (env := envL [(65, spEnc)]) (N := 24) tabT (envL_cons ok65 envL_nil) mixed Tryz.func38 rfl Tryz.call38 Tryz.ntmps38 ?_
  rintro cs args ⟨ws, txts, b, hl, hsz, he⟩ hwf
  simp only [List.cons.injEq, SV.tup.injEq, Prod.mk.injEq, true_and, and_true] at he
  obtain ⟨rfl, rfl⟩ := he
  have wa : WfD T (.l 9) (.l txts) := arg0 hwf (List.mem_singleton_self _)
  have la := wa.len
  clear hwf
  refine ⟨by simp, ?_⟩
  rw [Tryz.results38]
  repeat' first
    | (refine And.intro ?_ ?_)
    | (intro h; cases h)
    | (intro h; rw [h])
    | (intro h)
  all_goals first
    | (show lowEdges _ = true; kernel_rfl) | (show logOk _ _ = true; kernel_rfl) | exact True.intro | exact rfl | exact Or.inr rfl | exact Or.inl rfl
    | skip
  refine awp_loop (Q := _) [0, 6, 7, 8] [24] (fun n q => ∃ i : Int, q = ([.ptr 24 0 0, argS 9 txts, .val false [.i .i64 (txts.length : Int)], .val false [.i .i64 i]], [(0, [.val false [.sl true 9 (ws ++ (txts.take (i).toNat).map rowE)], .val false [.b b]])]) ∧ 0 ≤ i ∧ i ≤ txts.length ∧ n = txts.length - i.toNat) ?_ ?_
  · refine ⟨rfl, txts.length - 0, 0, ?_, by omega, by omega, rfl⟩
    have h1 : ws ++ (txts.take (0 : Int).toNat).map rowE = ws := by simp
    rw [h1]
    rfl
  rintro n q ⟨i, rfl, h1, h2, h3⟩
  repeat' first
    | (refine And.intro ?_ ?_)
    | (intro h; cases h)
    | (intro h; rw [h])
    | (intro h)
  all_goals first
    | (show lowEdges _ = true; kernel_rfl) | (show logOk _ _ = true; kernel_rfl) | exact True.intro | exact rfl | exact Or.inr rfl | exact Or.inl rfl
    | omega
    | exact of_decide_eq_true ‹_›
    | (have hi : i < (txts.length : Int) := of_decide_eq_true ‹decide (i < (txts.length : Int)) = true›
       have hln : (ws ++ (txts.take i.toNat).map rowE).length = ws.length + i.toNat := by rw [List.length_append, List.length_map, List.length_take, Nat.min_eq_left (by omega)]
       first
         | exact ⟨_, hsz i.toNat (by omega), rfl⟩
         | (rw [hln]; show ws.length + i.toNat + 1 ≤ maxLen; simp only [maxLen]; omega)
         | (rw [hln]; show (ws.length + i.toNat + 1) * 16 ≤ 140737488355328; omega)
         | (refine ⟨txts.length - (i + 1).toNat, by omega, i + 1, ?_, by omega, by omega, rfl⟩
            exact snapR (fun r z => ([.ptr 24 0 0, argS 9 txts, .val false [.i .i64 (txts.length : Int)], .val false [.i .i64 z]], [(0, [.val false [.sl true 9 r], .val false [.b b]])])) (by rw [map_next h1 hi, List.append_assoc]; rfl) (wrap_next h1 hi la)))
    | (have he : i.toNat = txts.length := by
         have : ¬ i < (txts.length : Int) := of_decide_eq_false (by assumption)
         omega
       simp only [he, List.take_length]
       rfl)
end Go.Proofs.YtdmipmbeolglaaaGreatDoor.Ab
