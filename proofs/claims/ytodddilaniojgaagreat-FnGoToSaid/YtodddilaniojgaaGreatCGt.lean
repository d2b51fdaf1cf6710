/- Descriptions of readers of words one by one. No program in sight. Numbers as texts, texts joined and cut, exactly: printed by a program of this claim. -/
import Derived.Test.YtodddilaniojgaaGreatCQa
import Derived.Test.YtodddilaniojgaaGreatCFd
import Derived.Test.YtodddilaniojgaaGreatCYs
namespace Go.Proofs.YtodddilaniojgaaGreat.Ab
open Go.RowKit
set_option linter.unusedVariables false
def SpI (s : ByteArray) (o : List ByteArray) (fr i : Nat) : Prop :=
  o.length ≤ i ∧ ((i ≤ s.size ∧ fr ≤ i ∧ words32 (s.data.toList.take i) = o.map (·.data.toList) ++ [(s.extract fr i).data.toList]) ∨ (i = s.size + 1 ∧ o = wordsB s))
theorem ext_list (s : ByteArray) (a b : Nat) : (s.extract a b).data.toList = (s.data.toList.take b).drop a := by
  rw [ByteArray.data_extract, Array.toList_extract, List.extract_eq_drop_take']
theorem SpI.zero (s : ByteArray) : SpI s [] 0 0 := ⟨Nat.le_refl _, .inl ⟨Nat.zero_le _, Nat.le_refl _, by rw [ext_list]; rfl⟩⟩
theorem SpI.full {s : ByteArray} {o : List ByteArray} {fr i : Nat} (h : SpI s o fr i) (hi : i = s.size) : SpI s (o ++ [s.extract fr i]) (i + 1) (i + 1) := by
  have hs : s.data.toList.length = s.size := by rw [Array.length_toList]; rfl
  obtain ⟨h0, ⟨_, h2, h3⟩ | ⟨h2, _⟩⟩ := h
  · refine ⟨by rw [List.length_append, List.length_singleton]; omega, .inr ⟨by omega, ?_⟩⟩
    rw [List.take_of_length_le (by omega)] at h3
    unfold wordsB
    have e1 : ∀ x : ByteArray, (⟨x.data.toList.toArray⟩ : ByteArray) = x := fun x => by simp
    rw [h3, List.map_append, List.map_map]
    have e2 : (o.map ((fun w : List UInt8 => (⟨w.toArray⟩ : ByteArray)) ∘ fun x => x.data.toList)) = o := by
      conv => rhs; rw [← List.map_id o]
      exact List.map_congr_left fun x _ => e1 x
    rw [e2, List.map_singleton, e1]
  · omega
theorem take_snoc {s : ByteArray} {i : Nat} (hi : i < s.size) : s.data.toList.take (i + 1) = s.data.toList.take i ++ [s.data.getD i 0] := by
  rw [List.take_add_one, list_getD hi]; rfl
theorem SpI.space {s : ByteArray} {o : List ByteArray} {fr i : Nat} (h : SpI s o fr i) (hi : i < s.size) (hb : s.data.getD i 0 = 32) : SpI s (o ++ [s.extract fr i]) (i + 1) (i + 1) := by
  obtain ⟨h0, ⟨_, h2, h3⟩ | ⟨h2, _⟩⟩ := h
  · refine ⟨by rw [List.length_append, List.length_singleton]; omega, .inl ⟨hi, Nat.le_refl _, ?_⟩⟩
    rw [take_snoc hi, words32_snoc _ _ _ _ h3, if_pos hb, List.map_append, ext_list s (i + 1) (i + 1), List.drop_of_length_le (by rw [List.length_take]; omega)]
    rfl
  · omega
theorem SpI.miss {s : ByteArray} {o : List ByteArray} {fr i : Nat} (h : SpI s o fr i) (hi : i < s.size) (hb : s.data.getD i 0 ≠ 32) : SpI s o fr (i + 1) := by
  have hs : s.data.toList.length = s.size := by rw [Array.length_toList]; rfl
  obtain ⟨h0, ⟨_, h2, h3⟩ | ⟨h2, _⟩⟩ := h
  · refine ⟨by omega, .inl ⟨hi, by omega, ?_⟩⟩
    rw [take_snoc hi, words32_snoc _ _ _ _ h3, if_neg hb, ext_list, ext_list, take_snoc hi, List.drop_append_of_le_length (by rw [List.length_take]; omega)]
  · omega
theorem SpI.done {s : ByteArray} {o : List ByteArray} {fr i : Nat} (h : SpI s o fr i) (hi : ¬ i ≤ s.size) : o = wordsB s := by
  obtain ⟨_, ⟨h1, _⟩ | ⟨_, h3⟩⟩ := h
  · omega
  · exact h3
theorem SpI.le {s : ByteArray} {o : List ByteArray} {fr i : Nat} (h : SpI s o fr i) (hi : i ≤ s.size) : fr ≤ i ∧ o.length ≤ i := by
  obtain ⟨h0, ⟨_, h2, _⟩ | ⟨h2, _⟩⟩ := h
  · exact ⟨h2, h0⟩
  · omega
theorem strRows_app (o : List ByteArray) (x : ByteArray) : strRows o ++ ([] ++ [[D.s x]]) = strRows (o ++ [x]) := by simp [strRows]
theorem snap3 {f : List (List D) → Int → Int → Snap} {r r' : List (List D)} {a a' b b' : Int} (h : r = r') (h2 : a = a') (h3 : b = b') : f r a b = f r' a' b' := by rw [h, h2, h3]
theorem byte_of {s : ByteArray} {i : Nat} {x : Bool} (h : (((s.data.getD (Int.toNat (i : Int)) 0).toNat : Int) == 32) = x) : (x = true → s.data.getD i 0 = 32) ∧ (x = false → s.data.getD i 0 ≠ 32) := by
  rw [Int.toNat_natCast] at h
  refine ⟨fun hx => ?_, fun hx e => ?_⟩
  · rw [hx] at h
    have h2 : ((s.data.getD i 0).toNat : Int) = 32 := eq_of_beq h
    have h3 : (s.data.getD i 0).toNat = 32 := by omega
    exact UInt8.toNat_inj.1 h3
  · rw [hx, e] at h
    exact absurd h (by decide)
end Go.Proofs.YtodddilaniojgaaGreat.Ab
namespace Go.Proofs.YtodddilaniojgaaGreat.Ab
open Go.RowKit
set_option linter.unusedVariables false
set_option linter.unusedSimpArgs false
set_option maxRecDepth 100000
set_option maxHeartbeats 1000000
theorem ok80 : FOk Tryz.prog T 80 spItoa := by
  refine fok (env := envL []) (N := 31) tabT envL_nil mixed Tryz.func80 rfl Tryz.call80 Tryz.ntmps80 ?_
  rintro args ⟨x, rfl⟩ hwf
  have hx : inK .i64 x := arg0 hwf (List.mem_singleton_self _)
  clear hwf
  refine ⟨by simp, ?_⟩
  rw [Tryz.results80]
  repeat' first
    | (refine And.intro ?_ ?_)
    | (intro h; cases h)
    | (intro h; rw [h])
    | (intro h)
  all_goals first
    | (show lowEdges _ = true; kernel_rfl) | (show logOk _ _ = true; kernel_rfl) | exact True.intro | exact rfl | exact Or.inr rfl | exact Or.inl rfl
    | (have h0 : x = 0 := by simpa using ‹(x == 0) = true›
       subst h0
       exact resS itoa_zero)
    | skip
  have h0 : x ≠ 0 := by simpa using ‹(x == 0) = false›
  refine awp_loop (Q := _) [0, 3, 4] [] (fun n q => ∃ (y : Int) (o : ByteArray), q = ([.val false [.i .i64 y], .val false [.b (decide (x < 0))], .val false [.s o]], []) ∧ FI x y o ∧ n = y.natAbs) ?_ ?_
  · exact ⟨rfl, _, x, _, rfl, FI.first h0, rfl⟩
  rintro n q ⟨y, o, rfl, hI, hn⟩
  have hsz := hI.size hx
  have hmod := tmod10_inK y
  repeat' first
    | (refine And.intro ?_ ?_)
    | (intro h; cases h)
    | (intro h; rw [h])
    | (intro h)
  all_goals first
    | (show lowEdges _ = true; kernel_rfl) | (show logOk _ _ = true; kernel_rfl) | exact True.intro | exact rfl | exact Or.inr rfl | exact Or.inl rfl
    | exact hmod.1
    | exact hmod.2
    | exact size_le rfl hsz
    | decide
    | exact resS (hI.neg (by simpa using ‹(y != 0) = false›) (of_decide_eq_true ‹decide (x < 0) = true›))
    | exact resS (hI.pos (by simpa using ‹(y != 0) = false›) (of_decide_eq_false ‹decide (x < 0) = false›))
    | (have hy : y ≠ 0 := by simpa using ‹(y != 0) = true›
       have hlt : (y.tdiv 10).natAbs < y.natAbs := by rw [tdiv10]; omega
       first
         | exact ⟨(y.tdiv 10).natAbs, by omega, y.tdiv 10, _, snapS (fun z s => ([.val false [.i .i64 z], .val false [.b (decide (x < 0))], .val false [.s s]], [])) _ (hI.quo hx), hI.next hy (hI.dig1 (of_decide_eq_false ‹decide (y.tmod 10 < 0) = false›)), rfl⟩
         | exact ⟨(y.tdiv 10).natAbs, by omega, y.tdiv 10, _, snapS (fun z s => ([.val false [.i .i64 z], .val false [.b (decide (x < 0))], .val false [.s s]], [])) _ (hI.quo hx), hI.next hy (hI.dig2 (of_decide_eq_true ‹decide (y.tmod 10 < 0) = true›)), rfl⟩)
theorem ok81 : FOk Tryz.prog T 81 spJoin := by
  refine fok (env := envL []) (N := 27) tabT envL_nil mixed Tryz.func81 rfl Tryz.call81 Tryz.ntmps81 ?_
  rintro args ⟨rows, sep, hn, hl, rfl⟩ hwf
  have wa : WfD T (.l 9) (.l rows) := arg0 hwf (List.mem_singleton_self _)
  have la := wa.len
  clear hwf
  have hl' : (jn rows sep rows.length).length ≤ 140737488355328 := by
    rw [← jn_all] at hl
    have : (⟨(jn rows sep rows.length).toArray⟩ : ByteArray).size = (jn rows sep rows.length).length := List.size_toArray
    omega
  refine ⟨by simp, ?_⟩
  rw [Tryz.results81]
  repeat' first
    | (refine And.intro ?_ ?_)
    | (intro h; cases h)
    | (intro h; rw [h])
    | (intro h)
  all_goals first
    | (show lowEdges _ = true; kernel_rfl) | (show logOk _ _ = true; kernel_rfl) | exact True.intro | exact rfl | exact Or.inr rfl | exact Or.inl rfl
    | (simp only [maxLen]; omega)
    | skip
  refine awp_loop (Q := _) [0, 1, 5, 6] [] (fun n q => ∃ i : Int, q = ([argS 9 rows, .val false [.s sep], .val false [.sl true 5 (byteRows (jn rows sep i.toNat))], .val false [.i .i64 i]], []) ∧ 0 ≤ i ∧ i ≤ rows.length ∧ n = rows.length - i.toNat) ?_ ?_
  · exact ⟨rfl, rows.length - 0, 0, rfl, by omega, by omega, rfl⟩
  rintro n q ⟨i, rfl, h1, h2, h3⟩
  repeat' first
    | (refine And.intro ?_ ?_)
    | (intro h; cases h)
    | (intro h; rw [h])
    | (intro h)
  all_goals first
    | (show lowEdges _ = true; kernel_rfl) | (show logOk _ _ = true; kernel_rfl) | exact True.intro | exact rfl | exact Or.inr rfl | exact Or.inl rfl
    | omega
    | exact of_decide_eq_true ‹_›
    | (have hi : ¬ i < (rows.length : Int) := of_decide_eq_false ‹decide (i < (rows.length : Int)) = false›
       have e : i.toNat = rows.length := by omega
       exact resS (by rw [bytesOf_byteRows, e]; exact jn_all rows sep))
    | (have hi : i < (rows.length : Int) := of_decide_eq_true ‹decide (i < (rows.length : Int)) = true›
       have hnx := jn_next (rows := rows) (sep := sep) (k := i.toNat) (by omega)
       have hle := jn_le (rows := rows) (sep := sep) (j := i.toNat + 1) (k := rows.length - (i.toNat + 1)) (by omega)
       have e1 : (i + 1).toNat = i.toNat + 1 := by omega
       first
         | (have hz : i > 0 := of_decide_eq_true ‹decide (i > 0) = true›
            rw [if_neg (by omega)] at hnx
            have hl3 := congrArg List.length hnx
            simp only [List.length_append] at hl3
            first
              | (simp only [List.length_append, byteRows_length, bytesD_eq, maxLen] at *; omega)
              | exact ⟨rows.length - (i + 1).toNat, by omega, i + 1, snapR (fun r z => ([argS 9 rows, .val false [.s sep], .val false [.sl true 5 r], .val false [.i .i64 z]], [])) (by rw [e1, hnx, byteRows_append, byteRows_append, ← List.append_assoc]; rfl) (wrap_next h1 hi la), by omega, by omega, rfl⟩)
         | (have hz : ¬ i > 0 := of_decide_eq_false ‹decide (i > 0) = false›
            rw [if_pos (by omega)] at hnx
            have h0 : i.toNat = 0 := by omega
            have hb0 : byteRows (jn rows sep i.toNat) = [] := by rw [h0]; rfl
            have hl3 := congrArg List.length hnx
            first
              | (simp only [hb0, List.length_nil, List.length_append, byteRows_length, bytesD_eq, maxLen] at *; omega)
              | exact ⟨rows.length - (i + 1).toNat, by omega, i + 1, snapR (fun r z => ([argS 9 rows, .val false [.s sep], .val false [.sl true 5 r], .val false [.i .i64 z]], [])) (by rw [hb0, e1, hnx]; rfl) (wrap_next h1 hi la), by omega, by omega, rfl⟩))
theorem ok79 : FOk Tryz.prog T 79 (spSplit true) := by
  refine fok (env := envL []) (N := 36) tabT envL_nil mixed Tryz.func79 rfl Tryz.call79 Tryz.ntmps79 ?_
  rintro args ⟨s, hs, rfl⟩ hwf
  refine ⟨by simp, ?_⟩
  clear hwf
  rw [Tryz.results79]
  repeat' first
    | (refine And.intro ?_ ?_)
    | (intro h; simp only [reduceCtorEq] at h; done)
    | (intro h; rw [h])
    | (intro h)
  all_goals first
    | (show lowEdges _ = true; kernel_rfl) | (show logOk _ _ = true; kernel_rfl) | exact True.intro | exact Or.inr rfl | exact Or.inl rfl
    | exact rfl
    | skip
  refine awp_loop (Q := _) [0, 1, 5, 6, 7] [] (fun n st => ∃ (o : List ByteArray) (fr i : Nat), st = ([sArg s, .val false [.i .u8 32], .val false [.sl true 9 (strRows o)], iArg (fr : Int), iArg (i : Int)], []) ∧ SpI s o fr i ∧ n = s.size + 1 - i) ?_ ?_
  · exact ⟨rfl, s.size + 1, [], 0, 0, rfl, SpI.zero s, rfl⟩
  rintro n st ⟨o, fr, i, rfl, hI, rfl⟩
  repeat' first
    | (refine And.intro ?_ ?_)
    | (intro h; simp only [reduceCtorEq] at h; done)
    | (intro h; rw [h])
    | (intro h)
  all_goals first
    | (show lowEdges _ = true; kernel_rfl) | (show logOk _ _ = true; kernel_rfl) | exact True.intro | exact Or.inr rfl | exact Or.inl rfl
    | with_reducible exact Int.natCast_nonneg _
    | (have hd : decide ((i : Int) ≤ (s.size : Int)) = true := by with_reducible assumption
       have hle : i ≤ s.size := by have := of_decide_eq_true hd; omega
       have hl := hI.le hle
       first
         | omega
         | (show (strRows o).length + 1 ≤ maxLen; rw [strRows, List.length_map]; simp only [maxLen]; omega)
         | (show ((strRows o).length + 1) * 16 ≤ 140737488355328; rw [strRows, List.length_map]; omega)
         | (have he : ((i : Int) == (s.size : Int)) = true := by with_reducible assumption
            have hi : i = s.size := by have := eq_of_beq he; omega
            refine ⟨s.size + 1 - (i + 1), by omega, o ++ [s.extract fr i], i + 1, i + 1, ?_, hI.full hi, rfl⟩
            exact snap3 (f := fun x y z => (([sArg s, .val false [.i .u8 32], .val false [.sl true 9 x], iArg y, iArg z], []) : Snap)) (strRows_app _ _) (IntWalk.i64_in _ (by omega)) (IntWalk.i64_in _ (by omega)))
         | (have he : ((i : Int) == (s.size : Int)) = false := by with_reducible assumption
            have hi : i < s.size := by have h2 : (i : Int) ≠ (s.size : Int) := (by simpa using he); omega
            first
              | omega
              | (have hb := (byte_of (s := s) (i := i) (by with_reducible assumption)).1 rfl
                 refine ⟨s.size + 1 - (i + 1), by omega, o ++ [s.extract fr i], i + 1, i + 1, ?_, hI.space hi hb, rfl⟩
                 exact snap3 (f := fun x y z => (([sArg s, .val false [.i .u8 32], .val false [.sl true 9 x], iArg y, iArg z], []) : Snap)) (strRows_app _ _) (IntWalk.i64_in _ (by omega)) (IntWalk.i64_in _ (by omega)))
              | (have hb := (byte_of (s := s) (i := i) (by with_reducible assumption)).2 rfl
                 refine ⟨s.size + 1 - (i + 1), by omega, o, fr, i + 1, ?_, hI.miss hi hb, rfl⟩
                 exact snap3 (f := fun x y z => (([sArg s, .val false [.i .u8 32], .val false [.sl true 9 x], iArg y, iArg z], []) : Snap)) rfl rfl (IntWalk.i64_in _ (by omega)))
              | (show Alive [] _; exact rfl)
              | skip)
         | (show Alive [] _; exact rfl)
         | skip)
    | (have hd : decide ((i : Int) ≤ (s.size : Int)) = false := by with_reducible assumption
       have hle : ¬ i ≤ s.size := by have := of_decide_eq_false hd; omega
       exact congrArg (fun z => [CV.sl true 9 (strRows z)]) (hI.done hle))
    | skip
end Go.Proofs.YtodddilaniojgaaGreat.Ab
