/- Small draws: printed by a program of this claim. -/
import Derived.Test.YtodddilaniojgaaGreatCJa
import Derived.Test.YtodddilaniojgaaGreatCDb
namespace Go.Proofs.YtodddilaniojgaaGreat.Ab
open Go.RowKit
set_option linter.unusedVariables false
set_option linter.unusedSimpArgs false
set_option maxRecDepth 100000
set_option maxHeartbeats 2000000
def rowsM (a : List SV) : List (List D) := match a with
  | [.val _ [.sl _ _ l]] => l
  | _ => []
def nOfM (a : List SV) : Int := match a with
  | [.val _ [.i _ n]] => n
  | _ => 0
def sizeM (m : List SV) : Nat := match m with
  | [.val _ [.s s], _] => s.size
  | _ => 0
theorem tur3 {s p : ByteArray} {a : Nat} (hp : p.size ≤ 20) (ha : a ≤ s.size) : (s.extract 0 a ++ p ++ s.extract a s.size).size ≤ s.size + 20 := by
  rw [ByteArray.size_append, ByteArray.size_append, ByteArray.size_extract, ByteArray.size_extract]; omega
theorem tur1 {s : ByteArray} {a b : Nat} : (s.extract a b).size ≤ s.size + 20 := by
  rw [ByteArray.size_extract]; omega
theorem turS2 {s p : ByteArray} {a b : Nat} (hs : s.size ≤ 500000) (hp : p.size ≤ 20) : (s.extract a b).size + p.size ≤ maxLen := by
  rw [ByteArray.size_extract]; simp only [maxLen]; omega
theorem turS3 {s p : ByteArray} {a b c d : Nat} (hs : s.size ≤ 500000) (hp : p.size ≤ 20) : (s.extract a b ++ p).size + (s.extract c d).size ≤ maxLen := by
  rw [ByteArray.size_append, ByteArray.size_extract, ByteArray.size_extract]; simp only [maxLen]; omega
theorem any46 : AnyD Tryz.prog T 46 5 (fun m => ∃ l : List (List D), smallN (l.length : Int) ∧ m = [argS 3 l]) (fun x : Int => .val false [.i .i64 x]) (fun (m : List SV) (x : Int) => ∀ P : Int → Prop, P 0 → (∀ r ∈ rowsM m, P (r.getD 0 default).int) → P x) := by
  refine AnyD.of (fun _ => 0) (fun _ _ P h0 _ => h0) (fokBA (α := Int × Int × Int) (fun _ z => (fun x : Int => .val false [.i .i64 x]) z.1) (fun a z => curU 5 a z.2.1 z.2.2) (post := fun a z => CurOk (rowsOf a) z.2.1 ∧ (fun (m : List SV) (x : Int) => ∀ P : Int → Prop, P 0 → (∀ r ∈ rowsM m, P (r.getD 0 default).int) → P x) a.tail z.1) (env := envL [(44, (spBelow 5))]) (N := 12) tabT (envL_cons ok44 envL_nil) mixed Tryz.func46 rfl Tryz.call46 Tryz.ntmps46 ?_)
  rintro cs args ⟨rows, i, h0, more, ok, hp, he⟩ hwf
  obtain ⟨rfl, rfl⟩ : cs = curC 5 rows i h0 ∧ args = more := by simpa only [List.cons.injEq, SV.tup.injEq, Prod.mk.injEq, true_and, and_true] using he
  obtain ⟨l, hl, rfl⟩ := hp
  refine ⟨by simp, ?_⟩
  clear he hwf
  rw [Tryz.results46]
  repeat' first
    | (refine And.intro ?_ ?_)
    | (intro h; simp only [reduceCtorEq] at h; done)
    | (intro h; rw [h])
    | (intro h)
  all_goals first
    | (show lowEdges _ = true; kernel_rfl) | (show logOk _ _ = true; kernel_rfl) | exact True.intro | exact Or.inr rfl | exact Or.inl rfl
    | (show Alive _ _; rfl)
    | (show List.length _ = _; rfl)
    | refine ⟨_, _, _, _, ?_, ⟨by decide, by decide⟩, rfl⟩
    | refine ⟨_, _, _, ?_, rfl⟩
    | exact (belowR_in hl).1
    | exact (belowR_in hl).2
    | refine ⟨_, _, _, _, ?_, hl, rfl⟩
    | (refine ⟨(_, _, _), ⟨?_, ?_⟩, rfl, rfl, True.intro⟩; rotate_left; focus (exact fun P h0 h => pick_int h0 h _))
    | skip
  all_goals repeat (first | exact ok | exact ok1 | exact ok2 | refine byteI_ok ?_)
theorem any44g : AnyD Tryz.prog T 44 5 (fun m => ∃ n : Int, (1 ≤ n ∧ n ≤ 1048577) ∧ m = [.val false [.i .i64 n]]) (fun x : Int => .val false [.i .i64 x]) (fun (m : List SV) (x : Int) => 0 ≤ x ∧ x < nOfM m) := by
  refine AnyD.of (fun _ => 0) ((by rintro m ⟨n, hn, rfl⟩; exact ⟨Int.le_refl 0, (show 0 < n by omega)⟩)) (fokBA (α := Int × Int × Int) (fun _ z => (fun x : Int => .val false [.i .i64 x]) z.1) (fun a z => curU 5 a z.2.1 z.2.2) (post := fun a z => CurOk (rowsOf a) z.2.1 ∧ (fun (m : List SV) (x : Int) => 0 ≤ x ∧ x < nOfM m) a.tail z.1) (env := envL [(62, (spByte 5))]) (N := 37) tabT (envL_cons ok62 envL_nil) mixed Tryz.func44 rfl Tryz.call44 Tryz.ntmps44 ?_)
  rintro cs args ⟨rows, i, h0, more, ok, hp, he⟩ hwf
  obtain ⟨rfl, rfl⟩ : cs = curC 5 rows i h0 ∧ args = more := by simpa only [List.cons.injEq, SV.tup.injEq, Prod.mk.injEq, true_and, and_true] using he
  obtain ⟨n, hn, rfl⟩ := hp
  refine ⟨by simp, ?_⟩
  clear he hwf
  rw [Tryz.results44]
  repeat' first
    | (refine And.intro ?_ ?_)
    | (intro h; simp only [reduceCtorEq] at h; done)
    | (intro h; rw [h])
    | (intro h)
  all_goals first
    | (show lowEdges _ = true; kernel_rfl) | (show logOk _ _ = true; kernel_rfl) | exact True.intro | exact Or.inr rfl | exact Or.inl rfl
    | (show Alive _ _; rfl)
    | (show List.length _ = _; rfl)
    | refine ⟨_, _, _, _, ?_, ⟨by decide, by decide⟩, rfl⟩
    | refine ⟨_, _, _, ?_, rfl⟩
    | (exfalso; have h2 := of_decide_eq_true h; have := hn.1; omega)
    | exact tmK (byteR_in _ _ _).1 hn
    | exact (tmK (byteR_in _ _ _).1 hn).1
    | exact (tmK (byteR_in _ _ _).1 hn).2
    | exact (tmK big4 hn).1
    | exact (tmK big4 hn).2
    | (have := hn.1; omega)
    | (refine ⟨(_, _, _), ⟨?_, ?_⟩, rfl, rfl, True.intro⟩; rotate_left; focus (exact tm_in (byteR_in _ _ _).1 hn.1))
    | (refine ⟨(_, _, _), ⟨?_, ?_⟩, rfl, rfl, True.intro⟩; rotate_left; focus (exact tm_in big4 hn.1))
    | skip
  all_goals repeat (first | exact ok | exact ok1 | exact ok2 | refine byteI_ok ?_)
theorem any82 : AnyD Tryz.prog T 82 5 (fun m => ∃ (s : ByteArray) (l : List (List D)), (s.size ≤ 500000 ∧ smallN (l.length : Int) ∧ ∀ k, (((l.getD k []).getD 0 default).str).size ≤ 20) ∧ m = [.val false [.s s], argS 9 l]) (fun x : ByteArray => .val false [.s x]) (fun (m : List SV) (x : ByteArray) => x.size ≤ sizeM m + 20) := by
  obtain ⟨g44g, k44g, q44g⟩ := any44g
  refine AnyD.of (fun _ => ⟨#[]⟩) (fun _ _ => Nat.zero_le _) (fokBA (α := ByteArray × Int × Int) (fun _ z => (fun x : ByteArray => .val false [.s x]) z.1) (fun a z => curU 5 a z.2.1 z.2.2) (post := fun a z => CurOk (rowsOf a) z.2.1 ∧ (fun (m : List SV) (x : ByteArray) => x.size ≤ sizeM m + 20) a.tail z.1) (env := envL [(44, spD 5 (fun m => ∃ n : Int, (1 ≤ n ∧ n ≤ 1048577) ∧ m = [.val false [.i .i64 n]]) (fun x : Int => .val false [.i .i64 x]) g44g), (77, (spPick 5 9))]) (N := 34) tabT (envL_cons k44g (envL_cons ok77 envL_nil)) mixed Tryz.func82 rfl Tryz.call82 Tryz.ntmps82 ?_)
  rintro cs args ⟨rows, i, h0, more, ok, hp, he⟩ hwf
  obtain ⟨rfl, rfl⟩ : cs = curC 5 rows i h0 ∧ args = more := by simpa only [List.cons.injEq, SV.tup.injEq, Prod.mk.injEq, true_and, and_true] using he
  obtain ⟨s, l, ⟨hs, hl, hp⟩, rfl⟩ := hp
  refine ⟨by simp, ?_⟩
  clear he hwf
  have hw : IntKind.i64.wrap ((s.size : Int) + 1) = (s.size : Int) + 1 := wrap_i64_in (by omega) (by omega)
  obtain ⟨hcur, ha0, ha1⟩ := q44g rows i h0 [.val false [.i .i64 (IntKind.i64.wrap ((s.size : Int) + 1))]] ok ⟨_, by rw [hw]; omega, rfl⟩
  have ha1 : (g44g [curA 5 rows i h0, .val false [.i .i64 (IntKind.i64.wrap ((s.size : Int) + 1))]]).1 < (s.size : Int) + 1 := Int.lt_of_lt_of_le ha1 (Int.le_of_eq hw)
  have ha2 : (g44g [curA 5 rows i h0, .val false [.i .i64 (IntKind.i64.wrap ((s.size : Int) + 1))]]).1.toNat ≤ s.size := by omega
  have ha0 : 0 ≤ (g44g [curA 5 rows i h0, .val false [.i .i64 (IntKind.i64.wrap ((s.size : Int) + 1))]]).1 := ha0
  rw [Tryz.results82]
  repeat' first
    | (refine And.intro ?_ ?_)
    | (intro h; simp only [reduceCtorEq] at h; done)
    | (intro h; rw [h])
    | (intro h)
  all_goals first
    | (show lowEdges _ = true; kernel_rfl) | (show logOk _ _ = true; kernel_rfl) | exact True.intro | exact Or.inr rfl | exact Or.inl rfl
    | (show Alive _ _; rfl)
    | (show List.length _ = _; rfl)
    | refine ⟨_, _, _, _, ?_, ⟨by decide, by decide⟩, rfl⟩
    | refine ⟨_, _, _, ?_, rfl⟩
    | refine ⟨_, _, _, _, ?_, ⟨_, ⟨by decide, by decide⟩, rfl⟩, rfl⟩
    | exact ⟨_, _, _, _, ok, ⟨_, by rw [hw]; omega, rfl⟩, rfl⟩
    | refine ⟨_, _, _, _, ?_, hl, rfl⟩
    | exact Int.le_refl 0
    | exact ha0
    | exact Int.le_of_lt_add_one ha1
    | exact Int.le_refl _
    | exact turS2 hs (hp _)
    | exact turS3 hs (hp _)
    | (refine ⟨(_, _, _), ⟨?_, ?_⟩, rfl, rfl, True.intro⟩; rotate_left; focus (exact tur3 (hp _) ha2))
    | (refine ⟨(_, _, _), ⟨?_, ?_⟩, rfl, rfl, True.intro⟩; rotate_left; focus (exact tur1))
    | (refine ⟨(_, _, _), ⟨?_, ?_⟩, rfl, rfl, True.intro⟩; rotate_left; focus (exact Nat.le_add_right _ _))
    | skip
  all_goals repeat (first | exact ok | exact ok1 | exact ok2 | exact hcur | refine byteI_ok ?_ | refine (q44g _ _ _ _ ?_ ⟨_, ⟨by decide, by decide⟩, rfl⟩).1)
end Go.Proofs.YtodddilaniojgaaGreat.Ab
