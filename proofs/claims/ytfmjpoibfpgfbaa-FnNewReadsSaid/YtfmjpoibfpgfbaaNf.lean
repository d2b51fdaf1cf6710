/- Drawn reads and tapes, in plain Lean. No program in sight. -/
import Derived.Test.YtfmjpoibfpgfbaaNe
import Derived.Test.YtfmjpoibfpgfbaaDa
namespace Go.Proofs.Ytfmjpoibfpgfbaa.Ab
noncomputable section
open Go.RowKit
set_option linter.unusedVariables false
/-- Where the cursor is after k bytes. -/
def curI (rows : List (List D)) (i : Int) : Nat → Int
  | 0 => i
  | k + 1 => byteI rows (curI rows i k)
def curH (h : Int) : Nat → Int
  | 0 => h
  | k + 1 => byteH (curH h k)
theorem curOk {rows : List (List D)} {i : Int} (h : CurOk rows i) : ∀ k, CurOk rows (curI rows i k)
  | 0 => h
  | k + 1 => byteI_ok (curOk h k)
def pick4 : List (List D) := [[.s ⟨#[102]⟩], [.s ⟨#[103]⟩], [.s ⟨#[104]⟩], [.s ⟨#[122]⟩]]
/-- A drawn read: what it is of, a number, a time, a text; no result yet. -/
def rd14 (rows : List (List D)) (i h : Int) : List D :=
  [.i (IntKind.i64.wrap (1 + belowR rows i h 3)), .i (belowR rows (curI rows i 1) (curH h 1) 7), .i (belowR rows (curI rows i 3) (curH h 3) 3), .s ((pick4.getD (belowR rows (curI rows i 2) (curH h 2) 4).toNat []).getD 0 default).str, .i 0, .i 0, .i 0, .s ByteArray.empty, .l [], .l [], .l []]
theorem pick4_size (k : Nat) : ((pick4.getD k []).getD 0 default).str.size ≤ 1 := by
  match k with
  | 0 => decide
  | 1 => decide
  | 2 => decide
  | 3 => decide
  | k + 4 =>
    have : pick4.getD (k + 4) [] = [] := by simp [pick4]
    rw [this]
    decide
def spRd14 (T : Tab) (e : TypeId) (RT : List CT) : FSpec where
  pre := preC e
  bx := true
  res args := match args with
    | [.tup [(_, [.sl _ _ rows, .i _ i, .i _ h])]] => .val true (rowC RT (rd14 rows i h))
    | _ => .none
  upd args := match args with
    | [.tup [(_, [.sl _ _ rows, .i _ i, .i _ h])]] => curC e rows (curI rows i 4) (curH h 4)
    | _ => []
def spNum1 (VC : List CT) : FSpec where
  pre args := ∃ n : Int, args = [.val false [.i .i64 n]]
  res args := match args with
    | [.val _ [.i _ n]] => .val true (rowC VC [.i 1, .i n, .i 0, .s ByteArray.empty, .l [], .l [], .l []])
    | _ => .none
theorem cur_add (rows : List (List D)) (i : Int) (a : Nat) : ∀ b, curI rows (curI rows i a) b = curI rows i (a + b)
  | 0 => rfl
  | b + 1 => by
    show byteI rows (curI rows (curI rows i a) b) = byteI rows (curI rows i (a + b))
    rw [cur_add rows i a b]
theorem curH_add (h : Int) (a : Nat) : ∀ b, curH (curH h a) b = curH h (a + b)
  | 0 => rfl
  | b + 1 => by
    show byteH (curH (curH h a) b) = byteH (curH h (a + b))
    rw [curH_add h a b]
/-- A drawn read as it is kept: a number for draws of chance alone, a text for files alone; a number as the result. -/
def mod16 (r : List D) (n : Int) : List D := [.i (r.getD 0 default).int, .i (if (r.getD 0 default).int = 2 then (r.getD 1 default).int else 0), .i (r.getD 2 default).int, .s (if (r.getD 0 default).int = 3 then (r.getD 3 default).str else ⟨#[]⟩), .i 1, .i n, .i 0, .s ByteArray.empty, .l [], .l [], .l []]
def row16 (rows : List (List D)) (i h z : Int) : List D := mod16 (rd14 rows (curI rows i (1 + 4 * z.toNat)) (curH h (1 + 4 * z.toNat))) (IntKind.i64.wrap (50 + z))
def tp16 (rows : List (List D)) (i h z : Int) : List (List D) := (List.range z.toNat).map fun (k : Nat) => row16 rows i h (k : Int)
theorem tp16_next {rows : List (List D)} {i h z : Int} (h0 : 0 ≤ z) {r : List D} (hr : r = row16 rows i h z) : tp16 rows i h z ++ [r] = tp16 rows i h (z + 1) := by
  have e : (z + 1).toNat = z.toNat + 1 := by omega
  have e2 : ((z.toNat : Nat) : Int) = z := by omega
  unfold tp16
  rw [e, List.range_succ, List.map_append, List.map_singleton, e2, hr]
theorem tp16_len (rows : List (List D)) (i h z : Int) : (tp16 rows i h z).length = z.toNat := by simp [tp16]
theorem row16_flat (rows : List (List D)) (i h z : Int) : flatR (row16 rows i h z) := ⟨rfl, rfl, rfl⟩
theorem row16_w (rows : List (List D)) (i h z : Int) : wRow (row16 rows i h z) ≤ 1 := by
  have h1 := pick4_size (belowR rows (curI rows (curI rows i (1 + 4 * z.toNat)) 2) (curH (curH h (1 + 4 * z.toNat)) 2) 4).toNat
  have hs : (if ((rd14 rows (curI rows i (1 + 4 * z.toNat)) (curH h (1 + 4 * z.toNat))).getD 0 default).int = 3 then ((rd14 rows (curI rows i (1 + 4 * z.toNat)) (curH h (1 + 4 * z.toNat))).getD 3 default).str else ⟨#[]⟩).size ≤ 1 := by
    split
    · exact h1
    · exact Nat.zero_le _
  have e : ByteArray.empty.size = 0 := rfl
  unfold row16 mod16
  simp only [wRow, wD, wRows, List.length_nil]
  omega
theorem tp16_flat (rows : List (List D)) (i h z : Int) : flatL (tp16 rows i h z) := by
  intro r hr
  obtain ⟨k, _, rfl⟩ := List.mem_map.1 hr
  exact row16_flat _ _ _ _
theorem wRows_small {l : List (List D)} (h : ∀ r ∈ l, wRow r ≤ 1) : wRows l ≤ l.length := by
  induction l with
  | nil => exact Nat.le_refl _
  | cons r l ih =>
    have := h r (List.mem_cons_self ..)
    have := ih fun x hx => h x (List.mem_cons_of_mem _ hx)
    simp only [wRows, List.length_cons]
    omega
theorem tp16_w (rows : List (List D)) (i h z : Int) : wRows (tp16 rows i h z) ≤ z.toNat := by
  have := wRows_small (l := tp16 rows i h z) (fun r hr => by
    obtain ⟨k, _, rfl⟩ := List.mem_map.1 hr
    exact row16_w _ _ _ _)
  rwa [tp16_len] at this
def spTape16 (e er : TypeId) : FSpec where
  pre := preC e
  bx := true
  res args := match args with
    | [.tup [(_, [.sl _ _ rows, .i _ i, .i _ h])]] => .val false [.sl true er (tp16 rows i h (belowR rows i h 4))]
    | _ => .none
  upd args := match args with
    | [.tup [(_, [.sl _ _ rows, .i _ i, .i _ h])]] => curC e rows (curI rows i (1 + 4 * (belowR rows i h 4).toNat)) (curH h (1 + 4 * (belowR rows i h 4).toNat))
    | _ => []
theorem mod16_eq {r : List D} {n a : Int} {s : ByteArray} (h1 : a = if (r.getD 0 default).int = 2 then (r.getD 1 default).int else 0) (h2 : s = if (r.getD 0 default).int = 3 then (r.getD 3 default).str else ⟨#[]⟩) : [D.i (r.getD 0 default).int, .i a, .i (r.getD 2 default).int, .s s, .i 1, .i n, .i 0, .s ByteArray.empty, .l [], .l [], .l []] = mod16 r n := by
  rw [mod16, h1, h2]
theorem cur_next {rows : List (List D)} {i h z : Int} (h0 : 0 ≤ z) : curI rows (curI rows i (1 + 4 * z.toNat)) 4 = curI rows i (1 + 4 * (z + 1).toNat) ∧ curH (curH h (1 + 4 * z.toNat)) 4 = curH h (1 + 4 * (z + 1).toNat) := by
  have e : (z + 1).toNat = z.toNat + 1 := by omega
  rw [cur_add, curH_add, e, show 1 + 4 * (z.toNat + 1) = 1 + 4 * z.toNat + 4 by omega]
  exact ⟨rfl, rfl⟩
theorem ne_of {x k : Int} (h : (x != k) = true) : ¬ x = k := by simpa using h
theorem eq_of {x k : Int} (h : (x != k) = false) : x = k := by simpa using h
theorem snapC (f : List (List D) → Int → Int → Int → Snap) {r r' : List (List D)} {a b c d x y : Int} (h : r = r') (h1 : a = b ∧ c = d) (h2 : x = y) : f r a c x = f r' b d y := by rw [h, h1.1, h1.2, h2]
end
end Go.Proofs.Ytfmjpoibfpgfbaa.Ab
