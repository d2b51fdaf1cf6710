/- Sizes of texts that are put together. No program in sight. The texts of expressions: printed by a program of this claim. -/
import Derived.Test.YtodddilaniojgaaGreatCJa
import Derived.Test.YtodddilaniojgaaGreatCJc
namespace Go.Proofs.YtodddilaniojgaaGreat.Ab
open Go.RowKit
set_option linter.unusedVariables false
theorem at_sz1 {s : ByteArray} {B : Nat} (h : s.size ≤ B) (hB : B ≤ 100000) : (⟨#[40]⟩ : ByteArray).size + s.size ≤ maxLen := by
  show 1 + s.size ≤ maxLen
  simp only [maxLen]; omega
theorem at_sz2 {s : ByteArray} {B : Nat} (h : s.size ≤ B) (hB : B ≤ 100000) : ((⟨#[40]⟩ : ByteArray) ++ s).size + (⟨#[41]⟩ : ByteArray).size ≤ maxLen := by
  rw [ByteArray.size_append]
  show 1 + s.size + 1 ≤ maxLen
  simp only [maxLen]; omega
theorem at_sz3 {s : ByteArray} {B : Nat} (h : s.size ≤ B) : ((⟨#[40]⟩ : ByteArray) ++ s ++ ⟨#[41]⟩).size ≤ B + 2 := by
  rw [ByteArray.size_append, ByteArray.size_append]
  show 1 + s.size + 1 ≤ _
  omega
theorem TR.strs {b : Nat} {l : List (List D)} (h : TR b l) : ∀ x ∈ strsOf l, x.size ≤ b := fun x hx => by
  obtain ⟨r, hr, rfl⟩ := List.mem_map.1 hx
  obtain ⟨t, rfl, ht⟩ := h r hr
  exact ht
theorem ar7 {k : Int} {n : Nat} (h : arOk k n = true) (hk : (k == 7) = true) : n = 2 := by
  rw [beq_iff_eq] at hk; subst hk; exact ar_two h (by decide) (by decide) (by decide) (by decide) (by decide) (by decide)
theorem ar9 {k : Int} {n : Nat} (h : arOk k n = true) (hk : (k == 9) = true) : n = 2 := by
  rw [beq_iff_eq] at hk; subst hk; exact ar_two h (by decide) (by decide) (by decide) (by decide) (by decide) (by decide)
theorem ar8 {k : Int} {n : Nat} (h : arOk k n = true) (hk : (k == 8) = true) : n = 3 := ar_three h (eq_of_beq hk)
theorem ar0 {k : Int} {n : Nat} (h : arOk k n = true) (h1 : (k == 1) = false) (h2 : (k == 2) = false) (h3 : (k == 3) = false) (h4 : (k == 4) = false) (h5 : (k == 5) = false) (h8 : (k == 8) = false) : n = 2 :=
  ar_two h (beq_eq_false_iff_ne.1 h1) (beq_eq_false_iff_ne.1 h2) (beq_eq_false_iff_ne.1 h3) (beq_eq_false_iff_ne.1 h4) (beq_eq_false_iff_ne.1 h5) (beq_eq_false_iff_ne.1 h8)
theorem szT {a b m n k : Nat} (ha : a ≤ m) (hb : b ≤ n) (h : m + n ≤ k) : a + b ≤ k := by omega
theorem szE {a m k : Nat} (ha : a ≤ m) (h : m ≤ k) : a ≤ k := by omega
theorem cat2 {a b : ByteArray} {m n : Nat} (ha : a.size ≤ m) (hb : b.size ≤ n) : (a ++ b).size ≤ m + n := by rw [ByteArray.size_append]; omega
theorem lit_size (a : Array UInt8) : (⟨a⟩ : ByteArray).size = a.size := rfl
theorem belowR_lt {rows : List (List D)} {i h n : Int} (hn : 1 ≤ n ∧ n ≤ 256) : 0 ≤ belowR rows i h n ∧ belowR rows i h n < 256 := by
  have := belowR_in (rows := rows) (i := i) (h := h) hn
  omega
theorem TR.pick {b : Nat} {l : List (List D)} (h : TR b l) (k : Nat) : ((l.getD k []).getD 0 default).str.size ≤ b := by
  refine pick_row (P := fun r => (r.getD 0 default).str.size ≤ b) (Nat.zero_le _) (fun r hr => ?_) k
  obtain ⟨t, rfl, ht⟩ := h r hr
  exact ht
theorem kk0 : inK .i64 0 := ⟨by decide, by decide⟩
theorem kk1 : inK .i64 1 := ⟨by decide, by decide⟩
theorem kk2 : inK .i64 2 := ⟨by decide, by decide⟩
theorem kk3 : inK .i64 3 := ⟨by decide, by decide⟩
theorem kk4 : inK .i64 4 := ⟨by decide, by decide⟩
theorem kk5 : inK .i64 5 := ⟨by decide, by decide⟩
theorem kk6 : inK .i64 6 := ⟨by decide, by decide⟩
theorem kk7 : inK .i64 7 := ⟨by decide, by decide⟩
theorem kk8 : inK .i64 8 := ⟨by decide, by decide⟩
theorem kk9 : inK .i64 9 := ⟨by decide, by decide⟩
theorem pokeLen {l : List (List D)} {k j : Nat} {ds : List D} : (pokeRow l k j ds).length = l.length := by simp only [pokeRow, List.length_set]
theorem exPoke {d : Nat} {l : List (List D)} {k : Nat} {x : EL} (h : ∀ y ∈ l, ExOk d y) (hk : k < l.length) (hx : ExOk d x.row) : ∀ y ∈ pokeRow l k 0 x.row, ExOk d y := by
  have hr := allAt h hk
  unfold pokeRow
  refine allPoke h ?_
  cases d with
  | zero => exact hr.elim
  | succ d =>
    obtain ⟨z, e, _⟩ := hr
    rw [e]
    exact hx
theorem FOk.no {P : Program} {T : Tab} {f : FuncId} (hcall : ∀ args w, (callFunc f args).run P w = .ok (.enter f args) w) : FOk P T f { pre := fun _ => False, res := fun _ => .none } :=
  ⟨hcall, (fun hb => by cases hb), fun _ w X args vals a1 a2 a3 hpre => absurd hpre id, (fun hb => by cases hb)⟩
section
variable {P : Program} {T : Tab} {f : FuncId} {w : World} {X : Nat → Prop}
theorem RdR.nil_any {e e' : TypeId} {v : Value} (h : RdR T w X (.l e) v (.l [])) : RdR T w X (.l e') v (.l []) := by
  generalize hd : D.l [] = d at h
  generalize hc : CT.l e = ct at h
  cases h with
  | nil e2 A c g => exact .nil e' A c g
  | sl e2 ty b o c rows vs h1 h2 h3 h4 h5 h6 h7 h8 =>
    obtain rfl : rows = [] := by simpa using hd.symm
    exact .nil e' _ c h3
  | _ => cases hd
theorem ArgsR.nil2 {vals : List Value} {x : SV} {e e' : TypeId} (h : ArgsR T w X vals [x, argS e []]) : ArgsR T w X vals [x, argS e' []] := by
  obtain ⟨h1, h2⟩ := h
  refine ⟨h1, fun i a v ha hv => ?_⟩
  match i with
  | 0 => exact h2 0 a v ha hv
  | 1 =>
    obtain rfl := Option.some.inj ha
    obtain ⟨c, hc, hr⟩ := h2 1 _ v rfl hv
    obtain rfl : CV.sl false e [] = c := by simpa using hc
    have hr : RdR T w X (.l e) v (.l []) := hr
    exact ⟨_, rfl, (show RdR T w X (.l e') v (.l []) from hr.nil_any)⟩
  | i + 2 => simp at ha
def nil2 (s : FSpec) (e : TypeId) : FSpec where
  pre a := s.pre a ∨ ∃ x, a = [x, argS 0 []] ∧ s.pre [x, argS e []]
  res a := match a with
    | [x, .val false [.sl false 0 []]] => s.res [x, argS e []]
    | _ => s.res a
theorem FOk.nil2 {s : FSpec} {e : TypeId} (hb : s.bx = false) (he : ∀ a x, s.pre a → a ≠ [x, argS 0 []]) (h : FOk P T f s) : FOk P T f (nil2 s e) := by
  refine ⟨h.call, (fun hb => by cases hb), fun _ w X args vals a1 a2 a3 hpre => ?_, (fun hb => by cases hb)⟩
  rcases hpre with hp | ⟨x, rfl, hp⟩
  · have := h.ok hb w X args vals a1 a2 a3 hp
    have e1 : (Ab.nil2 s e).res args = s.res args := by
      show (match args with | [x, .val false [.sl false 0 []]] => s.res [x, argS e []] | _ => s.res args) = _
      split
      · rename_i x; exact absurd rfl (he _ x hp)
      · rfl
    rw [e1]
    exact this
  · exact h.ok hb w X _ vals a1 a2.nil2 a3 hp
end
end Go.Proofs.YtodddilaniojgaaGreat.Ab
namespace Go.Proofs.YtodddilaniojgaaGreat.Ab
open Go.RowKit
set_option linter.unusedVariables false
set_option linter.unusedSimpArgs false
set_option maxRecDepth 100000
set_option maxHeartbeats 2000000
theorem any119 (d B : Nat) (hB : B ≤ 100000) (hd : AnyX Tryz.prog T 110 (preE [.i .i64, .i .i64, .s, .l 126] d) (fun x : ByteArray => .val false [.s x]) (fun x : ByteArray => x.size ≤ B)) : AnyX Tryz.prog T 119 (preEI [.i .i64, .i .i64, .s, .l 126] d) (fun x : ByteArray => .val false [.s x]) (fun x : ByteArray => x.size ≤ B + 2) := by
  obtain ⟨g110, k110, q110⟩ := hd
  obtain ⟨g118, k118, q118⟩ := any118
  refine AnyX.of (⟨#[]⟩) (Nat.zero_le _) (fokA (fun _ (x : ByteArray) => .val false [.s x]) (post := fun _ (x : ByteArray) => x.size ≤ B + 2) (env := envL [(110, { pre := preE [.i .i64, .i .i64, .s, .l 126] d, res := fun a => (fun x : ByteArray => .val false [.s x]) (g110 a) }), (118, { pre := fun a => ∃ r : List D, a = [argG [.i .i64, .i .i64, .s, .l 126] r], res := fun a => (fun x : Int => .val false [.i .i64 x]) (g118 a) })]) (N := 16) tabT (envL_cons k110 (envL_cons k118 envL_nil)) mixed Tryz.func119 rfl Tryz.call119 Tryz.ntmps119 ?_)
  rintro args ⟨r, n, hr, rfl⟩ hwf
  refine ⟨by simp, ?_⟩
  clear hwf
  rw [Tryz.results119]
  repeat' first
    | (refine And.intro ?_ ?_)
    | (intro h; simp only [reduceCtorEq] at h; done)
    | (intro h; rw [h])
    | (intro h)
  all_goals first
    | (show lowEdges _ = true; kernel_rfl) | (show logOk _ _ = true; kernel_rfl) | exact True.intro | exact Or.inr rfl | exact Or.inl rfl
    | exact ⟨_, hr, rfl⟩
    | exact ⟨_, rfl⟩
    | exact at_sz1 (q110 _) hB
    | exact at_sz2 (q110 _) hB
    | exact ⟨_, at_sz3 (q110 _), rfl, True.intro⟩
    | exact ⟨_, Nat.le_trans (q110 _) (by omega), rfl, True.intro⟩
    | skip
theorem any117 (d B : Nat) (hB : B ≤ 100000) (hd : AnyX Tryz.prog T 110 (preE [.i .i64, .i .i64, .s, .l 126] d) (fun x : ByteArray => .val false [.s x]) (fun x : ByteArray => x.size ≤ B)) : AnyX Tryz.prog T 117 (preEL 126 d) (fun x : ByteArray => .val false [.s x]) (fun x : ByteArray => x.size ≤ 4 * (B + 2)) := by
  obtain ⟨g110, k110, q110⟩ := hd
  refine AnyX.of (⟨#[]⟩) (Nat.zero_le _) (fokA (fun _ (x : ByteArray) => .val false [.s x]) (post := fun _ (x : ByteArray) => x.size ≤ 4 * (B + 2)) (env := envL [(110, { pre := preE [.i .i64, .i .i64, .s, .l 126] d, res := fun a => (fun x : ByteArray => .val false [.s x]) (g110 a) }), (81, spJoin)]) (N := 22) tabT (envL_cons k110 (envL_cons ok81 envL_nil)) mixed Tryz.func117 rfl Tryz.call117 Tryz.ntmps117 ?_)
  rintro args ⟨l, ⟨hl, hall⟩, rfl⟩ hwf
  refine ⟨by simp, ?_⟩
  clear hwf
  have hlm : l.length ≤ 1048576 := Nat.le_trans hl (by decide)
  rw [Tryz.results117]
  repeat' first
    | (refine And.intro ?_ ?_)
    | (intro h; simp only [reduceCtorEq] at h; done)
    | (intro h; rw [h])
    | (intro h)
  all_goals first
    | (show lowEdges _ = true; kernel_rfl) | (show logOk _ _ = true; kernel_rfl) | exact True.intro | exact Or.inr rfl | exact Or.inl rfl
    | skip
  refine awp_loop (Q := _) [0, 3, 4] [] (fun n st => ∃ (i : Nat) (o : List (List D)), st = ([argS 126 l, .val false [.sl true 9 o], .val false [.i .i64 (i : Int)]], []) ∧ i ≤ l.length ∧ TR B o ∧ o.length = i ∧ n = l.length - i) ?_ ?_
  · exact ⟨rfl, l.length, 0, _, rfl, Nat.zero_le _, TR.nil, rfl, rfl⟩
  rintro n st ⟨i, o, rfl, hle, hT, hol, rfl⟩
  repeat' first
    | (refine And.intro ?_ ?_)
    | (intro h; simp only [reduceCtorEq] at h; done)
    | (intro h; rw [h])
    | (intro h)
  all_goals first
    | (show lowEdges _ = true; kernel_rfl) | (show logOk _ _ = true; kernel_rfl) | exact True.intro | exact Or.inr rfl | exact Or.inl rfl
    | with_reducible exact Int.natCast_nonneg _
    | (have hi : i < l.length := ltN' (by with_reducible assumption)
       first
         | with_reducible exact of_decide_eq_true (by with_reducible assumption)
         | (show (Int.toNat (i : Int)) < _; rw [Int.toNat_natCast]; exact hi)
         | (show (i : Int) < _; omega)
         | exact ⟨_, allAt hall (by omega), rfl⟩
         | (show o.length + 1 ≤ maxLen; simp only [maxLen]; omega)
         | (show (o.length + 1) * 16 ≤ 140737488355328; omega)
         | (exact ⟨_, _, (by omega), Nat.le_trans (joinT_len (hT.strs)) (by simp only [strsOf, List.length_map]; rw [hol]; show _ * (B + 2) ≤ _; exact Nat.le_trans (Nat.mul_le_mul_right _ (show i ≤ 4 by omega)) (by omega)), rfl⟩)
         | (exact ⟨_, Nat.le_trans (joinT_len (hT.strs)) (by simp only [strsOf, List.length_map]; rw [hol]; show _ * (B + 2) ≤ _; exact Nat.mul_le_mul_right _ (show i ≤ 4 by omega)), rfl, True.intro⟩)
         | (refine ⟨l.length - (i + 1), by omega, i + 1, _, congrArg (fun z : Int => (([argS 126 l, .val false [.sl true 9 _], .val false [.i .i64 z]], []) : Snap)) (wrapN' hi hlm), by omega, hT.add (q110 _), by rw [List.length_append, hol]; rfl, rfl⟩)
         | (show Alive _ _; exact rfl))
    | exact ⟨_, allAt hall (by omega), rfl⟩
    | (show o.length + 1 ≤ maxLen; simp only [maxLen]; omega)
    | (show (o.length + 1) * 16 ≤ 140737488355328; omega)
    | (exact ⟨_, _, (by omega), Nat.le_trans (joinT_len (hT.strs)) (by simp only [strsOf, List.length_map]; rw [hol]; show _ * (B + 2) ≤ _; exact Nat.le_trans (Nat.mul_le_mul_right _ (show i ≤ 4 by omega)) (by omega)), rfl⟩)
    | (exact ⟨_, Nat.le_trans (joinT_len (hT.strs)) (by simp only [strsOf, List.length_map]; rw [hol]; show _ * (B + 2) ≤ _; exact Nat.mul_le_mul_right _ (show i ≤ 4 by omega)), rfl, True.intro⟩)
    | (refine ⟨l.length - (i + 1), by omega, i + 1, _, congrArg (fun z : Int => (([argS 126 l, .val false [.sl true 9 _], .val false [.i .i64 z]], []) : Snap)) (wrapN' hi hlm), by omega, hT.add (q110 _), by rw [List.length_append, hol]; rfl, rfl⟩)
    | (show Alive _ _; exact rfl)
    | skip
theorem step110 (d B : Nat) (hB : B ≤ 100000) (hd : AnyX Tryz.prog T 110 (preE [.i .i64, .i .i64, .s, .l 126] d) (fun x : ByteArray => .val false [.s x]) (fun x : ByteArray => x.size ≤ B)) : AnyX Tryz.prog T 110 (preE [.i .i64, .i .i64, .s, .l 126] (d + 1)) (fun x : ByteArray => .val false [.s x]) (fun x : ByteArray => x.size ≤ 4 * B + 64) := by
  obtain ⟨g117, k117, q117⟩ := any117 d B hB hd
  obtain ⟨g119, k119, q119⟩ := any119 d B hB hd
  obtain ⟨g110, k110, q110⟩ := hd
  obtain ⟨g118, k118, q118⟩ := any118
  obtain ⟨g120, k120, q120⟩ := any120
  refine AnyX.of (⟨#[]⟩) (Nat.zero_le _) (fokA (fun _ (x : ByteArray) => .val false [.s x]) (post := fun _ (x : ByteArray) => x.size ≤ 4 * B + 64) (env := envL [(80, spItoa), (117, { pre := preEL 126 d, res := fun a => (fun x : ByteArray => .val false [.s x]) (g117 a) }), (110, { pre := preE [.i .i64, .i .i64, .s, .l 126] d, res := fun a => (fun x : ByteArray => .val false [.s x]) (g110 a) }), (118, { pre := fun a => ∃ r : List D, a = [argG [.i .i64, .i .i64, .s, .l 126] r], res := fun a => (fun x : Int => .val false [.i .i64 x]) (g118 a) }), (119, { pre := preEI [.i .i64, .i .i64, .s, .l 126] d, res := fun a => (fun x : ByteArray => .val false [.s x]) (g119 a) }), (120, { pre := fun a => ∃ n : Int, a = [.val false [.i .i64 n]], res := fun a => (fun x : ByteArray => .val false [.s x]) (g120 a) })]) (N := 124) tabT (envL_cons ok80 (envL_cons k117 (envL_cons k110 (envL_cons k118 (envL_cons k119 (envL_cons k120 envL_nil)))))) mixed Tryz.func110 rfl Tryz.call110 Tryz.ntmps110 ?_)
  rintro args ⟨r, hr, rfl⟩ hwf
  refine ⟨by simp, ?_⟩
  clear hwf
  obtain ⟨hl, hall, har, hts⟩ := hr.args
  have hlm : (r.getD 3 default).rows.length ≤ 1048576 := Nat.le_trans hl (by decide)
  have hnum := hr.num
  rw [Tryz.results110]
  repeat' first
    | (refine And.intro ?_ ?_)
    | (intro h; simp only [reduceCtorEq] at h; done)
    | (intro h; rw [h])
    | (intro h)
  all_goals first
    | (show lowEdges _ = true; kernel_rfl) | (show logOk _ _ = true; kernel_rfl) | exact True.intro | exact Or.inr rfl | exact Or.inl rfl
    | exact ⟨_, rfl⟩
    | exact ⟨_, ⟨hl, hall⟩, rfl⟩
    | decide
    | (have e : (r.getD 3 default).rows.length = 2 := by first | exact ar7 har (by with_reducible assumption) | exact ar9 har (by with_reducible assumption) | exact ar0 har (by with_reducible assumption) (by with_reducible assumption) (by with_reducible assumption) (by with_reducible assumption) (by with_reducible assumption) (by with_reducible assumption)
       first | (show (0 : Int) < (((r.getD 3 default).rows.length : Nat) : Int); omega) | (show Int.toNat 0 < (r.getD 3 default).rows.length; rw [e]; decide) | exact ⟨_, allAt hall (by show Int.toNat 0 < (r.getD 3 default).rows.length; rw [e]; decide), rfl⟩ | exact ⟨_, _, allAt hall (by show Int.toNat 0 < (r.getD 3 default).rows.length; rw [e]; decide), rfl⟩ | (show (1 : Int) < (((r.getD 3 default).rows.length : Nat) : Int); omega) | (show Int.toNat 1 < (r.getD 3 default).rows.length; rw [e]; decide) | exact ⟨_, allAt hall (by show Int.toNat 1 < (r.getD 3 default).rows.length; rw [e]; decide), rfl⟩ | exact ⟨_, _, allAt hall (by show Int.toNat 1 < (r.getD 3 default).rows.length; rw [e]; decide), rfl⟩)
    | (have e : (r.getD 3 default).rows.length = 3 := by first | exact ar8 har (by with_reducible assumption)
       first | (show (0 : Int) < (((r.getD 3 default).rows.length : Nat) : Int); omega) | (show Int.toNat 0 < (r.getD 3 default).rows.length; rw [e]; decide) | exact ⟨_, allAt hall (by show Int.toNat 0 < (r.getD 3 default).rows.length; rw [e]; decide), rfl⟩ | exact ⟨_, _, allAt hall (by show Int.toNat 0 < (r.getD 3 default).rows.length; rw [e]; decide), rfl⟩ | (show (1 : Int) < (((r.getD 3 default).rows.length : Nat) : Int); omega) | (show Int.toNat 1 < (r.getD 3 default).rows.length; rw [e]; decide) | exact ⟨_, allAt hall (by show Int.toNat 1 < (r.getD 3 default).rows.length; rw [e]; decide), rfl⟩ | exact ⟨_, _, allAt hall (by show Int.toNat 1 < (r.getD 3 default).rows.length; rw [e]; decide), rfl⟩ | (show (2 : Int) < (((r.getD 3 default).rows.length : Nat) : Int); omega) | (show Int.toNat 2 < (r.getD 3 default).rows.length; rw [e]; decide) | exact ⟨_, allAt hall (by show Int.toNat 2 < (r.getD 3 default).rows.length; rw [e]; decide), rfl⟩ | exact ⟨_, _, allAt hall (by show Int.toNat 2 < (r.getD 3 default).rows.length; rw [e]; decide), rfl⟩)
    | ((with_reducible apply szT)
       · repeat (first | (with_reducible apply cat2) | exact q110 _ | exact q117 _ | exact q119 _ | exact q120 _ | exact hts | exact itoa20 hnum | exact Nat.le_refl _)
       · repeat (first | (with_reducible apply cat2) | exact q110 _ | exact q117 _ | exact q119 _ | exact q120 _ | exact hts | exact itoa20 hnum | exact Nat.le_refl _)
       · (try simp only [lit_size, List.size_toArray, List.length_cons, List.length_nil, maxLen, Nat.reduceAdd]); omega)
    | (refine ⟨_, ?_, rfl, True.intro⟩
       apply szE
       · repeat (first | (with_reducible apply cat2) | exact q110 _ | exact q117 _ | exact q119 _ | exact q120 _ | exact hts | exact itoa20 hnum | exact Nat.le_refl _)
       · (try simp only [lit_size, List.size_toArray, List.length_cons, List.length_nil, Nat.reduceAdd]); omega)
    | skip
theorem all110_0 : AnyX Tryz.prog T 110 (preE [.i .i64, .i .i64, .s, .l 126] 0) (fun x : ByteArray => .val false [.s x]) (fun x : ByteArray => x.size ≤ 0) := AnyX.none (⟨#[]⟩) (Nat.le_refl _) Tryz.call110 (by rintro a ⟨r, hr, _⟩; exact hr.elim)
theorem all110_1 : AnyX Tryz.prog T 110 (preE [.i .i64, .i .i64, .s, .l 126] 1) (fun x : ByteArray => .val false [.s x]) (fun x : ByteArray => x.size ≤ 64) := step110 0 0 (by decide) all110_0
theorem all110_2 : AnyX Tryz.prog T 110 (preE [.i .i64, .i .i64, .s, .l 126] 2) (fun x : ByteArray => .val false [.s x]) (fun x : ByteArray => x.size ≤ 320) := step110 1 64 (by decide) all110_1
theorem all110_3 : AnyX Tryz.prog T 110 (preE [.i .i64, .i .i64, .s, .l 126] 3) (fun x : ByteArray => .val false [.s x]) (fun x : ByteArray => x.size ≤ 1344) := step110 2 320 (by decide) all110_2
theorem all110_4 : AnyX Tryz.prog T 110 (preE [.i .i64, .i .i64, .s, .l 126] 4) (fun x : ByteArray => .val false [.s x]) (fun x : ByteArray => x.size ≤ 5440) := step110 3 1344 (by decide) all110_3
theorem all110_5 : AnyX Tryz.prog T 110 (preE [.i .i64, .i .i64, .s, .l 126] 5) (fun x : ByteArray => .val false [.s x]) (fun x : ByteArray => x.size ≤ 21824) := step110 4 5440 (by decide) all110_4
theorem any94 : AnyX Tryz.prog T 94 (preE [.i .i64, .i .i64, .s, .l 126] 5) (fun x : ByteArray => .val false [.s x]) (fun x : ByteArray => x.size ≤ 21824) := by
  obtain ⟨g110, k110, q110⟩ := all110_5
  obtain ⟨g109, k109, q109⟩ := any109 5
  refine AnyX.of (⟨#[]⟩) (Nat.zero_le _) (fokA (fun _ (x : ByteArray) => .val false [.s x]) (post := fun _ (x : ByteArray) => x.size ≤ 21824) (env := envL [(109, { pre := preE [.i .i64, .i .i64, .s, .l 126] 5, res := fun a => (fun x : Bool => .val false [.b x]) (g109 a) }), (110, { pre := preE [.i .i64, .i .i64, .s, .l 126] 5, res := fun a => (fun x : ByteArray => .val false [.s x]) (g110 a) })]) (N := 8) tabT (envL_cons k109 (envL_cons k110 envL_nil)) mixed Tryz.func94 rfl Tryz.call94 Tryz.ntmps94 ?_)
  rintro args ⟨r, hr, rfl⟩ hwf
  refine ⟨by simp, ?_⟩
  clear hwf
  rw [Tryz.results94]
  repeat' first
    | (refine And.intro ?_ ?_)
    | (intro h; simp only [reduceCtorEq] at h; done)
    | (intro h; rw [h])
    | (intro h)
  all_goals first
    | (show lowEdges _ = true; kernel_rfl) | (show logOk _ _ = true; kernel_rfl) | exact True.intro | exact Or.inr rfl | exact Or.inl rfl
    | exact ⟨_, hr, rfl⟩
    | exact ⟨_, (by decide), rfl, True.intro⟩
    | exact ⟨_, q110 _, rfl, True.intro⟩
    | skip
end Go.Proofs.YtodddilaniojgaaGreat.Ab
