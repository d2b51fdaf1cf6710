/- The program's 'less': printed by a program of this claim. sort.SliceStable over the walks of its family. The sort at the end of the program's merge: printed by a program of this claim. The sort of less than two: nothing is called, a box is laid. The sorted list is the merged one: printed by a program of this claim. The end of the program's merge: printed by a program of this claim. -/
import Derived.Test.YtaecbmjmcpdgdaaGreatCGa
import Derived.Test.YtaecbmjmcpdgdaaGreatCZw
import Derived.Test.YtaecbmjmcpdgdaaGreatCGc
import Derived.Test.YtaecbmjmcpdgdaaGreatCZa
import Derived.Laws.Externs
import Derived.WalkKit
import Derived.Test.YtaecbmjmcpdgdaaGreatCZb
namespace Go.Proofs.YtaecbmjmcpdgdaaGreat.Ab
open Go.RowKit
set_option linter.unusedVariables false
set_option linter.unusedSimpArgs false
set_option maxRecDepth 100000
set_option maxHeartbeats 2000000
theorem glF (w : World) : GlR T w (fun _ => False) := ⟨fun p hp => (by cases hp), fun p hp => (by cases hp)⟩
theorem lessP {rows : List (List D)} {w : World} {b i j : Nat} {u : Value} (hi : i < rows.length) (hj : j < rows.length) (hb : b < w.heap.size) (hc : w.cell? ⟨b, 0, none⟩ = some u) (hr : RdR T w (fun _ => False) (.l 54) u (.l rows)) :
    Calls Tryz.prog 36 #[.int .i64 i, .int .i64 j, .pointer (some ⟨b, 0, none⟩)] w fun e w' => e = .returned (.bool (opLt (rAt rows i) (rAt rows j))) ∧ Below w.heap.size w w' := by
  have hl : rows.length ≤ maxLen := hr.wf.len
  simp only [maxLen] at hl
  refine (callP (P := Tryz.prog) (T := T) (N := 15) tabT Tryz.func36 rfl Tryz.ntmps36 (args := [.val false [.i .i64 i], .val false [.i .i64 j], .rptr [(.l 54, .l rows)]]) (vals := [.int .i64 i, .int .i64 j, .pointer (some ⟨b, 0, none⟩)]) (X := fun _ => False) (ag := false) (cs := [.b (opLt (rAt rows i) (rAt rows j))]) (fun _ h => h.elim) ⟨rfl, ?_⟩ (glF w) (by simp) ?_).mono ?_
  · intro k a v ha hv
    match k with
    | 0 => obtain rfl := Option.some.inj ha; obtain rfl := Option.some.inj hv; exact ⟨_, rfl, rfl, by show (-9223372036854775808 : Int) ≤ _ ∧ _ ≤ (9223372036854775807 : Int); omega⟩
    | 1 => obtain rfl := Option.some.inj ha; obtain rfl := Option.some.inj hv; exact ⟨_, rfl, rfl, by show (-9223372036854775808 : Int) ≤ _ ∧ _ ≤ (9223372036854775807 : Int); omega⟩
    | 2 => obtain rfl := Option.some.inj ha; obtain rfl := Option.some.inj hv; exact ⟨b, 0, rfl, fun h => h, hb, fun q p hp => by
        match q with
        | 0 => obtain rfl := Option.some.inj hp; exact ⟨u, hc, hr⟩
        | q + 1 => cases hp⟩
    | k + 3 => cases ha
  · have hE : EnvOk Tryz.prog T (envL [(37, (spB2 opLt [.i .i64, .i .i64, .i .i64, .l 3, .i .i64, .i .i64, .i .i64, .i .i64, .i .i64, .s, .s, .i .i64, .s, .s, .i .i64, .i .i64, .l 94]))]) := envL_cons xk37 envL_nil
    rw [Tryz.results36]
    refine OkC.of_awp tabT hE mixed ?_
    repeat' first
      | (refine And.intro ?_ ?_)
      | (intro h; simp only [reduceCtorEq] at h; done)
      | (intro h; rw [h])
      | (intro h)
    all_goals first
      | (show lowEdges _ = true; kernel_rfl) | (show logOk _ _ = true; kernel_rfl) | exact True.intro | exact Or.inr rfl | exact Or.inl rfl
      | with_reducible exact Int.natCast_nonneg _
      | (show (i : Int) < (rows.length : Int); omega)
      | (show (j : Int) < (rows.length : Int); omega)
      | (show (Int.toNat (i : Int)) < _; rw [Int.toNat_natCast]; exact hi)
      | (show (Int.toNat (j : Int)) < _; rw [Int.toNat_natCast]; exact hj)
      | exact ⟨_, _, rfl⟩
      | exact rfl
      | skip
  · intro e w' hq
    obtain ⟨v, bk, rfl, hB, hR⟩ := hq
    obtain ⟨c, hc, hv⟩ := hR
    obtain rfl : CV.b (opLt (rAt rows i) (rAt rows j)) = c := by injection hc with hc _
    exact ⟨by rw [show v = .bool (opLt (rAt rows i) (rAt rows j)) from hv], hB⟩
end Go.Proofs.YtaecbmjmcpdgdaaGreat.Ab
namespace Go.Proofs.YtaecbmjmcpdgdaaGreat.Zs
open Go.Sort Go.Proofs Go.RowKit Go.Lib
set_option linter.unusedVariables false
set_option linter.unusedSimpArgs false
noncomputable def siT : TypeInfo := (Tryz.prog.info? 34).get (by kernel_rfl)
noncomputable def siE : TypeInfo := (Tryz.prog.info? 54).get (by kernel_rfl)
theorem siT_eq : Tryz.prog.info? 34 = some siT := by kernel_rfl
theorem siE_eq : Tryz.prog.info? 54 = some siE := by kernel_rfl
theorem siT_desc : siT.desc = .slice 54 := by kernel_rfl
theorem siE_kind (w : World) : (Extern.Rtype.kind 54).run Tryz.prog w = .ok 25 w := by kernel_rfl
theorem siE_size : siE.size = 17 := by kernel_rfl
theorem siE_agg (w : World) : (isAgg 54).run Tryz.prog w = .ok true w := by kernel_rfl
theorem siK (n : Nat) (h2 : 2 ≤ n) : Lib.swapperK n siE 25 = 9 := by
  have a : siE.hasPointers = true := by kernel_rfl
  have b : (siE.bytes == 8) = false := by kernel_rfl
  have c : (n == 0) = false := by simp; omega
  have d : (n == 1) = false := by simp; omega
  simp [Lib.swapperK, a, b, c, d]
theorem siF (n : Nat) (h2 : 2 ≤ n) : Tryz.prog.funcs.findIdx? (·.name == "internal/reflectlite" ++ ".Swapper$" ++ toString (swapperK n siE 25)) = some 77 := by rw [siK n h2]; kernel_rfl
theorem siF0 : Tryz.prog.funcs.findIdx? (·.name == "internal/reflectlite" ++ ".Swapper$" ++ toString (swapperK 0 siE 25)) = some 69 := by kernel_rfl
theorem siF1 : Tryz.prog.funcs.findIdx? (·.name == "internal/reflectlite" ++ ".Swapper$" ++ toString (swapperK 1 siE 25)) = some 70 := by kernel_rfl
theorem siX : ∃ gS, ∀ args W, (callFunc 77 args).run Tryz.prog W = ((Extern.ReflectliteSwapper.swap gS args).run Tryz.prog W).andThen fun v w' => .ok (.value v) w' := by
  first
    | exact ⟨false, fun args W => run_callFunc_extern Tryz.func77 (by kernel_rfl) (by kernel_rfl) (by kernel_rfl) (e := Extern.ReflectliteSwapper.swap false) (by kernel_rfl) args W⟩
    | exact ⟨true, fun args W => run_callFunc_extern Tryz.func77 (by kernel_rfl) (by kernel_rfl) (by kernel_rfl) (e := Extern.ReflectliteSwapper.swap true) (by kernel_rfl) args W⟩
noncomputable def slO (w : World) (p : Option Addr) (n c : Nat) : Array Obj := #[.cells #[.slice p n c] 34, .cells #[typeHandle Tryz.prog 34, .pointer (some ⟨w.heap.size, 0, none⟩), .int .u64 151] 79]
set_option maxHeartbeats 1000000 in
set_option maxRecDepth 100000 in
theorem sls (p : Option Addr) (n c f : Nat) (hn : n < 4611686018427387904) (hf : Tryz.prog.funcs.findIdx? (·.name == "internal/reflectlite" ++ ".Swapper$" ++ toString (swapperK n siE 25)) = some f) (lf : Fn) (la lb : Array Value) (w : World) (R : World → Prop)
    (hp : Calls Tryz.prog 52 #[.agg #[.func lf la lb, .func (.func f) #[] (if swapperK n siE 25 ≤ 2 then #[] else #[.slice p n c, typeHandle Tryz.prog 54])], .int .i64 n] (grow w (slO w p n c)) fun e w' => e = .returned (.tuple #[]) ∧ R w') :
    Calls Tryz.prog 35 #[.iface 34 (.slice p n c), .func lf la lb] w fun e w' => e = .returned (.tuple #[]) ∧ R w' := by
  have hv := run_valueOf_slice (P := Tryz.prog) 34 _ siT siT_eq siT_desc p n c w
  have hs := fun w => run_swapper_slice (P := Tryz.prog) 34 _ siT siE siT_eq siT_desc siE_eq 25 siE_kind p n c f hf w
  have hl := fun a w ha => run_valueLen_slice (P := Tryz.prog) 34 _ siT siT_eq siT_desc (by kernel_rfl) a p n c w ha
  have hgg : grow w (slO w p n c) = (w.alloc (.cells #[.slice p n c] 34)).alloc (.cells #[typeHandle Tryz.prog 34, .pointer (some ⟨w.heap.size, 0, none⟩), .int .u64 151] 79) := by
    rw [alloc_eq_grow, alloc_eq_grow, grow_grow]; rfl
  rw [hgg] at hp
  clear hgg
  generalize (if swapperK n siE 25 ≤ 2 then (#[] : Array Value) else #[.slice p n c, typeHandle Tryz.prog 54]) = B at hs hp
  have hz : Tryz.prog.globals.size = 0 := by kernel_rfl
  simp only [typeHandle, hz] at hv hl hp
  go_enter Tryz.func35, Tryz.ntmps35
  go_wp2_with fail
  rw [run_callFunc_extern Tryz.func50 (by kernel_rfl) (by kernel_rfl) (by kernel_rfl) (e := fun args => Extern.ReflectliteValue.unpack (args.getD 0 (.tuple #[]))) (by kernel_rfl),
    show Sem.run Tryz.prog ((fun args : Array Value => Extern.ReflectliteValue.unpack (args.getD 0 (.tuple #[]))) #[.iface 34 (.slice p n c)]) w = _ from hv]
  simp only [Result.andThen]
  rw [Oper.upon_value]
  go_wp2_with fail
  rw [run_callFunc_extern Tryz.func51 (by kernel_rfl) (by kernel_rfl) (by kernel_rfl) (e := Extern.ReflectliteSwapper.swapper "internal/reflectlite" (Extern.ReflectliteValue.valueError "Swapper")) (by kernel_rfl), hs]
  simp only [Result.andThen]
  rw [Oper.upon_value]
  go_wp2_with fail
  rw [run_callFunc_extern Tryz.func53 (by kernel_rfl) (by kernel_rfl) (by kernel_rfl) (e := Extern.ReflectliteValue.method (Extern.ReflectliteValue.valueError "reflectlite.Value.Len" 0) Extern.ReflectliteValue.len) (by kernel_rfl),
    hl _ _ (by simp)]
  simp only [Result.andThen]
  rw [Oper.upon_value]
  go_wp2_with fail
  refine hp.mono ?_; rintro e w' ⟨rfl, hR⟩
  go_wp2
  go_end0
  exact ⟨rfl, hR⟩
end Go.Proofs.YtaecbmjmcpdgdaaGreat.Zs
namespace Go.Proofs.YtaecbmjmcpdgdaaGreat.Ab
open Go.RowKit
set_option linter.unusedVariables false
set_option linter.unusedSimpArgs false
set_option maxRecDepth 100000
set_option maxHeartbeats 2000000
open Go.Sort Zs Go.Lib Go.Proofs
theorem cons_of {α : Type} {n : Nat} {l : List α} (h : l.length = n + 1) : ∃ x t, l = x :: t ∧ t.length = n := by
  cases l with
  | nil => cases h
  | cons x t => exact ⟨x, t, rfl, by simpa using h⟩
noncomputable def endC : Code := match Tryz.f19.body with
  | some (.seq _ (.seq _ (.seq _ c))) => c
  | _ => .skip
noncomputable def endA : Code := match endC with
  | .seq a _ => a
  | _ => .skip
noncomputable def endB : Code := match endC with
  | .seq _ b => b
  | _ => .skip
theorem endC_eq : endC = .seq endA endB := rfl
def endS : List Nat := [52, 53, 54, 55]
theorem endA_ok {a : Act} {w : World} {b n c : Nat} {p : Option Addr} {R : World → Prop} (hn : a.tmps.size = 57) (hd : a.defers = []) (hq : a.tmps.getD 5 undef = .pointer (some ⟨b, 0, none⟩)) (hc : w.cell? ⟨b, 0, none⟩ = some (.slice p n c))
    (hs : Calls Tryz.prog 35 #[.iface 34 (.slice p n c), .func (.func 36) #[] #[.pointer (some ⟨b, 0, none⟩)]] w fun e w' => e = .returned (.tuple #[]) ∧ R w') :
    endA.wp Tryz.prog (fun e a' w' => e = .normal ∧ a'.defers = [] ∧ a'.tmps.size = 57 ∧ (∀ s, endS.contains s = false → a'.tmps.getD s undef = a.tmps.getD s undef) ∧ R w') a w := by
  obtain ⟨⟨l0⟩, ds⟩ := a
  obtain rfl : ds = [] := hd
  have hl : l0.length = 57 := hn
  obtain ⟨x0, l1, rfl, h1⟩ := cons_of hl
  obtain ⟨x1, l2, rfl, h2⟩ := cons_of h1
  obtain ⟨x2, l3, rfl, h3⟩ := cons_of h2
  obtain ⟨x3, l4, rfl, h4⟩ := cons_of h3
  obtain ⟨x4, l5, rfl, h5⟩ := cons_of h4
  obtain ⟨x5, l6, rfl, h6⟩ := cons_of h5
  obtain ⟨x6, l7, rfl, h7⟩ := cons_of h6
  obtain ⟨x7, l8, rfl, h8⟩ := cons_of h7
  obtain ⟨x8, l9, rfl, h9⟩ := cons_of h8
  obtain ⟨x9, l10, rfl, h10⟩ := cons_of h9
  obtain ⟨x10, l11, rfl, h11⟩ := cons_of h10
  obtain ⟨x11, l12, rfl, h12⟩ := cons_of h11
  obtain ⟨x12, l13, rfl, h13⟩ := cons_of h12
  obtain ⟨x13, l14, rfl, h14⟩ := cons_of h13
  obtain ⟨x14, l15, rfl, h15⟩ := cons_of h14
  obtain ⟨x15, l16, rfl, h16⟩ := cons_of h15
  obtain ⟨x16, l17, rfl, h17⟩ := cons_of h16
  obtain ⟨x17, l18, rfl, h18⟩ := cons_of h17
  obtain ⟨x18, l19, rfl, h19⟩ := cons_of h18
  obtain ⟨x19, l20, rfl, h20⟩ := cons_of h19
  obtain ⟨x20, l21, rfl, h21⟩ := cons_of h20
  obtain ⟨x21, l22, rfl, h22⟩ := cons_of h21
  obtain ⟨x22, l23, rfl, h23⟩ := cons_of h22
  obtain ⟨x23, l24, rfl, h24⟩ := cons_of h23
  obtain ⟨x24, l25, rfl, h25⟩ := cons_of h24
  obtain ⟨x25, l26, rfl, h26⟩ := cons_of h25
  obtain ⟨x26, l27, rfl, h27⟩ := cons_of h26
  obtain ⟨x27, l28, rfl, h28⟩ := cons_of h27
  obtain ⟨x28, l29, rfl, h29⟩ := cons_of h28
  obtain ⟨x29, l30, rfl, h30⟩ := cons_of h29
  obtain ⟨x30, l31, rfl, h31⟩ := cons_of h30
  obtain ⟨x31, l32, rfl, h32⟩ := cons_of h31
  obtain ⟨x32, l33, rfl, h33⟩ := cons_of h32
  obtain ⟨x33, l34, rfl, h34⟩ := cons_of h33
  obtain ⟨x34, l35, rfl, h35⟩ := cons_of h34
  obtain ⟨x35, l36, rfl, h36⟩ := cons_of h35
  obtain ⟨x36, l37, rfl, h37⟩ := cons_of h36
  obtain ⟨x37, l38, rfl, h38⟩ := cons_of h37
  obtain ⟨x38, l39, rfl, h39⟩ := cons_of h38
  obtain ⟨x39, l40, rfl, h40⟩ := cons_of h39
  obtain ⟨x40, l41, rfl, h41⟩ := cons_of h40
  obtain ⟨x41, l42, rfl, h42⟩ := cons_of h41
  obtain ⟨x42, l43, rfl, h43⟩ := cons_of h42
  obtain ⟨x43, l44, rfl, h44⟩ := cons_of h43
  obtain ⟨x44, l45, rfl, h45⟩ := cons_of h44
  obtain ⟨x45, l46, rfl, h46⟩ := cons_of h45
  obtain ⟨x46, l47, rfl, h47⟩ := cons_of h46
  obtain ⟨x47, l48, rfl, h48⟩ := cons_of h47
  obtain ⟨x48, l49, rfl, h49⟩ := cons_of h48
  obtain ⟨x49, l50, rfl, h50⟩ := cons_of h49
  obtain ⟨x50, l51, rfl, h51⟩ := cons_of h50
  obtain ⟨x51, l52, rfl, h52⟩ := cons_of h51
  obtain ⟨x52, l53, rfl, h53⟩ := cons_of h52
  obtain ⟨x53, l54, rfl, h54⟩ := cons_of h53
  obtain ⟨x54, l55, rfl, h55⟩ := cons_of h54
  obtain ⟨x55, l56, rfl, h56⟩ := cons_of h55
  obtain ⟨x56, l57, rfl, h57⟩ := cons_of h56
  obtain rfl : l57 = [] := List.length_eq_zero_iff.1 h57
  clear hl hn h1 h2 h3 h4 h5 h6 h7 h8 h9 h10 h11 h12 h13 h14 h15 h16 h17 h18 h19 h20 h21 h22 h23 h24 h25 h26 h27 h28 h29 h30 h31 h32 h33 h34 h35 h36 h37 h38 h39 h40 h41 h42 h43 h44 h45 h46 h47 h48 h49 h50 h51 h52 h53 h54 h55 h56 h57
  obtain rfl : x5 = .pointer (some ⟨b, 0, none⟩) := hq
  delta endA endC
  dsimp only [Tryz.f19]
  go_wp2_with fail
  refine hs.mono ?_; rintro e w1 ⟨rfl, hR⟩
  go_wp2
  refine ⟨fun s hs' => ?_, hR⟩
  match s, hs' with
  | 0, h => rfl
  | 1, h => rfl
  | 2, h => rfl
  | 3, h => rfl
  | 4, h => rfl
  | 5, h => rfl
  | 6, h => rfl
  | 7, h => rfl
  | 8, h => rfl
  | 9, h => rfl
  | 10, h => rfl
  | 11, h => rfl
  | 12, h => rfl
  | 13, h => rfl
  | 14, h => rfl
  | 15, h => rfl
  | 16, h => rfl
  | 17, h => rfl
  | 18, h => rfl
  | 19, h => rfl
  | 20, h => rfl
  | 21, h => rfl
  | 22, h => rfl
  | 23, h => rfl
  | 24, h => rfl
  | 25, h => rfl
  | 26, h => rfl
  | 27, h => rfl
  | 28, h => rfl
  | 29, h => rfl
  | 30, h => rfl
  | 31, h => rfl
  | 32, h => rfl
  | 33, h => rfl
  | 34, h => rfl
  | 35, h => rfl
  | 36, h => rfl
  | 37, h => rfl
  | 38, h => rfl
  | 39, h => rfl
  | 40, h => rfl
  | 41, h => rfl
  | 42, h => rfl
  | 43, h => rfl
  | 44, h => rfl
  | 45, h => rfl
  | 46, h => rfl
  | 47, h => rfl
  | 48, h => rfl
  | 49, h => rfl
  | 50, h => rfl
  | 51, h => rfl
  | 52, h => exact absurd (by decide) h
  | 53, h => exact absurd (by decide) h
  | 54, h => exact absurd (by decide) h
  | 55, h => exact absurd (by decide) h
  | 56, h => rfl
  | s + 57, h => rfl
end Go.Proofs.YtaecbmjmcpdgdaaGreat.Ab
namespace Go.Proofs.YtaecbmjmcpdgdaaGreat.Zs
open Go.Sort Go.Proofs Go.RowKit Go.Lib
set_option linter.unusedVariables false
set_option linter.unusedSimpArgs false
variable {g : Nat} {lb : Array Value} {sf : Nat} {sb : Array Value} {w : World}
theorem bx_below (w : World) : Below w.heap.size w (BX g lb sf sb w) := ⟨rfl, rfl, rfl, by simp [BX], fun k hk => by
  unfold BX
  rw [alloc_eq_grow]
  exact heap_grow_old w _ hk⟩
theorem bx_cells (w : World) : (BX g lb sf sb w).cell? ⟨w.heap.size, 0, none⟩ = some (.func (.func g) #[] lb) ∧ (BX g lb sf sb w).cell? ⟨w.heap.size, 1, none⟩ = some (.func (.func sf) #[] sb) := ⟨by simp [BX], by simp [BX]⟩
set_option maxHeartbeats 2000000 in
set_option maxRecDepth 100000 in
theorem ins_tiny (a b : Nat) (hab : b ≤ a + 1) (hb : b < 1048576) (ha : a < 1048576) :
    Calls Tryz.prog 78 #[.agg #[.func (.func g) #[] lb, .func (.func sf) #[] sb], .int .i64 a, .int .i64 b] w fun e w' => e = .returned (.tuple #[]) ∧ w' = BX g lb sf sb w := by
  go_enter Tryz.func78, Tryz.ntmps78
  go_wp2
  go_loopw [6] (fun vi wr => vi = .int .i64 ((a : Int) + 1) ∧ wr = BX g lb sf sb w) (fun vi _ => 0)
  case atStart => exact ⟨by go_num, rfl⟩
  case round =>
    obtain ⟨rfl, rfl⟩ := hrel
    obtain ⟨c0, c1⟩ := bx_cells (g := g) (lb := lb) (sf := sf) (sb := sb) w
    have q1 : ¬ (a : Int) + 1 < (b : Int) := by omega
    go_wp2
    go_end0
    exact ⟨rfl, rfl⟩
set_option maxHeartbeats 2000000 in
set_option maxRecDepth 100000 in
theorem stb_tiny (n : Nat) (hn : n ≤ 1) :
    Calls Tryz.prog 52 #[.agg #[.func (.func g) #[] lb, .func (.func sf) #[] sb], .int .i64 n] w fun e w' => e = .returned (.tuple #[]) ∧ w' = BX g lb sf sb (BX g lb sf sb w) := by
  go_enter Tryz.func52, Tryz.ntmps52
  go_wp2
  go_loopw [5, 6] (fun va vb wr => va = .int .i64 0 ∧ vb = .int .i64 20 ∧ wr = BX g lb sf sb w) (fun va _ _ => 0)
  case atStart => exact ⟨by go_num, by go_num, rfl⟩
  case round =>
    obtain ⟨rfl, rfl, rfl⟩ := hrel
    obtain ⟨c0, c1⟩ := bx_cells (g := g) (lb := lb) (sf := sf) (sb := sb) w
    have q1 : ¬ (20 : Int) ≤ (n : Int) := by omega
    have hc := ins_tiny (g := g) (lb := lb) (sf := sf) (sb := sb) (w := BX g lb sf sb w) 0 n (by omega) (by omega) (by omega)
    rw [show (((0 : Nat) : Int)) = 0 from rfl] at hc
    go_wp2_with fail
    refine hc.mono ?_; rintro e w1 ⟨rfl, rfl⟩
    go_wp2
    go_loopw [4] (fun vb wr => vb = .int .i64 20 ∧ wr = BX g lb sf sb (BX g lb sf sb w)) (fun vb _ => 0)
    case atStart => exact ⟨by go_num, rfl⟩
    case round =>
      obtain ⟨rfl, rfl⟩ := hrel
      have q2 : ¬ (20 : Int) < (n : Int) := by omega
      go_wp2
      go_end0
      exact ⟨rfl, rfl⟩
end Go.Proofs.YtaecbmjmcpdgdaaGreat.Zs
namespace Go.Proofs.YtaecbmjmcpdgdaaGreat.Ab
open Go.RowKit
set_option linter.unusedVariables false
set_option linter.unusedSimpArgs false
set_option maxRecDepth 100000
set_option maxHeartbeats 2000000
open Go.Sort Zs Go.Lib Go.Proofs
theorem rAt_map {T : Tab} {w : World} {X : Nat → Prop} {cts : List CT} [Inhabited (RowV T w X cts)] {d : Array (RowV T w X cts)} {i : Nat} (h : i < d.size) : rAt (d.toList.map RowV.row) i = (d[i]!).row := by
  rw [rAt_get (by simpa using h), getElem!_pos d i h]
  simp
theorem ext_all {α : Type} {a : Array α} {n : Nat} (h : a.size = n) : a.extract 0 n = a := by rw [← h]; simp
theorem small_mrg {L : List (List D)} (h : (dedL L).length ≤ 1) : mrgL L = dedL L := by
  have hp := mrg_perm L
  cases hd : dedL L with
  | nil => rw [hd] at hp; exact hp.eq_nil
  | cons x t =>
    rw [hd] at hp h
    obtain rfl : t = [] := List.length_eq_zero_iff.1 (by simpa using h)
    exact List.perm_singleton.1 hp
theorem stab_mrg {w : World} {X : Nat → Prop} {cts : List CT} [Inhabited (RowV T w X cts)] {d : Array (RowV T w X cts)} {L : List (List D)} (hd : d.toList.map RowV.row = dedL L) :
    (stab (fun p q : RowV T w X cts => opLt p.row q.row) d.size d).size = d.size ∧ (stab (fun p q : RowV T w X cts => opLt p.row q.row) d.size d).toList.map RowV.row = mrgL L := by
  obtain ⟨hp, hs⟩ := stab_spec (lt := fun p q : RowV T w X cts => opLt p.row q.row) (opLt_swo RowV.row) d.size d (Nat.le_refl _)
  have hz : (stab (fun p q : RowV T w X cts => opLt p.row q.row) d.size d).size = d.size := hp.1
  have hpm : (stab (fun p q : RowV T w X cts => opLt p.row q.row) d.size d).toList.Perm d.toList := by
    have h3 := hp.2.2
    rw [show d.extract 0 d.size = d by simp, show (stab (fun p q : RowV T w X cts => opLt p.row q.row) d.size d).extract 0 d.size = stab (fun p q : RowV T w X cts => opLt p.row q.row) d.size d from ext_all hz] at h3
    exact h3
  refine ⟨hz, sorted_is_mrg (by rw [← hd]; exact hpm.map _) fun i j x y hij hx hy => ?_⟩
  have hi := (List.getElem?_eq_some_iff.1 hx)
  have hj := (List.getElem?_eq_some_iff.1 hy)
  obtain ⟨hi1, hi2⟩ := hi
  obtain ⟨hj1, hj2⟩ := hj
  have hj3 : j < (stab (fun p q : RowV T w X cts => opLt p.row q.row) d.size d).size := by simpa using hj1
  have := hs i j (Nat.zero_le _) hij (by omega)
  rw [getElem!_pos _ j hj3, getElem!_pos _ i (by omega)] at this
  rw [← hi2, ← hj2]
  simpa using this
set_option maxHeartbeats 4000000 in
theorem mrg_sort {w : World} {X : Nat → Prop} {v : Value} {L : List (List D)} {b : Nat} (hO : Own T w X 0 54 v (dedL L)) (hX : ∀ g, v.ownBlock = some g → X g) (hL : (dedL L).length ≤ 1048576) (hb : b < w.heap.size) (hc : w.cell? ⟨b, 0, none⟩ = some v) (hbv : ∀ g, v.ownBlock = some g → b ≠ g) :
    ∃ p n c, v = .slice p n c ∧ Calls Tryz.prog 35 #[.iface 34 (.slice p n c), .func (.func 36) #[] #[.pointer (some ⟨b, 0, none⟩)]] w fun e w' => e = .returned (.tuple #[]) ∧ (w.heap.size ≤ w'.heap.size ∧ w'.os = w.os ∧ w'.tape = w.tape ∧ w'.output = w.output) ∧
      ((mrgL L = dedL L ∧ ∀ k, k < w.heap.size → w'.heap[k]? = w.heap[k]?) ∨ ∃ g, v.ownBlock = some g ∧ (∀ k, k < w.heap.size → k ≠ g → w'.heap[k]? = w.heap[k]?) ∧ Own T w' X 0 54 v (mrgL L)) := by
  by_cases h2 : (dedL L).length ≤ 1
  · obtain ⟨p, c, rfl⟩ := hO.slice
    refine ⟨p, _, c, rfl, ?_⟩
    have key : ∀ m, m = (dedL L).length → ∃ f, Tryz.prog.funcs.findIdx? (·.name == "internal/reflectlite" ++ ".Swapper$" ++ toString (swapperK m siE 25)) = some f ∧ swapperK m siE 25 ≤ 2 := by
      intro m hm
      match m, hm with
      | 0, _ => exact ⟨_, siF0, (show swapperK 0 siE 25 = 1 by kernel_rfl) ▸ (by decide)⟩
      | 1, _ => exact ⟨_, siF1, Nat.le_of_eq (show swapperK 1 siE 25 = 2 by kernel_rfl)⟩
      | m + 2, h => omega
    obtain ⟨f, hf, hk⟩ := key _ rfl
    refine (sls p (dedL L).length c f (by omega) hf (.func 36) #[] #[.pointer (some ⟨b, 0, none⟩)] w (fun w' => w' = BX 36 #[.pointer (some ⟨b, 0, none⟩)] f #[] (BX 36 #[.pointer (some ⟨b, 0, none⟩)] f #[] (grow w (slO w p (dedL L).length c)))) ?_).mono ?_
    · rw [if_pos hk]; exact stb_tiny _ h2
    · intro e w' hq
      obtain ⟨rfl, rfl⟩ := hq
      have hB0 : Below w.heap.size w (grow w (slO w p (dedL L).length c)) := ⟨rfl, rfl, rfl, by simp, fun k hk => heap_grow_old w _ hk⟩
      have b1 := bx_below (g := 36) (lb := #[.pointer (some ⟨b, 0, none⟩)]) (sf := f) (sb := #[]) (grow w (slO w p (dedL L).length c))
      have b2 := bx_below (g := 36) (lb := #[.pointer (some ⟨b, 0, none⟩)]) (sf := f) (sb := #[]) (BX 36 #[.pointer (some ⟨b, 0, none⟩)] f #[] (grow w (slO w p (dedL L).length c)))
      have hB := hB0.trans ((b1.trans (b2.mono b1.size)).mono hB0.size)
      exact ⟨rfl, ⟨hB.size, hB.os, hB.tape, hB.output⟩, .inl ⟨small_mrg h2, hB.block⟩⟩
  · obtain ⟨ty, hty, h17⟩ : ∃ ty, T 54 = some ty ∧ ty.cts.length = 17 := ⟨_, rfl, rfl⟩
    obtain ⟨g, cap, d, rfl, hg, how, hlen, hd, hmap, hH⟩ := hO.rowsA hty (by omega) (by omega)
    have hd0 : 0 < d.size := by omega
    let inst : Inhabited (RowV T w X ty.cts) := ⟨d[0]⟩
    have hH := hH
    have hXg := hX g how
    have hbg := hbv g how
    obtain ⟨os, hos⟩ : ∃ os, slO w (some ⟨g, 0, none⟩) (dedL L).length cap = os := ⟨_, rfl⟩
    have hS0 : Sw RowV.us ty.cts.length g 0 w d (grow w os) := (Sw.start hH).grow hg os
    have hg1 : g < (grow w os).heap.size := by simp; omega
    obtain ⟨gS, hx⟩ := siX
    have hsk := siK (dedL L).length (by omega)
    have S : SK Tryz.prog 36 #[.pointer (some ⟨b, 0, none⟩)] 77 #[.slice (some ⟨g, 0, none⟩) (dedL L).length cap, typeHandle Tryz.prog 54] RowV.us ty.cts.length (fun p q : RowV T w X ty.cts => opLt p.row q.row) g 0 (dedL L).length (grow w os) := by
      refine ⟨fun x => x.ul, Tryz.call36, fun w1 dk hsw hsz i j hi hj => ?_, swapK_of gS _ hx 54 siE siE_eq RowV.us ty.cts.length (fun x => x.ul) (siE_size.trans h17.symm) siE_agg (fun x => x.ones) g 0 _ cap, hg1, by omega⟩
      have hsw0 := hS0.trans hsw (by omega) hg
      have hO1 := hO.turned hty hXg hsz hH hd hsw0
      have hR : RdR T w1 (fun _ => False) (.l 54) _ (.l (dk.toList.map RowV.row)) := hO1.shared (fun _ _ h => h.elim) (fun _ _ h => h)
      have hcl : w1.cell? ⟨b, 0, none⟩ = some (.slice (some ⟨g, 0, none⟩) (dedL L).length cap) := (hsw0.cell ⟨b, 0, none⟩ hbg hb).trans hc
      have hdl : (dk.toList.map RowV.row).length = (dedL L).length := by simp [hsz]
      have hl := lessP (i := i) (j := j) (by omega) (by omega) (Nat.lt_of_lt_of_le hb hsw0.size) hcl hR
      rw [rAt_map (by omega), rAt_map (by omega)] at hl
      refine hl.mono ?_
      intro e w' hq
      obtain ⟨rfl, hB⟩ := hq
      exact ⟨rfl, Sw.of_below (hsw0.holds hH (by omega) hg) (Nat.lt_of_lt_of_le hg hsw0.size) hB⟩
    have hc2 := stb_ok (opLt_swo RowV.row) S (holdsK_grow _ _ w os g 0 d hg hH) (by omega)
    obtain ⟨hz, hm⟩ := stab_mrg hmap
    rw [hd] at hz hm
    refine ⟨_, _, _, rfl, ?_⟩
    refine (sls (some ⟨g, 0, none⟩) (dedL L).length cap _ (by omega) (siF _ (by omega)) (.func 36) #[] #[.pointer (some ⟨b, 0, none⟩)] w (fun w' => Sw RowV.us ty.cts.length g 0 (grow w os) (stab (fun p q : RowV T w X ty.cts => opLt p.row q.row) (dedL L).length d) w') ?_).mono ?_
    · rw [hos, hsk, if_neg (by decide)]; exact hc2
    · intro e w' hq
      obtain ⟨rfl, hq⟩ := hq
      have hsw := hS0.trans hq (by omega) hg
      have hO2 := hO.turned hty hXg (by omega) hH hd hsw
      rw [hm] at hO2
      exact ⟨rfl, ⟨hsw.size, hsw.rest.1, hsw.rest.2.1, hsw.rest.2.2⟩, .inr ⟨g, rfl, fun k hk hn => hsw.other hk hn, hO2⟩⟩
end Go.Proofs.YtaecbmjmcpdgdaaGreat.Ab
namespace Go.Proofs.YtaecbmjmcpdgdaaGreat.Ab
open Go.RowKit
set_option linter.unusedVariables false
set_option linter.unusedSimpArgs false
set_option maxRecDepth 100000
set_option maxHeartbeats 2000000
open Go.Sort Zs Go.Lib
theorem endB_ok (L : List (List D)) : OkC Tryz.prog T 57 endB (fun e σ => (e = .normal ∨ e = .ret) ∧ (retPg T [.tmp 4] (.val false [.sl false 54 (mrgL L)])).wp (fun _ => True) σ) (ofSnap [5] [5] ([.ptr 5 1 0], [(1, [.val false [.sl true 54 (mrgL L)]])])) := by
  have hE : EnvOk Tryz.prog T (envL []) := envL_nil
  refine OkC.of_awp tabT hE mixed ?_
  delta endB endC
  dsimp only [Tryz.f19]
  repeat' first
    | (refine And.intro ?_ ?_)
    | (intro h; simp only [reduceCtorEq] at h; done)
    | (intro h; rw [h])
    | (intro h)
  all_goals first
    | (show lowEdges _ = true; kernel_rfl) | (show logOk _ _ = true; kernel_rfl) | exact True.intro | exact Or.inr rfl | exact Or.inl rfl
    | exact rfl
    | skip
theorem mrg_end {L : List (List D)} (hL : (dedL L).length ≤ 1048576) : OkC Tryz.prog T 57 endC (fun e σ => (e = .normal ∨ e = .ret) ∧ (retPg T [.tmp 4] (.val false [.sl false 54 (mrgL L)])).wp (fun _ => True) σ) (ofSnap [5] [5] ([.ptr 5 1 0], [(1, [.val false [.sl true 54 (dedL L)]])])) := by
  refine ⟨fun W E h he => ?_⟩
  have e5 : (E.σ (.slot 5)).2 = .ptr 5 1 0 := by rw [he]; rfl
  have eg : E.σ (.gen 5) = (1, .num 1) := by rw [he]; rfl
  have ec : (E.σ (.cell 5 0)).2 = .val false [.sl true 54 (dedL L)] := by rw [he]; rfl
  have hs := h.slot 5
  rw [e5] at hs
  have hp := hs.2 (by rw [eg])
  obtain ⟨c, v, q1, q2, q3, q4⟩ := h.cell 5 1 0 (by rw [eg]) (by decide)
  rw [ec] at q1
  obtain rfl : CV.sl true 54 (dedL L) = c := by injection q1 with _ q1; injection q1
  have q5 : OwnF T E.w E.X (E.bk (.cell 5 0) 0) 54 v (dedL L) := q4
  obtain ⟨hO, hF⟩ := q5.own rfl
  have al : E.alive 5 := ⟨1, by rw [eg]⟩
  have hXg : ∀ g, v.ownBlock = some g → E.X g := fun g hg => .inr (.inr ⟨_, _, (hF g).2 hg⟩)
  have hbv : ∀ g, v.ownBlock = some g → E.β 5 ≠ g := fun g hg he => h.owbx _ _ _ 5 ((hF g).2 hg) al he.symm
  obtain ⟨p, m, cc, rfl, hcall⟩ := mrg_sort hO hXg hL (h.bxlo 5 al).2 q2 hbv
  rw [endC_eq]
  refine wp_seq (wp_mono (endA_ok h.size h.defers hp q2 hcall) ?_)
  intro e a' w' hq
  obtain ⟨rfl, d1, d2, d3, ⟨s1, s2, s3, s4⟩, hq⟩ := hq
  have fin : ∀ E' : Env, Rel T W 57 E' → E'.a = a' → E'.w = w' → (E'.σ (.slot 5)).2 = .ptr 5 1 0 → E'.σ (.gen 5) = (1, .num 1) → (E'.σ (.cell 5 0)).2 = .val false [.sl true 54 (mrgL L)] → endB.wp Tryz.prog (QC T W 57 (fun e σ => (e = .normal ∨ e = .ret) ∧ (retPg T [.tmp 4] (.val false [.sl false 54 (mrgL L)])).wp (fun _ => True) σ)) a' w' := by
    intro E' hr ha hw f5 fg fc
    subst ha; subst hw
    refine (OkC.forgetTo [5] [5] ([.ptr 5 1 0], [(1, [.val false [.sl true 54 (mrgL L)]])]) ?_ ?_ (endB_ok L)).run W E' hr rfl
    · unfold Alive; rw [List.all_cons, fg]; rfl
    · unfold snap cellsOf
      simp only [List.map_cons, List.map_nil, f5, fg, List.range, List.range.loop, fc, keepSV]
      rfl
  rcases hq with ⟨g1, g2⟩ | ⟨g, g1, g2, g3⟩
  · exact fin _ (h.grew s1 g2 s2 s3 s4 d1 d2 d3) rfl rfl e5 eg (by rw [g1]; exact ec)
  · exact fin _ (h.turned (by rw [eg]) ec rfl q2 g1 hF g3 s1 g2 s2 s3 s4 d1 d2 d3) rfl rfl e5 eg rfl
end Go.Proofs.YtaecbmjmcpdgdaaGreat.Ab
