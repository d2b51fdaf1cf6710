/- Marks of a session that is empty but for its nodes: raw walks, printed by a program of this claim. -/
import Derived.Test.YtidjlboppokloaaNb
import Derived.Test.YtidjlboppokloaaMk
import Derived.Test.YtidjlboppokloaaMi
namespace Go.Proofs.Ytidjlboppokloaa
open Go.RowKit Ab
set_option linter.unusedVariables false
set_option linter.unusedSimpArgs false
set_option maxRecDepth 100000
set_option maxHeartbeats 2000000
theorem e0_markCellS (w : World) (A : Option Addr) (c : Nat) (k : Int) : Calls Try.prog 98 #[.slice A 0 c, .int .i64 k] w fun x w' => x = .returned (.int .i64 k) ∧ w' = w := by
  go_enter Try.func98, Try.ntmps98
  go_wp2_with fail
  go_loopw [1, 5] (fun q i wr => q = .int .i64 k ∧ i = .int .i64 0 ∧ wr = w) (fun _ i _ => 0)
  case atStart => exact ⟨rfl, rfl, rfl⟩
  case round =>
    obtain ⟨rfl, rfl, rfl⟩ := hrel
    go_wp2
    go_ret
    exact ⟨rfl, rfl⟩
theorem e0_markFileS (w : World) (A : Option Addr) (c : Nat) (k : Int) : Calls Try.prog 99 #[.slice A 0 c, .int .i64 k] w fun x w' => x = .returned (.int .i64 k) ∧ w' = w := by
  go_enter Try.func99, Try.ntmps99
  go_wp2_with fail
  go_loopw [1, 5] (fun q i wr => q = .int .i64 k ∧ i = .int .i64 0 ∧ wr = w) (fun _ i _ => 0)
  case atStart => exact ⟨rfl, rfl, rfl⟩
  case round =>
    obtain ⟨rfl, rfl, rfl⟩ := hrel
    go_wp2
    go_ret
    exact ⟨rfl, rfl⟩
theorem e0_markTapeS (w : World) (A : Option Addr) (c : Nat) (k : Int) : Calls Try.prog 10 #[.slice A 0 c, .int .i64 k] w fun x w' => x = .returned (.int .i64 k) ∧ w' = w := by
  go_enter Try.func10, Try.ntmps10
  go_wp2_with fail
  go_loopw [1, 5] (fun q i wr => q = .int .i64 k ∧ i = .int .i64 0 ∧ wr = w) (fun _ i _ => 0)
  case atStart => exact ⟨rfl, rfl, rfl⟩
  case round =>
    obtain ⟨rfl, rfl, rfl⟩ := hrel
    go_wp2
    go_ret
    exact ⟨rfl, rfl⟩
theorem e0_markEntryS (w : World) (A : Option Addr) (c : Nat) (k : Int) : Calls Try.prog 71 #[.slice A 0 c, .int .i64 k] w fun x w' => x = .returned (.int .i64 k) ∧ w' = w := by
  go_enter Try.func71, Try.ntmps71
  go_wp2_with fail
  go_loopw [1, 5] (fun q i wr => q = .int .i64 k ∧ i = .int .i64 0 ∧ wr = w) (fun _ i _ => 0)
  case atStart => exact ⟨rfl, rfl, rfl⟩
  case round =>
    obtain ⟨rfl, rfl, rfl⟩ := hrel
    go_wp2
    go_ret
    exact ⟨rfl, rfl⟩
theorem e0_heldCellS (w : World) (A : Option Addr) (c : Nat) (k : Int) : Calls Try.prog 101 #[.slice A 0 c, .int .i64 k] w fun x w' => x = .returned (.int .i64 k) ∧ w' = w := by
  go_enter Try.func101, Try.ntmps101
  go_wp2_with fail
  go_loopw [1, 5] (fun q i wr => q = .int .i64 k ∧ i = .int .i64 0 ∧ wr = w) (fun _ i _ => 0)
  case atStart => exact ⟨rfl, rfl, rfl⟩
  case round =>
    obtain ⟨rfl, rfl, rfl⟩ := hrel
    go_wp2
    go_ret
    exact ⟨rfl, rfl⟩
theorem e0_heldFileS (w : World) (A : Option Addr) (c : Nat) (k : Int) : Calls Try.prog 102 #[.slice A 0 c, .int .i64 k] w fun x w' => x = .returned (.int .i64 k) ∧ w' = w := by
  go_enter Try.func102, Try.ntmps102
  go_wp2_with fail
  go_loopw [1, 5] (fun q i wr => q = .int .i64 k ∧ i = .int .i64 0 ∧ wr = w) (fun _ i _ => 0)
  case atStart => exact ⟨rfl, rfl, rfl⟩
  case round =>
    obtain ⟨rfl, rfl, rfl⟩ := hrel
    go_wp2
    go_ret
    exact ⟨rfl, rfl⟩
theorem e0_heldTapeS (w : World) (A : Option Addr) (c : Nat) (k : Int) : Calls Try.prog 11 #[.slice A 0 c, .int .i64 k] w fun x w' => x = .returned (.int .i64 k) ∧ w' = w := by
  go_enter Try.func11, Try.ntmps11
  go_wp2_with fail
  go_loopw [1, 5] (fun q i wr => q = .int .i64 k ∧ i = .int .i64 0 ∧ wr = w) (fun _ i _ => 0)
  case atStart => exact ⟨rfl, rfl, rfl⟩
  case round =>
    obtain ⟨rfl, rfl, rfl⟩ := hrel
    go_wp2
    go_ret
    exact ⟨rfl, rfl⟩
theorem e0_heldEntryS (w : World) (A : Option Addr) (c : Nat) (k : Int) : Calls Try.prog 75 #[.slice A 0 c, .int .i64 k] w fun x w' => x = .returned (.int .i64 k) ∧ w' = w := by
  go_enter Try.func75, Try.ntmps75
  go_wp2_with fail
  go_loopw [1, 5] (fun q i wr => q = .int .i64 k ∧ i = .int .i64 0 ∧ wr = w) (fun _ i _ => 0)
  case atStart => exact ⟨rfl, rfl, rfl⟩
  case round =>
    obtain ⟨rfl, rfl, rfl⟩ := hrel
    go_wp2
    go_ret
    exact ⟨rfl, rfl⟩
theorem g0_markNotebook (w : World) (A0 : Option Addr) (c0 : Nat) (k : Int) (hk : 1 ≤ k) : Calls Try.prog 69 #[.agg #[.slice A0 0 c0], .int .i64 k] w fun x w' => x = .returned (.int .i64 k) ∧ Below w.heap.size w w' := by
  have h0 : 0 ≤ k := by omega
  have h1 : ¬ (k < 0) := by omega
  have X0 := Lib.hid (BoxAt.new w #[.slice A0 0 c0] 32)
  have B0 := Lib.hid ((Below.refl w.heap.size w).alloc (Nat.le_refl _) (.cells #[.slice A0 0 c0] 32))
  go_enter Try.func69, Try.ntmps69
  go_wp2_with fail
  refine (e0_markCellS _ _ _ _).mono ?_; rintro e w1 ⟨rfl, rfl⟩
  have X1 := X0
  have B1 := B0
  go_wp2
  go_ret
  exact ⟨rfl, B1.out⟩
theorem g0_markWorld (w : World) (A2 : Option Addr) (c2 : Nat) (n0 n1 : Int) (k : Int) (hk : 1 ≤ k) : Calls Try.prog 70 #[.agg #[.int .i64 n0, .int .i64 n1, .slice A2 0 c2], .int .i64 k] w fun x w' => x = .returned (.int .i64 k) ∧ Below w.heap.size w w' := by
  have h0 : 0 ≤ k := by omega
  have h1 : ¬ (k < 0) := by omega
  have X0 := Lib.hid (BoxAt.new w #[.int .i64 n0, .int .i64 n1, .slice A2 0 c2] 35)
  have B0 := Lib.hid ((Below.refl w.heap.size w).alloc (Nat.le_refl _) (.cells #[.int .i64 n0, .int .i64 n1, .slice A2 0 c2] 35))
  go_enter Try.func70, Try.ntmps70
  go_wp2_with fail
  refine (e0_markFileS _ _ _ _).mono ?_; rintro e w1 ⟨rfl, rfl⟩
  have X1 := X0
  have B1 := B0
  go_wp2
  go_ret
  exact ⟨rfl, B1.out⟩
theorem g0_markEngine (w : World) (A0 A3 A4 A5 : Option Addr) (c0 c3 c4 c5 : Nat) (n1 n2 n6 n7 n8 : Int) (k : Int) (hk : 1 ≤ k) : Calls Try.prog 34 #[.agg #[.slice A0 0 c0, .int .i64 n1, .int .i64 n2, .slice A3 0 c3, .slice A4 0 c4, .slice A5 0 c5, .int .i64 n6, .int .i64 n7, .int .i64 n8], .int .i64 k] w fun x w' => x = .returned (.int .i64 k) ∧ Below w.heap.size w w' := by
  have h0 : 0 ≤ k := by omega
  have h1 : ¬ (k < 0) := by omega
  have X0 := Lib.hid (BoxAt.new w #[.slice A0 0 c0, .int .i64 n1, .int .i64 n2, .slice A3 0 c3, .slice A4 0 c4, .slice A5 0 c5, .int .i64 n6, .int .i64 n7, .int .i64 n8] 38)
  have B0 := Lib.hid ((Below.refl w.heap.size w).alloc (Nat.le_refl _) (.cells #[.slice A0 0 c0, .int .i64 n1, .int .i64 n2, .slice A3 0 c3, .slice A4 0 c4, .slice A5 0 c5, .int .i64 n6, .int .i64 n7, .int .i64 n8] 38))
  go_enter Try.func34, Try.ntmps34
  go_wp2_with fail
  refine (g0_markNotebook _ _ _ _ hk).mono ?_; rintro e w1 ⟨rfl, hb1⟩
  have X1 := Lib.hid (X0.out.bel hb1)
  have B1 := Lib.hid (B0.out.trans (hb1.mono B0.out.size))
  clear hb1
  have z1 := X1.out.2 1 _ rfl
  have z2 := X1.out.2 2 _ rfl
  have z3 := X1.out.2 3 _ rfl
  go_wp2_with fail
  clear z1 z2 z3
  refine (g0_markWorld _ _ _ _ _ _ hk).mono ?_; rintro e w2 ⟨rfl, hb2⟩
  have X2 := Lib.hid (X1.out.bel hb2)
  have B2 := Lib.hid (B1.out.trans (hb2.mono B1.out.size))
  clear hb2
  have z4 := X2.out.2 4 _ rfl
  go_wp2_with fail
  clear z4
  refine (e0_markTapeS _ _ _ _).mono ?_; rintro e w3 ⟨rfl, rfl⟩
  have X3 := X2
  have B3 := B2
  have z5 := X3.out.2 5 _ rfl
  go_wp2_with fail
  clear z5
  refine (e0_markEntryS _ _ _ _).mono ?_; rintro e w4 ⟨rfl, rfl⟩
  have X4 := X3
  have B4 := B3
  go_wp2
  go_ret
  exact ⟨rfl, B4.out⟩
theorem g0_markHistory (w : World) (A0 : Option Addr) (c0 : Nat) (n2 : Int) (u1 : Value) (k : Int) (hk : 1 ≤ k) (mt : Int → ByteArray) (hmt : FOk Try.prog T 48 (spMT mt)) (F : Nat → Prop) (rows : List (List D)) (hb : k + cRows rows ≤ 4611686018427387904) (hgl : GlR T w F) (hD : DeepV T w F (.l 95) u1 (.l rows)) : Calls Try.prog 35 #[.agg #[.slice A0 0 c0, u1, .int .i64 n2], .int .i64 k] w fun x w' => x = .returned (.int .i64 (k + cRows rows)) ∧ MkEnd T w w' F 95 u1 (mkRows mt k rows) := by
  have h0 : 0 ≤ k := by omega
  have h1 : ¬ (k < 0) := by omega
  have h2 : 0 ≤ k + (cRows rows : Int) := by omega
  have h3 : ¬ (k + (cRows rows : Int) < 0) := by omega
  have HG := Lib.hid hgl
  have HD := Lib.hid hD
  clear hgl hD
  have X0 := Lib.hid (BoxAt.new w #[.slice A0 0 c0, u1, .int .i64 n2] 41)
  have B0 := Lib.hid ((Below.refl w.heap.size w).alloc (Nat.le_refl _) (.cells #[.slice A0 0 c0, u1, .int .i64 n2] 41))
  go_enter Try.func35, Try.ntmps35
  go_wp2_with fail
  refine (g0_markNotebook _ _ _ _ hk).mono ?_; rintro e w1 ⟨rfl, hb1⟩
  have X1 := Lib.hid (X0.out.bel hb1)
  have B1 := Lib.hid (B0.out.trans (hb1.mono B0.out.size))
  clear hb1
  have z1 := X1.out.2 1 _ rfl
  go_wp2_with fail
  clear z1
  refine (mk_72 mt hmt (wD (.l rows) + 1) _ F _ rows k hk hb (Nat.lt_succ_self _) (HG.out.move (X' := F) ⟨B1.out.size, fun b h1 _ => B1.out.block b h1⟩ fun _ _ hx => hx) (HD.out.belV B1.out)).mono ?_; rintro e w2 ⟨rfl, hm⟩
  have HM := Lib.hid (MkEnd.after B1.out hm)
  clear hm
  go_wp2
  go_ret
  exact ⟨rfl, HM.out⟩
theorem g0_markSession (w : World) (A0 A3 A4 A5 A9 : Option Addr) (c0 c3 c4 c5 c9 : Nat) (n1 n2 n6 n7 n8 n11 : Int) (u10 : Value) (k : Int) (hk : 1 ≤ k) (mt : Int → ByteArray) (hmt : FOk Try.prog T 48 (spMT mt)) (F : Nat → Prop) (rows : List (List D)) (hb : k + cRows rows ≤ 4611686018427387904) (hgl : GlR T w F) (hD : DeepV T w F (.l 95) u10 (.l rows)) : Calls Try.prog 15 #[.agg #[.slice A0 0 c0, .int .i64 n1, .int .i64 n2, .slice A3 0 c3, .slice A4 0 c4, .slice A5 0 c5, .int .i64 n6, .int .i64 n7, .int .i64 n8, .slice A9 0 c9, u10, .int .i64 n11], .int .i64 k] w fun x w' => x = .returned (.int .i64 (k + cRows rows)) ∧ MkEnd T w w' F 95 u10 (mkRows mt k rows) := by
  have h0 : 0 ≤ k := by omega
  have h1 : ¬ (k < 0) := by omega
  have h2 : 0 ≤ k + (cRows rows : Int) := by omega
  have h3 : ¬ (k + (cRows rows : Int) < 0) := by omega
  have HG := Lib.hid hgl
  have HD := Lib.hid hD
  clear hgl hD
  have X0 := Lib.hid (BoxAt.new w #[.slice A0 0 c0, .int .i64 n1, .int .i64 n2, .slice A3 0 c3, .slice A4 0 c4, .slice A5 0 c5, .int .i64 n6, .int .i64 n7, .int .i64 n8, .slice A9 0 c9, u10, .int .i64 n11] 43)
  have B0 := Lib.hid ((Below.refl w.heap.size w).alloc (Nat.le_refl _) (.cells #[.slice A0 0 c0, .int .i64 n1, .int .i64 n2, .slice A3 0 c3, .slice A4 0 c4, .slice A5 0 c5, .int .i64 n6, .int .i64 n7, .int .i64 n8, .slice A9 0 c9, u10, .int .i64 n11] 43))
  go_enter Try.func15, Try.ntmps15
  go_wp2_with fail
  refine (g0_markEngine _ _ _ _ _ _ _ _ _ _ _ _ _ _ _ hk).mono ?_; rintro e w1 ⟨rfl, hb1⟩
  have X1 := Lib.hid (X0.out.bel hb1)
  have B1 := Lib.hid (B0.out.trans (hb1.mono B0.out.size))
  clear hb1
  have z9 := X1.out.2 9 _ rfl
  have z10 := X1.out.2 10 _ rfl
  have z11 := X1.out.2 11 _ rfl
  go_wp2_with fail
  clear z9 z10 z11
  refine (g0_markHistory _ _ _ _ _ _ hk mt hmt F rows hb (HG.out.move (X' := F) ⟨B1.out.size, fun b h1 _ => B1.out.block b h1⟩ fun _ _ hx => hx) (HD.out.belV B1.out)).mono ?_; rintro e w2 ⟨rfl, hm⟩
  have HM := Lib.hid (MkEnd.after B1.out hm)
  clear hm
  go_wp2
  go_ret
  exact ⟨rfl, HM.out⟩
theorem g0_heldNotebook (w : World) (A0 : Option Addr) (c0 : Nat) (k : Int) (hk : 1 ≤ k) : Calls Try.prog 73 #[.agg #[.slice A0 0 c0], .int .i64 k] w fun x w' => x = .returned (.int .i64 k) ∧ Below w.heap.size w w' := by
  have h0 : 0 ≤ k := by omega
  have h1 : ¬ (k < 0) := by omega
  have X0 := Lib.hid (BoxAt.new w #[.slice A0 0 c0] 32)
  have B0 := Lib.hid ((Below.refl w.heap.size w).alloc (Nat.le_refl _) (.cells #[.slice A0 0 c0] 32))
  go_enter Try.func73, Try.ntmps73
  go_wp2_with fail
  refine (e0_heldCellS _ _ _ _).mono ?_; rintro e w1 ⟨rfl, rfl⟩
  have X1 := X0
  have B1 := B0
  go_wp2
  go_ret
  exact ⟨rfl, B1.out⟩
theorem g0_heldWorld (w : World) (A2 : Option Addr) (c2 : Nat) (n0 n1 : Int) (k : Int) (hk : 1 ≤ k) : Calls Try.prog 74 #[.agg #[.int .i64 n0, .int .i64 n1, .slice A2 0 c2], .int .i64 k] w fun x w' => x = .returned (.int .i64 k) ∧ Below w.heap.size w w' := by
  have h0 : 0 ≤ k := by omega
  have h1 : ¬ (k < 0) := by omega
  have X0 := Lib.hid (BoxAt.new w #[.int .i64 n0, .int .i64 n1, .slice A2 0 c2] 35)
  have B0 := Lib.hid ((Below.refl w.heap.size w).alloc (Nat.le_refl _) (.cells #[.int .i64 n0, .int .i64 n1, .slice A2 0 c2] 35))
  go_enter Try.func74, Try.ntmps74
  go_wp2_with fail
  refine (e0_heldFileS _ _ _ _).mono ?_; rintro e w1 ⟨rfl, rfl⟩
  have X1 := X0
  have B1 := B0
  go_wp2
  go_ret
  exact ⟨rfl, B1.out⟩
theorem g0_heldEngine (w : World) (A0 A3 A4 A5 : Option Addr) (c0 c3 c4 c5 : Nat) (n1 n2 n6 n7 n8 : Int) (k : Int) (hk : 1 ≤ k) : Calls Try.prog 36 #[.agg #[.slice A0 0 c0, .int .i64 n1, .int .i64 n2, .slice A3 0 c3, .slice A4 0 c4, .slice A5 0 c5, .int .i64 n6, .int .i64 n7, .int .i64 n8], .int .i64 k] w fun x w' => x = .returned (.int .i64 k) ∧ Below w.heap.size w w' := by
  have h0 : 0 ≤ k := by omega
  have h1 : ¬ (k < 0) := by omega
  have X0 := Lib.hid (BoxAt.new w #[.slice A0 0 c0, .int .i64 n1, .int .i64 n2, .slice A3 0 c3, .slice A4 0 c4, .slice A5 0 c5, .int .i64 n6, .int .i64 n7, .int .i64 n8] 38)
  have B0 := Lib.hid ((Below.refl w.heap.size w).alloc (Nat.le_refl _) (.cells #[.slice A0 0 c0, .int .i64 n1, .int .i64 n2, .slice A3 0 c3, .slice A4 0 c4, .slice A5 0 c5, .int .i64 n6, .int .i64 n7, .int .i64 n8] 38))
  go_enter Try.func36, Try.ntmps36
  go_wp2_with fail
  refine (g0_heldNotebook _ _ _ _ hk).mono ?_; rintro e w1 ⟨rfl, hb1⟩
  have X1 := Lib.hid (X0.out.bel hb1)
  have B1 := Lib.hid (B0.out.trans (hb1.mono B0.out.size))
  clear hb1
  have z1 := X1.out.2 1 _ rfl
  have z2 := X1.out.2 2 _ rfl
  have z3 := X1.out.2 3 _ rfl
  go_wp2_with fail
  clear z1 z2 z3
  refine (g0_heldWorld _ _ _ _ _ _ hk).mono ?_; rintro e w2 ⟨rfl, hb2⟩
  have X2 := Lib.hid (X1.out.bel hb2)
  have B2 := Lib.hid (B1.out.trans (hb2.mono B1.out.size))
  clear hb2
  have z4 := X2.out.2 4 _ rfl
  go_wp2_with fail
  clear z4
  refine (e0_heldTapeS _ _ _ _).mono ?_; rintro e w3 ⟨rfl, rfl⟩
  have X3 := X2
  have B3 := B2
  have z5 := X3.out.2 5 _ rfl
  go_wp2_with fail
  clear z5
  refine (e0_heldEntryS _ _ _ _).mono ?_; rintro e w4 ⟨rfl, rfl⟩
  have X4 := X3
  have B4 := B3
  go_wp2
  go_ret
  exact ⟨rfl, B4.out⟩
theorem g0_heldHistory (w : World) (A0 : Option Addr) (c0 : Nat) (n2 : Int) (u1 : Value) (k : Int) (hk : 1 ≤ k) (mt : Int → ByteArray) (hmt : FOk Try.prog T 48 (spMT mt)) (rows : List (List D)) (hb : k + cRows rows ≤ 4611686018427387904) (hgl : GlR T w (fun _ => False)) (wf : WfD T (.l 95) (.l rows)) (hD : RdR T w (fun _ => False) (.l 95) u1 (.l (mkRows mt k rows))) : Calls Try.prog 37 #[.agg #[.slice A0 0 c0, u1, .int .i64 n2], .int .i64 k] w fun x w' => x = .returned (.int .i64 (k + cRows rows)) ∧ Below w.heap.size w w' := by
  have h0 : 0 ≤ k := by omega
  have h1 : ¬ (k < 0) := by omega
  have h2 : 0 ≤ k + (cRows rows : Int) := by omega
  have h3 : ¬ (k + (cRows rows : Int) < 0) := by omega
  have HG := Lib.hid hgl
  have HD := Lib.hid hD
  clear hgl hD
  have HWF := Lib.hid wf
  clear wf
  have X0 := Lib.hid (BoxAt.new w #[.slice A0 0 c0, u1, .int .i64 n2] 41)
  have B0 := Lib.hid ((Below.refl w.heap.size w).alloc (Nat.le_refl _) (.cells #[.slice A0 0 c0, u1, .int .i64 n2] 41))
  go_enter Try.func37, Try.ntmps37
  go_wp2_with fail
  refine (g0_heldNotebook _ _ _ _ hk).mono ?_; rintro e w1 ⟨rfl, hb1⟩
  have X1 := Lib.hid (X0.out.bel hb1)
  have B1 := Lib.hid (B0.out.trans (hb1.mono B0.out.size))
  clear hb1
  have z1 := X1.out.2 1 _ rfl
  go_wp2_with fail
  clear z1
  refine ((Ab.hd76 mt hmt).ok rfl _ (fun _ => False) [argS 95 (mkRows mt k rows), .val false [.i .i64 k]] [_, _] (fun b h => h.elim) (ArgsR.cons ⟨_, rfl, HD.out.belV B1.out⟩ (ArgsR.cons ⟨_, rfl, rfl, inK_pos hk (by omega)⟩ ArgsR.nil)) (HG.out.bel B1.out) ⟨rows, k, hk, hb, HWF.out, rfl⟩).mono ?_
  rintro e w2 ⟨v, bk, rfl, hb2, hr, -, -⟩
  obtain rfl : v = .int .i64 (k + cRows rows) := by
    rw [one_int hr]
    exact congrArg (fun z : Nat => Value.int .i64 (k + (z : Int))) (cRows_mk _ _)
  have B2 := Lib.hid (B1.out.trans (hb2.mono B1.out.size))
  clear hb2 hr
  go_wp2
  go_ret
  exact ⟨rfl, B2.out⟩
theorem g0_heldSession (w : World) (A0 A3 A4 A5 A9 : Option Addr) (c0 c3 c4 c5 c9 : Nat) (n1 n2 n6 n7 n8 n11 : Int) (u10 : Value) (k : Int) (hk : 1 ≤ k) (mt : Int → ByteArray) (hmt : FOk Try.prog T 48 (spMT mt)) (rows : List (List D)) (hb : k + cRows rows ≤ 4611686018427387904) (hgl : GlR T w (fun _ => False)) (wf : WfD T (.l 95) (.l rows)) (hD : RdR T w (fun _ => False) (.l 95) u10 (.l (mkRows mt k rows))) : Calls Try.prog 16 #[.agg #[.slice A0 0 c0, .int .i64 n1, .int .i64 n2, .slice A3 0 c3, .slice A4 0 c4, .slice A5 0 c5, .int .i64 n6, .int .i64 n7, .int .i64 n8, .slice A9 0 c9, u10, .int .i64 n11], .int .i64 k] w fun x w' => x = .returned (.int .i64 (k + cRows rows)) ∧ Below w.heap.size w w' := by
  have h0 : 0 ≤ k := by omega
  have h1 : ¬ (k < 0) := by omega
  have h2 : 0 ≤ k + (cRows rows : Int) := by omega
  have h3 : ¬ (k + (cRows rows : Int) < 0) := by omega
  have HG := Lib.hid hgl
  have HD := Lib.hid hD
  clear hgl hD
  have HWF := Lib.hid wf
  clear wf
  have X0 := Lib.hid (BoxAt.new w #[.slice A0 0 c0, .int .i64 n1, .int .i64 n2, .slice A3 0 c3, .slice A4 0 c4, .slice A5 0 c5, .int .i64 n6, .int .i64 n7, .int .i64 n8, .slice A9 0 c9, u10, .int .i64 n11] 43)
  have B0 := Lib.hid ((Below.refl w.heap.size w).alloc (Nat.le_refl _) (.cells #[.slice A0 0 c0, .int .i64 n1, .int .i64 n2, .slice A3 0 c3, .slice A4 0 c4, .slice A5 0 c5, .int .i64 n6, .int .i64 n7, .int .i64 n8, .slice A9 0 c9, u10, .int .i64 n11] 43))
  go_enter Try.func16, Try.ntmps16
  go_wp2_with fail
  refine (g0_heldEngine _ _ _ _ _ _ _ _ _ _ _ _ _ _ _ hk).mono ?_; rintro e w1 ⟨rfl, hb1⟩
  have X1 := Lib.hid (X0.out.bel hb1)
  have B1 := Lib.hid (B0.out.trans (hb1.mono B0.out.size))
  clear hb1
  have z9 := X1.out.2 9 _ rfl
  have z10 := X1.out.2 10 _ rfl
  have z11 := X1.out.2 11 _ rfl
  go_wp2_with fail
  clear z9 z10 z11
  refine (g0_heldHistory _ _ _ _ _ _ hk mt hmt rows hb (HG.out.bel B1.out) HWF.out (HD.out.belV B1.out)).mono ?_; rintro e w2 ⟨rfl, hb2⟩
  have B2 := Lib.hid (B1.out.trans (hb2.mono B1.out.size))
  clear hb2
  go_wp2
  go_ret
  exact ⟨rfl, B2.out⟩
end Go.Proofs.Ytidjlboppokloaa
