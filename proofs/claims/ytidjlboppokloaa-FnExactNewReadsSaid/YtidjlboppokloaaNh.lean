/- Calls of the law FnExactNewReads, each said plainly. -/
import Derived.Test.YtidjlboppokloaaEcO
import Derived.Test.YtidjlboppokloaaNeO
import Derived.Test.YtidjlboppokloaaNen
import Derived.Test.YtidjlboppokloaaMk2
import Derived.Test.YtidjlboppokloaaMi2
import Derived.Test.YtidjlboppokloaaEj
import Derived.Test.YtidjlboppokloaaEe
import Derived.Test.YtidjlboppokloaaNb
import Derived.Test.YtidjlboppokloaaBr
namespace Go.Proofs.Ytidjlboppokloaa
open Go.RowKit Ab
set_option linter.unusedVariables false
set_option maxRecDepth 100000
section
variable {w : World} (hL : GlR T w (fun _ => False))
include hL
theorem szT {v : Value} {a : List (List D)} (R : RdR T w (fun _ => False) (.l 51) v (.l a)) {l : Int} (h0 : 0 ≤ l) (h1 : l ≤ 1048576) :
    Calls Try.prog 5 #[v, .int .i64 l] w fun e w' => e = .returned (.int .i64 (szR l (a.length + wRows a))) ∧ Below w.heap.size w w' := by
  refine (Ab.ok5.ok rfl w (fun _ => False) [argS 51 a, .val false [.i .i64 l]] [v, _] (fun b h => h.elim) (ArgsR.cons ⟨_, rfl, R⟩ (ArgsR.one ⟨_, rfl, rfl, ⟨Int.le_trans (by decide) h0, Int.le_trans h1 (by decide)⟩⟩)) hL ⟨a, l, h0, h1, rfl⟩).mono ?_
  rintro e w' ⟨u, bk, rfl, hb, hr, -, -⟩
  refine ⟨?_, hb⟩
  rw [one_int hr]
  have : wRow (csD [CV.sl false 51 a]) = a.length + wRows a := by simp [csD, CV.d, wRow, wD]
  rw [this]
theorem toT {v : Value} {a : List (List D)} (R : RdR T w (fun _ => False) (.l 51) v (.l a)) (hs : a.length + wRows a ≤ 1048576) :
    Calls Try.prog 7 #[v] w fun e w' => ∃ (u : Value) (F : Nat → Prop), e = .returned u ∧ Below w.heap.size w w' ∧ DeepV T w' F (.l 54) u (.l a) ∧ ∀ b, F b → w.heap.size ≤ b := by
  refine (Ab.co7.ok rfl w (fun _ => False) [argS 51 a] [v] (fun b h => h.elim) (ArgsR.one ⟨_, rfl, R.on true⟩) (hL.on true) ⟨a, hs, rfl⟩).mono ?_
  rintro e w' ⟨u, bk, rfl, hb, hr, hlt, -⟩
  obtain ⟨c, hc, hv⟩ := hr
  obtain rfl : CV.sl true 54 a = c := by simpa using hc
  exact ⟨u, bk 0, rfl, hb, DeepV.off (b := true) (OwnF.toDeep (X := fun b => False ∨ ∃ j, bk j b) hv rfl), fun b h => (hlt 0 b h).1⟩
theorem nrI {u v : Value} {a b : List (List D)} (R0 : RdR T w (fun _ => False) (.l 54) u (.l a)) (R1 : RdR T w (fun _ => False) (.l 54) v (.l b)) (ha : a.length + wRows a ≤ 1048576) (hb : b.length + wRows b ≤ 1048576) :
    Calls Try.prog 8 #[u, v] w fun e w' => ∃ (x : Value) (F : Nat → Prop), e = .returned x ∧ Below w.heap.size w w' ∧ DeepV T w' F (.l 54) x (.l (newR a b)) ∧ ∀ b, F b → w.heap.size ≤ b := by
  refine (Ab.po8.ok rfl w (fun _ => False) [argS 54 a, argS 54 b] [u, v] (fun b h => h.elim) (ArgsR.cons ⟨_, rfl, R0.on true⟩ (ArgsR.one ⟨_, rfl, R1.on true⟩)) (hL.on true) ⟨a, b, ha, hb, rfl⟩).mono ?_
  rintro e w' ⟨x, bk, rfl, hb, hr, hlt, -⟩
  obtain ⟨c, hc, hv⟩ := hr
  obtain rfl : CV.sl true 54 (newR a b) = c := by simpa using hc
  exact ⟨x, bk 0, rfl, hb, DeepV.off (b := true) (OwnF.toDeep (X := fun b => False ∨ ∃ j, bk j b) hv rfl), fun b h => (hlt 0 b h).1⟩
theorem nrS {u v : Value} {a b : List (List D)} (R0 : RdR T w (fun _ => False) (.l 54) u (.l a)) (R1 : RdR T w (fun _ => False) (.l 54) v (.l b)) (ha : a.length + wRows a ≤ 1048576) (hb : b.length + wRows b ≤ 1048576) :
    Calls Try.prog 6 #[u, v] w fun e w' => ∃ x : Value, e = .returned x ∧ Below w.heap.size w w' ∧ RdR T w' (fun _ => False) (.l 54) x (.l (newR a b)) := by
  refine (Ab.ok6.ok rfl w (fun _ => False) [argS 54 a, argS 54 b] [u, v] (fun b h => h.elim) (ArgsR.cons ⟨_, rfl, R0⟩ (ArgsR.one ⟨_, rfl, R1⟩)) hL ⟨a, b, ha, hb, rfl⟩).mono ?_
  rintro e w' ⟨x, bk, rfl, hb, hr, hlt, -⟩
  obtain ⟨c, hc, hv⟩ := hr
  obtain rfl : CV.sl true 54 (newR a b) = c := by simpa using hc
  exact ⟨x, rfl, hb, OwnF.shared (X := fun b => False ∨ ∃ j, bk j b) (F := bk 0) hv (fun _ _ h => h.elim) fun _ _ h => h⟩
theorem eqT {u v : Value} {r : List (List D)} (R0 : RdR T w (fun _ => False) (.l 54) u (.l r)) (R1 : RdR T w (fun _ => False) (.l 54) v (.l r)) :
    Calls Try.prog 9 #[u, v] w fun e w' => e = .returned (.bool true) ∧ Below w.heap.size w w' := by
  refine (Ab.ok9.ok rfl w (fun _ => False) [argS 54 r, argS 54 r] [u, v] (fun b h => h.elim) (ArgsR.cons ⟨_, rfl, R0⟩ (ArgsR.one ⟨_, rfl, R1⟩)) hL ⟨r, r, rfl⟩).mono ?_
  rintro e w' ⟨x, bk, rfl, hb, hr, -, -⟩
  refine ⟨?_, hb⟩
  rw [one_bool hr]
  exact congrArg (fun z => Ending.returned (Value.bool z)) (decide_eq_true rfl)
theorem hdT (mt : Int → ByteArray) (hmt : FOk Try.prog T 48 (spMT mt)) {u : Value} {r : List (List D)} (wf : WfD T (.l 54) (.l r)) (hb : 1 + (cRows r : Int) ≤ 4611686018427387904) (R : RdR T w (fun _ => False) (.l 54) u (.l (mkRows mt 1 r))) :
    Calls Try.prog 11 #[u, .int .i64 1] w fun e w' => e = .returned (.int .i64 (1 + cRows r)) ∧ Below w.heap.size w w' := by
  refine ((Ab.hd11 mt hmt).ok rfl w (fun _ => False) [argS 54 (mkRows mt 1 r), .val false [.i .i64 1]] [u, _] (fun b h => h.elim) (ArgsR.cons ⟨_, rfl, R⟩ (ArgsR.one ⟨_, rfl, rfl, inK_pos (by decide) (by decide)⟩)) hL ⟨r, 1, by decide, hb, wf, rfl⟩).mono ?_
  rintro e w' ⟨x, bk, rfl, hb, hr, -, -⟩
  refine ⟨?_, hb⟩
  rw [one_int hr]
  exact congrArg (fun z : Nat => Ending.returned (Value.int .i64 (1 + (z : Int)))) (cRows_mk _ _)
end
end Go.Proofs.Ytidjlboppokloaa
