/- The law on texts, walked over an argument that came in. -/
import Derived.Test.YtpkgppfcnddgaabDoorWF
import Derived.Test.YtpkgppfcnddgaabDoorBytesIn
namespace Go.Proofs.YtpkgppfcnddgaabDoor
open Go.ChangeShapes Go.WideShapes Go.ChangeAt Go.RowKit
theorem textsLaw_big (A : Option Addr) (n c : Nat) (w : World) (hn : 1048576 < n) :
    Calls Tryd.prog 4 #[.slice A n c] w fun e w' => e = .returned (.bool true) ∧ Below w.heap.size w w' := by
  have hd : decide ((1048576 : Int) < n) = true := by simp; omega
  go_enter Tryd.func4, Tryd.ntmps4
  go_wp2_with fail
  refine (big_any A n c _).mono ?_; rintro e w' ⟨rfl, rfl⟩
  go_wp2
  go_ret
  exact ⟨rfl, Below.refl _ _⟩
theorem walkFnTexts {H : Type} {enc : TypeId × Value → H} (W : World) {u : TypeId} {x : Value} (hE : W.cell? ⟨0, 0, none⟩ = some (.iface u x)) {base : Nat} {v0 : Value} {d0 : DataW H} {p0 : List MemPlace} (k0 : Value.okWide Tryd.prog W .any base 25 v0)
    (h0 : DataW.Trod enc Tryd.prog W 0 (fun _ => true) true 25 v0 d0 p0) : Calls Tryd.prog 4 #[v0] W fun e W' => e = .returned (.bool true) ∧ Below W.heap.size W W' := by
  obtain ⟨A, n, c, l, rfl, hm, hb⟩ := open_bytes k0 h0
  by_cases hn : n ≤ 1048576
  · exact textsLaw A n c l W u x hE hn hb
  · exact textsLaw_big A n c W (by omega)
end Go.Proofs.YtpkgppfcnddgaabDoor
