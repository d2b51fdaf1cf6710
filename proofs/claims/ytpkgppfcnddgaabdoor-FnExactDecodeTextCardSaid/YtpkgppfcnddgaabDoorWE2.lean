/- The law of DecodeText, walked over an argument that came in. -/
import Derived.Test.YtpkgppfcnddgaabDoorWE
namespace Go.Proofs.YtpkgppfcnddgaabDoor
open Go.ChangeShapes Go.WideShapes Go.ChangeAt Go.RowKit
theorem walkFnExactDecodeText {H : Type} {enc : TypeId × Value → H} (W : World) {u : TypeId} {x : Value} (hE : W.cell? ⟨0, 0, none⟩ = some (.iface u x)) {base : Nat} {v0 : Value} {d0 : DataW H} {p0 : List MemPlace} (k0 : Value.okWide Tryd.prog W .any base 9 v0)
    (h0 : DataW.Trod enc Tryd.prog W 0 (fun _ => true) true 9 v0 d0 p0) : Calls Tryd.prog 3 #[v0] W fun e W' => e = .returned (.bool true) ∧ Below W.heap.size W W' := by
  obtain ⟨s, rfl, rfl, rfl, hs⟩ := Go.ChangeMaps.open_string Tryd.underlying9 k0 h0
  exact decLaw s W u x hE hs
end Go.Proofs.YtpkgppfcnddgaabDoor
