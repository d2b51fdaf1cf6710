/- The listed variable encoding/hex.ErrLength: what a law's walk gets of it, and a world that holds it. -/
import Derived.Test.YtpkgppfcnddgaabDoorCards
import Derived.Test.YtpkgppfcnddgaabDoorTie
import Derived.Test.YtpkgppfcnddgaabDoorFrame
import Derived.Deep.DeepHandedRow
import Derived.LaidLaws
namespace Go.Proofs.YtpkgppfcnddgaabDoor
open Go.ChangeShapes Go.WideShapes Go.ChangeAt Go.RowKit
theorem gErr : Tryd.prog.globalNamed "encoding/hex.ErrLength" = some 0 := by kernel_rfl
theorem gErrType : (Tryd.prog.globals[0]?).map (·.type) = some 33 := by kernel_rfl
theorem errCell {W : World} (h : laidMetH Tryd.prog [("encoding/hex.ErrLength", Rows.laid_encoding_hex_ErrLength)] W) : ∃ u x, W.cell? ⟨0, 0, none⟩ = some (.iface u x) := by
  have h' : laidMet Tryd.prog [("encoding/hex.ErrLength", Rows.laid_encoding_hex_ErrLength)] W := h
  obtain ⟨ps, ⟨g0, t0, cs0, f0, p0, q0, hg0, ht0, hv0, hd0, hq0, e0⟩, hnd, hrows⟩ := h'
  obtain rfl := Option.some.inj (gErr.symm.trans hg0)
  obtain rfl := Option.some.inj (gErrType.symm.trans ht0)
  obtain ⟨l0⟩ := cs0
  obtain ⟨f1, u, v, hl, _, _⟩ := iface_of_trod Tryd.underlying33 hd0
  have hl' : l0 = [.iface u v] := hl
  subst hl'
  exact ⟨u, v, by simpa using World.var?_cell hg0 hv0 0⟩
abbrev errText : ByteArray := { data := #[101, 110, 99, 111, 100, 105, 110, 103, 47, 104, 101, 120, 58, 32, 111, 100, 100, 32, 108, 101, 110, 103, 116, 104, 32, 104, 101, 120, 32, 115, 116, 114, 105, 110, 103] }
noncomputable def low : Nat := (World.holding Tryd.prog default ⟨#[], #[], []⟩).heap.size
noncomputable def laidWorld (os : Os) : World :=
  let w0 := World.holding Tryd.prog os ⟨#[.cells #[.string errText] 72], #[], []⟩
  { w0 with heap := w0.heap.modify 0 fun
      | .cells _ t frozen => .cells #[.iface 53 (.pointer (some ⟨low, 0, none⟩))] t frozen
      | o => o }
end Go.Proofs.YtpkgppfcnddgaabDoor
