/- What every proof of this seat shares: two closed facts on the program. No -/
import Derived.Test.YtcllpknipmcolaaGreatDoorCAl
import Derived.Test.YtcllpknipmcolaaGreatDoorRows
import Derived.Handy
import Derived.WalkSpells
import Derived.WalkLawsBesides
import Derived.Lib.SmallJoins
import Derived.Lib.Hide
namespace Go.Proofs.YtcllpknipmcolaaGreatDoor
theorem own:ownKnob Tryz.prog.godebug=none:=by kernel_rfl
theorem laidOut:laidOutB Tryz.prog=true:=by kernel_rfl
open Go.RowKit in
theorem qp {w w' w'' : World} (h:Below w.heap.size w w') (hb:Below w'.heap.size w' w''):Below w.heap.size w w'' := h.trans (hb.mono h.size)
open Go.RowKit in
theorem df (w:World) (o:Obj):Below w.heap.size w (w.alloc o):=(Below.refl _ _).alloc (jcA _) o
open Go.RowKit in
theorem jcb {w w' : World} (h:Below w.heap.size w w') (o:Obj):Below w.heap.size w (w'.alloc o):=h.alloc h.size o
end Go.Proofs.YtcllpknipmcolaaGreatDoor
