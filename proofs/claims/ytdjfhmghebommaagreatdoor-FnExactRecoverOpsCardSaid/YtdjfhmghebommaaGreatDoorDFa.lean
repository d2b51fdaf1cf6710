/- A part. -/
import Derived.Test.YtdjfhmghebommaaGreatDoorDAl
import Derived.Test.YtdjfhmghebommaaGreatDoorRows
import Derived.Handy
import Derived.WalkSpells
import Derived.WalkLawsBesides
import Derived.Lib.SmallJoins
import Derived.Lib.Hide
namespace Go.Proofs.YtdjfhmghebommaaGreatDoor
theorem own:ownKnob Tryz.prog.godebug=none:=by kernel_rfl
theorem laidOut:laidOutB Tryz.prog=true:=by kernel_rfl
open Go.RowKit in
theorem qA {w w' w'' : World} (h:Below w.heap.size w w') (hb:Below w'.heap.size w' w''):Below w.heap.size w w'' := h.trans (hb.mono h.size)
open Go.RowKit in
theorem dj (w:World) (o:Obj):Below w.heap.size w (w.alloc o):=(Below.refl _ _).alloc (jb4 _) o
open Go.RowKit in
theorem uy {w w' : World} (h:Below w.heap.size w w') (o:Obj):Below w.heap.size w (w'.alloc o):=h.alloc h.size o
end Go.Proofs.YtdjfhmghebommaaGreatDoor
