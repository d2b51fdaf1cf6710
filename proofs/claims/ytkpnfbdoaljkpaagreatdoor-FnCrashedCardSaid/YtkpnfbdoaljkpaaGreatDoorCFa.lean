/- What every proof of this seat shares: two closed facts on the program. No -/
import Derived.Test.YtkpnfbdoaljkpaaGreatDoorCAl
import Derived.Test.YtkpnfbdoaljkpaaGreatDoorRows
import Derived.Handy
import Derived.WalkSpells
import Derived.WalkLawsBesides
import Derived.Lib.SmallJoins
import Derived.Lib.Hide
namespace Go.Proofs.YtkpnfbdoaljkpaaGreatDoor
theorem own:ownKnob Tryz.prog.godebug=none:=by kernel_rfl
theorem laidOut:laidOutB Tryz.prog=true:=by kernel_rfl
open Go.RowKit in
theorem jaD {W w1:World} (hb:Below W.heap.size W w1):(∀ b o,b < W.heap.size→w1.cell? ⟨b,o,none⟩=W.cell? ⟨b,o,none⟩)∧(∀ b o,b < W.heap.size→w1.frozen? ⟨b,o,none⟩=W.frozen? ⟨b,o,none⟩)∧W.heap.size≤w1.heap.size :=
 ⟨fun b o h=>hb.cell (p:=⟨b,o,none⟩) h,fun b o h=>hb.frozen (p:=⟨b,o,none⟩) h,hb.size⟩
open Go.RowKit in
theorem ns {w w' w'' : World} (h:Below w.heap.size w w') (hb:Below w'.heap.size w' w''):Below w.heap.size w w'' := h.trans (hb.mono h.size)
open Go.RowKit in
theorem cE (w:World) (o:Obj):Below w.heap.size w (w.alloc o):=(Below.refl _ _).alloc (ja9 _) o
end Go.Proofs.YtkpnfbdoaljkpaaGreatDoor
