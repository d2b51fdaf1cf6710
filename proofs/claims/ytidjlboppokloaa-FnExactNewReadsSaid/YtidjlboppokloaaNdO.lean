/- Reads found, owned in depth: descriptions. No program in sight. -/
import Derived.Test.YtidjlboppokloaaNd
import Derived.Test.YtidjlboppokloaaCdO
namespace Go.Proofs.Ytidjlboppokloaa.Ab
open Go.RowKit
set_option linter.unusedVariables false
theorem rowC_fl (T : Tab) (cts : List CT) (r : List D) : (rowC cts r).all (CV.fl T) = true := by
  unfold rowC
  rw [List.all_map, List.all_eq_true]
  rintro ⟨ct, j⟩ _
  show CV.fl T (ofD ct _) = true
  cases ct <;> rfl
theorem FOk.findT {P : Program} {f : FuncId} {rt : TypeId} {RT VC : List CT} (h : FOk P T f (spFind T rt RT VC)) : FOk P Td f (spFind T rt RT VC) :=
  FOk.on true h (fun args hp => by
    obtain ⟨l, q, _, _, rfl⟩ := hp
    show ((rowC VC _).all (CV.fl T) && ([CV.b _].all (CV.fl T) && true)) = true
    rw [rowC_fl]
    rfl) (fun hb => by cases hb)
noncomputable def spFindO (T : Tab) (rt : TypeId) (RT VC : List CT) : FSpec where
  pre := (spFind T rt RT VC).pre
  res args := match args with
    | [.val _ [.sl _ _ l], .val _ cs] => .tup [(true, rowO VC (findV VC l (csD cs))), (false, [.b (found l (csD cs))])]
    | _ => .none
theorem resFO {VC : List CT} {l : List (List D)} {q q' r : List D} (eq : q' = q) (hf : l.find? (sameK q) = some r ∧ l.any (sameK q) = true) (cs : List CV) (hc : cs = rowO VC (sub r 4 7)) : [(true, cs), (false, [CV.b true])] = [(true, rowO VC (findV VC l q')), (false, [CV.b (found l q')])] := by
  subst eq
  unfold findV found
  rw [hf.1, hf.2, hc]
theorem resFNO {VC : List CT} {l : List (List D)} {q q' : List D} (eq : q' = q) (hf : l.find? (sameK q) = none ∧ l.any (sameK q) = false) (cs : List CV) (hc : cs = rowO VC (zeroRow VC)) : [(true, cs), (false, [CV.b false])] = [(true, rowO VC (findV VC l q')), (false, [CV.b (found l q')])] := by
  subst eq
  unfold findV found
  rw [hf.1, hf.2, hc]
end Go.Proofs.Ytidjlboppokloaa.Ab
