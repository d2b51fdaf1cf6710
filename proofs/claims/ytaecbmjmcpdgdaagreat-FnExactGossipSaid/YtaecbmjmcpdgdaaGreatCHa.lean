/- Edits of a notebook over data: what they do, and that they are undone. No program in sight. -/
import Derived.Test.YtaecbmjmcpdgdaaGreatCYs
namespace Go.Proofs.YtaecbmjmcpdgdaaGreat.Ab
open Go.RowKit
set_option linter.unusedVariables false
abbrev sAt (r : List D) (j : Nat) : ByteArray := (r.getD j default).str
def prByte (b : Int) : Bool := !(decide (b < 32) || decide (b > 126))
def prOk (s : ByteArray) : Bool := allB s.size (fun i => prByte (bAt s i)) && decide ((s.size : Int) ≤ 120)
abbrev noT (s : ByteArray) : Bool := s.toList == (⟨#[]⟩ : ByteArray).toList
def restOk (k : Int) (nm cd : ByteArray) (n : Int) : Bool :=
  if (k == 1) = true then noT nm && n == 0 else if (k == 2 || k == 4) = true then nameOk nm && n == 0 else if (k == 3) = true then nameOk nm && (noT cd && inR n 0 100) else false
def okCell (r : List D) : Bool := inR (iAt r 0) 1 999 && (inR (iAt r 1) 1 999 && (prOk (sAt r 4) && restOk (iAt r 2) (sAt r 3) (sAt r 4) (iAt r 5)))
abbrev idsC (l : List (List D)) : List Int := l.map (iAt · 0)
structure Good (l : List (List D)) : Prop where
  len : l.length ≤ 8
  cell : ∀ r ∈ l, okCell r = true
  ids : (idsC l).Nodup
theorem Good.put {A B : List (List D)} {c : List D} (g : Good (A ++ B)) (hc : okCell c = true) (hl : (A ++ B).length < 8) (hn : ∀ x ∈ A ++ B, iAt x 0 ≠ iAt c 0) : Good (A ++ c :: B) := by
  have hp : List.Perm (A ++ c :: B) (c :: (A ++ B)) := List.perm_middle
  refine ⟨by rw [hp.length_eq]; exact hl, fun r hr => ?_, ?_⟩
  · rcases List.mem_cons.1 (hp.mem_iff.1 hr) with rfl | h
    · exact hc
    · exact g.cell r h
  · refine ((hp.map (iAt · 0)).nodup_iff).2 ?_
    rw [List.map_cons]
    refine List.nodup_cons.2 ⟨fun hm => ?_, g.ids⟩
    obtain ⟨y, hy, e⟩ := List.mem_map.1 hm
    exact hn y hy e
theorem Good.cut {A B : List (List D)} {c : List D} (g : Good (A ++ c :: B)) : Good (A ++ B) ∧ okCell c = true ∧ (A ++ B).length < 8 ∧ ∀ x ∈ A ++ B, iAt x 0 ≠ iAt c 0 := by
  have hp : List.Perm (A ++ c :: B) (c :: (A ++ B)) := List.perm_middle
  have h1 := g.len
  rw [hp.length_eq, List.length_cons] at h1
  have h2 := ((hp.map (iAt · 0)).nodup_iff).1 g.ids
  rw [List.map_cons] at h2
  obtain ⟨h3, h4⟩ := List.nodup_cons.1 h2
  exact ⟨⟨by omega, fun r hr => g.cell r (hp.mem_iff.2 (List.mem_cons_of_mem _ hr)), h4⟩, g.cell c (hp.mem_iff.2 (by simp)), h1, fun x hx e => h3 (by rw [← e]; exact List.mem_map_of_mem hx)⟩
end Go.Proofs.YtaecbmjmcpdgdaaGreat.Ab
