/- A slice of bytes that came in, opened for the draws' walks. -/
import Derived.Test.YtpkgppfcnddgaabDoorDraw
namespace Go.Proofs.YtpkgppfcnddgaabDoor
open Go.ChangeShapes Go.WideShapes Go.ChangeAt Go.RowKit
theorem open_bytes {H : Type} {enc : TypeId × Value → H} {W : World} {base : Nat} {v0 : Value} {d0 : DataW H} {p0 : List MemPlace} (k0 : Value.okWide Tryd.prog W .any base 25 v0)
    (h0 : DataW.Trod enc Tryd.prog W 0 (fun _ => true) true 25 v0 d0 p0) : ∃ A n c l, v0 = .slice A n c ∧ n ≤ maxLen ∧ IsBytes W W.heap.size A n l := by
  obtain ⟨a0, len0, cap0, rfl⟩ := okWide_slice Tryd.underlying25 k0
  obtain ⟨fuel, hf⟩ := h0
  rcases open_ints Tryd.underlying25 Tryd.underlying5 (by kernel_rfl) hf with ⟨hcs, _⟩ | ⟨x, l, c, zs, hcs, _, hl, hm, hz, _, hcell, hwz⟩
  · simp [Value.cells] at hcs
    obtain ⟨rfl, rfl, rfl⟩ := hcs
    exact ⟨none, 0, 0, [], rfl, Nat.zero_le _, rfl, fun h => absurd h (by omega)⟩
  · simp [Value.cells] at hcs
    obtain ⟨rfl, rfl, rfl⟩ := hcs
    have hzl : zs.length = cap0 := by simpa using hz
    refine ⟨_, _, _, (zs.take len0).map (fun z => UInt8.ofNat z.toNat), rfl, by omega, by simp; omega, fun hn => ?_⟩
    have hc0 := hcell 0 (by omega)
    have hs : x.spot = none := by
      have := World.cell?_spot hc0
      obtain ⟨b, o, s⟩ := x
      simpa [Addr.add] using this
    obtain ⟨b, o, s⟩ := x
    have hs' : s = none := hs
    subst hs'
    refine ⟨_, rfl, rfl, ?_, fun k hk => ?_⟩
    · have := World.block_lt_of_cell? W _ hc0
      simpa [Addr.add] using this
    · have hk' : k < zs.length := by simp at hk; omega
      rw [hcell k hk']
      have hw := hwz _ (List.getElem_mem hk')
      have hr : 0 ≤ zs[k] ∧ zs[k] ≤ 255 := by simpa [Lit.wf, IntKind.min, IntKind.max, IntKind.signed, IntKind.bits] using hw
      simp only [List.getElem_map, List.getElem_take, List.getD, List.getElem?_eq_getElem hk', Option.getD_some]
      congr 2
      rw [UInt8.toNat_ofNat']
      omega
end Go.Proofs.YtpkgppfcnddgaabDoor
