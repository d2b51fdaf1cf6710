/- Package-level variables: from a statement's own reading of them to readings as data. P is any program. -/
import Derived.Test.YtdmipmbeolglaaaGreatDoorBr
import Derived.Lib.LaidTab
import Derived.ChangeVars
namespace Go.Proofs.YtdmipmbeolglaaaGreatDoor.Ab
open Go.RowKit Go.ChangeShapes Go.WideShapes
set_option linter.unusedVariables false
variable {P : Program} {T : Tab} {w : World}
theorem cell_of_cells {g : Nat} {cur : Array Value} {e : TypeId} {fz : Nat × Nat} (h : w.heap[g]? = some (.cells cur e fz)) (j : Nat) : w.cell? ⟨g, j, none⟩ = cur[j]? := by
  simp [World.cell?, h]
/-- One entry of the table of variables. -/
def GlAt (T : Tab) (w : World) (p : Nat × List (CT × D)) : Prop :=
  p.1 < w.heap.size ∧ (∃ cur e fz, w.heap[p.1]? = some (.cells cur e fz) ∧ cur.size = p.2.length) ∧ ∀ (j : Nat) (q : CT × D), p.2[j]? = some q → ∃ u, w.cell? ⟨p.1, j, none⟩ = some u ∧ RdR T w (fun _ => False) q.1 u q.2
theorem GlAt.all {X : Nat → Prop} (h : ∀ p ∈ T.gl, GlAt T w p) : GlR T w (fun _ => False) := fun p hp => ⟨fun h => h, h p hp⟩
theorem GlAt.of_var {name : String} {g : Nat} {cs : Array Value} {ps : List (CT × D)} (hg : P.globalNamed name = some g) (hv : w.var? P name = some cs) (hl : cs.size = ps.length)
    (hr : ∀ (j : Nat) (q : CT × D) u, ps[j]? = some q → cs[j]? = some u → RdR T w (fun _ => False) q.1 u q.2) : GlAt T w (g, ps) := by
  unfold World.var? at hv
  rw [hg] at hv
  simp only [Option.bind_some] at hv
  cases hb : w.heap[g]? with
  | none => rw [hb] at hv; cases hv
  | some o =>
    rw [hb] at hv
    cases o with
    | cells cur e fz =>
      obtain rfl : cur = cs := by simpa using hv
      refine ⟨(Array.getElem?_eq_some_iff.1 hb).1, ⟨cur, e, fz, hb, hl⟩, fun j q hq => ?_⟩
      have hj : j < cur.size := by rw [hl]; exact (List.getElem?_eq_some_iff.1 hq).1
      exact ⟨cur[j], by rw [cell_of_cells hb, Array.getElem?_eq_getElem hj], hr j q _ hq (Array.getElem?_eq_getElem hj)⟩
    | _ => cases hv
theorem GlAt.of_tab {name : String} {g : Nat} {k : IntKind} {zs : List Int} (hg : P.globalNamed name = some g) (h : Lib.TabIs P w name k zs) (hz : ∀ z ∈ zs, inK k z) : GlAt T w (g, zs.map fun z => (CT.i k, D.i z)) := by
  refine GlAt.of_var hg h (by simp) fun j q u hq hu => ?_
  rw [List.getElem?_map] at hq
  cases hzj : zs[j]? with
  | none => rw [hzj] at hq; cases hq
  | some z =>
    rw [hzj] at hq
    obtain rfl := Option.some.inj hq
    have hu' : u = .int k z := by
      have : ((zs.map fun z => Value.int k z).toArray)[j]? = some (.int k z) := by simp [hzj]
      rw [this] at hu
      exact (Option.some.inj hu).symm
    subst hu'
    exact .int k z (hz z (List.mem_of_getElem? hzj))
/-- A slice of texts that reads as told. -/
theorem texts_of_trod (hT : TabOk P T) {H : Type} {enc : TypeId × Value → H} {t e : TypeId} {te : Ty} (hu : P.underlying t = some (.slice e)) (he : P.underlying e = some .string) (hte : T e = some te) (hc : te.cts = [.s]) {names : List (List UInt8)} {sp : Nat → Bool} {held : Bool} {f : Nat}
    {cs : List Value} {rs : List (DataW H)} {p : List MemPlace} (hne : 0 < names.length) (h : DataW.trod enc P w 0 sp held f t cs = some (.slice (names.map fun l => .lit (.string l)) rs, p)) :
    ∃ v, cs = [v] ∧ RdR T w (fun _ => False) (.l e) v (.l (names.map fun l => [.s ⟨l.toArray⟩])) := by
  rcases DataW.trod_slice hu h with ⟨_, e2⟩ | ⟨a, len, cap, elems, rest, n, hf, e1, ex, _, hl, hm, hlen, hel, _, _⟩
  · cases e2
  have hC : P.cellsOf e = 1 := by rw [(hT _ _ hte).cellsOf, hc]; rfl
  have hmap : elems.map (·.1) = names.map fun l => (DataW.lit (.string l) : DataW H) := by
    have := congrArg (fun z : DataW H × List MemPlace => z.1) ex
    simp only [DataW.slice.injEq] at this
    exact this.1.symm
  have hnl : names.length = len := by
    have := congrArg List.length hmap
    simp only [List.length_map] at this
    omega
  have step : ∀ k l, names[k]? = some l → w.cell? (a.add k) = some (.string ⟨l.toArray⟩) ∧ (⟨l.toArray⟩ : ByteArray).size ≤ maxLen := by
    intro k l hk
    have hkl : k < len := by rw [← hnl]; exact (List.getElem?_eq_some_iff.1 hk).1
    have h1 := hel k hkl
    rw [hC, Nat.mul_one] at h1
    have hek : elems[k]? = some elems[k] := List.getElem?_eq_getElem (by omega)
    rw [hek] at h1
    cases hcs : w.cells? 0 (a.add k) 1 with
    | none => rw [hcs] at h1; cases h1
    | some cs' =>
      rw [hcs] at h1
      obtain ⟨s, e3, e4, hs⟩ := DataW.trod_string he h1
      have hl2 : (elems.map (·.1))[k]? = some (.lit (.string s.data.toList)) := by rw [List.getElem?_map, hek, e4]; rfl
      rw [hmap, List.getElem?_map, hk] at hl2
      have hls : l = s.data.toList := by simpa using hl2
      obtain ⟨_, hcl, hat⟩ := World.cells?_some hcs
      have h0 := hat 0 (by decide)
      rw [e3] at h0
      have hadd : (a.add k).add 0 = a.add k := by
        obtain ⟨b, o, sp⟩ := a
        cases sp <;> simp [Addr.add]
      rw [hadd] at h0
      subst hls
      exact ⟨by simpa using h0, hs⟩
  obtain ⟨b, o, spot⟩ := a
  have h0 := (step 0 names[0] (List.getElem?_eq_getElem (by omega))).1
  have hs : spot = none ∧ b < w.heap.size := by
    have h1 := World.cell?_spot h0
    have h2 := World.block_lt_of_cell? w _ h0
    exact ⟨by simpa [Addr.add] using h1, by simpa [Addr.add] using h2⟩
  obtain ⟨rfl, hb⟩ := hs
  refine ⟨_, e1, ?_⟩
  have hlen2 : (names.map fun (l : List UInt8) => ([D.s ⟨l.toArray⟩] : List D)).length = len := by rw [List.length_map]; exact hnl
  have row : ∀ (k : Nat) (r : List D), (names.map fun (l : List UInt8) => ([D.s ⟨l.toArray⟩] : List D))[k]? = some r → ∃ l : List UInt8, names[k]? = some l ∧ r = [D.s ⟨l.toArray⟩] := by
    intro k r hk
    rw [List.getElem?_map] at hk
    cases hn : names[k]? with
    | none => rw [hn] at hk; cases hk
    | some l => rw [hn] at hk; exact ⟨l, rfl, (Option.some.inj hk).symm⟩
  rw [← hlen2]
  refine .sl e te b o cap _ (fun k j => (w.cell? ⟨b, o + k * te.cts.length + j, none⟩).getD undef) hte (by omega) hm (fun h => h) hb (fun k j hk hj => ?_) (fun k r hk => ?_) (fun k j ct d r hk hct hd => ?_)
  · have hk' : k < names.length := by omega
    have := (step k names[k] (List.getElem?_eq_getElem hk')).1
    rw [addr_off'] at this
    rw [hc] at hj ⊢
    have hj0 : j = 0 := by simp at hj; omega
    subst hj0
    simp only [List.length_cons, List.length_nil, Nat.zero_add, Nat.mul_one, Nat.add_zero]
    rw [this]
    rfl
  · obtain ⟨l, _, rfl⟩ := row k r hk
    rw [hc]
    rfl
  · obtain ⟨l, hl, rfl⟩ := row k r hk
    have hj0 : j = 0 := by
      have := (List.getElem?_eq_some_iff.1 hd).1
      simp at this
      omega
    subst hj0
    obtain rfl : d = .s ⟨l.toArray⟩ := by simpa using hd.symm
    have hct' : ct = .s := by rw [hc] at hct; simpa using hct.symm
    subst hct'
    have := step k l hl
    rw [addr_off'] at this
    rw [hc]
    simp only [List.length_cons, List.length_nil, Nat.zero_add, Nat.mul_one, Nat.add_zero]
    rw [this.1]
    exact .str _ this.2
theorem GlAt.of_texts (hT : TabOk P T) {H : Type} {enc : TypeId × Value → H} {name : String} {g : Nat} {t e : TypeId} {te : Ty} (hg : P.globalNamed name = some g) (hu : P.underlying t = some (.slice e)) (he : P.underlying e = some .string) (hte : T e = some te) (hc : te.cts = [.s]) {names : List (List UInt8)} {sp : Nat → Bool} {held : Bool} {f : Nat}
    {cs : Array Value} {rs : List (DataW H)} {p : List MemPlace} (hne : 0 < names.length) (hv : w.var? P name = some cs) (h : DataW.trod enc P w 0 sp held f t cs.toList = some (.slice (names.map fun l => .lit (.string l)) rs, p)) :
    GlAt T w (g, [(.l e, .l (names.map fun l => [.s ⟨l.toArray⟩]))]) := by
  obtain ⟨v, e1, hr⟩ := texts_of_trod hT hu he hte hc hne h
  have e2 : cs = #[v] := by apply Array.ext'; simpa using e1
  subst e2
  refine GlAt.of_var hg hv rfl fun j q u hq hu => ?_
  cases j with
  | zero =>
    obtain rfl := Option.some.inj hq
    obtain rfl : v = u := by simpa using hu
    exact hr
  | succ j => cases hq
end Go.Proofs.YtdmipmbeolglaaaGreatDoor.Ab
