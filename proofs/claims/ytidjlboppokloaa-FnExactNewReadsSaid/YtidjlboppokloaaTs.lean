/- Descriptions of copies from type to type, and of types whose data are alike. No program in sight. -/
import Derived.Test.YtidjlboppokloaaEs
namespace Go.Proofs.Ytidjlboppokloaa.Ab
open Go.RowKit
set_option linter.unusedVariables false
variable {T : Tab}

/-- A copy of a slice, of a structure, at another type: small data alone. -/
def toS (e e' : TypeId) : FSpec where
  pre args := ∃ a : List (List D), a.length + wRows a ≤ 1048576 ∧ args = [argS e a]
  res args := match args with
    | [.val _ [.sl _ _ a]] => argS e' a
    | _ => .none
def toG (T : Tab) (cts cts' : List CT) : FSpec where
  pre args := ∃ a : List D, WfRow T cts a ∧ wRow (csD (rowC cts a)) ≤ 1048576 ∧ args = [argG cts a]
  res args := match args with
    | [.val _ cs] => argG cts' (csD cs)
    | _ => .none
def toSn (e e' : TypeId) (n : Nat) : FSpec where
  pre args := ∃ a : List (List D), SizeOf.sizeOf a < n ∧ a.length + wRows a ≤ 1048576 ∧ args = [argS e a]
  res := (toS e e').res
def toGn (T : Tab) (cts cts' : List CT) (n : Nat) : FSpec where
  pre args := ∃ a : List D, WfRow T cts a ∧ SizeOf.sizeOf a < n ∧ wRow (csD (rowC cts a)) ≤ 1048576 ∧ args = [argG cts a]
  res := (toG T cts cts').res
theorem wRow_le {a : List (List D)} {k : Nat} (hk : k < a.length) : wRow (a.getD k []) ≤ wRows a := by
  have h1 := wRows_next (a := a) (i := (k : Int)) (by omega) (by omega)
  have h2 := wRows_le a ((k : Int) + 1).toNat
  simp only [Int.toNat_natCast] at h1
  omega
/-- A slice filled from the left. -/
def fill (a : List (List D)) (z : List D) (k : Nat) : List (List D) := a.take k ++ List.replicate (a.length - k) z
theorem fill_zero (a : List (List D)) (z : List D) : fill a z 0 = List.replicate a.length z := by simp [fill]
theorem fill_all {a : List (List D)} {z : List D} {i : Int} (h0 : 0 ≤ i) (hi : i ≤ a.length) (hn : decide (i < (a.length : Int)) = false) : fill a z i.toNat = a := by
  have hn' : ¬ i < (a.length : Int) := by simpa using hn
  have : i.toNat = a.length := by omega
  simp [fill, this]
theorem fill_length {a : List (List D)} {z : List D} {k : Nat} (hk : k ≤ a.length) : (fill a z k).length = a.length := by simp [fill]; omega
theorem overlay_all : ∀ (z ds : List D), z.length = ds.length → overlay z 0 ds = ds := by
  intro z ds h
  simp [overlay, ← h]
theorem fill_next {a : List (List D)} {z ds : List D} {i : Int} (h0 : 0 ≤ i) (hi : i < a.length) (hz : z.length = ds.length) (hd : ds = a.getD i.toNat []) : pokeRow (fill a z i.toNat) i.toNat 0 ds = fill a z (i + 1).toNat := by
  have e : (i + 1).toNat = i.toNat + 1 := by omega
  have hk : i.toNat < a.length := by omega
  generalize i.toNat = k at *
  rw [e]
  unfold pokeRow fill
  have h1 : (a.take k ++ List.replicate (a.length - k) z).getD k [] = z := by
    rw [List.getD_eq_getElem?_getD, List.getElem?_append_right (by simp; omega), List.getElem?_replicate]
    have : k - (List.take k a).length < a.length - k := by simp; omega
    rw [if_pos this]; rfl
  rw [h1, overlay_all _ _ hz, List.take_add_one]
  have h2 : a.length - k = (a.length - (k + 1)) + 1 := by omega
  rw [h2, List.replicate_succ, List.set_append_right _ _ (by simp; omega)]
  have h3 : a[k]? = some ds := by rw [hd]; simp [List.getD_eq_getElem?_getD, List.getElem?_eq_getElem hk]
  rw [h3]
  have h4 : min k a.length = k := by omega
  simp [h4]

/-! Types whose data are alike -/
def isoC (S : List (TypeId × TypeId)) : CT → CT → Bool
  | .i k, .i k' => decide (k = k')
  | .b, .b => true
  | .s, .s => true
  | .l e, .l e' => S.contains (e, e')
  | _, _ => false
def isoCs (S : List (TypeId × TypeId)) : List CT → List CT → Bool
  | [], [] => true
  | c :: r, c' :: r' => isoC S c c' && isoCs S r r'
  | _, _ => false
def isoOk (T : Tab) (S : List (TypeId × TypeId)) : Bool := S.all fun p => match T p.1, T p.2 with
  | some x, some y => isoCs S x.cts y.cts
  | _, _ => false
theorem isoCs_spec {S : List (TypeId × TypeId)} : ∀ {cs cs' : List CT}, isoCs S cs cs' = true → cs.length = cs'.length ∧ ∀ (j : Nat) c c', cs[j]? = some c → cs'[j]? = some c' → isoC S c c' = true
  | [], [], _ => ⟨rfl, fun j c c' h => by simp at h⟩
  | c :: r, c' :: r', h => by
    simp only [isoCs, Bool.and_eq_true] at h
    obtain ⟨h1, h2⟩ := isoCs_spec h.2
    refine ⟨by simp [h1], fun j d d' hd hd' => ?_⟩
    cases j with
    | zero =>
      obtain rfl := Option.some.inj hd
      obtain rfl := Option.some.inj hd'
      exact h.1
    | succ j => exact h2 j d d' (by simpa using hd) (by simpa using hd')
  | [], _ :: _, h => by cases h
  | _ :: _, [], h => by cases h
theorem WfD.iso {S : List (TypeId × TypeId)} (hS : isoOk T S = true) {c : CT} {d : D} (h : WfD T c d) : ∀ {c' : CT}, isoC S c c' = true → WfD T c' d := by
  induction h with
  | int k n h => intro c' hc; cases c' <;> simp [isoC] at hc; subst hc; exact .int _ n h
  | bool x => intro c' hc; cases c' <;> simp [isoC] at hc; exact .bool x
  | str x h => intro c' hc; cases c' <;> simp [isoC] at hc; exact .str x h
  | nil e => intro c' hc; cases c' <;> simp [isoC] at hc; exact .nil _
  | sl e ty rows h1 h2 h3 h4 ih =>
    intro c' hc
    cases c' with
    | l e' =>
      have hm : (e, e') ∈ S := by simpa [isoC] using hc
      have hp := List.all_eq_true.1 hS _ hm
      simp only [h1] at hp
      split at hp
      · rename_i x y hx hy
        obtain rfl := Option.some.inj hx
        obtain ⟨g1, g2⟩ := isoCs_spec hp
        refine .sl e' y rows hy h2 (fun k row hk => by rw [h3 k row hk, g1]) (fun k j ct d row hk hct hd => ?_)
        have hj : j < ty.cts.length := by rw [g1]; exact (List.getElem?_eq_some_iff.1 hct).1
        exact ih k j _ d row hk (List.getElem?_eq_getElem hj) hd (g2 j _ ct (List.getElem?_eq_getElem hj) hct)
      · cases hp
    | _ => simp [isoC] at hc
theorem WfRow.iso {S : List (TypeId × TypeId)} (hS : isoOk T S = true) {cts cts' : List CT} {row : List D} (h : WfRow T cts row) (hc : isoCs S cts cts' = true) : WfRow T cts' row := by
  obtain ⟨g1, g2⟩ := isoCs_spec hc
  refine ⟨h.1.trans g1, fun j ct d hct hd => ?_⟩
  have hj : j < cts.length := by rw [g1]; exact (List.getElem?_eq_some_iff.1 hct).1
  exact (h.2 j _ d (List.getElem?_eq_getElem hj) hd).iso hS (g2 j _ ct (List.getElem?_eq_getElem hj) hct)
end Go.Proofs.Ytidjlboppokloaa.Ab
