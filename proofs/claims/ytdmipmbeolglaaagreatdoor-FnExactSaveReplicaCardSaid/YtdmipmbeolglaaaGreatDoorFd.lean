/- Texts of numbers, of bytes, of words: descriptions of functions of formats, and the library's contracts as such. -/
import Derived.Test.YtdmipmbeolglaaaGreatDoorVd
import Derived.Lib.ItoaNum
import Derived.Lib.HexFns
import Derived.Lib.Join
import Derived.Lib.LaidTab
import Derived.Lib.AppendIntMem
namespace Go.Proofs.YtdmipmbeolglaaaGreatDoor.Ab
open Go.RowKit
set_option linter.unusedVariables false
def itoaB (n : Int) : ByteArray := ⟨(Lib.itoa n).toArray⟩
def encB (s : ByteArray) : ByteArray := if s.data.toList = [] then ⟨#[45]⟩ else ⟨(Lib.Hx.encode s.data.toList).toArray⟩
def joinT (xs : List ByteArray) (sep : ByteArray) : ByteArray := ⟨(Lib.join (xs.map (·.data.toList)) sep.data.toList).toArray⟩
def strsOf (rows : List (List D)) : List ByteArray := rows.map fun r => (r.getD 0 default).str
def strRows (xs : List ByteArray) : List (List D) := xs.map fun x => [.s x]
def intRows (xs : List Int) : List (List D) := xs.map fun x => [.i x]
theorem strsOf_rows (xs : List ByteArray) : strsOf (strRows xs) = xs := by
  simp [strsOf, strRows, D.str, Function.comp_def]
/-- A number's text; a text's code; words joined. -/
def spItoa : FSpec where
  pre args := ∃ x : Int, args = [.val false [.i .i64 x]]
  res args := match args with
    | [.val _ [.i _ x]] => .val false [.s (itoaB x)]
    | _ => .none
def spEnc : FSpec where
  pre args := ∃ s : ByteArray, s.size ≤ 70368744177664 ∧ args = [.val false [.s s]]
  res args := match args with
    | [.val _ [.s s]] => .val false [.s (encB s)]
    | _ => .none
def spHex (e : TypeId) : FSpec where
  pre args := ∃ s : ByteArray, s.data.toList ≠ [] ∧ s.size ≤ 70368744177664 ∧ args = [argS e (bytesD s)]
  res args := match args with
    | [.val _ [.sl _ _ rows]] => .val false [.s ⟨(Lib.Hx.encode (bytesOf rows).data.toList).toArray⟩]
    | _ => .none
def spJoin : FSpec where
  pre args := ∃ (rows : List (List D)) (sep : ByteArray), rows.length ≤ 140737488355328 ∧ (joinT (strsOf rows) sep).size ≤ 140737488355328 ∧ args = [argS 9 rows, .val false [.s sep]]
  res args := match args with
    | [.val _ [.sl _ _ rows], .val _ [.s sep]] => .val false [.s (joinT (strsOf rows) sep)]
    | _ => .none
theorem bytesOf_bytesD (s : ByteArray) : bytesOf (bytesD s) = s := by
  have : ((bytesD s).map fun r => UInt8.ofNat (r.getD 0 default).int.toNat) = s.data.toList := by
    simp [bytesD, D.int, Function.comp_def]
  unfold bytesOf
  rw [this]
theorem decDigits_len (u : Nat) : (Lib.decDigits u).length ≤ u / 2 + 1 := by
  induction u using Nat.strongRecOn with
  | _ u ih =>
    rw [Lib.decDigits]
    split
    · simp
    · have := ih (u / 10) (by omega)
      rw [List.length_append, List.length_singleton]
      omega
theorem itoaB_size (n : Int) (h : inK .i64 n) : (itoaB n).size ≤ 4611686018427387906 := by
  have h1 : IntKind.i64.min = -9223372036854775808 := by decide
  have h2 : IntKind.i64.max = 9223372036854775807 := by decide
  rw [inK, h1, h2] at h
  show (Lib.itoa n).toArray.size ≤ _
  rw [List.size_toArray]
  unfold Lib.itoa
  split
  · have := decDigits_len n.natAbs
    rw [List.length_cons]
    omega
  · have := decDigits_len n.toNat
    omega
theorem encB_size (s : ByteArray) : (encB s).size ≤ 2 * s.size + 1 := by
  unfold encB
  split
  · show #[45].size ≤ _; simp
  · show (Lib.Hx.encode s.data.toList).toArray.size ≤ _
    rw [List.size_toArray, Lib.Hx.encode_length]
    show 2 * s.data.toList.length ≤ 2 * s.data.size + 1
    rw [Array.length_toList]; omega
theorem str_is {s : ByteArray} (h : (s.toList == (⟨#[]⟩ : ByteArray).toList) = true) : s.data.toList = [] := by
  rw [ByteArray.toList_eq, ByteArray.toList_eq] at h
  simpa using h
theorem str_isnt {s : ByteArray} (h : (s.toList == (⟨#[]⟩ : ByteArray).toList) = false) : s.data.toList ≠ [] := by
  rw [ByteArray.toList_eq, ByteArray.toList_eq] at h
  simpa using h
theorem encB_no {s : ByteArray} (h : s.data.toList = []) : encB s = ⟨#[45]⟩ := if_pos h
theorem encB_yes {s : ByteArray} (h : s.data.toList ≠ []) : encB s = ⟨(Lib.Hx.encode s.data.toList).toArray⟩ := if_neg h
theorem resS {x y : ByteArray} (h : x = y) : [CV.s x] = [CV.s y] := by rw [h]
/-! The library's contracts -/
section
variable {P : Program} {T : Tab} {f : FuncId}
theorem RdR.int_v {w : World} {X : Nat → Prop} {k : IntKind} {v : Value} {d : D} (h : RdR T w X (.i k) v d) : v = .int k d.int := by cases h; rfl
theorem RdR.str_v {w : World} {X : Nat → Prop} {v : Value} {d : D} (h : RdR T w X .s v d) : v = .string d.str := by cases h; rfl
theorem FOk.text {s : FSpec} (hcall : ∀ args w, (callFunc f args).run P w = .ok (.enter f args) w) (hbx : s.bx = false) (h : ∀ (w : World) (X : Nat → Prop) (args : List SV) (vals : List Value), ArgsR T w X vals args → GlR T w X → s.pre args →
    ∃ t : ByteArray, t.size ≤ maxLen ∧ s.res args = .val false [.s t] ∧ Calls P f vals.toArray w fun e w' => e = .returned (.string t) ∧ Below w.heap.size w w') : FOk P T f s := by
  refine ⟨hcall, fun hb => (by rw [hbx] at hb; cases hb), fun _ w X args vals hX hargs hgl hpre => ?_⟩
  obtain ⟨t, h1, h2, h3⟩ := h w X args vals hargs hgl hpre
  refine h3.mono fun e w' ⟨he, hb⟩ => ⟨_, fun _ => none, he, hb, ?_, (fun j b h => by cases h), (fun j j2 b h => by cases h)⟩
  rw [h2]
  exact ⟨_, rfl, rfl, h1⟩
theorem ArgsR.one_ {w : World} {X : Nat → Prop} {vals : List Value} {c : CV} (h : ArgsR T w X vals [.val false [c]]) : ∃ v, vals = [v] ∧ ArgC T w X v c := by
  obtain ⟨h1, h2⟩ := h
  match vals, h1 with
  | [v], _ =>
    obtain ⟨c', e, hc⟩ := h2 0 _ v rfl rfl
    obtain rfl : c = c' := by simpa using e
    exact ⟨v, rfl, hc⟩
theorem ArgsR.two_ {w : World} {X : Nat → Prop} {vals : List Value} {c d : CV} (h : ArgsR T w X vals [.val false [c], .val false [d]]) : ∃ v u, vals = [v, u] ∧ ArgC T w X v c ∧ ArgC T w X u d := by
  obtain ⟨h1, h2⟩ := h
  match vals, h1 with
  | [v, u], _ =>
    obtain ⟨c', e, hc⟩ := h2 0 _ v rfl rfl
    obtain rfl : c = c' := by simpa using e
    obtain ⟨d', e, hd⟩ := h2 1 _ u rfl rfl
    obtain rfl : d = d' := by simpa using e
    exact ⟨v, u, rfl, hc, hd⟩
theorem tabIs_of {g : Nat} {name : String} {zs : List Int} {w : World} {X : Nat → Prop} (hg : P.globalNamed name = some g) (hm : (g, zs.map fun z => (CT.i .u64, D.i z)) ∈ T.gl) (h : GlR T w X) : Lib.TabIs P w name .u64 zs := by
  obtain ⟨_, _, ⟨cur, e, fz, h4, h5⟩, h3⟩ := h _ hm
  unfold Lib.TabIs World.var?
  rw [hg]
  simp only [Option.bind_some, h4, Option.some.injEq]
  simp only [List.length_map] at h5
  refine Array.ext (by simpa using h5) fun i h6 h7 => ?_
  have hi : i < zs.length := by omega
  obtain ⟨u, hu, hr⟩ := h3 i (.i .u64, .i zs[i]) (by simp [hi])
  rw [cell_of_row _ _ _ cur e fz h4, Array.getElem?_eq_getElem h6] at hu
  obtain rfl := Option.some.inj hu
  rw [show cur[i] = _ from hr.int_v]
  simp [D.int]
theorem itoa_ok (hcall : ∀ args w, (callFunc f args).run P w = .ok (.enter f args) w) (ht : ∀ {w : World} {X : Nat → Prop}, GlR T w X → Lib.TabIs P w "internal/strconv.uint64pow10" .u64 Lib.pow10Tab)
    (h : ∀ (n : Int) (h0 : -9223372036854775808 ≤ n) (h1 : n ≤ 9223372036854775807) (w : World) (htab : Lib.TabIs P w "internal/strconv.uint64pow10" .u64 Lib.pow10Tab), Calls P f #[.int .i64 n] w fun e w' => e = .returned (.string ⟨(Lib.itoa n).toArray⟩) ∧ Below w.heap.size w w') : FOk P T f spItoa := by
  refine FOk.text hcall rfl fun w X args vals hargs hgl ⟨x, he⟩ => ?_
  subst he
  obtain ⟨v, rfl, rfl, hk⟩ := hargs.one_
  have h1 : IntKind.i64.min = -9223372036854775808 := by decide
  have h2 : IntKind.i64.max = 9223372036854775807 := by decide
  have hk' := hk
  rw [inK, h1, h2] at hk'
  exact ⟨itoaB x, by have := itoaB_size x hk; simp only [maxLen]; omega, rfl, h x hk'.1 hk'.2 w (ht hgl)⟩
theorem hex_ok {e : TypeId} {te : Ty} (hte : T e = some te) (hct : te.cts = [.i .u8]) (hcall : ∀ args w, (callFunc f args).run P w = .ok (.enter f args) w)
    (h : ∀ (bs os cs : Nat) (l : List UInt8) (w : World) (hsrc : ∀ i (h : i < l.length), w.cell? ⟨bs, os + i, none⟩ = some (.int .u8 ((l[i]'h).toNat : Int))) (hb : bs < w.heap.size) (hbig : 2 * l.length ≤ 281474976710656),
      Calls P f #[.slice (some ⟨bs, os, none⟩) l.length cs] w fun e w' => e = .returned (.string ⟨(Lib.Hx.encode l).toArray⟩) ∧ Below w.heap.size w w') : FOk P T f (spHex e) := by
  refine FOk.text hcall rfl fun w X args vals hargs hgl ⟨s, hne, hs, he⟩ => ?_
  subst he
  obtain ⟨v, rfl, hv⟩ := hargs.one_
  have hv' : RdR T w X (.l e) v (.l (bytesD s)) := hv
  refine ⟨⟨(Lib.Hx.encode s.data.toList).toArray⟩, ?_, ?_, ?_⟩
  · show (Lib.Hx.encode s.data.toList).toArray.size ≤ maxLen
    have : s.data.toList.length = s.size := by rw [Array.length_toList]; rfl
    rw [List.size_toArray, Lib.Hx.encode_length, this]
    simp only [maxLen]; omega
  · show SV.val false [CV.s ⟨(Lib.Hx.encode (bytesOf (bytesD s)).data.toList).toArray⟩] = _
    rw [bytesOf_bytesD]
  · generalize hl : bytesD s = rows at hv'
    cases hv' with
    | nil _ A c hc =>
      have : s.size = 0 := by rw [← bytesD_length, hl]; rfl
      exact absurd (List.length_eq_zero_iff.1 (by rw [Array.length_toList]; exact this)) hne
    | sl _ ty b o c _ vs g1 g2 g3 g4 g5 g6 g7 g8 =>
      rw [hte] at g1
      obtain rfl := Option.some.inj g1
      have hlen : rows.length = s.data.toList.length := by rw [← hl, bytesD_length, Array.length_toList]; rfl
      rw [hlen]
      refine h b o c s.data.toList w (fun i hi => ?_) g5 (by rw [← hlen, ← hl, bytesD_length]; omega)
      have := g6 i 0 (by omega) (by rw [hct]; simp)
      rw [hct] at this
      simp only [List.length_cons, List.length_nil, Nat.zero_add, Nat.mul_one, Nat.add_zero] at this
      rw [this]
      have hrow : rows[i]? = some [.i ((s.data.toList[i]).toNat : Int)] := by
        rw [← hl]; simp only [bytesD, List.getElem?_map, List.getElem?_eq_getElem hi]; rfl
      have hr := g8 i 0 (.i .u8) _ _ hrow (by rw [hct]; rfl) rfl
      exact congrArg some hr.int_v
theorem join_ok {te : Ty} (hte : T 9 = some te) (hct : te.cts = [.s]) (hcall : ∀ args w, (callFunc f args).run P w = .ok (.enter f args) w)
    (h0 : ∀ (a : Option Addr) (c : Nat) (sep : ByteArray) (w : World), Calls P f #[.slice a 0 c, .string sep] w fun e w' => e = .returned (.string ⟨#[]⟩) ∧ w' = w)
    (h : ∀ (bk o c : Nat) (xs : List ByteArray) (sep : ByteArray) (w : World) (hcells : ∀ (j : Nat) x, xs[j]? = some x → w.cell? ⟨bk, o + j, none⟩ = some (.string x)) (hbk : bk < w.heap.size) (hN : xs.length ≤ 140737488355328) (hcap : xs.length ≤ c) (hlen : (Lib.join (xs.map (·.data.toList)) sep.data.toList).length ≤ 140737488355328),
      Calls P f #[.slice (some ⟨bk, o, none⟩) xs.length c, .string sep] w fun e w' => e = .returned (.string ⟨(Lib.join (xs.map (·.data.toList)) sep.data.toList).toArray⟩) ∧ Below w.heap.size w w') : FOk P T f spJoin := by
  refine FOk.text hcall rfl fun w X args vals hargs hgl ⟨rows, sep, hn, hl, he⟩ => ?_
  subst he
  obtain ⟨v, u, rfl, hv, rfl, hu⟩ := hargs.two_
  have hv' : RdR T w X (.l 9) v (.l rows) := hv
  refine ⟨joinT (strsOf rows) sep, by simp only [maxLen]; omega, rfl, ?_⟩
  cases hv' with
  | nil _ A c hc => exact (h0 A c sep w).mono fun e w' ⟨a, b⟩ => ⟨a, b ▸ Below.refl _ _⟩
  | sl _ ty b o c _ vs g1 g2 g3 g4 g5 g6 g7 g8 =>
    rw [hte] at g1
    obtain rfl := Option.some.inj g1
    have hls : (strsOf rows).length = rows.length := by simp [strsOf]
    rw [← hls]
    refine h b o c (strsOf rows) sep w (fun j x hj => ?_) g5 (by omega) (by omega) ?_
    · have hj' : j < rows.length := by rw [← hls]; exact (List.getElem?_eq_some_iff.1 hj).1
      have := g6 j 0 hj' (by rw [hct]; simp)
      rw [hct] at this
      simp only [List.length_cons, List.length_nil, Nat.zero_add, Nat.mul_one, Nat.add_zero] at this
      rw [this]
      have hlen := g7 j rows[j] (List.getElem?_eq_getElem hj')
      rw [hct] at hlen
      obtain ⟨d, hd⟩ := List.length_eq_one_iff.1 hlen
      have hr := g8 j 0 .s d rows[j] (List.getElem?_eq_getElem hj') (by rw [hct]; rfl) (by rw [hd]; rfl)
      have hx : (rows[j].getD 0 default).str = x := by
        simp only [strsOf, List.getElem?_map, List.getElem?_eq_getElem hj', Option.map_some, Option.some.injEq] at hj
        exact hj
      rw [hd] at hx
      rw [hr.str_v, ← hx]
      rfl
    · have : (joinT (strsOf rows) sep).size = (Lib.join ((strsOf rows).map (·.data.toList)) sep.data.toList).length := List.size_toArray
      omega
end
end Go.Proofs.YtdmipmbeolglaaaGreatDoor.Ab
