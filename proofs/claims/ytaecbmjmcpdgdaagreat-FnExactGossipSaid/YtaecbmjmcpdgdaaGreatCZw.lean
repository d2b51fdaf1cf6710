/- A body run part by part: what was is forgotten between the parts. No program in sight. The worlds that a sort passes through, where 'less' may lay blocks. No program in sight. A function that is handed a pointer to what it reads; an owned slice whose rows are turned among themselves. No program in sight. An owned slice of structures: its rows as an array, and closed again when they have been turned among themselves. No program in sight. A loop that keeps an alias of a kept variable; a world that has only grown. No program in sight. -/
import Derived.Test.YtaecbmjmcpdgdaaGreatCK6
import Derived.Test.YtaecbmjmcpdgdaaGreatCZs
import Derived.Shelf.GgSortFunc.RowK
import Derived.Lib.ReflectliteSwap
import Derived.WalkKit
import Derived.Lib.Hide
import Derived.Below
namespace Go.Proofs.YtaecbmjmcpdgdaaGreat.Ab
open Go.RowKit
set_option linter.unusedVariables false
variable {P : Program} {T : Tab} {N : Nat}
structure OkC (P : Program) (T : Tab) (N : Nat) (c : Code) (Q : Exit → St → Prop) (σ : St) : Prop where
  run : ∀ (W : Base) (E : Env), Rel T W N E → E.σ = σ → c.wp P (QC T W N Q) E.a E.w
theorem OkC.forgetTo {c : Code} {Q : Exit → St → Prop} {σ : St} (ts bs : List Nat) (s : Snap) (hal : Alive bs σ) (hs : snap ts bs σ = s) (h : OkC P T N c Q (ofSnap ts bs s)) : OkC P T N c Q σ :=
  ⟨fun W E hr he => h.run W (E.keep ts bs) hr.keep (by subst he; subst hs; exact keep_eq hal)⟩
theorem OkC.seqO {a b : Code} {Q : Exit → St → Prop} {σ : St} (h : OkC P T N a (thenA (OkC P T N b Q) Q) σ) : OkC P T N (.seq a b) Q σ := by
  refine ⟨fun W E hr he => wp_seq (wp_mono (h.run W E hr he) fun e a' w' hq => ?_)⟩
  obtain ⟨E', h', rfl, rfl, hq⟩ := hq
  cases e with
  | normal => exact (show OkC P T N b Q E'.σ from hq).run W E' h' rfl
  | exit id => exact ⟨E', h', rfl, rfl, hq⟩
  | goto l => exact ⟨E', h', rfl, rfl, hq⟩
  | ret => exact ⟨E', h', rfl, rfl, hq⟩
  | panic ch => exact ⟨E', h', rfl, rfl, hq⟩
  | outgrown => exact ⟨E', h', rfl, rfl, hq⟩
theorem OkC.block {id : Nat} {c : Code} {Q : Exit → St → Prop} {σ : St} (h : OkC P T N c (inBlockA id Q) σ) : OkC P T N (.block id c) Q σ := by
  refine ⟨fun W E hr he => wp_block (wp_mono (h.run W E hr he) fun e a' w' hq => ?_)⟩
  obtain ⟨E', h', rfl, rfl, hq⟩ := hq
  cases e with
  | exit id' =>
    simp only [inBlockA] at hq
    simp only [Exit.inBlock]
    split
    · rename_i hi; rw [if_pos hi] at hq; exact ⟨E', h', rfl, rfl, hq⟩
    · rename_i hi; rw [if_neg hi] at hq; exact ⟨E', h', rfl, rfl, hq⟩
  | normal => exact ⟨E', h', rfl, rfl, hq⟩
  | goto l => exact ⟨E', h', rfl, rfl, hq⟩
  | ret => exact ⟨E', h', rfl, rfl, hq⟩
  | panic ch => exact ⟨E', h', rfl, rfl, hq⟩
  | outgrown => exact ⟨E', h', rfl, rfl, hq⟩
section
variable {env : FuncId → Option FSpec} (hT : TabOk P T) (hE : EnvOk P T env) (hm : P.follows .mixedOrders = true)
include hT hE hm
theorem OkC.of_awp {c : Code} {Q : Exit → St → Prop} {σ : St} (h : awp T env N c Q σ) : OkC P T N c Q σ :=
  ⟨fun W E hr he => by subst he; exact awp_ok hT hE hm c hr h⟩
theorem OkC.seq {a b : Code} {Q : Exit → St → Prop} {σ : St} (h : awp T env N a (thenA (OkC P T N b Q) Q) σ) : OkC P T N (.seq a b) Q σ := OkC.seqO (OkC.of_awp hT hE hm h)
end
theorem OkC.loop {c : Code} {Q : Exit → St → Prop} {σ : St} (ts bs : List Nat) (J : Nat → Snap → Prop) (h0 : Alive bs σ ∧ ∃ n, J n (snap ts bs σ))
    (hr : ∀ n s, J n s → OkC P T N c (thenA (fun σ' => Alive bs σ' ∧ ∃ m, m < n ∧ J m (snap ts bs σ')) Q) (ofSnap ts bs s)) : OkC P T N (.loop c) Q σ := by
  refine ⟨fun W E h he => ?_⟩
  let I : Nat → St → Prop := fun n σ => ∃ s, σ = ofSnap ts bs s ∧ J n s
  have h00 : ∃ n, I n (keep ts bs E.σ) := by
    obtain ⟨ha, n, hn⟩ := h0
    subst he
    exact ⟨n, _, keep_eq ha, hn⟩
  have hround : ∀ n σ, I n σ → OkC P T N c (thenA (fun σ' => ∃ m, m < n ∧ I m (keep ts bs σ')) Q) σ := by
    rintro n σ ⟨s, rfl, hI⟩
    refine ⟨fun W E h he => ?_⟩
    refine wp_mono ((hr n s hI).run W E h he) (QC.mono fun e σ' hq => ?_)
    cases e with
    | normal =>
      obtain ⟨ha, m, hlt, hm⟩ := hq
      exact ⟨m, hlt, _, keep_eq ha, hm⟩
    | _ => exact hq
  obtain ⟨n0, h0⟩ := h00
  let G : Nat → Act → World → Prop := fun n a w => ∃ E', Rel T W N E' ∧ E'.a = a ∧ E'.w = w ∧ I n E'.σ
  have least : ∀ a w, (∃ n, G n a w) → ∃ n, G n a w ∧ ∀ m, m < n → ¬ G m a w := by
    intro a w ⟨n, hn⟩
    induction n using Nat.strongRecOn with
    | _ n ih =>
      by_cases hx : ∃ m, m < n ∧ G m a w
      · obtain ⟨m, hm', hg⟩ := hx; exact ih m hm' hg
      · exact ⟨n, hn, fun m hm' hg => hx ⟨m, hm', hg⟩⟩
  let M : Act → World → Nat := fun a w => open Classical in if h : ∃ n, G n a w then (least a w h).choose else 0
  have hM : ∀ a w n, G n a w → G (M a w) a w ∧ M a w ≤ n := by
    intro a w n hg
    have hex : ∃ n, G n a w := ⟨n, hg⟩
    have hs := (least a w hex).choose_spec
    have e : M a w = (least a w hex).choose := by simp only [M]; rw [dif_pos hex]
    rw [e]
    exact ⟨hs.1, Nat.le_of_not_lt fun hlt => hs.2 n hlt hg⟩
  refine wp_loop (fun a w => ∃ n, G n a w) M ⟨n0, E.keep ts bs, h.keep, rfl, rfl, h0⟩ fun a w ⟨n, hg⟩ => ?_
  obtain ⟨⟨E', h', rfl, rfl, hI⟩, _⟩ := hM a w n hg
  refine wp_mono ((hround _ E'.σ hI).run W E' h' rfl) fun e a' w' hq => ?_
  obtain ⟨E2, h2, rfl, rfl, hq⟩ := hq
  cases e with
  | normal =>
    obtain ⟨m, hlt, hI2⟩ := hq
    have hg2 : G m E2.a E2.w := ⟨E2.keep ts bs, h2.keep, rfl, rfl, hI2⟩
    refine ⟨⟨_, hg2⟩, ?_⟩
    have := (hM _ _ _ hg2).2
    omega
  | exit id => exact ⟨E2, h2, rfl, rfl, hq⟩
  | goto l => exact ⟨E2, h2, rfl, rfl, hq⟩
  | ret => exact ⟨E2, h2, rfl, rfl, hq⟩
  | panic ch => exact ⟨E2, h2, rfl, rfl, hq⟩
  | outgrown => exact ⟨E2, h2, rfl, rfl, hq⟩
theorem fokO (hT : TabOk P T) {f : FuncId} {fn : Func} {c : Code} {s : FSpec} (hf : P.funcs[f]? = some fn) (hb : fn.body = some c)
    (hcall : ∀ args w, (callFunc f args).run P w = .ok (.enter f args) w) (hN : fn.ntmps = N) (hbx : s.bx = false)
    (h : ∀ args, s.pre args → (∀ a ∈ args, WfSV T a) → args.length ≤ N ∧ OkC P T N c (fun e σ => (e = .normal ∨ e = .ret) ∧ (retPg T fn.results.toList (s.res args)).wp (fun _ => True) σ) (init args)) : FOk P T f s :=
  fokG hT hf hb hcall hN (fun args h1 h2 => ⟨(h args h1 h2).1, (h args h1 h2).2.run⟩) hbx
end Go.Proofs.YtaecbmjmcpdgdaaGreat.Ab
namespace Go.Proofs.YtaecbmjmcpdgdaaGreat.Zs
open Go.Sort Go.Proofs
set_option linter.unusedVariables false
variable {α : Type} [Inhabited α]
def setD (w : World) (m : Nat) : World := { w with drawn := m }
def Sw (enc : α → List Value) (k blk off : Nat) (w : World) (d : Array α) (w' : World) : Prop := ∃ m os, w' = putRowK enc k (setD (grow w os) m) blk off d
section
variable {enc : α → List Value} {k blk off : Nat} {w w1 w2 : World} {d d' : Array α}
@[simp] theorem size_putRowK (w : World) : (putRowK enc k w blk off d).heap.size = w.heap.size := size_putRow id w blk off _
@[simp] theorem size_setD (w : World) (m : Nat) : (setD w m).heap.size = w.heap.size := rfl
theorem putRowK_again (w : World) (h : d'.size = d.size) : putRowK enc k (putRowK enc k w blk off d) blk off d' = putRowK enc k w blk off d' := putRow_putRow id w blk off _ _ (by simp [h])
theorem setD_putRowK (w : World) (n : Nat) : setD (putRowK enc k w blk off d) n = putRowK enc k (setD w n) blk off d := rfl
theorem setD_setD (w : World) (n m : Nat) : setD (setD w n) m = setD w m := rfl
theorem setD_grow (w : World) (os : Array Obj) (n : Nat) : setD (Sort.grow w os) n = Sort.grow (setD w n) os := rfl
theorem setD_self (w : World) : setD w w.drawn = w := rfl
theorem Sw.start (h : HoldsK enc k w blk off d) : Sw enc k blk off w d w := ⟨w.drawn, #[], by rw [grow_empty, setD_self, putRowK_self enc k w blk off d h]⟩
theorem Sw.size (h : Sw enc k blk off w d w1) : w.heap.size ≤ w1.heap.size := by
  obtain ⟨m, os, rfl⟩ := h
  simp
theorem Sw.grow (h : Sw enc k blk off w d w1) (hb : blk < w.heap.size) (os : Array Obj) : Sw enc k blk off w d (Sort.grow w1 os) := by
  obtain ⟨m, os1, rfl⟩ := h
  refine ⟨m, os1 ++ os, ?_⟩
  rw [← putRowK_grow enc k _ os blk off d (by simp; omega), ← setD_grow, grow_grow]
theorem Sw.alloc (h : Sw enc k blk off w d w1) (hb : blk < w.heap.size) (o : Obj) : Sw enc k blk off w d (w1.alloc o) := by rw [alloc_eq_grow]; exact h.grow hb _
theorem Sw.trans (h : Sw enc k blk off w d w1) (h2 : Sw enc k blk off w1 d' w2) (hs : d'.size = d.size) (hb : blk < w.heap.size) : Sw enc k blk off w d' w2 := by
  obtain ⟨m, os, rfl⟩ := h
  obtain ⟨m2, os2, rfl⟩ := h2
  refine ⟨m2, os ++ os2, ?_⟩
  rw [← putRowK_grow enc k _ os2 blk off d (by simp; omega), setD_putRowK, putRowK_again _ hs, ← setD_grow, grow_grow, setD_setD]
theorem Sw.holds (h : Sw enc k blk off w d' w1) (hH : HoldsK enc k w blk off d) (hs : d'.size = d.size) (hb : blk < w.heap.size) : HoldsK enc k w1 blk off d' := by
  obtain ⟨m, os, rfl⟩ := h
  exact holdsK_putRowK enc k _ blk off d d' (show HoldsK enc k (setD (Sort.grow w os) m) blk off d from holdsK_grow enc k w os blk off d hb hH) hs
theorem Sw.cell (h : Sw enc k blk off w d w1) (a : Addr) (ha : a.block ≠ blk) (hb : a.block < w.heap.size) : w1.cell? a = w.cell? a := by
  obtain ⟨m, os, rfl⟩ := h
  rw [cell?_putRowK_other enc k _ blk off d a ha]
  exact cell?_grow w os a hb
theorem Sw.swap (hk : ∀ x, (enc x).length = k) (h : Sw enc k blk off w d w1) {i j : Nat} (hi : i < d.size) (hj : j < d.size) :
    Sw enc k blk off w (swp d i j) ((w1.setCells blk (off + i * k) (enc d[j]!)).setCells blk (off + j * k) (enc d[i]!)) := by
  obtain ⟨m, os, rfl⟩ := h
  refine ⟨m, os, ?_⟩
  have := swap_worldK enc k hk (setD (Sort.grow w os) m) 0 0 blk off d i j hi hj
  rw [putRowK_drewN, Nat.add_zero, ahead_zero] at this
  exact this
theorem Sw.other (h : Sw enc k blk off w d w1) {b : Nat} (hb : b < w.heap.size) (hn : b ≠ blk) : w1.heap[b]? = w.heap[b]? := by
  obtain ⟨m, os, rfl⟩ := h
  show (mapBlock (setD (Sort.grow w os) m) blk _).heap[b]? = _
  unfold mapBlock
  simp only [Array.getElem?_modify]
  rw [if_neg (Ne.symm hn)]
  exact heap_grow_old w os hb
theorem Sw.rest (h : Sw enc k blk off w d w1) : w1.os = w.os ∧ w1.tape = w.tape ∧ w1.output = w.output := by
  obtain ⟨m, os, rfl⟩ := h
  exact ⟨rfl, rfl, rfl⟩
theorem Sw.of_below (hH : HoldsK enc k w blk off d) (hb : blk < w.heap.size) (h : Go.RowKit.Below w.heap.size w w1) : Sw enc k blk off w d w1 := by
  have hsz := h.size
  refine ⟨w1.drawn, w1.heap.extract w.heap.size w1.heap.size, ?_⟩
  have e : setD (Sort.grow w (w1.heap.extract w.heap.size w1.heap.size)) w1.drawn = w1 := by
    have hh : w.heap ++ w1.heap.extract w.heap.size w1.heap.size = w1.heap := by
      apply Array.ext_getElem?
      intro i
      rw [Array.getElem?_append]
      by_cases hi : i < w.heap.size
      · rw [if_pos hi]; exact (h.block i hi).symm
      · rw [if_neg hi, Array.getElem?_extract]
        by_cases h2 : i < w1.heap.size
        · rw [if_pos (by omega)]; congr 1; omega
        · rw [if_neg (by omega), Array.getElem?_eq_none (by omega)]
    obtain ⟨hp, tp, dr, os, ou⟩ := w1
    unfold setD Sort.grow
    have h1 := h.os; have h2 := h.tape; have h3 := h.output
    simp only at h1 h2 h3 hh ⊢
    rw [hh, h1, h2, h3]
  rw [e]
  exact (putRowK_self enc k w1 blk off d (by rw [← e]; exact holdsK_grow enc k w _ blk off d hb hH)).symm
end
def LessK (P : Program) (g : Nat) (lb : Array Value) (enc : α → List Value) (k : Nat) (lt : α → α → Bool) (blk off n : Nat) (w0 : World) : Prop :=
  ∀ (w1 : World) (dk : Array α), Sw enc k blk off w0 dk w1 → dk.size = n → ∀ i j : Nat, i < n → j < n →
    Calls P g (#[.int .i64 i, .int .i64 j] ++ lb) w1 fun e w' => e = .returned (.bool (lt dk[i]! dk[j]!)) ∧ Sw enc k blk off w1 dk w'
def SwapK (P : Program) (sf : Nat) (sb : Array Value) (enc : α → List Value) (k : Nat) (blk off n : Nat) : Prop :=
  ∀ (W : World) (dk : Array α), HoldsK enc k W blk off dk → dk.size = n → ∀ i j : Nat, i < n → j < n →
    (callFunc sf (#[.int .i64 i, .int .i64 j] ++ sb)).run P W = .ok (.value (.tuple #[])) ((W.setCells blk (off + i * k) (enc dk[j]!)).setCells blk (off + j * k) (enc dk[i]!))
structure SK (P : Program) (g : Nat) (lb : Array Value) (sf : Nat) (sb : Array Value) (enc : α → List Value) (k : Nat) (lt : α → α → Bool) (blk off n : Nat) (w0 : World) : Prop where
  hk : ∀ x, (enc x).length = k
  eg : ∀ args w, (callFunc g args).run P w = .ok (.enter g args) w
  less : LessK P g lb enc k lt blk off n w0
  swap : SwapK P sf sb enc k blk off n
  hb : blk < w0.heap.size
  small : n < 2305843009213693952
section
variable {P : Program} {g : Nat} {lb : Array Value} {sf : Nat} {sb : Array Value} {enc : α → List Value} {k : Nat} {lt : α → α → Bool} {blk off n : Nat} {w0 w1 : World} {d : Array α}
theorem SK.move (S : SK P g lb sf sb enc k lt blk off n w0) (h : Sw enc k blk off w0 d w1) (hd : d.size = n) : SK P g lb sf sb enc k lt blk off n w1 :=
  ⟨S.hk, S.eg, fun w2 dk h2 hs => S.less w2 dk (h.trans h2 (by omega) S.hb) hs, S.swap, Nat.lt_of_lt_of_le S.hb h.size, S.small⟩
theorem SK.step (S : SK P g lb sf sb enc k lt blk off n w0) (h : Sw enc k blk off w0 d w1) (hH : HoldsK enc k w1 blk off d) (hd : d.size = n) {i j : Nat} (hi : i < n) (hj : j < n) :
    ∃ w2, (callFunc sf (#[.int .i64 i, .int .i64 j] ++ sb)).run P w1 = .ok (.value (.tuple #[])) w2 ∧ Sw enc k blk off w0 (swp d i j) w2 :=
  ⟨_, S.swap w1 d hH hd i j hi hj, h.swap S.hk (by omega) (by omega)⟩
end
theorem swapK_of {P : Program} (gS : Bool) (sf : Nat) (hx : ∀ args W, (callFunc sf args).run P W = ((Extern.ReflectliteSwapper.swap gS args).run P W).andThen fun v w' => .ok (.value v) w')
    (e : TypeId) (ie : TypeInfo) (hie : P.info? e = some ie) (enc : α → List Value) (k : Nat) (hk : ∀ x, (enc x).length = k) (hs : ie.size = k) (hagg : ∀ w, (isAgg e).run P w = .ok true w) (h1 : ∀ x, ∀ v ∈ enc x, v.oneCell' = true) (blk off n c : Nat) :
    SwapK P sf #[.slice (some ⟨blk, off, none⟩) n c, typeHandle P e] enc k blk off n := by
  intro W dk hH hsz i j hi hj
  subst hs
  have cc : ∀ x, x < dk.size → ∀ u v, (enc dk[x]!)[u]? = some v → W.cell? ⟨blk, off + x * ie.size + u, none⟩ = some v := fun x hx u v h => by
    have hu : u < ie.size := by rw [← hk dk[x]!]; exact (List.getElem?_eq_some_iff.mp h).1
    rw [(hH.cell hx hu).1]; simp [h]
  have := Go.Lib.run_swap_cells (P := P) gS e ie hie hagg blk off n c i j hi hj (enc dk[i]!) (enc dk[j]!) (hk _) (hk _) (h1 _) (h1 _) W (cc i (by omega)) (cc j (by omega))
    (fun u hu => (hH.cell (by omega) hu).2) (fun u hu => (hH.cell (by omega) hu).2)
  rw [hx, show (#[Value.int .i64 (i : Int), Value.int .i64 (j : Int)] ++ #[Value.slice (some ⟨blk, off, none⟩) n c, typeHandle P e]) = #[.int .i64 i, .int .i64 j, .slice (some ⟨blk, off, none⟩) n c, typeHandle P e] from rfl, this]
  rfl
end Go.Proofs.YtaecbmjmcpdgdaaGreat.Zs
namespace Go.Proofs.YtaecbmjmcpdgdaaGreat.Ab
open Go.RowKit
set_option linter.unusedVariables false
set_option linter.unusedSimpArgs false
variable {P : Program} {T : Tab} {N : Nat}
def ArgP (T : Tab) (w : World) (X : Nat → Prop) (v : Value) : SV → Prop
  | .rptr cs => ∃ b o, v = .pointer (some ⟨b, o, none⟩) ∧ ¬ X b ∧ b < w.heap.size ∧ ∀ (j : Nat) p, cs[j]? = some p → ∃ u, w.cell? ⟨b, o + j, none⟩ = some u ∧ RdR T w X p.1 u p.2
  | s => ArgR T w X v s
theorem callP (hT : TabOk P T) {f : FuncId} {fn : Func} {c : Code} (hf : P.funcs[f]? = some fn) (hb : fn.body = some c) (hN : fn.ntmps = N) {args : List SV} {vals : List Value} {w : World} {X : Nat → Prop} {ag : Bool} {cs : List CV}
    (hX : ∀ b, X b → b < w.heap.size) (hargs : args.length = vals.length ∧ ∀ (i : Nat) a v, args[i]? = some a → vals[i]? = some v → ArgP T w X v a) (hgl : GlR T w X) (hlen : args.length ≤ N)
    (h : OkC P T N c (fun e σ => (e = .normal ∨ e = .ret) ∧ (retPg T fn.results.toList (.val ag cs)).wp (fun _ => True) σ) (init args)) :
    Calls P f vals.toArray w fun e w' => ∃ v bk, e = .returned v ∧ Below w.heap.size w w' ∧ ResR T w' (fun b => X b ∨ ∃ j, bk j b) bk v (.val ag cs) := by
  have hvl : vals.length ≤ N := by rw [← hargs.1]; exact hlen
  refine calls_of_wp hf hb ?_
  let W : Base := { toWorld := w, x0 := X, x0lt := hX, lent := fun _ => False, lentx := fun _ h => h.elim, pin := none }
  let E : Env := { σ := init args, a := { tmps := vals.toArray ++ Array.replicate (fn.ntmps - vals.toArray.size) undef, defers := [] }, w := w, β := fun _ => 0, bk := fun _ _ => noB, x0 := X }
  have hEX : ∀ b, E.X b → X b := fun b hb => by
    rcases hb with hb | ⟨t, ⟨m, hm⟩, _⟩ | ⟨l, j, hl⟩
    · exact hb
    · cases hm
    · cases hl
  have hal : ∀ t, ¬ E.alive t := fun t ⟨m, hm⟩ => by cases hm
  have hcv : ∀ {v c l j}, ArgC T w X v c → RelCV T W E l j v c := fun {v c l j} hc => by
    cases c with
    | sl own e rows =>
      cases own with
      | true => exact hc.elim
      | false => exact RdR.move (hc : RdR T w X _ _ _) (Keeps.refl _ _) (fun b _ hb => hEX b hb)
    | i k n => exact hc
    | b x => exact hc
    | s x => exact hc
    | al q i n => exact hc.elim
    | dead => exact hc.elim
  have hrel : Rel T W N E := by
    refine ⟨Kept.refl W, rfl, rfl, ?_, fun t => ?_, fun t m j hm => (hal t ⟨m, hm⟩).elim, fun t ha => (hal t ha).elim, fun t _ ha => (hal t ha).elim, fun l j b hb => (by cases hb), fun l j l' j' b hb => (by cases hb), fun l j b t hb => (by cases hb), fun b hb => (by cases hb), hgl.move (Keeps.refl _ _) (fun b _ hb => hEX b hb)⟩
    · show (vals.toArray ++ Array.replicate (fn.ntmps - vals.toArray.size) undef).size = N
      rw [Array.size_append, Array.size_replicate, hN]
      simp; omega
    · show RelSV T W E (.slot t) _ (args.getD t .none)
      by_cases ht : t < args.length
      · have hv : t < vals.length := by rw [← hargs.1]; exact ht
        have hA := hargs.2 t args[t] vals[t] (List.getElem?_eq_getElem ht) (List.getElem?_eq_getElem hv)
        have e1 : args.getD t .none = args[t] := by simp [List.getD_eq_getElem?_getD, List.getElem?_eq_getElem ht]
        have e2 : E.a.tmps.getD t undef = vals[t] := by
          show (vals.toArray ++ _).getD t undef = _
          rw [Array.getD_eq_getD_getElem?, Array.getElem?_append_left (by simpa using hv)]
          simp [hv]
        rw [e1, e2]
        cases ha : args[t] with
        | val ag cs =>
          rw [ha] at hA
          cases ag with
          | true =>
            obtain ⟨us, g1, g2, g3⟩ := hA
            refine ⟨us.toArray, g1, by simp [g2], fun j c hc => ?_⟩
            have hj : j < us.length := by rw [← g2]; exact (List.getElem?_eq_some_iff.1 hc).1
            exact ⟨us[j], by simp [hj], hcv (g3 j c us[j] hc (List.getElem?_eq_getElem hj))⟩
          | false =>
            obtain ⟨c, g1, g2⟩ := hA
            exact ⟨c, g1, hcv g2⟩
        | rptr cs =>
          rw [ha] at hA
          obtain ⟨b, o, g1, g2, g3, g4⟩ := hA
          exact ⟨b, o, g1, fun hb => g2 (hEX b hb), g3, fun j p hp => by
            obtain ⟨u, u1, u2⟩ := g4 j p hp
            exact ⟨u, u1, u2.move (Keeps.refl _ _) (fun b _ hb => hEX b hb)⟩⟩
        | _ => rw [ha] at hA; exact hA.elim
      · have e1 : args.getD t .none = .none := by simp [List.getD_eq_getElem?_getD, List.getElem?_eq_none (Nat.le_of_not_lt ht)]
        rw [e1]
        trivial
  have := h.run W E hrel rfl
  refine wp_mono this fun e a w' hq => ?_
  obtain ⟨E', h', rfl, rfl, he, hr⟩ := hq
  have hbelow : Below w.heap.size w E'.w := ⟨h'.base.os, h'.base.tape, h'.base.output, h'.base.size, fun k hk => h'.base.block k hk (fun h => h)⟩
  have post : E'.a.defers = [] ∧ ∃ v, (results fn E'.a.tmps).run P E'.w = .ok v E'.w ∧ ∃ v' bk, Ending.returned v = .returned v' ∧ Below w.heap.size w E'.w ∧ ResR T E'.w (fun b => X b ∨ ∃ j, bk j b) bk v' (.val ag cs) := by
    refine ⟨h'.defers, ?_⟩
    unfold retPg at hr
    match hrs : fn.results.toList with
    | [] => rw [hrs] at hr; exact hr.elim
    | _ :: _ :: _ => rw [hrs] at hr; exact hr.elim
    | [r] =>
      rw [hrs] at hr
      simp only at hr
      obtain ⟨v, sv, g0, g1, g2, g3⟩ := rdRes_sound hT h' hr
      split at g3
      · rename_i ag2 cs2
        split at g3
        · rename_i hag
          subst hag
          obtain ⟨us, u1, u2, u3⟩ := g1.operand
          obtain ⟨E2, cs', r1, s1, c1, t1, _, w1⟩ := fins_sound h' u1 (cellsFree_of_free g2) g3
          have hcs : cs' = cs := w1.1
          subst hcs
          have hres : (results fn E'.a.tmps).run P E'.w = .ok v E'.w := by
            have hm1 : (fn.results.toList.mapM fun r => resVal r E'.a.tmps).run P E'.w = .ok [v] E'.w := by
              rw [hrs, List.mapM_cons]
              simp only [Sem.run_bind, g0, Result.andThen_ok, List.mapM_nil, Sem.run_pure]
            exact results_eq hm1
          have hX2 : ∀ b, (X b ∨ ∃ j, E2.bk (.slot N) j b) → E2.X b := fun b hb => by
            rcases hb with hb | ⟨j, hj⟩
            · left
              have : E2.x0 = X := r1.x0
              rw [this]; exact hb
            · exact .inr (.inr ⟨_, j, hj⟩)
          have hcell : ∀ (i : Nat) c u, cs'[i]? = some c → us[i]? = some u → ResC T E'.w (fun b => X b ∨ ∃ j, E2.bk (.slot N) j b) (E2.bk (.slot N)) i u c := by
            intro i c u hc hu
            have hrc := c1.2 i c u hc hu
            rw [Nat.zero_add] at hrc
            have hset := List.all_eq_true.1 t1 c (List.mem_of_getElem? hc)
            rw [← s1.w]
            cases c with
            | sl own e' rows =>
              cases own with
              | true => exact OwnF.move hrc (Keeps.refl _ _) (fun b _ hb => hX2 b hb) rfl (fun _ _ => rfl)
              | false => exact RdR.move (hrc : RdR T E2.w E2.X _ _ _) (Keeps.refl _ _) (fun b _ hb => hX2 b hb)
            | i k n => exact hrc
            | b x => exact hrc
            | s x => exact hrc
            | al q i n => cases hset
            | dead => cases hset
          refine ⟨v, hres, v, E2.bk (.slot N), rfl, hbelow, ?_⟩
          cases ag2 with
          | true => exact ⟨us, u2 rfl, c1.1, hcell⟩
          | false =>
            have hus := (u3 rfl).1
            subst hus
            match cs', c1.1 with
            | [c'], _ => exact ⟨c', rfl, hcell 0 c' v rfl rfl⟩
        · exact g3.elim
      · exact g3.elim
  rcases he with rfl | rfl
  · exact post
  · exact post
end Go.Proofs.YtaecbmjmcpdgdaaGreat.Ab
namespace Go.Proofs.YtaecbmjmcpdgdaaGreat.Ab
open Go.RowKit Go.Sort Zs
set_option linter.unusedVariables false
set_option linter.unusedSimpArgs false
variable {P : Program} {T : Tab} {N : Nat}
structure RowV (T : Tab) (w : World) (X : Nat → Prop) (cts : List CT) where
  us : List Value
  row : List D
  ul : us.length = cts.length
  rl : row.length = cts.length
  rd : ∀ (j : Nat) ct u d, cts[j]? = some ct → us[j]? = some u → row[j]? = some d → RdR T w X ct u d
variable {w w' : World} {X : Nat → Prop} {e : TypeId} {ty : Ty} {v : Value} {rows : List (List D)}
theorem RowV.ones (r : RowV T w X ty.cts) : ∀ u ∈ r.us, u.oneCell' = true := by
  intro u hu
  obtain ⟨j, hj⟩ := List.getElem?_of_mem hu
  have hl : j < ty.cts.length := by rw [← r.ul]; exact (List.getElem?_eq_some_iff.1 hj).1
  exact (r.rd j _ u _ (List.getElem?_eq_getElem hl) hj (List.getElem?_eq_getElem (by rw [r.rl]; exact hl))).one
theorem sub_cells {xs : List Value} {k n i j : Nat} (hx : xs.length = n * k) (hi : i < n) (hj : j < k) : ((xs.drop (i * k)).take k)[j]? = xs[i * k + j]? := by
  rw [List.getElem?_take, if_pos hj, List.getElem?_drop]
theorem Own.rowsA (h : Own T w X 0 e v rows) (hty : T e = some ty) (hne : 0 < rows.length) (hpos : 0 < ty.cts.length) :
    ∃ (g cap : Nat) (d : Array (RowV T w X ty.cts)), v = .slice (some ⟨g, 0, none⟩) rows.length cap ∧ g < w.heap.size ∧ v.ownBlock = some g ∧ rows.length ≤ maxLen ∧ d.size = rows.length ∧ d.toList.map RowV.row = rows ∧
      ∀ [Inhabited (RowV T w X ty.cts)], HoldsK RowV.us ty.cts.length w g 0 d := by
  obtain ⟨ty', xs, h1, h2, h3, h4⟩ := h
  obtain rfl : ty' = ty := Option.some.inj (h1.symm.trans hty)
  have hxl := h2.1
  rcases h2.2 with ⟨rfl, hn⟩ | ⟨g, cap, cur, rfl, e2, e3, e4, e5, e6, e7⟩
  · omega
  have hlt : ∀ i j, i < rows.length → j < ty'.cts.length → i * ty'.cts.length + j < xs.length := by
    intro i j hi hj
    have : i * ty'.cts.length + ty'.cts.length ≤ rows.length * ty'.cts.length := by rw [← Nat.succ_mul]; exact Nat.mul_le_mul_right _ hi
    omega
  let mk : Fin rows.length → RowV T w X ty'.cts := fun i =>
    { us := (xs.drop (i.1 * ty'.cts.length)).take ty'.cts.length, row := rows[i.1],
      ul := by
        rw [List.length_take, List.length_drop]
        have := hlt i.1 (ty'.cts.length - 1) i.2 (by omega)
        omega
      rl := h3 i.1 _ (List.getElem?_eq_getElem i.2)
      rd := by
        intro j ct u d a b c
        have hj : j < ty'.cts.length := (List.getElem?_eq_some_iff.1 a).1
        rw [sub_cells hxl i.2 hj] at b
        obtain ⟨u', hu, hr⟩ := h4 i.1 j ct d _ (List.getElem?_eq_getElem i.2) a c
        rw [b] at hu
        obtain rfl := Option.some.inj hu
        exact hr }
  refine ⟨g, cap, Array.ofFn mk, rfl, (Array.getElem?_eq_some_iff.1 e3).1, rfl, Nat.le_trans e4 e5, by simp, ?_, ?_⟩
  · apply List.ext_getElem
    · simp
    · intro i a b
      simp [mk]
  · intro inst j hj
    have hj' : j < rows.length * ty'.cts.length := by simpa using hj
    have hq : j / ty'.cts.length < rows.length := Nat.div_lt_of_lt_mul (by rwa [Nat.mul_comm])
    have hr : j % ty'.cts.length < ty'.cts.length := Nat.mod_lt _ hpos
    have he : j / ty'.cts.length * ty'.cts.length + j % ty'.cts.length = j := by rw [Nat.mul_comm]; exact Nat.div_add_mod ..
    have hjx : j < xs.length := by rw [hxl]; exact hj'
    have hc := h2.cells (g := g) rfl j xs[j] (List.getElem?_eq_getElem hjx)
    rw [Addr.add_mid] at hc
    have hflat : (flatK RowV.us ty'.cts.length (Array.ofFn mk))[j]! = xs[j] := by
      rw [get_flatK _ _ _ _ (by simpa using hj')]
      have e1 : (Array.ofFn mk)[j / ty'.cts.length]! = mk ⟨j / ty'.cts.length, hq⟩ := by
        rw [getElem!_pos _ _ (by simpa using hq)]; simp
      rw [e1]
      show ((xs.drop (j / ty'.cts.length * ty'.cts.length)).take ty'.cts.length)[j % ty'.cts.length]! = xs[j]
      have := sub_cells (xs := xs) hxl hq hr
      rw [he] at this
      rw [List.getElem!_eq_getElem?_getD, this, List.getElem?_eq_getElem hjx]; rfl
    refine ⟨by rw [show (flatK RowV.us ty'.cts.length (Array.ofFn mk))[j]! = xs[j] from hflat]; exact hc, ?_⟩
    unfold World.frozen?
    simp only [e3]
    simp
theorem Own.turned [Inhabited (RowV T w X ty.cts)] {g cap : Nat} {d d' : Array (RowV T w X ty.cts)} (h : Own T w X 0 e (.slice (some ⟨g, 0, none⟩) rows.length cap) rows) (hty : T e = some ty) (hX : X g) (hn : d'.size = rows.length)
    (hH : HoldsK RowV.us ty.cts.length w g 0 d) (hd : d.size = rows.length) (hs : Sw RowV.us ty.cts.length g 0 w d' w') : Own T w' X 0 e (.slice (some ⟨g, 0, none⟩) rows.length cap) (d'.toList.map RowV.row) := by
  obtain ⟨ty', xs, h1, h2, h3, h4⟩ := h
  obtain rfl : ty' = ty := Option.some.inj (h1.symm.trans hty)
  have hgl : g < w.heap.size := (h2.lt g rfl).2
  have hkeep : Keeps w w' X := ⟨hs.size, fun b hb hx => hs.other hb (fun he => hx (he ▸ hX))⟩
  have hHo := hs.holds hH (by omega) hgl
  rcases h2.2 with ⟨hbad, _⟩ | ⟨g', cap', cur, he, e2, e3, e4, e5, e6, e7⟩
  · cases hbad
  simp only [Value.slice.injEq, Option.some.injEq, Addr.mk.injEq, and_true, true_and] at he
  obtain ⟨rfl, rfl⟩ := he
  obtain ⟨m, os, hw'⟩ := hs
  have hcell : w'.heap[g]? = some (.cells (putCells id 0 (flatK RowV.us ty'.cts.length d') cur) e (0, 0)) := by
    rw [hw']
    show (mapBlock (Zs.setD (Sort.grow w os) m) g _).heap[g]? = _
    unfold mapBlock
    simp only [Array.getElem?_modify]
    have : (Zs.setD (Sort.grow w os) m).heap[g]? = w.heap[g]? := heap_grow_old w os hgl
    rw [if_pos trivial, this, e3]; rfl
  have hfl : (flatK RowV.us ty'.cts.length d').size = rows.length * ty'.cts.length := by simp [hn]
  have hcs : (putCells id 0 (flatK RowV.us ty'.cts.length d') cur).size = cap * ty'.cts.length := by simp [putCells, e6]
  have hle : rows.length * ty'.cts.length ≤ cap * ty'.cts.length := Nat.mul_le_mul_right _ e4
  refine ⟨ty', ((putCells id 0 (flatK RowV.us ty'.cts.length d') cur).toList.take (rows.length * ty'.cts.length)), hty, ⟨?_, .inr ⟨g, cap, _, by simp [hn], Nat.zero_le _, hcell, ?_, e5, hcs, ?_⟩⟩, ?_, ?_⟩
  · have l1 : (putCells id 0 (flatK RowV.us ty'.cts.length d') cur).toList.length = cap * ty'.cts.length := by rw [Array.length_toList]; exact hcs
    have l2 : d'.toList.length = rows.length := by rw [Array.length_toList]; exact hn
    rw [List.length_take, l1, List.length_map, l2]; exact Nat.min_eq_left hle
  · have l2 : d'.toList.length = rows.length := by rw [Array.length_toList]; exact hn
    rw [List.length_map, l2]; exact e4
  · have l2 : d'.toList.length = rows.length := by rw [Array.length_toList]; exact hn
    rw [List.length_map, l2]
  · intro k row hk
    rw [List.getElem?_map] at hk
    cases hg : d'.toList[k]? with
    | none => rw [hg] at hk; cases hk
    | some r =>
      rw [hg] at hk
      obtain rfl := Option.some.inj hk
      exact r.rl
  · intro k j ct dd row hk a b
    rw [List.getElem?_map] at hk
    cases hg : d'.toList[k]? with
    | none => rw [hg] at hk; cases hk
    | some r =>
      rw [hg] at hk
      obtain rfl := Option.some.inj hk
      have hkl : k < d'.size := by have := (List.getElem?_eq_some_iff.1 hg).1; simpa using this
      have hjl : j < ty'.cts.length := (List.getElem?_eq_some_iff.1 a).1
      have hu : r.us[j]? = some r.us[j]! := by
        have : j < r.us.length := by rw [r.ul]; exact hjl
        rw [List.getElem?_eq_getElem this, getElem!_pos r.us j this]
      refine ⟨r.us[j]!, ?_, (r.rd j ct _ dd a hu b).move hkeep (fun _ _ h => h)⟩
      have hlt : k * ty'.cts.length + j < d'.size * ty'.cts.length := by
        have : k * ty'.cts.length + ty'.cts.length ≤ d'.size * ty'.cts.length := by rw [← Nat.succ_mul]; exact Nat.mul_le_mul_right _ hkl
        omega
      have hf := get_flatK RowV.us ty'.cts.length d' _ hlt
      have q1 : (k * ty'.cts.length + j) / ty'.cts.length = k := (blk_iff ty'.cts.length k _ (by omega)).1 ⟨by omega, by omega⟩
      have q2 : (k * ty'.cts.length + j) % ty'.cts.length = j := by rw [Nat.mod_eq_sub_div_mul, q1]; omega
      rw [q1, q2] at hf
      have hdk : d'[k]! = r := by
        rw [getElem!_pos d' k hkl]
        have := List.getElem?_eq_some_iff.1 hg
        simpa using this.2
      rw [hdk] at hf
      rw [List.getElem?_take, if_pos (by rw [← hn]; exact hlt), Array.getElem?_toList, putCells]
      rw [Array.getElem?_mapIdx]
      have hcl : k * ty'.cts.length + j < cur.size := by rw [e6]; rw [hn] at hlt; omega
      rw [Array.getElem?_eq_getElem hcl]
      simp only [Option.map_some]
      rw [if_pos ⟨Nat.zero_le _, by rw [Nat.zero_add, hfl, ← hn]; exact hlt⟩, Nat.sub_zero, hf]; rfl
def Env.turned (E : Env) (S : List Nat) (t : Nat) (e : TypeId) (a' : Act) (w' : World) (rows' : List (List D)) : Env :=
  { E with a := a', w := w', σ := fun l => match l with
    | .slot s => if S.contains s then ((E.σ l).1 + 1, .none) else E.σ l
    | .cell t' j => if t' = t ∧ j = 0 then ((E.σ l).1 + 1, .val false [.sl true e rows']) else E.σ l
    | .gen _ => E.σ l }
theorem Rel.turned {W : Base} {E : Env} {S : List Nat} {t : Nat} {a' : Act} {rows' : List (List D)} {g : Nat} (h : Rel T W N E) (hg : (E.σ (.gen t)).2 = .num 1) (hc : (E.σ (.cell t 0)).2 = .val false [.sl true e rows]) (hd : dpT T e = false)
    (hcell : E.w.cell? ⟨E.β t, 0, none⟩ = some v) (hv : v.ownBlock = some g) (hbk : ∀ b, E.bk (.cell t 0) 0 b ↔ v.ownBlock = some b)
    (hown : Own T w' E.X 0 e v rows') (hsz : E.w.heap.size ≤ w'.heap.size) (hoth : ∀ b, b < E.w.heap.size → b ≠ g → w'.heap[b]? = E.w.heap[b]?) (hos : w'.os = E.w.os) (htp : w'.tape = E.w.tape) (hou : w'.output = E.w.output)
    (hdef : a'.defers = []) (hN : a'.tmps.size = N) (hsl : ∀ s, S.contains s = false → a'.tmps.getD s undef = E.a.tmps.getD s undef) : Rel T W N (E.turned S t e a' w' rows') := by
  have hbg : E.bk (.cell t 0) 0 g := (hbk g).2 hv
  have hXg : E.X g := .inr (.inr ⟨_, _, hbg⟩)
  have hmine := (h.owlo _ _ _ hbg).1
  have hne : ∀ l j b, E.bk l j b → (l ≠ .cell t 0 ∨ j ≠ 0) → b ≠ g := fun l j b hb hl he => by
    subst he
    obtain ⟨q1, q2⟩ := h.owinj _ _ _ _ _ hb hbg
    rcases hl with hl | hl
    · exact hl q1
    · exact hl q2
  have hgen : ∀ s, (E.turned S t e a' w' rows').σ (.gen s) = E.σ (.gen s) := fun s => rfl
  have hal : ∀ s, (E.turned S t e a' w' rows').alive s ↔ E.alive s := fun s => Iff.rfl
  have hX : ∀ b, (E.turned S t e a' w' rows').X b ↔ E.X b := fun b => Iff.rfl
  have hbx : ∀ s, E.alive s → E.β s ≠ g := fun s hs he => h.owbx _ _ _ s hbg hs he.symm
  have hcl : ∀ s m j, (E.σ (.gen s)).2 = .num m → w'.cell? ⟨E.β s, j, none⟩ = E.w.cell? ⟨E.β s, j, none⟩ := fun s m j hm => World.cell?_of_block (w := E.w) (hoth _ (h.bxlo s ⟨m, hm⟩).2 (hbx s ⟨m, hm⟩))
  have hfz : ∀ s m j, (E.σ (.gen s)).2 = .num m → w'.frozen? ⟨E.β s, j, none⟩ = E.w.frozen? ⟨E.β s, j, none⟩ := fun s m j hm => by
    have := hoth _ (h.bxlo s ⟨m, hm⟩).2 (hbx s ⟨m, hm⟩)
    simp only [World.frozen?, this]
  have st : Step E (E.turned S t e a' w' rows') := by
    refine ⟨fun q => ?_, fun s _ => rfl, ⟨hsz, fun b hb hx => hoth b hb fun he => hx (he ▸ hXg)⟩, fun b _ hx => hx⟩
    cases q with
    | slot s =>
      by_cases hs : S.contains s = true
      · have e1 : (E.turned S t e a' w' rows').σ (.slot s) = ((E.σ (.slot s)).1 + 1, .none) := if_pos hs
        rw [e1]
        exact ⟨Nat.le_succ _, fun hh => absurd hh (by simp)⟩
      · have e1 : (E.turned S t e a' w' rows').σ (.slot s) = E.σ (.slot s) := if_neg hs
        rw [e1]
        refine ⟨Nat.le_refl _, fun _ i => ?_⟩
        show (a'.tmps.getD s undef).cells[i]? = (E.a.tmps.getD s undef).cells[i]?
        rw [hsl s (by simpa using hs)]
    | gen s => exact ⟨Nat.le_refl _, fun _ i => rfl⟩
    | cell s j =>
      by_cases hs : s = t ∧ j = 0
      · have e1 : (E.turned S t e a' w' rows').σ (.cell s j) = ((E.σ (.cell s j)).1 + 1, .val false [.sl true e rows']) := if_pos hs
        rw [e1]
        exact ⟨Nat.le_succ _, fun hh => absurd hh (by simp)⟩
      · have e1 : (E.turned S t e a' w' rows').σ (.cell s j) = E.σ (.cell s j) := if_neg hs
        rw [e1]
        refine ⟨Nat.le_refl _, fun _ i => ?_⟩
        show Env.cellAt _ s j (E.σ (.gen s)).2 = Env.cellAt E s j (E.σ (.gen s)).2
        exact Env.cellAt_congr (fun m => Iff.rfl) fun m hm => hcl s m j hm
  refine h.next st (h.base.next hos htp hou hsz fun k hk hm => hoth k hk fun he => hm (he ▸ hmine)) hdef hN (fun s => ?_) (fun s m j hm hj => ?_) (fun s hs => ?_) h.bxinj (fun l j b hb => ?_) h.owinj h.owbx
  · by_cases hs : S.contains s = true
    · right
      have e1 : (E.turned S t e a' w' rows').σ (.slot s) = ((E.σ (.slot s)).1 + 1, .none) := if_pos hs
      rw [e1]
      trivial
    · left
      have e1 : (E.turned S t e a' w' rows').σ (.slot s) = E.σ (.slot s) := if_neg hs
      exact ⟨by rw [e1], hsl s (by simpa using hs), fun j => ⟨rfl, fun b hb => hoth b (h.owlo _ _ _ hb).2 (hne _ _ _ hb (.inl (by simp)))⟩⟩
  · by_cases hs : s = t ∧ j = 0
    · right
      obtain ⟨rfl, rfl⟩ := hs
      have e1 : (E.turned S s e a' w' rows').σ (.cell s 0) = ((E.σ (.cell s 0)).1 + 1, .val false [.sl true e rows']) := if_pos ⟨rfl, rfl⟩
      obtain ⟨c, v0, q1, q2, q3, q4⟩ := h.cell s m 0 hm hj
      rw [hcell] at q2
      obtain rfl := Option.some.inj q2
      exact ⟨.sl true e rows', v, by rw [e1], (hcl s m 0 hm).trans hcell, (hfz s m 0 hm).trans q3, show OwnF T w' E.X (E.bk (.cell s 0) 0) e v rows' from OwnF.of_own hd hown hbk⟩
    · left
      have e1 : (E.turned S t e a' w' rows').σ (.cell s j) = E.σ (.cell s j) := if_neg hs
      refine ⟨hm, by rw [e1], hcl s m j hm, hfz s m j hm, rfl, fun b hb => hoth b (h.owlo _ _ _ hb).2 (hne _ _ _ hb ?_)⟩
      left
      intro hh
      simp only [Loc.cell.injEq] at hh
      exact hs hh
  · exact ⟨(h.bxlo s hs).1, Nat.lt_of_lt_of_le (h.bxlo s hs).2 hsz⟩
  · exact ⟨(h.owlo _ _ _ hb).1, Nat.lt_of_lt_of_le (h.owlo _ _ _ hb).2 hsz⟩
end Go.Proofs.YtaecbmjmcpdgdaaGreat.Ab
namespace Go.Proofs.YtaecbmjmcpdgdaaGreat.Ab
open Go.RowKit Go.Sort Zs
set_option linter.unusedVariables false
set_option linter.unusedSimpArgs false
variable {P : Program} {T : Tab} {N : Nat}
def AlAt (σ : St) (t b : Nat) : Prop := ∃ m, (σ (.gen b)).2 = .num m ∧ 0 < m ∧ (σ (.slot t)).2 = .val false [.al (.cell b 0) 0 (σ (.cell b 0)).1]
def updA (σ : St) (t b : Nat) : St := fun l => match l with
  | .slot s => if s = t then (0, .val false [.al (.cell b 0) 0 0]) else σ (.slot s)
  | .cell s j => σ (.cell s j)
  | .gen s => σ (.gen s)
theorem updA_ne (σ : St) (t b : Nat) {l : Loc} (h : l ≠ .slot t) : updA σ t b l = σ l := by
  cases l with
  | slot s => exact if_neg fun e => h (by rw [e])
  | cell s j => rfl
  | gen s => rfl
theorem updA_eq (σ : St) (t b : Nat) : updA σ t b (.slot t) = (0, .val false [.al (.cell b 0) 0 0]) := if_pos rfl
theorem Rel.alias {W : Base} {E : Env} {ts bs : List Nat} {t b : Nat} (h : Rel T W N E) (hb : bs.contains b = true) (ht : ts.contains t = false) (ha : AlAt E.σ t b) : Rel T W N { E.keep ts bs with σ := updA (Ab.keep ts bs E.σ) t b } := by
  obtain ⟨m, h1, h2, h3⟩ := ha
  have hk := h.keep (ts := ts) (bs := bs)
  let E' : Env := { E.keep ts bs with σ := updA (Ab.keep ts bs E.σ) t b }
  have hgen : ∀ s, E'.σ (.gen s) = (E.keep ts bs).σ (.gen s) := fun s => updA_ne (Ab.keep ts bs E.σ) t b (l := .gen s) (by simp)
  have hal : ∀ s, E'.alive s ↔ (E.keep ts bs).alive s := fun s => by unfold Env.alive; rw [hgen]
  have hX : ∀ q, E'.X q ↔ (E.keep ts bs).X q := fun q => by
    unfold Env.X
    constructor
    · rintro (h | ⟨s, hs, he⟩ | h)
      · exact .inl h
      · exact .inr (.inl ⟨s, (hal s).1 hs, he⟩)
      · exact .inr (.inr h)
    · rintro (h | ⟨s, hs, he⟩ | h)
      · exact .inl h
      · exact .inr (.inl ⟨s, (hal s).2 hs, he⟩)
      · exact .inr (.inr h)
  have e0 : (E.keep ts bs).σ (.slot t) = (0, .none) := by
    show Ab.keep ts bs E.σ (.slot t) = _
    unfold Ab.keep
    simp only [ht, Bool.false_eq_true, if_false]
  have st : Step (E.keep ts bs) E' := by
    refine ⟨fun q => ?_, fun s _ => rfl, Keeps.refl _ _, fun b _ hx => (hX b).1 hx⟩
    by_cases hq : q = .slot t
    · subst hq
      rw [e0]
      show (0 : Nat) ≤ (updA (Ab.keep ts bs E.σ) t b (.slot t)).1 ∧ _
      refine ⟨Nat.zero_le _, fun _ i => rfl⟩
    · have : E'.σ q = (E.keep ts bs).σ q := updA_ne (Ab.keep ts bs E.σ) t b (l := q) hq
      rw [this]
      refine ⟨Nat.le_refl _, fun _ i => ?_⟩
      cases q with
      | slot s => rfl
      | cell s j =>
        show Env.cellAt E' s j (E'.σ (.gen s)).2 = Env.cellAt (E.keep ts bs) s j ((E.keep ts bs).σ (.gen s)).2
        rw [hgen]; rfl
      | gen s => rfl
  have hbg : (E.keep ts bs).σ (.gen b) = E.σ (.gen b) := by
    show Ab.keep ts bs E.σ (.gen b) = _
    unfold Ab.keep
    simp only [hb, if_true]
  refine hk.next st hk.base hk.defers hk.size (fun s => ?_) (fun s m j hm hj => ?_) (fun s hs => hk.bxlo s ((hal s).1 hs)) (fun s s' hs hs' => hk.bxinj s s' ((hal s).1 hs) ((hal s').1 hs')) hk.owlo hk.owinj (fun l j b t hb hs => hk.owbx l j b t hb ((hal t).1 hs))
  · by_cases hs : s = t
    · subst hs
      right
      have e1 : (E'.σ (.slot s)).2 = .val false [.al (.cell b 0) 0 0] := congrArg Prod.snd (updA_eq (Ab.keep ts bs E.σ) s b)
      show RelSV T W E' (.slot s) (E.a.tmps.getD s undef) (E'.σ (.slot s)).2
      rw [e1]
      refine ⟨_, rfl, Nat.zero_le _, fun _ => ?_⟩
      have hs := h.slot s
      rw [h3] at hs
      obtain ⟨c, hc, hs⟩ := hs
      obtain rfl : CV.al (.cell b 0) 0 (E.σ (.cell b 0)).1 = c := by injection hc with hc _
      have hs := hs.2 rfl
      rw [Env.at_cell h1 h2] at hs
      have h1' : (E'.σ (.gen b)).2 = .num m := by rw [hgen, hbg]; exact h1
      rw [Env.at_cell h1' h2]
      exact hs
    · left
      have : E'.σ (.slot s) = (E.keep ts bs).σ (.slot s) := updA_ne (Ab.keep ts bs E.σ) t b (l := .slot s) (by simp [hs])
      exact ⟨by rw [this], rfl, fun j => ⟨rfl, fun _ _ => rfl⟩⟩
  · left
    have : E'.σ (.cell s j) = (E.keep ts bs).σ (.cell s j) := updA_ne (Ab.keep ts bs E.σ) t b (l := .cell s j) (by simp)
    rw [hgen] at hm
    exact ⟨hm, by rw [this], rfl, rfl, rfl, fun _ _ => rfl⟩
theorem OkC.loopA {c : Code} {Q : Exit → St → Prop} {σ : St} (ts bs : List Nat) (t b : Nat) (J : Nat → Snap → Prop) (hb : bs.contains b = true) (ht : ts.contains t = false) (h0 : Alive bs σ ∧ AlAt σ t b ∧ ∃ n, J n (snap ts bs σ))
    (hr : ∀ n s, J n s → OkC P T N c (thenA (fun σ' => Alive bs σ' ∧ AlAt σ' t b ∧ ∃ m, m < n ∧ J m (snap ts bs σ')) Q) (updA (ofSnap ts bs s) t b)) : OkC P T N (.loop c) Q σ := by
  refine ⟨fun W E h he => ?_⟩
  let I : Nat → St → Prop := fun n σ => ∃ s, σ = updA (ofSnap ts bs s) t b ∧ J n s
  have hround : ∀ n σ, I n σ → OkC P T N c (thenA (fun σ' => Alive bs σ' ∧ AlAt σ' t b ∧ ∃ m, m < n ∧ J m (snap ts bs σ')) Q) σ := by
    rintro n σ ⟨s, rfl, hI⟩
    exact hr n s hI
  let G : Nat → Act → World → Prop := fun n a w => ∃ E', Rel T W N E' ∧ E'.a = a ∧ E'.w = w ∧ I n E'.σ
  have gk : ∀ {E1 : Env} {n : Nat}, Rel T W N E1 → Alive bs E1.σ → AlAt E1.σ t b → J n (snap ts bs E1.σ) → G n E1.a E1.w := fun {E1 n} h1 ha hal hj =>
    ⟨_, h1.alias hb ht hal, rfl, rfl, snap ts bs E1.σ, by show updA (Ab.keep ts bs E1.σ) t b = _; rw [keep_eq ha], hj⟩
  have least : ∀ a w, (∃ n, G n a w) → ∃ n, G n a w ∧ ∀ m, m < n → ¬ G m a w := by
    intro a w ⟨n, hn⟩
    induction n using Nat.strongRecOn with
    | _ n ih =>
      by_cases hx : ∃ m, m < n ∧ G m a w
      · obtain ⟨m, hm', hg⟩ := hx; exact ih m hm' hg
      · exact ⟨n, hn, fun m hm' hg => hx ⟨m, hm', hg⟩⟩
  let M : Act → World → Nat := fun a w => open Classical in if h : ∃ n, G n a w then (least a w h).choose else 0
  have hM : ∀ a w n, G n a w → G (M a w) a w ∧ M a w ≤ n := by
    intro a w n hg
    have hex : ∃ n, G n a w := ⟨n, hg⟩
    have hs := (least a w hex).choose_spec
    have e : M a w = (least a w hex).choose := by simp only [M]; rw [dif_pos hex]
    rw [e]
    exact ⟨hs.1, Nat.le_of_not_lt fun hlt => hs.2 n hlt hg⟩
  have h00 : ∃ n, G n E.a E.w := by
    subst he
    obtain ⟨ha, hal, n, hn⟩ := h0
    exact ⟨n, gk h ha hal hn⟩
  obtain ⟨n0, h0⟩ := h00
  refine wp_loop (fun a w => ∃ n, G n a w) M ⟨n0, h0⟩ fun a w ⟨n, hg⟩ => ?_
  obtain ⟨⟨E', h', rfl, rfl, hI⟩, _⟩ := hM a w n hg
  refine wp_mono ((hround _ E'.σ hI).run W E' h' rfl) fun e a' w' hq => ?_
  obtain ⟨E2, h2, rfl, rfl, hq⟩ := hq
  cases e with
  | normal =>
    obtain ⟨ha, hal, m, hlt, hm⟩ := hq
    have hg2 : G m E2.a E2.w := gk h2 ha hal hm
    refine ⟨⟨_, hg2⟩, ?_⟩
    have := (hM _ _ _ hg2).2
    omega
  | exit id => exact ⟨E2, h2, rfl, rfl, hq⟩
  | goto l => exact ⟨E2, h2, rfl, rfl, hq⟩
  | ret => exact ⟨E2, h2, rfl, rfl, hq⟩
  | panic ch => exact ⟨E2, h2, rfl, rfl, hq⟩
  | outgrown => exact ⟨E2, h2, rfl, rfl, hq⟩
def Env.grew (E : Env) (S : List Nat) (a' : Act) (w' : World) : Env :=
  { E with a := a', w := w', σ := fun l => match l with
    | .slot s => if S.contains s then ((E.σ l).1 + 1, .none) else E.σ l
    | .cell _ _ => E.σ l
    | .gen _ => E.σ l }
theorem Rel.grew {W : Base} {E : Env} {S : List Nat} {a' : Act} {w' : World} (h : Rel T W N E) (hsz : E.w.heap.size ≤ w'.heap.size) (hoth : ∀ b, b < E.w.heap.size → w'.heap[b]? = E.w.heap[b]?) (hos : w'.os = E.w.os) (htp : w'.tape = E.w.tape) (hou : w'.output = E.w.output)
    (hdef : a'.defers = []) (hN : a'.tmps.size = N) (hsl : ∀ s, S.contains s = false → a'.tmps.getD s undef = E.a.tmps.getD s undef) : Rel T W N (E.grew S a' w') := by
  have hgen : ∀ s, (E.grew S a' w').σ (.gen s) = E.σ (.gen s) := fun s => rfl
  have hcl : ∀ s m j, (E.σ (.gen s)).2 = .num m → w'.cell? ⟨E.β s, j, none⟩ = E.w.cell? ⟨E.β s, j, none⟩ := fun s m j hm => World.cell?_of_block (w := E.w) (hoth _ (h.bxlo s ⟨m, hm⟩).2)
  have hfz : ∀ s m j, (E.σ (.gen s)).2 = .num m → w'.frozen? ⟨E.β s, j, none⟩ = E.w.frozen? ⟨E.β s, j, none⟩ := fun s m j hm => by
    have := hoth _ (h.bxlo s ⟨m, hm⟩).2
    simp only [World.frozen?, this]
  have st : Step E (E.grew S a' w') := by
    refine ⟨fun q => ?_, fun s _ => rfl, ⟨hsz, fun b hb hx => hoth b hb⟩, fun b _ hx => hx⟩
    cases q with
    | slot s =>
      by_cases hs : S.contains s = true
      · have e1 : (E.grew S a' w').σ (.slot s) = ((E.σ (.slot s)).1 + 1, .none) := if_pos hs
        rw [e1]
        exact ⟨Nat.le_succ _, fun hh => absurd hh (by simp)⟩
      · have e1 : (E.grew S a' w').σ (.slot s) = E.σ (.slot s) := if_neg hs
        rw [e1]
        refine ⟨Nat.le_refl _, fun _ i => ?_⟩
        show (a'.tmps.getD s undef).cells[i]? = (E.a.tmps.getD s undef).cells[i]?
        rw [hsl s (by simpa using hs)]
    | gen s => exact ⟨Nat.le_refl _, fun _ i => rfl⟩
    | cell s j =>
      refine ⟨Nat.le_refl _, fun _ i => ?_⟩
      show Env.cellAt _ s j (E.σ (.gen s)).2 = Env.cellAt E s j (E.σ (.gen s)).2
      exact Env.cellAt_congr (fun m => Iff.rfl) fun m hm => hcl s m j hm
  refine h.next st (h.base.next hos htp hou hsz fun k hk hm => hoth k hk) hdef hN (fun s => ?_) (fun s m j hm hj => ?_) (fun s hs => ⟨(h.bxlo s hs).1, Nat.lt_of_lt_of_le (h.bxlo s hs).2 hsz⟩) h.bxinj (fun l j b hb => ⟨(h.owlo _ _ _ hb).1, Nat.lt_of_lt_of_le (h.owlo _ _ _ hb).2 hsz⟩) h.owinj h.owbx
  · by_cases hs : S.contains s = true
    · right
      have e1 : (E.grew S a' w').σ (.slot s) = ((E.σ (.slot s)).1 + 1, .none) := if_pos hs
      rw [e1]
      trivial
    · left
      have e1 : (E.grew S a' w').σ (.slot s) = E.σ (.slot s) := if_neg hs
      exact ⟨by rw [e1], hsl s (by simpa using hs), fun j => ⟨rfl, fun b hb => hoth b (h.owlo _ _ _ hb).2⟩⟩
  · left
    exact ⟨hm, rfl, hcl s m j hm, hfz s m j hm, rfl, fun b hb => hoth b (h.owlo _ _ _ hb).2⟩
end Go.Proofs.YtaecbmjmcpdgdaaGreat.Ab
