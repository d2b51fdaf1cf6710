/- Small facts for draws of texts. No program in sight. The walk of the function that makes a cursor, with the number that it lays. The function that makes a cursor, as a description; drawn tapes as a description. -/
import Derived.Test.YtppgalpldaibhaaGreatDoorDPB
import Derived.Test.YtppgalpldaibhaaGreatDoorDFa
import Derived.IntWalk
import Derived.Test.YtppgalpldaibhaaGreatDoorDDb
import Derived.Test.YtppgalpldaibhaaGreatDoorDTa
namespace Go.Proofs.YtppgalpldaibhaaGreatDoor.Ab
open Go.RowKit
set_option linter.unusedVariables false
def nOf (a:List SV):Int:=match a with
  | [_,.val _ [.i _ n]]=>n
  | _=>0
theorem tm_in {a n:Int} (ha:0≤a) (hn:1≤n):0≤a.tmod n∧a.tmod n < n:=by
  rw [Int.tmod_eq_emod_of_nonneg ha]
  exact ⟨Int.emod_nonneg _ (by omega),Int.emod_lt_of_pos _ (by omega)⟩
theorem wfI {x:Int} (h:0≤x∧x≤1048577):inK .i64 x:=by
  have h1:IntKind.i64.min = -9223372036854775808:=by decide
  have h2:IntKind.i64.max=9223372036854775807:=by decide
  rw [inK,h1,h2]
  omega
theorem tmK {a n:Int} (ha:0≤a) (hn:1≤n∧n≤1048577):IntKind.i64.min≤a.tmod n∧a.tmod n≤IntKind.i64.max:=by
  have h:=tm_in ha hn.1
  exact wfI ⟨h.1,by omega⟩
theorem big4 {r1 r2 r3 r4:List (List D)} {i1 i2 i3 i4 h1 h2 h3 h4:Int}:0≤IntKind.i64.wrap (IntKind.i64.wrap (IntKind.i64.wrap (IntKind.i64.wrap (byteR r1 i1 h1 * 16777216)+IntKind.i64.wrap (byteR r2 i2 h2 * 65536))+IntKind.i64.wrap (byteR r3 i3 h3 * 256))+byteR r4 i4 h4):=by
  have a1:=byteR_in r1 i1 h1
  have a2:=byteR_in r2 i2 h2
  have a3:=byteR_in r3 i3 h3
  have a4:=byteR_in r4 i4 h4
  generalize byteR r1 i1 h1=x at *
  generalize byteR r2 i2 h2=y at *
  generalize byteR r3 i3 h3=z at *
  generalize byteR r4 i4 h4=w at *
  rw [wrap_i64_in (n:=x * 16777216) (by omega) (by omega),wrap_i64_in (n:=y * 65536) (by omega) (by omega),wrap_i64_in (n:=x * 16777216+y * 65536) (by omega) (by omega),wrap_i64_in (n:=z * 256) (by omega) (by omega),wrap_i64_in (n:=x * 16777216+y * 65536+z * 256) (by omega) (by omega),wrap_i64_in (by omega) (by omega)]
  omega
theorem cur0 {rows:List (List D)} (h:rows.length≤1048576):CurOk rows 0:=⟨by omega,by omega,h⟩
theorem ex_le {s:ByteArray} {a b:Nat} (hs:s.size≤2000):(s.extract a b).size≤2000:=by
  rw [ByteArray.size_extract]
  omega
theorem sum2 {x p:ByteArray} (hx:x.size≤2000) (hp:p.size≤20):x.size+p.size≤maxLen:=by simp only [maxLen];omega
theorem sum3 {x p y:ByteArray} (hx:x.size≤2000) (hp:p.size≤20) (hy:y.size≤2000):(x++p).size+y.size≤maxLen:=by rw [ByteArray.size_append];simp only [maxLen];omega
theorem cat3 {x p y:ByteArray} (hx:x.size≤2000) (hp:p.size≤20) (hy:y.size≤2000):(x++p++y).size≤4020:=by rw [ByteArray.size_append,ByteArray.size_append];omega
theorem le2 {x:ByteArray} (hx:x.size≤2000):x.size≤4020:=by omega
theorem wfTL {T:Tab} {e:TypeId} {te:Ty} {s:ByteArray} {l:List (List D)} (hs:s.size≤1048576) (he:T e=some te) (hc:te.cts=[.s]) (hl:l.length≤1048576) (h:∀ r ∈ l, ∃ t,r=[.s t]∧t.size≤20):∀ a ∈ ([.val false [.s s],argS e l]:List SV),WfSV T a:=by
  intro a ha
  simp only [List.mem_cons,List.not_mem_nil,or_false] at ha
  rcases ha with rfl|rfl
  · intro c hc
    obtain rfl:=List.mem_singleton.1 hc
    exact (show s.size≤maxLen from Nat.le_trans hs (by decide))
  · intro c hc'
    obtain rfl:=List.mem_singleton.1 hc'
    refine .sl e te l he (by simp only [maxLen];omega) (fun j row hr=>?_) (fun j i ct d row hr hct hd=>?_)
    · obtain ⟨n,rfl,_⟩:=h row (List.mem_of_getElem? hr)
      rw [hc];rfl
    · obtain ⟨n,rfl,hn⟩:=h row (List.mem_of_getElem? hr)
      rw [hc] at hct
      match i with
      | 0=>cases hct;cases hd;exact .str _ (Nat.le_trans hn (by decide))
      | i+1=>simp at hct
end Go.Proofs.YtppgalpldaibhaaGreatDoor.Ab
namespace Go.Proofs.YtppgalpldaibhaaGreatDoor
open Go.ChangeShapes Go.WideShapes Go.ChangeAt Go.RowKit
set_option linter.unusedVariables false
def IsBytes (w:World) (B:Nat) (A:Option Addr) (n:Nat) (l:List UInt8):Prop :=
  l.length=n∧(0 < n→∃ ad:Addr,A=some ad∧ad.spot=none∧ad.block < B∧∀ k (h:k < l.length),w.cell? (ad.add k)=some (.int .u8 (l[k].toNat:Int)))
theorem andMask (a:Int):0≤bits .and .i64 a 1073741823∧bits .and .i64 a 1073741823≤1073741823:=by
  have h:(BitVec.ofInt 64 a &&& BitVec.ofInt 64 1073741823).toNat≤1073741823:=by
    rw [BitVec.toNat_and]
    exact Nat.le_trans Nat.and_le_right (by decide)
  show 0≤IntKind.i64.wrap ((BitVec.ofInt 64 a &&& BitVec.ofInt 64 1073741823).toNat:Int)∧IntKind.i64.wrap ((BitVec.ofInt 64 a &&& BitVec.ofInt 64 1073741823).toNat:Int)≤1073741823
  rw [wrap_i64_in (by omega) (by omega)]
  omega
def hStep (x:Int) (b:UInt8):Int:=bits .and .i64 (x * 131+(b.toNat:Int)+7) 1073741823
def hTo (l:List UInt8) (k:Nat):Int:=(l.take k).foldl hStep (26583+(l.length:Int))
theorem hTo_next {l:List UInt8} {k:Nat} (h:k < l.length):hTo l (k+1)=hStep (hTo l k) l[k]:=by
  unfold hTo
  rw [List.take_add_one,List.getElem?_eq_getElem h,List.foldl_append]
  rfl
theorem hTo_in (l:List UInt8) (hl:l.length≤1048576):∀ k,k≤l.length→0≤hTo l k∧hTo l k≤1100000000
  | 0,_=>by
    show 0≤(26583+(l.length:Int))∧(26583+(l.length:Int))≤1100000000
    omega
  | k+1,hk=>by
    rw [hTo_next (by omega)]
    have:=andMask (hTo l k * 131+(l[k].toNat:Int)+7)
    unfold hStep
    omega
def hOf (l:List UInt8):Int:=hTo l 4000
theorem hTo_end {l:List UInt8} {k:Nat} (h4:k≤4000) (hk:k≤l.length) (h:k=l.length∨¬ (k:Int) < 4000):hTo l k=hOf l:=by
  unfold hOf
  rcases h with h|h
  · unfold hTo
    rw [List.take_of_length_le (show l.length≤k by omega),List.take_of_length_le (show l.length≤4000 by omega)]
  · rw [show k=4000 by omega]
set_option maxRecDepth 100000 in
theorem new_exact (A:Option Addr) (n c:Nat) (l:List UInt8) (w:World) (hn:n≤1048576) (hb:IsBytes w w.heap.size A n l) :
    Calls Tryz.prog 72 #[.slice A n c] w fun e w' => e=.returned (.pointer (some ⟨w.heap.size,0,none⟩))∧w' = w.alloc (.cells #[.slice A n c,.int .i64 0,.int .i64 (hOf l)] 155):=by
  obtain ⟨hl,hc⟩:=hb
  have HIN:=Lib.hid (hTo_in l (by omega))
  have HEND:=Lib.hid (fun k a b d=>@hTo_end l k a b d)
  have HNX:=Lib.hid (fun k h=>@hTo_next l k h)
  have HL:=Lib.hid hl
  have HC:=Lib.hid hc
  have h00:hTo l 0=26583+(n:Int):=by rw [← hl];rfl
  have H00:=Lib.hid h00
  clear hl hc h00
  go_enter Tryz.func72,Tryz.ntmps72
  go_wp2_with fail
  go_loop [3,4] (fun h i=>∃ (k:Nat) (x:Int),k≤n∧k≤4000∧i=.int .i64 k∧h=.int .i64 x∧x=hTo l k∧0≤x∧x≤1100000000) (fun _ i=>n - (intOf i).toNat)
  case atStart=>exact ⟨0,_,Nat.zero_le _,Nat.zero_le _,rfl,rfl,by rw [H00.out],by omega,by omega⟩
  case round =>
    obtain ⟨k,x,hk,hk4,rfl,rfl,hx,hx0,hx1⟩:=hrel
    have HX:=Lib.hid hx
    clear hx
    by_cases hlt:k < n
    · by_cases h4:(k:Int) < 4000
      · obtain ⟨ad,rfl,hs,hbk,hcell⟩:=HC.out (by omega)
        obtain ⟨b,off,spot⟩:=ad
        have hs' : spot=none:=hs
        subst hs'
        have hkl:k < l.length:=by rw [HL.out];exact hlt
        have hcx:=hcell k hkl
        have HK:=Lib.hid hkl
        have hnx:hTo l (k+1)=bits .and .i64 (x * 131+((l[k]'hkl).toNat:Int)+7) 1073741823:=by rw [HNX.out k hkl, ← HX.out];rfl
        have HNX2:=Lib.hid hnx
        have ha:(⟨b,off,none⟩:Addr).add k=⟨b,off+k,none⟩:=by unfold Addr.add;split <;> simp_all
        rw [ha] at hcx
        have hv:=(l[k]'hkl).toNat_lt
        clear hnx
        generalize (l[k]'hkl).toNat=v at *
        have hm:=andMask (x * 131+(v:Int)+7)
        clear hcell ha hs HC hkl
        have HM:=Lib.hid hm
        clear hm
        go_wp2
        all_goals go_round
        all_goals
          first
          | (case rel=>exact ⟨k+1,_,by omega,by omega,by go_num,rfl,by rw [HNX2.out],by have:=HM.out;omega,by have:=HM.out;omega⟩)
          | skip
        all_goals simp [intOf];omega
      · have he:=HX.out.trans (HEND.out k hk4 (by have:=HL.out;omega) (.inr (by omega)))
        have HE:=Lib.hid he
        clear he
        go_wp2
        go_ret
        exact ⟨rfl,by rw [HE.out]⟩
    · have he:=HX.out.trans (HEND.out k hk4 (by have:=HL.out;omega) (.inl (by have:=HL.out;omega)))
      have HE:=Lib.hid he
      clear he
      go_wp2
      go_ret
      exact ⟨rfl,by rw [HE.out]⟩
end Go.Proofs.YtppgalpldaibhaaGreatDoor
namespace Go.Proofs.YtppgalpldaibhaaGreatDoor.Ab
noncomputable section
open Go.RowKit
set_option linter.unusedVariables false
def bytesL (rows:List (List D)):List UInt8:=rows.map fun r=>UInt8.ofNat (r.getD 0 default).int.toNat
def spNewC (e:TypeId):FSpec where
  pre args:=∃ rows:List (List D),rows.length≤1048576∧args=[argS e rows]
  res _:=.none
  bx:=true
  nb:=true
  upd args:=match args with
    | [.val _ [.sl _ _ rows]]=>curC e rows 0 (hOf (bytesL rows))
    | _=>[]
theorem RdR.int_u {T:Tab} {w:World} {X:Nat→Prop} {k:IntKind} {v:Value} {d:D} (h:RdR T w X (.i k) v d):v=.int k d.int:=by cases h;rfl
theorem ArgsR.one_u {T:Tab} {w:World} {X:Nat→Prop} {vals:List Value} {c:CV} (h:ArgsR T w X vals [.val false [c]]):∃ v,vals=[v]∧ArgC T w X v c:=by
  obtain ⟨h1,h2⟩:=h
  match vals,h1 with
  | [v],_ =>
    obtain ⟨c',e,hc⟩:=h2 0 _ v rfl rfl
    obtain rfl:c=c' := by simpa using e
    exact ⟨v,rfl,hc⟩
theorem newC_ok {P:Program} {T:Tab} {f:FuncId} {e:TypeId} {te:Ty} {et:TypeId} (hte:T e=some te) (hct:te.cts=[.i .u8]) (hcall:∀ args w,(callFunc f args).run P w=.ok (.enter f args) w)
    (h:∀ (A:Option Addr) (n c:Nat) (l:List UInt8) (w:World) (hn:n≤1048576) (hb:IsBytes w w.heap.size A n l),Calls P f #[.slice A n c] w fun e w' => e=.returned (.pointer (some ⟨w.heap.size,0,none⟩))∧w' = w.alloc (.cells #[.slice A n c,.int .i64 0,.int .i64 (hOf l)] et)):FOk P T f (spNewC e):=by
  refine ⟨hcall,(fun _ hn=>by cases hn),(fun hb=>by cases hb),fun _ _ w X args vals hX hargs hpre=>?_⟩
  obtain ⟨rows,hr,rfl⟩:=hpre
  obtain ⟨v,rfl,hv⟩:=(show ArgsR T w X vals [.val false [.sl false e rows]] from hargs).one_u
  have hv' : RdR T w X (.l e) v (.l rows):=hv
  have hH:=hTo_in (bytesL rows) (by unfold bytesL;rw [List.length_map];exact hr)
  have key:∃ A n c,v=.slice A n c∧n≤1048576∧IsBytes w w.heap.size A n (bytesL rows):=by
    clear hv hH
    generalize hd:D.l rows=d at hv'
    generalize hc:CT.l e=ct at hv'
    cases hv' with
    | nil e' A c g =>
      obtain rfl:rows=[]:=by simpa using hd
      exact ⟨A,0,c,rfl,Nat.zero_le _,rfl,fun h=>absurd h (Nat.lt_irrefl _)⟩
    | sl e' ty b o c rows' vs g1 g2 g3 g4 g5 g6 g7 g8 =>
      cases hc
      obtain rfl:rows=rows' := by simpa using hd
      rw [hte] at g1
      obtain rfl:=Option.some.inj g1
      refine ⟨_,rows.length,c,rfl,hr,by unfold bytesL;rw [List.length_map],fun _=>⟨_,rfl,rfl,g5,fun k hk=>?_⟩⟩
      have hk' : k < rows.length:=by unfold bytesL at hk;rwa [List.length_map] at hk
      have:=g6 k 0 hk' (by rw [hct];simp)
      rw [hct] at this
      simp only [List.length_cons,List.length_nil,Nat.zero_add,Nat.mul_one,Nat.add_zero] at this
      rw [addr_off',this]
      have hlen:=g7 k rows[k] (List.getElem?_eq_getElem hk')
      rw [hct] at hlen
      obtain ⟨d,hd'⟩:=List.length_eq_one_iff.1 hlen
      have hr8:=g8 k 0 (.i .u8) d rows[k] (List.getElem?_eq_getElem hk') (by rw [hct];rfl) (by rw [hd'];rfl)
      have hin:∃ m,d=.i m∧inK .u8 m:=by
        have hr9:=hr8
        generalize hct0:CT.i .u8=ct0 at hr9
        generalize vs k 0=u0 at hr9
        cases hr9 with
        | int k' m hm=>cases hct0;exact ⟨m,rfl,hm⟩
        | _=>cases hct0
      obtain ⟨m,rfl,hm⟩:=hin
      rw [hr8.int_u]
      have e0:(bytesL rows)[k]? = some (UInt8.ofNat m.toNat):=by
        unfold bytesL
        rw [List.getElem?_map,List.getElem?_eq_getElem hk',hd']
        rfl
      have e1:(bytesL rows)[k]'hk=UInt8.ofNat m.toNat:=(List.getElem?_eq_some_iff.1 e0).2
      rw [e1]
      have h0:IntKind.min .u8=0:=by decide
      have h255:IntKind.max .u8=255:=by decide
      rw [inK,h0,h255] at hm
      show some (Value.int .u8 m)=some (Value.int .u8 ((UInt8.ofNat m.toNat).toNat:Int))
      rw [UInt8.toNat_ofNat',Nat.mod_eq_of_lt (by omega)]
      congr 2
      omega
    | _=>cases hc
  obtain ⟨A,n,c,rfl,hn,hb⟩:=key
  refine (h A n c (bytesL rows) w hn hb).mono fun e' w' ⟨he,hw⟩=>⟨_,et,he,hw,rfl,fun i cc u h1 h2=>?_⟩
  have h1' : (curC e rows 0 (hOf (bytesL rows)))[i]? = some cc:=h1
  match i with
  | 0 =>
    obtain rfl:CV.sl false e rows=cc:=by simpa using h1'
    obtain rfl:Value.slice A n c=u:=by simpa using h2
    exact hv'
  | 1 =>
    obtain rfl:CV.i .i64 0=cc:=by simpa using h1'
    obtain rfl:Value.int .i64 0=u:=by simpa using h2
    exact ⟨rfl,by decide,by decide⟩
  | 2 =>
    obtain rfl:CV.i .i64 (hOf (bytesL rows))=cc:=by simpa using h1'
    obtain rfl:Value.int .i64 (hOf (bytesL rows))=u:=by simpa using h2
    have hh:0≤hOf (bytesL rows)∧hOf (bytesL rows)≤1100000000:=by
      unfold hOf
      rcases Nat.le_total 4000 (bytesL rows).length with hl|hl
      · exact hH 4000 hl
      · have e:hTo (bytesL rows) 4000=hTo (bytesL rows) (bytesL rows).length:=by
          unfold hTo
          rw [List.take_of_length_le hl,List.take_length]
        rw [e]
        exact hH _ (Nat.le_refl _)
    have h1:IntKind.i64.min = -9223372036854775808:=by decide
    have h2:IntKind.i64.max=9223372036854775807:=by decide
    refine ⟨rfl,?_⟩
    rw [inK,h1,h2]
    omega
  | k+3=>simp at h1'
theorem ok72:FOk Tryz.prog T 72 (spNewC 5):=newC_ok rfl rfl Tryz.call72 new_exact
end
end Go.Proofs.YtppgalpldaibhaaGreatDoor.Ab
