/- A part. -/
import Derived.Test.YtdjfhmghebommaaGreatDoorDMo
namespace Go.Proofs.YtdjfhmghebommaaGreatDoor
open Go.RowKit Ab
set_option linter.all false
set_option maxRecDepth 100000
set_option maxHeartbeats 4000000
theorem yh (mt:Int→ByteArray) (n:Nat):MkOk Tryz.prog T mt 31 3 n:=by
 intro w F v rows k hk hb hn hgl hD
 obtain ⟨A,c,rfl⟩:=hD.slice
 have HD:=Lib.hid hD
 have HG:=Lib.hid hgl
 have hs:=hD.short
 simp only [maxLen] at hs
 clear hD hgl
 go_enter Tryz.func31,Tryz.ntmps31
 go_wp2_with fail
 go_loopw [1,5] (fun q i wr=>∃ j:Nat,j≤rows.length∧i=.int .i64 j∧q=.int .i64 (k+ad (rows.take j))∧MkEnd T w wr F 3 (.slice A rows.length c) (mkAt mt k rows j)) (fun _ i _=>rows.length - (intOf i).toNat)
 case atStart=>exact ⟨0,jbP _,rfl,by simp [ad],by rw [dh];exact MkEnd.refl HD.out⟩
 case round =>
  obtain ⟨j,hj,rfl,rfl,hE⟩:=hrel
  have HE0:=Lib.hid hE
  clear hE
  by_cases hlt:j < rows.length
  · obtain ⟨g,rfl⟩:=HD.out.some (by omega)
    have q0:(0:Int)≤(j:Int):=by omega
    have q1:(j:Int) < (rows.length:Int):=by omega
    obtain ⟨x0,r0,hr,hr0⟩:=WfRow.int_ (HD.out.row (show T 3=some _ from rfl) hlt)
    obtain rfl:=hr0.end_
    clear hr0
    have hc:=bd hlt
    have hc2:=bP rows (j+1)
    rw [hr] at hc
    have hc3:cRow [.i x0]=1+0:=rfl
    have hq0:1≤k+ad (rows.take j):=by omega
    have hq1:k+ad (rows.take j)+cRow [.i x0]≤4611686018427387904:=by omega
    rw [hc3] at hq1
    have hmk:=di (mt:=mt) (k:=k) hlt (Eq.symm (congrArg (gT mt (k+ad (rows.take j))) hr))
    have hX:=(dZ (mt:=mt) (k:=k) hlt).trans hr
    have hl:j < (mkAt mt k rows j).length:=by rw [b8];exact hlt
    have hnext:k+(ad (rows.take (j+1)):Int)=k+ad (rows.take j)+cRow [.i x0]:=by omega
    rw [hc3] at hnext
    obtain ⟨X,hXX⟩:∃ X,mkAt mt k rows j=X:=⟨_,rfl⟩
    rw [hXX] at hX hl hmk HE0
    obtain ⟨q,hq⟩:∃ q,k+(ad (rows.take j):Int)=q:=⟨_,rfl⟩
    rw [hq] at hq0 hq1 hmk hnext ⊢
    clear hc hc2 hXX hc3
    obtain ⟨-,hF, -,ub1,db1,Gb1,cb1,fb1,rb1,Db1,sb1,pb1,wb1⟩:=DeepV.part HE0.out.deep (show T 3=some _ from rfl) (k:=j) (j:=0) hlt rfl (o:=j) (by first|rfl|simp)
    have V1:=wb1 (fun e h=>by cases h) (.int .i64 (q)) (.i (q)) (.int _ _ (aU (by omega) (by omega)))
    rw [show setD X j 0 (.i (q))=X.set j [.i (q)] from dU hX] at V1
    have H1:=Lib.hid ((HE0.out).store hF V1)
    clear V1 rb1 Db1 sb1 pb1 wb1
    go_wp2
    rw [show X.set j [.i (q)]=mkAt mt k rows (j+1) from hmk] at H1
    exact ⟨⟨j+1,hlt,by go_num,congrArg (Value.int IntKind.i64) (by omega),H1.out⟩,by simp [Go.RowKit.intOf];omega⟩
  · have nlt:¬ (j:Int) < (rows.length:Int):=by omega
    have ht:rows.take j=rows:=jcr (by omega)
    have ha:=d7 (mt:=mt) (k:=k) (a:=rows) (i:=j) (by omega)
    go_wp2
    go_ret
    exact ⟨rfl,by rw [← ha];exact HE0.out⟩
theorem jaU (mt:Int→ByteArray) (hmt:FOk Tryz.prog T 40 (spMT mt)) (n:Nat):MkOk Tryz.prog T mt 64 9 n:=by
 intro w F v rows k hk hb hn hgl hD
 obtain ⟨A,c,rfl⟩:=hD.slice
 have HD:=Lib.hid hD
 have HG:=Lib.hid hgl
 have hs:=hD.short
 simp only [maxLen] at hs
 clear hD hgl
 go_enter Tryz.func64,Tryz.ntmps64
 go_wp2_with fail
 go_loopw [1,5] (fun q i wr=>∃ j:Nat,j≤rows.length∧i=.int .i64 j∧q=.int .i64 (k+ad (rows.take j))∧MkEnd T w wr F 9 (.slice A rows.length c) (mkAt mt k rows j)) (fun _ i _=>rows.length - (intOf i).toNat)
 case atStart=>exact ⟨0,jbP _,rfl,by simp [ad],by rw [dh];exact MkEnd.refl HD.out⟩
 case round =>
  obtain ⟨j,hj,rfl,rfl,hE⟩:=hrel
  have HE0:=Lib.hid hE
  clear hE
  by_cases hlt:j < rows.length
  · obtain ⟨g,rfl⟩:=HD.out.some (by omega)
    have q0:(0:Int)≤(j:Int):=by omega
    have q1:(j:Int) < (rows.length:Int):=by omega
    obtain ⟨x0,r0,hr,hr0⟩:=WfRow.str_ (HD.out.row (show T 9=some _ from rfl) hlt)
    obtain rfl:=hr0.end_
    clear hr0
    have hc:=bd hlt
    have hc2:=bP rows (j+1)
    rw [hr] at hc
    have hc3:cRow [.s x0]=1+0:=rfl
    have hq0:1≤k+ad (rows.take j):=by omega
    have hq1:k+ad (rows.take j)+cRow [.s x0]≤4611686018427387904:=by omega
    rw [hc3] at hq1
    have hmk:=di (mt:=mt) (k:=k) hlt (Eq.symm (congrArg (gT mt (k+ad (rows.take j))) hr))
    have hX:=(dZ (mt:=mt) (k:=k) hlt).trans hr
    have hl:j < (mkAt mt k rows j).length:=by rw [b8];exact hlt
    have hnext:k+(ad (rows.take (j+1)):Int)=k+ad (rows.take j)+cRow [.s x0]:=by omega
    rw [hc3] at hnext
    obtain ⟨X,hXX⟩:∃ X,mkAt mt k rows j=X:=⟨_,rfl⟩
    rw [hXX] at hX hl hmk HE0
    obtain ⟨q,hq⟩:∃ q,k+(ad (rows.take j):Int)=q:=⟨_,rfl⟩
    rw [hq] at hq0 hq1 hmk hnext ⊢
    clear hc hc2 hXX hc3
    go_wp2_with fail
    refine (hmt.mark (HE0.out).deep.lt ((HE0.out).gl HG.out) (k:=q) (by omega) (by omega)).mono ?_;rintro e wr1 ⟨rfl,hsz1,hb1⟩
    have H1:=Lib.hid ((HE0.out).below hb1)
    clear hb1
    obtain ⟨-,hF, -,ub1,db1,Gb1,cb1,fb1,rb1,Db1,sb1,pb1,wb1⟩:=DeepV.part H1.out.deep (show T 9=some _ from rfl) (k:=j) (j:=0) hlt rfl (o:=j) (by first|rfl|simp)
    have V1:=wb1 (fun e h=>by cases h) (.string (mt (q))) (.s (mt (q))) (.str _ hsz1)
    rw [show setD X j 0 (.s (mt (q)))=X.set j [.s (mt (q))] from dU hX] at V1
    have K1:=Lib.hid ((H1.out).store hF V1)
    clear V1 rb1 Db1 sb1 pb1 wb1
    go_wp2
    rw [show X.set j [.s (mt (q))]=mkAt mt k rows (j+1) from hmk] at K1
    exact ⟨⟨j+1,hlt,by go_num,congrArg (Value.int IntKind.i64) (by omega),K1.out⟩,by simp [Go.RowKit.intOf];omega⟩
  · have nlt:¬ (j:Int) < (rows.length:Int):=by omega
    have ht:rows.take j=rows:=jcr (by omega)
    have ha:=d7 (mt:=mt) (k:=k) (a:=rows) (i:=j) (by omega)
    go_wp2
    go_ret
    exact ⟨rfl,by rw [← ha];exact HE0.out⟩
theorem jaX (mt:Int→ByteArray) (n:Nat):MkOk Tryz.prog T mt 110 147 n:=by
 intro w F v rows k hk hb hn hgl hD
 obtain ⟨A,c,rfl⟩:=hD.slice
 have HD:=Lib.hid hD
 have HG:=Lib.hid hgl
 have hs:=hD.short
 simp only [maxLen] at hs
 clear hD hgl
 go_enter Tryz.func110,Tryz.ntmps110
 go_wp2_with fail
 go_loopw [1,5] (fun q i wr=>∃ j:Nat,j≤rows.length∧i=.int .i64 j∧q=.int .i64 (k+ad (rows.take j))∧MkEnd T w wr F 147 (.slice A rows.length c) (mkAt mt k rows j)) (fun _ i _=>rows.length - (intOf i).toNat)
 case atStart=>exact ⟨0,jbP _,rfl,by simp [ad],by rw [dh];exact MkEnd.refl HD.out⟩
 case round =>
  obtain ⟨j,hj,rfl,rfl,hE⟩:=hrel
  have HE0:=Lib.hid hE
  clear hE
  by_cases hlt:j < rows.length
  · obtain ⟨g,rfl⟩:=HD.out.some (by omega)
    have q0:(0:Int)≤(j:Int):=by omega
    have q1:(j:Int) < (rows.length:Int):=by omega
    obtain ⟨x0,r0,hr,hr0⟩:=WfRow.int_ (HD.out.row (show T 147=some _ from rfl) hlt)
    obtain ⟨x1,r1,rfl,hr1⟩:=WfRow.int_ hr0
    obtain rfl:=hr1.end_
    clear hr1
    have hc:=bd hlt
    have hc2:=bP rows (j+1)
    rw [hr] at hc
    have hc3:cRow [.i x0,.i x1]=1+(1+0):=rfl
    have hq0:1≤k+ad (rows.take j):=by omega
    have hq1:k+ad (rows.take j)+cRow [.i x0,.i x1]≤4611686018427387904:=by omega
    rw [hc3] at hq1
    have hmk:=di (mt:=mt) (k:=k) hlt (Eq.symm (congrArg (gT mt (k+ad (rows.take j))) hr))
    have hX:=(dZ (mt:=mt) (k:=k) hlt).trans hr
    have hl:j < (mkAt mt k rows j).length:=by rw [b8];exact hlt
    have hnext:k+(ad (rows.take (j+1)):Int)=k+ad (rows.take j)+cRow [.i x0,.i x1]:=by omega
    rw [hc3] at hnext
    obtain ⟨X,hXX⟩:∃ X,mkAt mt k rows j=X:=⟨_,rfl⟩
    rw [hXX] at hX hl hmk HE0
    obtain ⟨q,hq⟩:∃ q,k+(ad (rows.take j):Int)=q:=⟨_,rfl⟩
    rw [hq] at hq0 hq1 hmk hnext ⊢
    clear hc hc2 hXX hc3
    obtain ⟨-,hF, -,ub1,db1,Gb1,cb1,fb1,rb1,Db1,sb1,pb1,wb1⟩:=DeepV.part HE0.out.deep (show T 147=some _ from rfl) (k:=j) (j:=0) hlt rfl (o:=j * 2) (by first|rfl|simp)
    have V1:=wb1 (fun e h=>by cases h) (.int .i64 (q)) (.i (q)) (.int _ _ (aU (by omega) (by omega)))
    rw [show setD X j 0 (.i (q))=X.set j [.i (q),.i x1] from dU hX] at V1
    have H1:=Lib.hid ((HE0.out).store hF V1)
    clear V1 rb1 Db1 sb1 pb1 wb1
    obtain ⟨-,hF, -,ub2,db2,Gb2,cb2,fb2,rb2,Db2,sb2,pb2,wb2⟩:=DeepV.part HE0.out.deep (show T 147=some _ from rfl) (k:=j) (j:=1) hlt rfl (o:=j * 2+1) (by first|rfl|simp)
    obtain ⟨-,hF, -,uc2,dc2,Gc2,cc2,fc2,rc2,Dc2,sc2,pc2,wc2⟩:=DeepV.part H1.out.deep (show T 147=some _ from rfl) (k:=j) (j:=1) hlt rfl (o:=j * 2+1) (by first|rfl|simp)
    have V2:=wc2 (fun e h=>by cases h) (.int .i64 (q+1)) (.i (q+1)) (.int _ _ (aU (by omega) (by omega)))
    rw [show setD (X.set j [.i (q),.i x1]) j 1 (.i (q+1))=X.set j [.i (q),.i (q+1)] from aE hl] at V2
    have H2:=Lib.hid ((H1.out).store hF V2)
    clear V2 rb2 Db2 sb2 pb2 wb2 rc2 Dc2 sc2 pc2 wc2 cc2 fc2
    go_wp2
    rw [show X.set j [.i (q),.i (q+1)]=mkAt mt k rows (j+1) from hmk] at H2
    exact ⟨⟨j+1,hlt,by go_num,congrArg (Value.int IntKind.i64) (by omega),H2.out⟩,by simp [Go.RowKit.intOf];omega⟩
  · have nlt:¬ (j:Int) < (rows.length:Int):=by omega
    have ht:rows.take j=rows:=jcr (by omega)
    have ha:=d7 (mt:=mt) (k:=k) (a:=rows) (i:=j) (by omega)
    go_wp2
    go_ret
    exact ⟨rfl,by rw [← ha];exact HE0.out⟩
theorem jaT (mt:Int→ByteArray) (n:Nat):MkOk Tryz.prog T mt 65 126 n:=by
 intro w F v rows k hk hb hn hgl hD
 obtain ⟨A,c,rfl⟩:=hD.slice
 have HD:=Lib.hid hD
 have HG:=Lib.hid hgl
 have hs:=hD.short
 simp only [maxLen] at hs
 clear hD hgl
 go_enter Tryz.func65,Tryz.ntmps65
 go_wp2_with fail
 go_loopw [1,5] (fun q i wr=>∃ j:Nat,j≤rows.length∧i=.int .i64 j∧q=.int .i64 (k+ad (rows.take j))∧MkEnd T w wr F 126 (.slice A rows.length c) (mkAt mt k rows j)) (fun _ i _=>rows.length - (intOf i).toNat)
 case atStart=>exact ⟨0,jbP _,rfl,by simp [ad],by rw [dh];exact MkEnd.refl HD.out⟩
 case round =>
  obtain ⟨j,hj,rfl,rfl,hE⟩:=hrel
  have HE0:=Lib.hid hE
  clear hE
  by_cases hlt:j < rows.length
  · obtain ⟨g,rfl⟩:=HD.out.some (by omega)
    have q0:(0:Int)≤(j:Int):=by omega
    have q1:(j:Int) < (rows.length:Int):=by omega
    obtain ⟨x0,r0,hr,hr0⟩:=WfRow.sl_ (HD.out.row (show T 126=some _ from rfl) hlt)
    obtain ⟨x1,r1,rfl,hr1⟩:=WfRow.sl_ hr0
    obtain rfl:=hr1.end_
    clear hr1
    have hc:=bd hlt
    have hc2:=bP rows (j+1)
    rw [hr] at hc
    have hc3:cRow [.l x0,.l x1]=ad x0+(ad x1+0):=rfl
    have hq0:1≤k+ad (rows.take j):=by omega
    have hq1:k+ad (rows.take j)+cRow [.l x0,.l x1]≤4611686018427387904:=by omega
    rw [hc3] at hq1
    have hmk:=di (mt:=mt) (k:=k) hlt (Eq.symm (congrArg (gT mt (k+ad (rows.take j))) hr))
    have hX:=(dZ (mt:=mt) (k:=k) hlt).trans hr
    have hl:j < (mkAt mt k rows j).length:=by rw [b8];exact hlt
    have hnext:k+(ad (rows.take (j+1)):Int)=k+ad (rows.take j)+cRow [.l x0,.l x1]:=by omega
    rw [hc3] at hnext
    obtain ⟨X,hXX⟩:∃ X,mkAt mt k rows j=X:=⟨_,rfl⟩
    rw [hXX] at hX hl hmk HE0
    obtain ⟨q,hq⟩:∃ q,k+(ad (rows.take j):Int)=q:=⟨_,rfl⟩
    rw [hq] at hq0 hq1 hmk hnext ⊢
    have hm0:wD (.l x0) < wD (.l rows):=bJ hlt (j:=0) (by rw [hr];rfl)
    have hm1:wD (.l x1) < wD (.l rows):=bJ hlt (j:=1) (by rw [hr];rfl)
    clear hc hc2 hXX hc3
    obtain ⟨-,hF, -,uc1,dc1,Gc1,cc1,fc1,rc1,Dc1,sc1,pc1,wc1⟩:=DeepV.part HE0.out.deep (show T 126=some _ from rfl) (k:=j) (j:=0) hlt rfl (o:=j * 2) (by first|rfl|simp)
    obtain rfl:=vD hX rc1 (show ([.l x0,.l x1]:List D)[0]? = some (.l x0) from rfl)
    clear fc1 wc1 rc1
    go_wp2_with fail
    refine ((yh mt (wD (.l x0)+1)) _ Gc1 uc1 x0 (q) (by omega) (by omega) (jcO _) (((HE0.out).gl HG.out).less fun b h=>(sc1 b h).1) Dc1).mono ?_;rintro e wr1 ⟨rfl,hN1⟩
    have V1:=pc1 _ _ (fun b hb hg=>hN1.block b ((HE0.out).deep.lt b hb) hg) hN1.deep
    rw [show setD X j 0 (.l (ah mt (q) x0))=X.set j [.l (ah mt (q) x0),.l x1] from dU hX] at V1
    have H1:=Lib.hid ((HE0.out).call hN1 (fun b h=>(sc1 b h).1) V1)
    clear V1 hN1 Dc1 sc1 pc1 cc1
    obtain ⟨-,hF, -,uc2,dc2,Gc2,cc2,fc2,rc2,Dc2,sc2,pc2,wc2⟩:=DeepV.part H1.out.deep (show T 126=some _ from rfl) (k:=j) (j:=1) hlt rfl (o:=j * 2+1) (by first|rfl|simp)
    obtain rfl:=cQ hl rc2 (show ([.l (ah mt (q) x0),.l x1]:List D)[1]? = some (.l x1) from rfl)
    clear fc2 wc2 rc2
    go_wp2_with fail
    refine ((jaX mt (wD (.l x1)+1)) _ Gc2 uc2 x1 (q+ad x0) (by omega) (by omega) (jcO _) (((H1.out).gl HG.out).less fun b h=>(sc2 b h).1) Dc2).mono ?_;rintro e wr2 ⟨rfl,hN2⟩
    have V2:=pc2 _ _ (fun b hb hg=>hN2.block b ((H1.out).deep.lt b hb) hg) hN2.deep
    rw [show setD (X.set j [.l (ah mt (q) x0),.l x1]) j 1 (.l (ah mt (q+ad x0) x1))=X.set j [.l (ah mt (q) x0),.l (ah mt (q+ad x0) x1)] from aE hl] at V2
    have H2:=Lib.hid ((H1.out).call hN2 (fun b h=>(sc2 b h).1) V2)
    clear V2 hN2 Dc2 sc2 pc2 cc2
    go_wp2
    rw [show X.set j [.l (ah mt (q) x0),.l (ah mt (q+ad x0) x1)]=mkAt mt k rows (j+1) from hmk] at H2
    exact ⟨⟨j+1,hlt,by go_num,congrArg (Value.int IntKind.i64) (by omega),H2.out⟩,by simp [Go.RowKit.intOf];omega⟩
  · have nlt:¬ (j:Int) < (rows.length:Int):=by omega
    have ht:rows.take j=rows:=jcr (by omega)
    have ha:=d7 (mt:=mt) (k:=k) (a:=rows) (i:=j) (by omega)
    go_wp2
    go_ret
    exact ⟨rfl,by rw [← ha];exact HE0.out⟩
theorem jaY (mt:Int→ByteArray) (hmt:FOk Tryz.prog T 40 (spMT mt)) (n:Nat) (ih:MkOk Tryz.prog T mt 63 53 n):MkOk Tryz.prog T mt 63 53 (n+1):=by
 intro w F v rows k hk hb hn hgl hD
 obtain ⟨A,c,rfl⟩:=hD.slice
 have HD:=Lib.hid hD
 have HG:=Lib.hid hgl
 have hs:=hD.short
 simp only [maxLen] at hs
 clear hD hgl
 go_enter Tryz.func63,Tryz.ntmps63
 go_wp2_with fail
 go_loopw [1,5] (fun q i wr=>∃ j:Nat,j≤rows.length∧i=.int .i64 j∧q=.int .i64 (k+ad (rows.take j))∧MkEnd T w wr F 53 (.slice A rows.length c) (mkAt mt k rows j)) (fun _ i _=>rows.length - (intOf i).toNat)
 case atStart=>exact ⟨0,jbP _,rfl,by simp [ad],by rw [dh];exact MkEnd.refl HD.out⟩
 case round =>
  obtain ⟨j,hj,rfl,rfl,hE⟩:=hrel
  have HE0:=Lib.hid hE
  clear hE
  by_cases hlt:j < rows.length
  · obtain ⟨g,rfl⟩:=HD.out.some (by omega)
    have q0:(0:Int)≤(j:Int):=by omega
    have q1:(j:Int) < (rows.length:Int):=by omega
    obtain ⟨x0,r0,hr,hr0⟩:=WfRow.int_ (HD.out.row (show T 53=some _ from rfl) hlt)
    obtain ⟨x1,r1,rfl,hr1⟩:=WfRow.int_ hr0
    obtain ⟨x2,r2,rfl,hr2⟩:=WfRow.int_ hr1
    obtain ⟨x3,r3,rfl,hr3⟩:=WfRow.str_ hr2
    obtain ⟨x4,r4,rfl,hr4⟩:=WfRow.sl_ hr3
    obtain ⟨x5,r5,rfl,hr5⟩:=WfRow.sl_ hr4
    obtain ⟨x6,r6,rfl,hr6⟩:=WfRow.sl_ hr5
    obtain rfl:=hr6.end_
    clear hr6
    have hc:=bd hlt
    have hc2:=bP rows (j+1)
    rw [hr] at hc
    have hc3:cRow [.i x0,.i x1,.i x2,.s x3,.l x4,.l x5,.l x6]=1+(1+(1+(1+(ad x4+(ad x5+(ad x6+0)))))):=rfl
    have hq0:1≤k+ad (rows.take j):=by omega
    have hq1:k+ad (rows.take j)+cRow [.i x0,.i x1,.i x2,.s x3,.l x4,.l x5,.l x6]≤4611686018427387904:=by omega
    rw [hc3] at hq1
    have hmk:=di (mt:=mt) (k:=k) hlt (Eq.symm (congrArg (gT mt (k+ad (rows.take j))) hr))
    have hX:=(dZ (mt:=mt) (k:=k) hlt).trans hr
    have hl:j < (mkAt mt k rows j).length:=by rw [b8];exact hlt
    have hnext:k+(ad (rows.take (j+1)):Int)=k+ad (rows.take j)+cRow [.i x0,.i x1,.i x2,.s x3,.l x4,.l x5,.l x6]:=by omega
    rw [hc3] at hnext
    obtain ⟨X,hXX⟩:∃ X,mkAt mt k rows j=X:=⟨_,rfl⟩
    rw [hXX] at hX hl hmk HE0
    obtain ⟨q,hq⟩:∃ q,k+(ad (rows.take j):Int)=q:=⟨_,rfl⟩
    rw [hq] at hq0 hq1 hmk hnext ⊢
    have hm4:wD (.l x4) < wD (.l rows):=bJ hlt (j:=4) (by rw [hr];rfl)
    have hm5:wD (.l x5) < wD (.l rows):=bJ hlt (j:=5) (by rw [hr];rfl)
    have hm6:wD (.l x6) < wD (.l rows):=bJ hlt (j:=6) (by rw [hr];rfl)
    clear hc hc2 hXX hc3
    obtain ⟨-,hF, -,ub1,db1,Gb1,cb1,fb1,rb1,Db1,sb1,pb1,wb1⟩:=DeepV.part HE0.out.deep (show T 53=some _ from rfl) (k:=j) (j:=0) hlt rfl (o:=j * 7) (by first|rfl|simp)
    have V1:=wb1 (fun e h=>by cases h) (.int .i64 (q)) (.i (q)) (.int _ _ (aU (by omega) (by omega)))
    rw [show setD X j 0 (.i (q))=X.set j [.i (q),.i x1,.i x2,.s x3,.l x4,.l x5,.l x6] from dU hX] at V1
    have H1:=Lib.hid ((HE0.out).store hF V1)
    clear V1 rb1 Db1 sb1 pb1 wb1
    obtain ⟨-,hF, -,ub2,db2,Gb2,cb2,fb2,rb2,Db2,sb2,pb2,wb2⟩:=DeepV.part HE0.out.deep (show T 53=some _ from rfl) (k:=j) (j:=1) hlt rfl (o:=j * 7+1) (by first|rfl|simp)
    obtain ⟨-,hF, -,uc2,dc2,Gc2,cc2,fc2,rc2,Dc2,sc2,pc2,wc2⟩:=DeepV.part H1.out.deep (show T 53=some _ from rfl) (k:=j) (j:=1) hlt rfl (o:=j * 7+1) (by first|rfl|simp)
    have V2:=wc2 (fun e h=>by cases h) (.int .i64 (q+1)) (.i (q+1)) (.int _ _ (aU (by omega) (by omega)))
    rw [show setD (X.set j [.i (q),.i x1,.i x2,.s x3,.l x4,.l x5,.l x6]) j 1 (.i (q+1))=X.set j [.i (q),.i (q+1),.i x2,.s x3,.l x4,.l x5,.l x6] from aE hl] at V2
    have H2:=Lib.hid ((H1.out).store hF V2)
    clear V2 rb2 Db2 sb2 pb2 wb2 rc2 Dc2 sc2 pc2 wc2 cc2 fc2
    obtain ⟨-,hF, -,ub3,db3,Gb3,cb3,fb3,rb3,Db3,sb3,pb3,wb3⟩:=DeepV.part HE0.out.deep (show T 53=some _ from rfl) (k:=j) (j:=2) hlt rfl (o:=j * 7+2) (by first|rfl|simp)
    obtain ⟨-,hF, -,uc3,dc3,Gc3,cc3,fc3,rc3,Dc3,sc3,pc3,wc3⟩:=DeepV.part H2.out.deep (show T 53=some _ from rfl) (k:=j) (j:=2) hlt rfl (o:=j * 7+2) (by first|rfl|simp)
    have V3:=wc3 (fun e h=>by cases h) (.int .i64 (q+1+1)) (.i (q+1+1)) (.int _ _ (aU (by omega) (by omega)))
    rw [show setD (X.set j [.i (q),.i (q+1),.i x2,.s x3,.l x4,.l x5,.l x6]) j 2 (.i (q+1+1))=X.set j [.i (q),.i (q+1),.i (q+1+1),.s x3,.l x4,.l x5,.l x6] from aE hl] at V3
    have H3:=Lib.hid ((H2.out).store hF V3)
    clear V3 rb3 Db3 sb3 pb3 wb3 rc3 Dc3 sc3 pc3 wc3 cc3 fc3
    go_wp2_with fail
    refine (hmt.mark (H3.out).deep.lt ((H3.out).gl HG.out) (k:=q+1+1+1) (by omega) (by omega)).mono ?_;rintro e wr4 ⟨rfl,hsz4,hb4⟩
    have H4:=Lib.hid ((H3.out).below hb4)
    clear hb4
    obtain ⟨-,hF, -,ub4,db4,Gb4,cb4,fb4,rb4,Db4,sb4,pb4,wb4⟩:=DeepV.part H4.out.deep (show T 53=some _ from rfl) (k:=j) (j:=3) hlt rfl (o:=j * 7+3) (by first|rfl|simp)
    have V4:=wb4 (fun e h=>by cases h) (.string (mt (q+1+1+1))) (.s (mt (q+1+1+1))) (.str _ hsz4)
    rw [show setD (X.set j [.i (q),.i (q+1),.i (q+1+1),.s x3,.l x4,.l x5,.l x6]) j 3 (.s (mt (q+1+1+1)))=X.set j [.i (q),.i (q+1),.i (q+1+1),.s (mt (q+1+1+1)),.l x4,.l x5,.l x6] from aE hl] at V4
    have K4:=Lib.hid ((H4.out).store hF V4)
    clear V4 rb4 Db4 sb4 pb4 wb4
    obtain ⟨-,hF, -,uc5,dc5,Gc5,cc5,fc5,rc5,Dc5,sc5,pc5,wc5⟩:=DeepV.part K4.out.deep (show T 53=some _ from rfl) (k:=j) (j:=4) hlt rfl (o:=j * 7+4) (by first|rfl|simp)
    obtain rfl:=cQ hl rc5 (show ([.i (q),.i (q+1),.i (q+1+1),.s (mt (q+1+1+1)),.l x4,.l x5,.l x6]:List D)[4]? = some (.l x4) from rfl)
    rw [World.cell?_setCell_other _ _ _ _ (by intro h;simp only [Addr.mk.injEq] at h;omega)] at cc5
    clear fc5 wc5 rc5
    go_wp2_with fail
    refine (ih _ Gc5 uc5 x4 (q+1+1+1+1) (by omega) (by omega) (by omega) (((K4.out).gl HG.out).less fun b h=>(sc5 b h).1) Dc5).mono ?_;rintro e wr5 ⟨rfl,hN5⟩
    have V5:=pc5 _ _ (fun b hb hg=>hN5.block b ((K4.out).deep.lt b hb) hg) hN5.deep
    rw [show setD (X.set j [.i (q),.i (q+1),.i (q+1+1),.s (mt (q+1+1+1)),.l x4,.l x5,.l x6]) j 4 (.l (ah mt (q+1+1+1+1) x4))=X.set j [.i (q),.i (q+1),.i (q+1+1),.s (mt (q+1+1+1)),.l (ah mt (q+1+1+1+1) x4),.l x5,.l x6] from aE hl] at V5
    have H5:=Lib.hid ((K4.out).call hN5 (fun b h=>(sc5 b h).1) V5)
    clear V5 hN5 Dc5 sc5 pc5 cc5
    obtain ⟨-,hF, -,uc6,dc6,Gc6,cc6,fc6,rc6,Dc6,sc6,pc6,wc6⟩:=DeepV.part H5.out.deep (show T 53=some _ from rfl) (k:=j) (j:=5) hlt rfl (o:=j * 7+5) (by first|rfl|simp)
    obtain rfl:=cQ hl rc6 (show ([.i (q),.i (q+1),.i (q+1+1),.s (mt (q+1+1+1)),.l (ah mt (q+1+1+1+1) x4),.l x5,.l x6]:List D)[5]? = some (.l x5) from rfl)
    clear fc6 wc6 rc6
    go_wp2_with fail
    refine ((jaU mt hmt (wD (.l x5)+1)) _ Gc6 uc6 x5 (q+1+1+1+1+ad x4) (by omega) (by omega) (jcO _) (((H5.out).gl HG.out).less fun b h=>(sc6 b h).1) Dc6).mono ?_;rintro e wr6 ⟨rfl,hN6⟩
    have V6:=pc6 _ _ (fun b hb hg=>hN6.block b ((H5.out).deep.lt b hb) hg) hN6.deep
    rw [show setD (X.set j [.i (q),.i (q+1),.i (q+1+1),.s (mt (q+1+1+1)),.l (ah mt (q+1+1+1+1) x4),.l x5,.l x6]) j 5 (.l (ah mt (q+1+1+1+1+ad x4) x5))=X.set j [.i (q),.i (q+1),.i (q+1+1),.s (mt (q+1+1+1)),.l (ah mt (q+1+1+1+1) x4),.l (ah mt (q+1+1+1+1+ad x4) x5),.l x6] from aE hl] at V6
    have H6:=Lib.hid ((H5.out).call hN6 (fun b h=>(sc6 b h).1) V6)
    clear V6 hN6 Dc6 sc6 pc6 cc6
    obtain ⟨-,hF, -,uc7,dc7,Gc7,cc7,fc7,rc7,Dc7,sc7,pc7,wc7⟩:=DeepV.part H6.out.deep (show T 53=some _ from rfl) (k:=j) (j:=6) hlt rfl (o:=j * 7+6) (by first|rfl|simp)
    obtain rfl:=cQ hl rc7 (show ([.i (q),.i (q+1),.i (q+1+1),.s (mt (q+1+1+1)),.l (ah mt (q+1+1+1+1) x4),.l (ah mt (q+1+1+1+1+ad x4) x5),.l x6]:List D)[6]? = some (.l x6) from rfl)
    clear fc7 wc7 rc7
    go_wp2_with fail
    refine ((jaT mt (wD (.l x6)+1)) _ Gc7 uc7 x6 (q+1+1+1+1+ad x4+ad x5) (by omega) (by omega) (jcO _) (((H6.out).gl HG.out).less fun b h=>(sc7 b h).1) Dc7).mono ?_;rintro e wr7 ⟨rfl,hN7⟩
    have V7:=pc7 _ _ (fun b hb hg=>hN7.block b ((H6.out).deep.lt b hb) hg) hN7.deep
    rw [show setD (X.set j [.i (q),.i (q+1),.i (q+1+1),.s (mt (q+1+1+1)),.l (ah mt (q+1+1+1+1) x4),.l (ah mt (q+1+1+1+1+ad x4) x5),.l x6]) j 6 (.l (ah mt (q+1+1+1+1+ad x4+ad x5) x6))=X.set j [.i (q),.i (q+1),.i (q+1+1),.s (mt (q+1+1+1)),.l (ah mt (q+1+1+1+1) x4),.l (ah mt (q+1+1+1+1+ad x4) x5),.l (ah mt (q+1+1+1+1+ad x4+ad x5) x6)] from aE hl] at V7
    have H7:=Lib.hid ((H6.out).call hN7 (fun b h=>(sc7 b h).1) V7)
    clear V7 hN7 Dc7 sc7 pc7 cc7
    go_wp2
    rw [show X.set j [.i (q),.i (q+1),.i (q+1+1),.s (mt (q+1+1+1)),.l (ah mt (q+1+1+1+1) x4),.l (ah mt (q+1+1+1+1+ad x4) x5),.l (ah mt (q+1+1+1+1+ad x4+ad x5) x6)]=mkAt mt k rows (j+1) from hmk] at H7
    exact ⟨⟨j+1,hlt,by go_num,congrArg (Value.int IntKind.i64) (by omega),H7.out⟩,by simp [Go.RowKit.intOf];omega⟩
  · have nlt:¬ (j:Int) < (rows.length:Int):=by omega
    have ht:rows.take j=rows:=jcr (by omega)
    have ha:=d7 (mt:=mt) (k:=k) (a:=rows) (i:=j) (by omega)
    go_wp2
    go_ret
    exact ⟨rfl,by rw [← ha];exact HE0.out⟩
theorem jaV (mt:Int→ByteArray) (hmt:FOk Tryz.prog T 40 (spMT mt)):∀ n,MkOk Tryz.prog T mt 63 53 n
 | 0=>fun _ _ _ _ _ _ _ h=>absurd h (jcE _)
 | n+1=>jaY mt hmt n (jaV mt hmt n)
theorem jaW (mt:Int→ByteArray) (hmt:FOk Tryz.prog T 40 (spMT mt)) (n:Nat):MkOk Tryz.prog T mt 32 55 n:=by
 intro w F v rows k hk hb hn hgl hD
 obtain ⟨A,c,rfl⟩:=hD.slice
 have HD:=Lib.hid hD
 have HG:=Lib.hid hgl
 have hs:=hD.short
 simp only [maxLen] at hs
 clear hD hgl
 go_enter Tryz.func32,Tryz.ntmps32
 go_wp2_with fail
 go_loopw [1,5] (fun q i wr=>∃ j:Nat,j≤rows.length∧i=.int .i64 j∧q=.int .i64 (k+ad (rows.take j))∧MkEnd T w wr F 55 (.slice A rows.length c) (mkAt mt k rows j)) (fun _ i _=>rows.length - (intOf i).toNat)
 case atStart=>exact ⟨0,jbP _,rfl,by simp [ad],by rw [dh];exact MkEnd.refl HD.out⟩
 case round =>
  obtain ⟨j,hj,rfl,rfl,hE⟩:=hrel
  have HE0:=Lib.hid hE
  clear hE
  by_cases hlt:j < rows.length
  · obtain ⟨g,rfl⟩:=HD.out.some (by omega)
    have q0:(0:Int)≤(j:Int):=by omega
    have q1:(j:Int) < (rows.length:Int):=by omega
    obtain ⟨x0,r0,hr,hr0⟩:=WfRow.int_ (HD.out.row (show T 55=some _ from rfl) hlt)
    obtain ⟨x1,r1,rfl,hr1⟩:=WfRow.int_ hr0
    obtain ⟨x2,r2,rfl,hr2⟩:=WfRow.int_ hr1
    obtain ⟨x3,r3,rfl,hr3⟩:=WfRow.str_ hr2
    obtain ⟨x4,r4,rfl,hr4⟩:=WfRow.int_ hr3
    obtain ⟨x5,r5,rfl,hr5⟩:=WfRow.int_ hr4
    obtain ⟨x6,r6,rfl,hr6⟩:=WfRow.int_ hr5
    obtain ⟨x7,r7,rfl,hr7⟩:=WfRow.str_ hr6
    obtain ⟨x8,r8,rfl,hr8⟩:=WfRow.sl_ hr7
    obtain ⟨x9,r9,rfl,hr9⟩:=WfRow.sl_ hr8
    obtain ⟨x10,r10,rfl,hr10⟩:=WfRow.sl_ hr9
    obtain rfl:=hr10.end_
    clear hr10
    have hc:=bd hlt
    have hc2:=bP rows (j+1)
    rw [hr] at hc
    have hc3:cRow [.i x0,.i x1,.i x2,.s x3,.i x4,.i x5,.i x6,.s x7,.l x8,.l x9,.l x10]=1+(1+(1+(1+(1+(1+(1+(1+(ad x8+(ad x9+(ad x10+0)))))))))):=rfl
    have hq0:1≤k+ad (rows.take j):=by omega
    have hq1:k+ad (rows.take j)+cRow [.i x0,.i x1,.i x2,.s x3,.i x4,.i x5,.i x6,.s x7,.l x8,.l x9,.l x10]≤4611686018427387904:=by omega
    rw [hc3] at hq1
    have hmk:=di (mt:=mt) (k:=k) hlt (Eq.symm (congrArg (gT mt (k+ad (rows.take j))) hr))
    have hX:=(dZ (mt:=mt) (k:=k) hlt).trans hr
    have hl:j < (mkAt mt k rows j).length:=by rw [b8];exact hlt
    have hnext:k+(ad (rows.take (j+1)):Int)=k+ad (rows.take j)+cRow [.i x0,.i x1,.i x2,.s x3,.i x4,.i x5,.i x6,.s x7,.l x8,.l x9,.l x10]:=by omega
    rw [hc3] at hnext
    obtain ⟨X,hXX⟩:∃ X,mkAt mt k rows j=X:=⟨_,rfl⟩
    rw [hXX] at hX hl hmk HE0
    obtain ⟨q,hq⟩:∃ q,k+(ad (rows.take j):Int)=q:=⟨_,rfl⟩
    rw [hq] at hq0 hq1 hmk hnext ⊢
    have hm8:wD (.l x8) < wD (.l rows):=bJ hlt (j:=8) (by rw [hr];rfl)
    have hm9:wD (.l x9) < wD (.l rows):=bJ hlt (j:=9) (by rw [hr];rfl)
    have hm10:wD (.l x10) < wD (.l rows):=bJ hlt (j:=10) (by rw [hr];rfl)
    clear hc hc2 hXX hc3
    obtain ⟨-,hF, -,ub1,db1,Gb1,cb1,fb1,rb1,Db1,sb1,pb1,wb1⟩:=DeepV.part HE0.out.deep (show T 55=some _ from rfl) (k:=j) (j:=0) hlt rfl (o:=j * 11) (by first|rfl|simp)
    have V1:=wb1 (fun e h=>by cases h) (.int .i64 (q)) (.i (q)) (.int _ _ (aU (by omega) (by omega)))
    rw [show setD X j 0 (.i (q))=X.set j [.i (q),.i x1,.i x2,.s x3,.i x4,.i x5,.i x6,.s x7,.l x8,.l x9,.l x10] from dU hX] at V1
    have H1:=Lib.hid ((HE0.out).store hF V1)
    clear V1 rb1 Db1 sb1 pb1 wb1
    obtain ⟨-,hF, -,ub2,db2,Gb2,cb2,fb2,rb2,Db2,sb2,pb2,wb2⟩:=DeepV.part HE0.out.deep (show T 55=some _ from rfl) (k:=j) (j:=1) hlt rfl (o:=j * 11+1) (by first|rfl|simp)
    obtain ⟨-,hF, -,uc2,dc2,Gc2,cc2,fc2,rc2,Dc2,sc2,pc2,wc2⟩:=DeepV.part H1.out.deep (show T 55=some _ from rfl) (k:=j) (j:=1) hlt rfl (o:=j * 11+1) (by first|rfl|simp)
    have V2:=wc2 (fun e h=>by cases h) (.int .i64 (q+1)) (.i (q+1)) (.int _ _ (aU (by omega) (by omega)))
    rw [show setD (X.set j [.i (q),.i x1,.i x2,.s x3,.i x4,.i x5,.i x6,.s x7,.l x8,.l x9,.l x10]) j 1 (.i (q+1))=X.set j [.i (q),.i (q+1),.i x2,.s x3,.i x4,.i x5,.i x6,.s x7,.l x8,.l x9,.l x10] from aE hl] at V2
    have H2:=Lib.hid ((H1.out).store hF V2)
    clear V2 rb2 Db2 sb2 pb2 wb2 rc2 Dc2 sc2 pc2 wc2 cc2 fc2
    obtain ⟨-,hF, -,ub3,db3,Gb3,cb3,fb3,rb3,Db3,sb3,pb3,wb3⟩:=DeepV.part HE0.out.deep (show T 55=some _ from rfl) (k:=j) (j:=2) hlt rfl (o:=j * 11+2) (by first|rfl|simp)
    obtain ⟨-,hF, -,uc3,dc3,Gc3,cc3,fc3,rc3,Dc3,sc3,pc3,wc3⟩:=DeepV.part H2.out.deep (show T 55=some _ from rfl) (k:=j) (j:=2) hlt rfl (o:=j * 11+2) (by first|rfl|simp)
    have V3:=wc3 (fun e h=>by cases h) (.int .i64 (q+1+1)) (.i (q+1+1)) (.int _ _ (aU (by omega) (by omega)))
    rw [show setD (X.set j [.i (q),.i (q+1),.i x2,.s x3,.i x4,.i x5,.i x6,.s x7,.l x8,.l x9,.l x10]) j 2 (.i (q+1+1))=X.set j [.i (q),.i (q+1),.i (q+1+1),.s x3,.i x4,.i x5,.i x6,.s x7,.l x8,.l x9,.l x10] from aE hl] at V3
    have H3:=Lib.hid ((H2.out).store hF V3)
    clear V3 rb3 Db3 sb3 pb3 wb3 rc3 Dc3 sc3 pc3 wc3 cc3 fc3
    go_wp2_with fail
    refine (hmt.mark (H3.out).deep.lt ((H3.out).gl HG.out) (k:=q+1+1+1) (by omega) (by omega)).mono ?_;rintro e wr4 ⟨rfl,hsz4,hb4⟩
    have H4:=Lib.hid ((H3.out).below hb4)
    clear hb4
    obtain ⟨-,hF, -,ub4,db4,Gb4,cb4,fb4,rb4,Db4,sb4,pb4,wb4⟩:=DeepV.part H4.out.deep (show T 55=some _ from rfl) (k:=j) (j:=3) hlt rfl (o:=j * 11+3) (by first|rfl|simp)
    have V4:=wb4 (fun e h=>by cases h) (.string (mt (q+1+1+1))) (.s (mt (q+1+1+1))) (.str _ hsz4)
    rw [show setD (X.set j [.i (q),.i (q+1),.i (q+1+1),.s x3,.i x4,.i x5,.i x6,.s x7,.l x8,.l x9,.l x10]) j 3 (.s (mt (q+1+1+1)))=X.set j [.i (q),.i (q+1),.i (q+1+1),.s (mt (q+1+1+1)),.i x4,.i x5,.i x6,.s x7,.l x8,.l x9,.l x10] from aE hl] at V4
    have K4:=Lib.hid ((H4.out).store hF V4)
    clear V4 rb4 Db4 sb4 pb4 wb4
    obtain ⟨-,hF, -,ub5,db5,Gb5,cb5,fb5,rb5,Db5,sb5,pb5,wb5⟩:=DeepV.part H4.out.deep (show T 55=some _ from rfl) (k:=j) (j:=4) hlt rfl (o:=j * 11+4) (by first|rfl|simp)
    obtain ⟨-,hF, -,uc5,dc5,Gc5,cc5,fc5,rc5,Dc5,sc5,pc5,wc5⟩:=DeepV.part K4.out.deep (show T 55=some _ from rfl) (k:=j) (j:=4) hlt rfl (o:=j * 11+4) (by first|rfl|simp)
    have V5:=wc5 (fun e h=>by cases h) (.int .i64 (q+1+1+1+1)) (.i (q+1+1+1+1)) (.int _ _ (aU (by omega) (by omega)))
    rw [show setD (X.set j [.i (q),.i (q+1),.i (q+1+1),.s (mt (q+1+1+1)),.i x4,.i x5,.i x6,.s x7,.l x8,.l x9,.l x10]) j 4 (.i (q+1+1+1+1))=X.set j [.i (q),.i (q+1),.i (q+1+1),.s (mt (q+1+1+1)),.i (q+1+1+1+1),.i x5,.i x6,.s x7,.l x8,.l x9,.l x10] from aE hl] at V5
    have H5:=Lib.hid ((K4.out).store hF V5)
    clear V5 rb5 Db5 sb5 pb5 wb5 rc5 Dc5 sc5 pc5 wc5 cc5 fc5
    obtain ⟨-,hF, -,ub6,db6,Gb6,cb6,fb6,rb6,Db6,sb6,pb6,wb6⟩:=DeepV.part H4.out.deep (show T 55=some _ from rfl) (k:=j) (j:=5) hlt rfl (o:=j * 11+5) (by first|rfl|simp)
    obtain ⟨-,hF, -,uc6,dc6,Gc6,cc6,fc6,rc6,Dc6,sc6,pc6,wc6⟩:=DeepV.part H5.out.deep (show T 55=some _ from rfl) (k:=j) (j:=5) hlt rfl (o:=j * 11+5) (by first|rfl|simp)
    have V6:=wc6 (fun e h=>by cases h) (.int .i64 (q+1+1+1+1+1)) (.i (q+1+1+1+1+1)) (.int _ _ (aU (by omega) (by omega)))
    rw [show setD (X.set j [.i (q),.i (q+1),.i (q+1+1),.s (mt (q+1+1+1)),.i (q+1+1+1+1),.i x5,.i x6,.s x7,.l x8,.l x9,.l x10]) j 5 (.i (q+1+1+1+1+1))=X.set j [.i (q),.i (q+1),.i (q+1+1),.s (mt (q+1+1+1)),.i (q+1+1+1+1),.i (q+1+1+1+1+1),.i x6,.s x7,.l x8,.l x9,.l x10] from aE hl] at V6
    have H6:=Lib.hid ((H5.out).store hF V6)
    clear V6 rb6 Db6 sb6 pb6 wb6 rc6 Dc6 sc6 pc6 wc6 cc6 fc6
    obtain ⟨-,hF, -,ub7,db7,Gb7,cb7,fb7,rb7,Db7,sb7,pb7,wb7⟩:=DeepV.part H4.out.deep (show T 55=some _ from rfl) (k:=j) (j:=6) hlt rfl (o:=j * 11+6) (by first|rfl|simp)
    obtain ⟨-,hF, -,uc7,dc7,Gc7,cc7,fc7,rc7,Dc7,sc7,pc7,wc7⟩:=DeepV.part H6.out.deep (show T 55=some _ from rfl) (k:=j) (j:=6) hlt rfl (o:=j * 11+6) (by first|rfl|simp)
    have V7:=wc7 (fun e h=>by cases h) (.int .i64 (q+1+1+1+1+1+1)) (.i (q+1+1+1+1+1+1)) (.int _ _ (aU (by omega) (by omega)))
    rw [show setD (X.set j [.i (q),.i (q+1),.i (q+1+1),.s (mt (q+1+1+1)),.i (q+1+1+1+1),.i (q+1+1+1+1+1),.i x6,.s x7,.l x8,.l x9,.l x10]) j 6 (.i (q+1+1+1+1+1+1))=X.set j [.i (q),.i (q+1),.i (q+1+1),.s (mt (q+1+1+1)),.i (q+1+1+1+1),.i (q+1+1+1+1+1),.i (q+1+1+1+1+1+1),.s x7,.l x8,.l x9,.l x10] from aE hl] at V7
    have H7:=Lib.hid ((H6.out).store hF V7)
    clear V7 rb7 Db7 sb7 pb7 wb7 rc7 Dc7 sc7 pc7 wc7 cc7 fc7
    go_wp2_with fail
    refine (hmt.mark (H7.out).deep.lt ((H7.out).gl HG.out) (k:=q+1+1+1+1+1+1+1) (by omega) (by omega)).mono ?_;rintro e wr8 ⟨rfl,hsz8,hb8⟩
    have H8:=Lib.hid ((H7.out).below hb8)
    clear hb8
    obtain ⟨-,hF, -,ub8,db8,Gb8,cb8,fb8,rb8,Db8,sb8,pb8,wb8⟩:=DeepV.part H8.out.deep (show T 55=some _ from rfl) (k:=j) (j:=7) hlt rfl (o:=j * 11+7) (by first|rfl|simp)
    have V8:=wb8 (fun e h=>by cases h) (.string (mt (q+1+1+1+1+1+1+1))) (.s (mt (q+1+1+1+1+1+1+1))) (.str _ hsz8)
    rw [show setD (X.set j [.i (q),.i (q+1),.i (q+1+1),.s (mt (q+1+1+1)),.i (q+1+1+1+1),.i (q+1+1+1+1+1),.i (q+1+1+1+1+1+1),.s x7,.l x8,.l x9,.l x10]) j 7 (.s (mt (q+1+1+1+1+1+1+1)))=X.set j [.i (q),.i (q+1),.i (q+1+1),.s (mt (q+1+1+1)),.i (q+1+1+1+1),.i (q+1+1+1+1+1),.i (q+1+1+1+1+1+1),.s (mt (q+1+1+1+1+1+1+1)),.l x8,.l x9,.l x10] from aE hl] at V8
    have K8:=Lib.hid ((H8.out).store hF V8)
    clear V8 rb8 Db8 sb8 pb8 wb8
    obtain ⟨-,hF, -,uc9,dc9,Gc9,cc9,fc9,rc9,Dc9,sc9,pc9,wc9⟩:=DeepV.part K8.out.deep (show T 55=some _ from rfl) (k:=j) (j:=8) hlt rfl (o:=j * 11+8) (by first|rfl|simp)
    obtain rfl:=cQ hl rc9 (show ([.i (q),.i (q+1),.i (q+1+1),.s (mt (q+1+1+1)),.i (q+1+1+1+1),.i (q+1+1+1+1+1),.i (q+1+1+1+1+1+1),.s (mt (q+1+1+1+1+1+1+1)),.l x8,.l x9,.l x10]:List D)[8]? = some (.l x8) from rfl)
    rw [World.cell?_setCell_other _ _ _ _ (by intro h;simp only [Addr.mk.injEq] at h;omega)] at cc9
    clear fc9 wc9 rc9
    go_wp2_with fail
    refine ((jaV mt hmt (wD (.l x8)+1)) _ Gc9 uc9 x8 (q+1+1+1+1+1+1+1+1) (by omega) (by omega) (jcO _) (((K8.out).gl HG.out).less fun b h=>(sc9 b h).1) Dc9).mono ?_;rintro e wr9 ⟨rfl,hN9⟩
    have V9:=pc9 _ _ (fun b hb hg=>hN9.block b ((K8.out).deep.lt b hb) hg) hN9.deep
    rw [show setD (X.set j [.i (q),.i (q+1),.i (q+1+1),.s (mt (q+1+1+1)),.i (q+1+1+1+1),.i (q+1+1+1+1+1),.i (q+1+1+1+1+1+1),.s (mt (q+1+1+1+1+1+1+1)),.l x8,.l x9,.l x10]) j 8 (.l (ah mt (q+1+1+1+1+1+1+1+1) x8))=X.set j [.i (q),.i (q+1),.i (q+1+1),.s (mt (q+1+1+1)),.i (q+1+1+1+1),.i (q+1+1+1+1+1),.i (q+1+1+1+1+1+1),.s (mt (q+1+1+1+1+1+1+1)),.l (ah mt (q+1+1+1+1+1+1+1+1) x8),.l x9,.l x10] from aE hl] at V9
    have H9:=Lib.hid ((K8.out).call hN9 (fun b h=>(sc9 b h).1) V9)
    clear V9 hN9 Dc9 sc9 pc9 cc9
    obtain ⟨-,hF, -,uc10,dc10,Gc10,cc10,fc10,rc10,Dc10,sc10,pc10,wc10⟩:=DeepV.part H9.out.deep (show T 55=some _ from rfl) (k:=j) (j:=9) hlt rfl (o:=j * 11+9) (by first|rfl|simp)
    obtain rfl:=cQ hl rc10 (show ([.i (q),.i (q+1),.i (q+1+1),.s (mt (q+1+1+1)),.i (q+1+1+1+1),.i (q+1+1+1+1+1),.i (q+1+1+1+1+1+1),.s (mt (q+1+1+1+1+1+1+1)),.l (ah mt (q+1+1+1+1+1+1+1+1) x8),.l x9,.l x10]:List D)[9]? = some (.l x9) from rfl)
    clear fc10 wc10 rc10
    go_wp2_with fail
    refine ((jaU mt hmt (wD (.l x9)+1)) _ Gc10 uc10 x9 (q+1+1+1+1+1+1+1+1+ad x8) (by omega) (by omega) (jcO _) (((H9.out).gl HG.out).less fun b h=>(sc10 b h).1) Dc10).mono ?_;rintro e wr10 ⟨rfl,hN10⟩
    have V10:=pc10 _ _ (fun b hb hg=>hN10.block b ((H9.out).deep.lt b hb) hg) hN10.deep
    rw [show setD (X.set j [.i (q),.i (q+1),.i (q+1+1),.s (mt (q+1+1+1)),.i (q+1+1+1+1),.i (q+1+1+1+1+1),.i (q+1+1+1+1+1+1),.s (mt (q+1+1+1+1+1+1+1)),.l (ah mt (q+1+1+1+1+1+1+1+1) x8),.l x9,.l x10]) j 9 (.l (ah mt (q+1+1+1+1+1+1+1+1+ad x8) x9))=X.set j [.i (q),.i (q+1),.i (q+1+1),.s (mt (q+1+1+1)),.i (q+1+1+1+1),.i (q+1+1+1+1+1),.i (q+1+1+1+1+1+1),.s (mt (q+1+1+1+1+1+1+1)),.l (ah mt (q+1+1+1+1+1+1+1+1) x8),.l (ah mt (q+1+1+1+1+1+1+1+1+ad x8) x9),.l x10] from aE hl] at V10
    have H10:=Lib.hid ((H9.out).call hN10 (fun b h=>(sc10 b h).1) V10)
    clear V10 hN10 Dc10 sc10 pc10 cc10
    obtain ⟨-,hF, -,uc11,dc11,Gc11,cc11,fc11,rc11,Dc11,sc11,pc11,wc11⟩:=DeepV.part H10.out.deep (show T 55=some _ from rfl) (k:=j) (j:=10) hlt rfl (o:=j * 11+10) (by first|rfl|simp)
    obtain rfl:=cQ hl rc11 (show ([.i (q),.i (q+1),.i (q+1+1),.s (mt (q+1+1+1)),.i (q+1+1+1+1),.i (q+1+1+1+1+1),.i (q+1+1+1+1+1+1),.s (mt (q+1+1+1+1+1+1+1)),.l (ah mt (q+1+1+1+1+1+1+1+1) x8),.l (ah mt (q+1+1+1+1+1+1+1+1+ad x8) x9),.l x10]:List D)[10]? = some (.l x10) from rfl)
    clear fc11 wc11 rc11
    go_wp2_with fail
    refine ((jaT mt (wD (.l x10)+1)) _ Gc11 uc11 x10 (q+1+1+1+1+1+1+1+1+ad x8+ad x9) (by omega) (by omega) (jcO _) (((H10.out).gl HG.out).less fun b h=>(sc11 b h).1) Dc11).mono ?_;rintro e wr11 ⟨rfl,hN11⟩
    have V11:=pc11 _ _ (fun b hb hg=>hN11.block b ((H10.out).deep.lt b hb) hg) hN11.deep
    rw [show setD (X.set j [.i (q),.i (q+1),.i (q+1+1),.s (mt (q+1+1+1)),.i (q+1+1+1+1),.i (q+1+1+1+1+1),.i (q+1+1+1+1+1+1),.s (mt (q+1+1+1+1+1+1+1)),.l (ah mt (q+1+1+1+1+1+1+1+1) x8),.l (ah mt (q+1+1+1+1+1+1+1+1+ad x8) x9),.l x10]) j 10 (.l (ah mt (q+1+1+1+1+1+1+1+1+ad x8+ad x9) x10))=X.set j [.i (q),.i (q+1),.i (q+1+1),.s (mt (q+1+1+1)),.i (q+1+1+1+1),.i (q+1+1+1+1+1),.i (q+1+1+1+1+1+1),.s (mt (q+1+1+1+1+1+1+1)),.l (ah mt (q+1+1+1+1+1+1+1+1) x8),.l (ah mt (q+1+1+1+1+1+1+1+1+ad x8) x9),.l (ah mt (q+1+1+1+1+1+1+1+1+ad x8+ad x9) x10)] from aE hl] at V11
    have H11:=Lib.hid ((H10.out).call hN11 (fun b h=>(sc11 b h).1) V11)
    clear V11 hN11 Dc11 sc11 pc11 cc11
    go_wp2
    rw [show X.set j [.i (q),.i (q+1),.i (q+1+1),.s (mt (q+1+1+1)),.i (q+1+1+1+1),.i (q+1+1+1+1+1),.i (q+1+1+1+1+1+1),.s (mt (q+1+1+1+1+1+1+1)),.l (ah mt (q+1+1+1+1+1+1+1+1) x8),.l (ah mt (q+1+1+1+1+1+1+1+1+ad x8) x9),.l (ah mt (q+1+1+1+1+1+1+1+1+ad x8+ad x9) x10)]=mkAt mt k rows (j+1) from hmk] at H11
    exact ⟨⟨j+1,hlt,by go_num,congrArg (Value.int IntKind.i64) (by omega),H11.out⟩,by simp [Go.RowKit.intOf];omega⟩
  · have nlt:¬ (j:Int) < (rows.length:Int):=by omega
    have ht:rows.take j=rows:=jcr (by omega)
    have ha:=d7 (mt:=mt) (k:=k) (a:=rows) (i:=j) (by omega)
    go_wp2
    go_ret
    exact ⟨rfl,by rw [← ha];exact HE0.out⟩
theorem mk_16 (mt:Int→ByteArray) (hmt:FOk Tryz.prog T 40 (spMT mt)) (n:Nat):MkOk Tryz.prog T mt 16 29 n:=by
 intro w F v rows k hk hb hn hgl hD
 obtain ⟨A,c,rfl⟩:=hD.slice
 have HD:=Lib.hid hD
 have HG:=Lib.hid hgl
 have hs:=hD.short
 simp only [maxLen] at hs
 clear hD hgl
 go_enter Tryz.func16,Tryz.ntmps16
 go_wp2_with fail
 go_loopw [1,5] (fun q i wr=>∃ j:Nat,j≤rows.length∧i=.int .i64 j∧q=.int .i64 (k+ad (rows.take j))∧MkEnd T w wr F 29 (.slice A rows.length c) (mkAt mt k rows j)) (fun _ i _=>rows.length - (intOf i).toNat)
 case atStart=>exact ⟨0,jbP _,rfl,by simp [ad],by rw [dh];exact MkEnd.refl HD.out⟩
 case round =>
  obtain ⟨j,hj,rfl,rfl,hE⟩:=hrel
  have HE0:=Lib.hid hE
  clear hE
  by_cases hlt:j < rows.length
  · obtain ⟨g,rfl⟩:=HD.out.some (by omega)
    have q0:(0:Int)≤(j:Int):=by omega
    have q1:(j:Int) < (rows.length:Int):=by omega
    obtain ⟨x0,r0,hr,hr0⟩:=WfRow.int_ (HD.out.row (show T 29=some _ from rfl) hlt)
    obtain ⟨x1,r1,rfl,hr1⟩:=WfRow.int_ hr0
    obtain ⟨x2,r2,rfl,hr2⟩:=WfRow.int_ hr1
    obtain ⟨x3,r3,rfl,hr3⟩:=WfRow.sl_ hr2
    obtain ⟨x4,r4,rfl,hr4⟩:=WfRow.int_ hr3
    obtain ⟨x5,r5,rfl,hr5⟩:=WfRow.int_ hr4
    obtain ⟨x6,r6,rfl,hr6⟩:=WfRow.int_ hr5
    obtain ⟨x7,r7,rfl,hr7⟩:=WfRow.int_ hr6
    obtain ⟨x8,r8,rfl,hr8⟩:=WfRow.int_ hr7
    obtain ⟨x9,r9,rfl,hr9⟩:=WfRow.str_ hr8
    obtain ⟨x10,r10,rfl,hr10⟩:=WfRow.str_ hr9
    obtain ⟨x11,r11,rfl,hr11⟩:=WfRow.int_ hr10
    obtain ⟨x12,r12,rfl,hr12⟩:=WfRow.str_ hr11
    obtain ⟨x13,r13,rfl,hr13⟩:=WfRow.str_ hr12
    obtain ⟨x14,r14,rfl,hr14⟩:=WfRow.int_ hr13
    obtain ⟨x15,r15,rfl,hr15⟩:=WfRow.int_ hr14
    obtain ⟨x16,r16,rfl,hr16⟩:=WfRow.sl_ hr15
    obtain rfl:=hr16.end_
    clear hr16
    have hc:=bd hlt
    have hc2:=bP rows (j+1)
    rw [hr] at hc
    have hc3:cRow [.i x0,.i x1,.i x2,.l x3,.i x4,.i x5,.i x6,.i x7,.i x8,.s x9,.s x10,.i x11,.s x12,.s x13,.i x14,.i x15,.l x16]=1+(1+(1+(ad x3+(1+(1+(1+(1+(1+(1+(1+(1+(1+(1+(1+(1+(ad x16+0)))))))))))))))):=rfl
    have hq0:1≤k+ad (rows.take j):=by omega
    have hq1:k+ad (rows.take j)+cRow [.i x0,.i x1,.i x2,.l x3,.i x4,.i x5,.i x6,.i x7,.i x8,.s x9,.s x10,.i x11,.s x12,.s x13,.i x14,.i x15,.l x16]≤4611686018427387904:=by omega
    rw [hc3] at hq1
    have hmk:=di (mt:=mt) (k:=k) hlt (Eq.symm (congrArg (gT mt (k+ad (rows.take j))) hr))
    have hX:=(dZ (mt:=mt) (k:=k) hlt).trans hr
    have hl:j < (mkAt mt k rows j).length:=by rw [b8];exact hlt
    have hnext:k+(ad (rows.take (j+1)):Int)=k+ad (rows.take j)+cRow [.i x0,.i x1,.i x2,.l x3,.i x4,.i x5,.i x6,.i x7,.i x8,.s x9,.s x10,.i x11,.s x12,.s x13,.i x14,.i x15,.l x16]:=by omega
    rw [hc3] at hnext
    obtain ⟨X,hXX⟩:∃ X,mkAt mt k rows j=X:=⟨_,rfl⟩
    rw [hXX] at hX hl hmk HE0
    obtain ⟨q,hq⟩:∃ q,k+(ad (rows.take j):Int)=q:=⟨_,rfl⟩
    rw [hq] at hq0 hq1 hmk hnext ⊢
    have hm3:wD (.l x3) < wD (.l rows):=bJ hlt (j:=3) (by rw [hr];rfl)
    have hm16:wD (.l x16) < wD (.l rows):=bJ hlt (j:=16) (by rw [hr];rfl)
    clear hc hc2 hXX hc3
    obtain ⟨-,hF, -,ub1,db1,Gb1,cb1,fb1,rb1,Db1,sb1,pb1,wb1⟩:=DeepV.part HE0.out.deep (show T 29=some _ from rfl) (k:=j) (j:=0) hlt rfl (o:=j * 17) (by first|rfl|simp)
    have V1:=wb1 (fun e h=>by cases h) (.int .i64 (q)) (.i (q)) (.int _ _ (aU (by omega) (by omega)))
    rw [show setD X j 0 (.i (q))=X.set j [.i (q),.i x1,.i x2,.l x3,.i x4,.i x5,.i x6,.i x7,.i x8,.s x9,.s x10,.i x11,.s x12,.s x13,.i x14,.i x15,.l x16] from dU hX] at V1
    have H1:=Lib.hid ((HE0.out).store hF V1)
    clear V1 rb1 Db1 sb1 pb1 wb1
    obtain ⟨-,hF, -,ub2,db2,Gb2,cb2,fb2,rb2,Db2,sb2,pb2,wb2⟩:=DeepV.part HE0.out.deep (show T 29=some _ from rfl) (k:=j) (j:=1) hlt rfl (o:=j * 17+1) (by first|rfl|simp)
    obtain ⟨-,hF, -,uc2,dc2,Gc2,cc2,fc2,rc2,Dc2,sc2,pc2,wc2⟩:=DeepV.part H1.out.deep (show T 29=some _ from rfl) (k:=j) (j:=1) hlt rfl (o:=j * 17+1) (by first|rfl|simp)
    have V2:=wc2 (fun e h=>by cases h) (.int .i64 (q+1)) (.i (q+1)) (.int _ _ (aU (by omega) (by omega)))
    rw [show setD (X.set j [.i (q),.i x1,.i x2,.l x3,.i x4,.i x5,.i x6,.i x7,.i x8,.s x9,.s x10,.i x11,.s x12,.s x13,.i x14,.i x15,.l x16]) j 1 (.i (q+1))=X.set j [.i (q),.i (q+1),.i x2,.l x3,.i x4,.i x5,.i x6,.i x7,.i x8,.s x9,.s x10,.i x11,.s x12,.s x13,.i x14,.i x15,.l x16] from aE hl] at V2
    have H2:=Lib.hid ((H1.out).store hF V2)
    clear V2 rb2 Db2 sb2 pb2 wb2 rc2 Dc2 sc2 pc2 wc2 cc2 fc2
    obtain ⟨-,hF, -,ub3,db3,Gb3,cb3,fb3,rb3,Db3,sb3,pb3,wb3⟩:=DeepV.part HE0.out.deep (show T 29=some _ from rfl) (k:=j) (j:=2) hlt rfl (o:=j * 17+2) (by first|rfl|simp)
    obtain ⟨-,hF, -,uc3,dc3,Gc3,cc3,fc3,rc3,Dc3,sc3,pc3,wc3⟩:=DeepV.part H2.out.deep (show T 29=some _ from rfl) (k:=j) (j:=2) hlt rfl (o:=j * 17+2) (by first|rfl|simp)
    have V3:=wc3 (fun e h=>by cases h) (.int .i64 (q+1+1)) (.i (q+1+1)) (.int _ _ (aU (by omega) (by omega)))
    rw [show setD (X.set j [.i (q),.i (q+1),.i x2,.l x3,.i x4,.i x5,.i x6,.i x7,.i x8,.s x9,.s x10,.i x11,.s x12,.s x13,.i x14,.i x15,.l x16]) j 2 (.i (q+1+1))=X.set j [.i (q),.i (q+1),.i (q+1+1),.l x3,.i x4,.i x5,.i x6,.i x7,.i x8,.s x9,.s x10,.i x11,.s x12,.s x13,.i x14,.i x15,.l x16] from aE hl] at V3
    have H3:=Lib.hid ((H2.out).store hF V3)
    clear V3 rb3 Db3 sb3 pb3 wb3 rc3 Dc3 sc3 pc3 wc3 cc3 fc3
    obtain ⟨-,hF, -,uc4,dc4,Gc4,cc4,fc4,rc4,Dc4,sc4,pc4,wc4⟩:=DeepV.part H3.out.deep (show T 29=some _ from rfl) (k:=j) (j:=3) hlt rfl (o:=j * 17+3) (by first|rfl|simp)
    obtain rfl:=cQ hl rc4 (show ([.i (q),.i (q+1),.i (q+1+1),.l x3,.i x4,.i x5,.i x6,.i x7,.i x8,.s x9,.s x10,.i x11,.s x12,.s x13,.i x14,.i x15,.l x16]:List D)[3]? = some (.l x3) from rfl)
    rw [World.cell?_setCell_other _ _ _ _ (by intro h;simp only [Addr.mk.injEq] at h;omega),World.cell?_setCell_other _ _ _ _ (by intro h;simp only [Addr.mk.injEq] at h;omega),World.cell?_setCell_other _ _ _ _ (by intro h;simp only [Addr.mk.injEq] at h;omega)] at cc4
    clear fc4 wc4 rc4
    go_wp2_with fail
    refine ((yh mt (wD (.l x3)+1)) _ Gc4 uc4 x3 (q+1+1+1) (by omega) (by omega) (jcO _) (((H3.out).gl HG.out).less fun b h=>(sc4 b h).1) Dc4).mono ?_;rintro e wr4 ⟨rfl,hN4⟩
    have V4:=pc4 _ _ (fun b hb hg=>hN4.block b ((H3.out).deep.lt b hb) hg) hN4.deep
    rw [show setD (X.set j [.i (q),.i (q+1),.i (q+1+1),.l x3,.i x4,.i x5,.i x6,.i x7,.i x8,.s x9,.s x10,.i x11,.s x12,.s x13,.i x14,.i x15,.l x16]) j 3 (.l (ah mt (q+1+1+1) x3))=X.set j [.i (q),.i (q+1),.i (q+1+1),.l (ah mt (q+1+1+1) x3),.i x4,.i x5,.i x6,.i x7,.i x8,.s x9,.s x10,.i x11,.s x12,.s x13,.i x14,.i x15,.l x16] from aE hl] at V4
    have H4:=Lib.hid ((H3.out).call hN4 (fun b h=>(sc4 b h).1) V4)
    clear V4 hN4 Dc4 sc4 pc4 cc4
    obtain ⟨-,hF, -,ub5,db5,Gb5,cb5,fb5,rb5,Db5,sb5,pb5,wb5⟩:=DeepV.part H4.out.deep (show T 29=some _ from rfl) (k:=j) (j:=4) hlt rfl (o:=j * 17+4) (by first|rfl|simp)
    have V5:=wb5 (fun e h=>by cases h) (.int .i64 (q+1+1+1+ad x3)) (.i (q+1+1+1+ad x3)) (.int _ _ (aU (by omega) (by omega)))
    rw [show setD (X.set j [.i (q),.i (q+1),.i (q+1+1),.l (ah mt (q+1+1+1) x3),.i x4,.i x5,.i x6,.i x7,.i x8,.s x9,.s x10,.i x11,.s x12,.s x13,.i x14,.i x15,.l x16]) j 4 (.i (q+1+1+1+ad x3))=X.set j [.i (q),.i (q+1),.i (q+1+1),.l (ah mt (q+1+1+1) x3),.i (q+1+1+1+ad x3),.i x5,.i x6,.i x7,.i x8,.s x9,.s x10,.i x11,.s x12,.s x13,.i x14,.i x15,.l x16] from aE hl] at V5
    have H5:=Lib.hid ((H4.out).store hF V5)
    clear V5 rb5 Db5 sb5 pb5 wb5
    obtain ⟨-,hF, -,ub6,db6,Gb6,cb6,fb6,rb6,Db6,sb6,pb6,wb6⟩:=DeepV.part H4.out.deep (show T 29=some _ from rfl) (k:=j) (j:=5) hlt rfl (o:=j * 17+5) (by first|rfl|simp)
    obtain ⟨-,hF, -,uc6,dc6,Gc6,cc6,fc6,rc6,Dc6,sc6,pc6,wc6⟩:=DeepV.part H5.out.deep (show T 29=some _ from rfl) (k:=j) (j:=5) hlt rfl (o:=j * 17+5) (by first|rfl|simp)
    have V6:=wc6 (fun e h=>by cases h) (.int .i64 (q+1+1+1+ad x3+1)) (.i (q+1+1+1+ad x3+1)) (.int _ _ (aU (by omega) (by omega)))
    rw [show setD (X.set j [.i (q),.i (q+1),.i (q+1+1),.l (ah mt (q+1+1+1) x3),.i (q+1+1+1+ad x3),.i x5,.i x6,.i x7,.i x8,.s x9,.s x10,.i x11,.s x12,.s x13,.i x14,.i x15,.l x16]) j 5 (.i (q+1+1+1+ad x3+1))=X.set j [.i (q),.i (q+1),.i (q+1+1),.l (ah mt (q+1+1+1) x3),.i (q+1+1+1+ad x3),.i (q+1+1+1+ad x3+1),.i x6,.i x7,.i x8,.s x9,.s x10,.i x11,.s x12,.s x13,.i x14,.i x15,.l x16] from aE hl] at V6
    have H6:=Lib.hid ((H5.out).store hF V6)
    clear V6 rb6 Db6 sb6 pb6 wb6 rc6 Dc6 sc6 pc6 wc6 cc6 fc6
    obtain ⟨-,hF, -,ub7,db7,Gb7,cb7,fb7,rb7,Db7,sb7,pb7,wb7⟩:=DeepV.part H4.out.deep (show T 29=some _ from rfl) (k:=j) (j:=6) hlt rfl (o:=j * 17+6) (by first|rfl|simp)
    obtain ⟨-,hF, -,uc7,dc7,Gc7,cc7,fc7,rc7,Dc7,sc7,pc7,wc7⟩:=DeepV.part H6.out.deep (show T 29=some _ from rfl) (k:=j) (j:=6) hlt rfl (o:=j * 17+6) (by first|rfl|simp)
    have V7:=wc7 (fun e h=>by cases h) (.int .i64 (q+1+1+1+ad x3+1+1)) (.i (q+1+1+1+ad x3+1+1)) (.int _ _ (aU (by omega) (by omega)))
    rw [show setD (X.set j [.i (q),.i (q+1),.i (q+1+1),.l (ah mt (q+1+1+1) x3),.i (q+1+1+1+ad x3),.i (q+1+1+1+ad x3+1),.i x6,.i x7,.i x8,.s x9,.s x10,.i x11,.s x12,.s x13,.i x14,.i x15,.l x16]) j 6 (.i (q+1+1+1+ad x3+1+1))=X.set j [.i (q),.i (q+1),.i (q+1+1),.l (ah mt (q+1+1+1) x3),.i (q+1+1+1+ad x3),.i (q+1+1+1+ad x3+1),.i (q+1+1+1+ad x3+1+1),.i x7,.i x8,.s x9,.s x10,.i x11,.s x12,.s x13,.i x14,.i x15,.l x16] from aE hl] at V7
    have H7:=Lib.hid ((H6.out).store hF V7)
    clear V7 rb7 Db7 sb7 pb7 wb7 rc7 Dc7 sc7 pc7 wc7 cc7 fc7
    obtain ⟨-,hF, -,ub8,db8,Gb8,cb8,fb8,rb8,Db8,sb8,pb8,wb8⟩:=DeepV.part H4.out.deep (show T 29=some _ from rfl) (k:=j) (j:=7) hlt rfl (o:=j * 17+7) (by first|rfl|simp)
    obtain ⟨-,hF, -,uc8,dc8,Gc8,cc8,fc8,rc8,Dc8,sc8,pc8,wc8⟩:=DeepV.part H7.out.deep (show T 29=some _ from rfl) (k:=j) (j:=7) hlt rfl (o:=j * 17+7) (by first|rfl|simp)
    have V8:=wc8 (fun e h=>by cases h) (.int .i64 (q+1+1+1+ad x3+1+1+1)) (.i (q+1+1+1+ad x3+1+1+1)) (.int _ _ (aU (by omega) (by omega)))
    rw [show setD (X.set j [.i (q),.i (q+1),.i (q+1+1),.l (ah mt (q+1+1+1) x3),.i (q+1+1+1+ad x3),.i (q+1+1+1+ad x3+1),.i (q+1+1+1+ad x3+1+1),.i x7,.i x8,.s x9,.s x10,.i x11,.s x12,.s x13,.i x14,.i x15,.l x16]) j 7 (.i (q+1+1+1+ad x3+1+1+1))=X.set j [.i (q),.i (q+1),.i (q+1+1),.l (ah mt (q+1+1+1) x3),.i (q+1+1+1+ad x3),.i (q+1+1+1+ad x3+1),.i (q+1+1+1+ad x3+1+1),.i (q+1+1+1+ad x3+1+1+1),.i x8,.s x9,.s x10,.i x11,.s x12,.s x13,.i x14,.i x15,.l x16] from aE hl] at V8
    have H8:=Lib.hid ((H7.out).store hF V8)
    clear V8 rb8 Db8 sb8 pb8 wb8 rc8 Dc8 sc8 pc8 wc8 cc8 fc8
    obtain ⟨-,hF, -,ub9,db9,Gb9,cb9,fb9,rb9,Db9,sb9,pb9,wb9⟩:=DeepV.part H4.out.deep (show T 29=some _ from rfl) (k:=j) (j:=8) hlt rfl (o:=j * 17+8) (by first|rfl|simp)
    obtain ⟨-,hF, -,uc9,dc9,Gc9,cc9,fc9,rc9,Dc9,sc9,pc9,wc9⟩:=DeepV.part H8.out.deep (show T 29=some _ from rfl) (k:=j) (j:=8) hlt rfl (o:=j * 17+8) (by first|rfl|simp)
    have V9:=wc9 (fun e h=>by cases h) (.int .i64 (q+1+1+1+ad x3+1+1+1+1)) (.i (q+1+1+1+ad x3+1+1+1+1)) (.int _ _ (aU (by omega) (by omega)))
    rw [show setD (X.set j [.i (q),.i (q+1),.i (q+1+1),.l (ah mt (q+1+1+1) x3),.i (q+1+1+1+ad x3),.i (q+1+1+1+ad x3+1),.i (q+1+1+1+ad x3+1+1),.i (q+1+1+1+ad x3+1+1+1),.i x8,.s x9,.s x10,.i x11,.s x12,.s x13,.i x14,.i x15,.l x16]) j 8 (.i (q+1+1+1+ad x3+1+1+1+1))=X.set j [.i (q),.i (q+1),.i (q+1+1),.l (ah mt (q+1+1+1) x3),.i (q+1+1+1+ad x3),.i (q+1+1+1+ad x3+1),.i (q+1+1+1+ad x3+1+1),.i (q+1+1+1+ad x3+1+1+1),.i (q+1+1+1+ad x3+1+1+1+1),.s x9,.s x10,.i x11,.s x12,.s x13,.i x14,.i x15,.l x16] from aE hl] at V9
    have H9:=Lib.hid ((H8.out).store hF V9)
    clear V9 rb9 Db9 sb9 pb9 wb9 rc9 Dc9 sc9 pc9 wc9 cc9 fc9
    go_wp2_with fail
    refine (hmt.mark (H9.out).deep.lt ((H9.out).gl HG.out) (k:=q+1+1+1+ad x3+1+1+1+1+1) (by omega) (by omega)).mono ?_;rintro e wr10 ⟨rfl,hsz10,hb10⟩
    have H10:=Lib.hid ((H9.out).below hb10)
    clear hb10
    obtain ⟨-,hF, -,ub10,db10,Gb10,cb10,fb10,rb10,Db10,sb10,pb10,wb10⟩:=DeepV.part H10.out.deep (show T 29=some _ from rfl) (k:=j) (j:=9) hlt rfl (o:=j * 17+9) (by first|rfl|simp)
    have V10:=wb10 (fun e h=>by cases h) (.string (mt (q+1+1+1+ad x3+1+1+1+1+1))) (.s (mt (q+1+1+1+ad x3+1+1+1+1+1))) (.str _ hsz10)
    rw [show setD (X.set j [.i (q),.i (q+1),.i (q+1+1),.l (ah mt (q+1+1+1) x3),.i (q+1+1+1+ad x3),.i (q+1+1+1+ad x3+1),.i (q+1+1+1+ad x3+1+1),.i (q+1+1+1+ad x3+1+1+1),.i (q+1+1+1+ad x3+1+1+1+1),.s x9,.s x10,.i x11,.s x12,.s x13,.i x14,.i x15,.l x16]) j 9 (.s (mt (q+1+1+1+ad x3+1+1+1+1+1)))=X.set j [.i (q),.i (q+1),.i (q+1+1),.l (ah mt (q+1+1+1) x3),.i (q+1+1+1+ad x3),.i (q+1+1+1+ad x3+1),.i (q+1+1+1+ad x3+1+1),.i (q+1+1+1+ad x3+1+1+1),.i (q+1+1+1+ad x3+1+1+1+1),.s (mt (q+1+1+1+ad x3+1+1+1+1+1)),.s x10,.i x11,.s x12,.s x13,.i x14,.i x15,.l x16] from aE hl] at V10
    have K10:=Lib.hid ((H10.out).store hF V10)
    clear V10 rb10 Db10 sb10 pb10 wb10
    go_wp2_with fail
    refine (hmt.mark (K10.out).deep.lt ((K10.out).gl HG.out) (k:=q+1+1+1+ad x3+1+1+1+1+1+1) (by omega) (by omega)).mono ?_;rintro e wr11 ⟨rfl,hsz11,hb11⟩
    have H11:=Lib.hid ((K10.out).below hb11)
    clear hb11
    obtain ⟨-,hF, -,ub11,db11,Gb11,cb11,fb11,rb11,Db11,sb11,pb11,wb11⟩:=DeepV.part H11.out.deep (show T 29=some _ from rfl) (k:=j) (j:=10) hlt rfl (o:=j * 17+10) (by first|rfl|simp)
    have V11:=wb11 (fun e h=>by cases h) (.string (mt (q+1+1+1+ad x3+1+1+1+1+1+1))) (.s (mt (q+1+1+1+ad x3+1+1+1+1+1+1))) (.str _ hsz11)
    rw [show setD (X.set j [.i (q),.i (q+1),.i (q+1+1),.l (ah mt (q+1+1+1) x3),.i (q+1+1+1+ad x3),.i (q+1+1+1+ad x3+1),.i (q+1+1+1+ad x3+1+1),.i (q+1+1+1+ad x3+1+1+1),.i (q+1+1+1+ad x3+1+1+1+1),.s (mt (q+1+1+1+ad x3+1+1+1+1+1)),.s x10,.i x11,.s x12,.s x13,.i x14,.i x15,.l x16]) j 10 (.s (mt (q+1+1+1+ad x3+1+1+1+1+1+1)))=X.set j [.i (q),.i (q+1),.i (q+1+1),.l (ah mt (q+1+1+1) x3),.i (q+1+1+1+ad x3),.i (q+1+1+1+ad x3+1),.i (q+1+1+1+ad x3+1+1),.i (q+1+1+1+ad x3+1+1+1),.i (q+1+1+1+ad x3+1+1+1+1),.s (mt (q+1+1+1+ad x3+1+1+1+1+1)),.s (mt (q+1+1+1+ad x3+1+1+1+1+1+1)),.i x11,.s x12,.s x13,.i x14,.i x15,.l x16] from aE hl] at V11
    have K11:=Lib.hid ((H11.out).store hF V11)
    clear V11 rb11 Db11 sb11 pb11 wb11
    obtain ⟨-,hF, -,ub12,db12,Gb12,cb12,fb12,rb12,Db12,sb12,pb12,wb12⟩:=DeepV.part H11.out.deep (show T 29=some _ from rfl) (k:=j) (j:=11) hlt rfl (o:=j * 17+11) (by first|rfl|simp)
    obtain ⟨-,hF, -,uc12,dc12,Gc12,cc12,fc12,rc12,Dc12,sc12,pc12,wc12⟩:=DeepV.part K11.out.deep (show T 29=some _ from rfl) (k:=j) (j:=11) hlt rfl (o:=j * 17+11) (by first|rfl|simp)
    have V12:=wc12 (fun e h=>by cases h) (.int .i64 (q+1+1+1+ad x3+1+1+1+1+1+1+1)) (.i (q+1+1+1+ad x3+1+1+1+1+1+1+1)) (.int _ _ (aU (by omega) (by omega)))
    rw [show setD (X.set j [.i (q),.i (q+1),.i (q+1+1),.l (ah mt (q+1+1+1) x3),.i (q+1+1+1+ad x3),.i (q+1+1+1+ad x3+1),.i (q+1+1+1+ad x3+1+1),.i (q+1+1+1+ad x3+1+1+1),.i (q+1+1+1+ad x3+1+1+1+1),.s (mt (q+1+1+1+ad x3+1+1+1+1+1)),.s (mt (q+1+1+1+ad x3+1+1+1+1+1+1)),.i x11,.s x12,.s x13,.i x14,.i x15,.l x16]) j 11 (.i (q+1+1+1+ad x3+1+1+1+1+1+1+1))=X.set j [.i (q),.i (q+1),.i (q+1+1),.l (ah mt (q+1+1+1) x3),.i (q+1+1+1+ad x3),.i (q+1+1+1+ad x3+1),.i (q+1+1+1+ad x3+1+1),.i (q+1+1+1+ad x3+1+1+1),.i (q+1+1+1+ad x3+1+1+1+1),.s (mt (q+1+1+1+ad x3+1+1+1+1+1)),.s (mt (q+1+1+1+ad x3+1+1+1+1+1+1)),.i (q+1+1+1+ad x3+1+1+1+1+1+1+1),.s x12,.s x13,.i x14,.i x15,.l x16] from aE hl] at V12
    have H12:=Lib.hid ((K11.out).store hF V12)
    clear V12 rb12 Db12 sb12 pb12 wb12 rc12 Dc12 sc12 pc12 wc12 cc12 fc12
    go_wp2_with fail
    refine (hmt.mark (H12.out).deep.lt ((H12.out).gl HG.out) (k:=q+1+1+1+ad x3+1+1+1+1+1+1+1+1) (by omega) (by omega)).mono ?_;rintro e wr13 ⟨rfl,hsz13,hb13⟩
    have H13:=Lib.hid ((H12.out).below hb13)
    clear hb13
    obtain ⟨-,hF, -,ub13,db13,Gb13,cb13,fb13,rb13,Db13,sb13,pb13,wb13⟩:=DeepV.part H13.out.deep (show T 29=some _ from rfl) (k:=j) (j:=12) hlt rfl (o:=j * 17+12) (by first|rfl|simp)
    have V13:=wb13 (fun e h=>by cases h) (.string (mt (q+1+1+1+ad x3+1+1+1+1+1+1+1+1))) (.s (mt (q+1+1+1+ad x3+1+1+1+1+1+1+1+1))) (.str _ hsz13)
    rw [show setD (X.set j [.i (q),.i (q+1),.i (q+1+1),.l (ah mt (q+1+1+1) x3),.i (q+1+1+1+ad x3),.i (q+1+1+1+ad x3+1),.i (q+1+1+1+ad x3+1+1),.i (q+1+1+1+ad x3+1+1+1),.i (q+1+1+1+ad x3+1+1+1+1),.s (mt (q+1+1+1+ad x3+1+1+1+1+1)),.s (mt (q+1+1+1+ad x3+1+1+1+1+1+1)),.i (q+1+1+1+ad x3+1+1+1+1+1+1+1),.s x12,.s x13,.i x14,.i x15,.l x16]) j 12 (.s (mt (q+1+1+1+ad x3+1+1+1+1+1+1+1+1)))=X.set j [.i (q),.i (q+1),.i (q+1+1),.l (ah mt (q+1+1+1) x3),.i (q+1+1+1+ad x3),.i (q+1+1+1+ad x3+1),.i (q+1+1+1+ad x3+1+1),.i (q+1+1+1+ad x3+1+1+1),.i (q+1+1+1+ad x3+1+1+1+1),.s (mt (q+1+1+1+ad x3+1+1+1+1+1)),.s (mt (q+1+1+1+ad x3+1+1+1+1+1+1)),.i (q+1+1+1+ad x3+1+1+1+1+1+1+1),.s (mt (q+1+1+1+ad x3+1+1+1+1+1+1+1+1)),.s x13,.i x14,.i x15,.l x16] from aE hl] at V13
    have K13:=Lib.hid ((H13.out).store hF V13)
    clear V13 rb13 Db13 sb13 pb13 wb13
    go_wp2_with fail
    refine (hmt.mark (K13.out).deep.lt ((K13.out).gl HG.out) (k:=q+1+1+1+ad x3+1+1+1+1+1+1+1+1+1) (by omega) (by omega)).mono ?_;rintro e wr14 ⟨rfl,hsz14,hb14⟩
    have H14:=Lib.hid ((K13.out).below hb14)
    clear hb14
    obtain ⟨-,hF, -,ub14,db14,Gb14,cb14,fb14,rb14,Db14,sb14,pb14,wb14⟩:=DeepV.part H14.out.deep (show T 29=some _ from rfl) (k:=j) (j:=13) hlt rfl (o:=j * 17+13) (by first|rfl|simp)
    have V14:=wb14 (fun e h=>by cases h) (.string (mt (q+1+1+1+ad x3+1+1+1+1+1+1+1+1+1))) (.s (mt (q+1+1+1+ad x3+1+1+1+1+1+1+1+1+1))) (.str _ hsz14)
    rw [show setD (X.set j [.i (q),.i (q+1),.i (q+1+1),.l (ah mt (q+1+1+1) x3),.i (q+1+1+1+ad x3),.i (q+1+1+1+ad x3+1),.i (q+1+1+1+ad x3+1+1),.i (q+1+1+1+ad x3+1+1+1),.i (q+1+1+1+ad x3+1+1+1+1),.s (mt (q+1+1+1+ad x3+1+1+1+1+1)),.s (mt (q+1+1+1+ad x3+1+1+1+1+1+1)),.i (q+1+1+1+ad x3+1+1+1+1+1+1+1),.s (mt (q+1+1+1+ad x3+1+1+1+1+1+1+1+1)),.s x13,.i x14,.i x15,.l x16]) j 13 (.s (mt (q+1+1+1+ad x3+1+1+1+1+1+1+1+1+1)))=X.set j [.i (q),.i (q+1),.i (q+1+1),.l (ah mt (q+1+1+1) x3),.i (q+1+1+1+ad x3),.i (q+1+1+1+ad x3+1),.i (q+1+1+1+ad x3+1+1),.i (q+1+1+1+ad x3+1+1+1),.i (q+1+1+1+ad x3+1+1+1+1),.s (mt (q+1+1+1+ad x3+1+1+1+1+1)),.s (mt (q+1+1+1+ad x3+1+1+1+1+1+1)),.i (q+1+1+1+ad x3+1+1+1+1+1+1+1),.s (mt (q+1+1+1+ad x3+1+1+1+1+1+1+1+1)),.s (mt (q+1+1+1+ad x3+1+1+1+1+1+1+1+1+1)),.i x14,.i x15,.l x16] from aE hl] at V14
    have K14:=Lib.hid ((H14.out).store hF V14)
    clear V14 rb14 Db14 sb14 pb14 wb14
    obtain ⟨-,hF, -,ub15,db15,Gb15,cb15,fb15,rb15,Db15,sb15,pb15,wb15⟩:=DeepV.part H14.out.deep (show T 29=some _ from rfl) (k:=j) (j:=14) hlt rfl (o:=j * 17+14) (by first|rfl|simp)
    obtain ⟨-,hF, -,uc15,dc15,Gc15,cc15,fc15,rc15,Dc15,sc15,pc15,wc15⟩:=DeepV.part K14.out.deep (show T 29=some _ from rfl) (k:=j) (j:=14) hlt rfl (o:=j * 17+14) (by first|rfl|simp)
    have V15:=wc15 (fun e h=>by cases h) (.int .i64 (q+1+1+1+ad x3+1+1+1+1+1+1+1+1+1+1)) (.i (q+1+1+1+ad x3+1+1+1+1+1+1+1+1+1+1)) (.int _ _ (aU (by omega) (by omega)))
    rw [show setD (X.set j [.i (q),.i (q+1),.i (q+1+1),.l (ah mt (q+1+1+1) x3),.i (q+1+1+1+ad x3),.i (q+1+1+1+ad x3+1),.i (q+1+1+1+ad x3+1+1),.i (q+1+1+1+ad x3+1+1+1),.i (q+1+1+1+ad x3+1+1+1+1),.s (mt (q+1+1+1+ad x3+1+1+1+1+1)),.s (mt (q+1+1+1+ad x3+1+1+1+1+1+1)),.i (q+1+1+1+ad x3+1+1+1+1+1+1+1),.s (mt (q+1+1+1+ad x3+1+1+1+1+1+1+1+1)),.s (mt (q+1+1+1+ad x3+1+1+1+1+1+1+1+1+1)),.i x14,.i x15,.l x16]) j 14 (.i (q+1+1+1+ad x3+1+1+1+1+1+1+1+1+1+1))=X.set j [.i (q),.i (q+1),.i (q+1+1),.l (ah mt (q+1+1+1) x3),.i (q+1+1+1+ad x3),.i (q+1+1+1+ad x3+1),.i (q+1+1+1+ad x3+1+1),.i (q+1+1+1+ad x3+1+1+1),.i (q+1+1+1+ad x3+1+1+1+1),.s (mt (q+1+1+1+ad x3+1+1+1+1+1)),.s (mt (q+1+1+1+ad x3+1+1+1+1+1+1)),.i (q+1+1+1+ad x3+1+1+1+1+1+1+1),.s (mt (q+1+1+1+ad x3+1+1+1+1+1+1+1+1)),.s (mt (q+1+1+1+ad x3+1+1+1+1+1+1+1+1+1)),.i (q+1+1+1+ad x3+1+1+1+1+1+1+1+1+1+1),.i x15,.l x16] from aE hl] at V15
    have H15:=Lib.hid ((K14.out).store hF V15)
    clear V15 rb15 Db15 sb15 pb15 wb15 rc15 Dc15 sc15 pc15 wc15 cc15 fc15
    obtain ⟨-,hF, -,ub16,db16,Gb16,cb16,fb16,rb16,Db16,sb16,pb16,wb16⟩:=DeepV.part H14.out.deep (show T 29=some _ from rfl) (k:=j) (j:=15) hlt rfl (o:=j * 17+15) (by first|rfl|simp)
    obtain ⟨-,hF, -,uc16,dc16,Gc16,cc16,fc16,rc16,Dc16,sc16,pc16,wc16⟩:=DeepV.part H15.out.deep (show T 29=some _ from rfl) (k:=j) (j:=15) hlt rfl (o:=j * 17+15) (by first|rfl|simp)
    have V16:=wc16 (fun e h=>by cases h) (.int .i64 (q+1+1+1+ad x3+1+1+1+1+1+1+1+1+1+1+1)) (.i (q+1+1+1+ad x3+1+1+1+1+1+1+1+1+1+1+1)) (.int _ _ (aU (by omega) (by omega)))
    rw [show setD (X.set j [.i (q),.i (q+1),.i (q+1+1),.l (ah mt (q+1+1+1) x3),.i (q+1+1+1+ad x3),.i (q+1+1+1+ad x3+1),.i (q+1+1+1+ad x3+1+1),.i (q+1+1+1+ad x3+1+1+1),.i (q+1+1+1+ad x3+1+1+1+1),.s (mt (q+1+1+1+ad x3+1+1+1+1+1)),.s (mt (q+1+1+1+ad x3+1+1+1+1+1+1)),.i (q+1+1+1+ad x3+1+1+1+1+1+1+1),.s (mt (q+1+1+1+ad x3+1+1+1+1+1+1+1+1)),.s (mt (q+1+1+1+ad x3+1+1+1+1+1+1+1+1+1)),.i (q+1+1+1+ad x3+1+1+1+1+1+1+1+1+1+1),.i x15,.l x16]) j 15 (.i (q+1+1+1+ad x3+1+1+1+1+1+1+1+1+1+1+1))=X.set j [.i (q),.i (q+1),.i (q+1+1),.l (ah mt (q+1+1+1) x3),.i (q+1+1+1+ad x3),.i (q+1+1+1+ad x3+1),.i (q+1+1+1+ad x3+1+1),.i (q+1+1+1+ad x3+1+1+1),.i (q+1+1+1+ad x3+1+1+1+1),.s (mt (q+1+1+1+ad x3+1+1+1+1+1)),.s (mt (q+1+1+1+ad x3+1+1+1+1+1+1)),.i (q+1+1+1+ad x3+1+1+1+1+1+1+1),.s (mt (q+1+1+1+ad x3+1+1+1+1+1+1+1+1)),.s (mt (q+1+1+1+ad x3+1+1+1+1+1+1+1+1+1)),.i (q+1+1+1+ad x3+1+1+1+1+1+1+1+1+1+1),.i (q+1+1+1+ad x3+1+1+1+1+1+1+1+1+1+1+1),.l x16] from aE hl] at V16
    have H16:=Lib.hid ((H15.out).store hF V16)
    clear V16 rb16 Db16 sb16 pb16 wb16 rc16 Dc16 sc16 pc16 wc16 cc16 fc16
    obtain ⟨-,hF, -,uc17,dc17,Gc17,cc17,fc17,rc17,Dc17,sc17,pc17,wc17⟩:=DeepV.part H16.out.deep (show T 29=some _ from rfl) (k:=j) (j:=16) hlt rfl (o:=j * 17+16) (by first|rfl|simp)
    obtain rfl:=cQ hl rc17 (show ([.i (q),.i (q+1),.i (q+1+1),.l (ah mt (q+1+1+1) x3),.i (q+1+1+1+ad x3),.i (q+1+1+1+ad x3+1),.i (q+1+1+1+ad x3+1+1),.i (q+1+1+1+ad x3+1+1+1),.i (q+1+1+1+ad x3+1+1+1+1),.s (mt (q+1+1+1+ad x3+1+1+1+1+1)),.s (mt (q+1+1+1+ad x3+1+1+1+1+1+1)),.i (q+1+1+1+ad x3+1+1+1+1+1+1+1),.s (mt (q+1+1+1+ad x3+1+1+1+1+1+1+1+1)),.s (mt (q+1+1+1+ad x3+1+1+1+1+1+1+1+1+1)),.i (q+1+1+1+ad x3+1+1+1+1+1+1+1+1+1+1),.i (q+1+1+1+ad x3+1+1+1+1+1+1+1+1+1+1+1),.l x16]:List D)[16]? = some (.l x16) from rfl)
    rw [World.cell?_setCell_other _ _ _ _ (by intro h;simp only [Addr.mk.injEq] at h;omega),World.cell?_setCell_other _ _ _ _ (by intro h;simp only [Addr.mk.injEq] at h;omega),World.cell?_setCell_other _ _ _ _ (by intro h;simp only [Addr.mk.injEq] at h;omega)] at cc17
    clear fc17 wc17 rc17
    go_wp2_with fail
    refine ((jaW mt hmt (wD (.l x16)+1)) _ Gc17 uc17 x16 (q+1+1+1+ad x3+1+1+1+1+1+1+1+1+1+1+1+1) (by omega) (by omega) (jcO _) (((H16.out).gl HG.out).less fun b h=>(sc17 b h).1) Dc17).mono ?_;rintro e wr17 ⟨rfl,hN17⟩
    have V17:=pc17 _ _ (fun b hb hg=>hN17.block b ((H16.out).deep.lt b hb) hg) hN17.deep
    rw [show setD (X.set j [.i (q),.i (q+1),.i (q+1+1),.l (ah mt (q+1+1+1) x3),.i (q+1+1+1+ad x3),.i (q+1+1+1+ad x3+1),.i (q+1+1+1+ad x3+1+1),.i (q+1+1+1+ad x3+1+1+1),.i (q+1+1+1+ad x3+1+1+1+1),.s (mt (q+1+1+1+ad x3+1+1+1+1+1)),.s (mt (q+1+1+1+ad x3+1+1+1+1+1+1)),.i (q+1+1+1+ad x3+1+1+1+1+1+1+1),.s (mt (q+1+1+1+ad x3+1+1+1+1+1+1+1+1)),.s (mt (q+1+1+1+ad x3+1+1+1+1+1+1+1+1+1)),.i (q+1+1+1+ad x3+1+1+1+1+1+1+1+1+1+1),.i (q+1+1+1+ad x3+1+1+1+1+1+1+1+1+1+1+1),.l x16]) j 16 (.l (ah mt (q+1+1+1+ad x3+1+1+1+1+1+1+1+1+1+1+1+1) x16))=X.set j [.i (q),.i (q+1),.i (q+1+1),.l (ah mt (q+1+1+1) x3),.i (q+1+1+1+ad x3),.i (q+1+1+1+ad x3+1),.i (q+1+1+1+ad x3+1+1),.i (q+1+1+1+ad x3+1+1+1),.i (q+1+1+1+ad x3+1+1+1+1),.s (mt (q+1+1+1+ad x3+1+1+1+1+1)),.s (mt (q+1+1+1+ad x3+1+1+1+1+1+1)),.i (q+1+1+1+ad x3+1+1+1+1+1+1+1),.s (mt (q+1+1+1+ad x3+1+1+1+1+1+1+1+1)),.s (mt (q+1+1+1+ad x3+1+1+1+1+1+1+1+1+1)),.i (q+1+1+1+ad x3+1+1+1+1+1+1+1+1+1+1),.i (q+1+1+1+ad x3+1+1+1+1+1+1+1+1+1+1+1),.l (ah mt (q+1+1+1+ad x3+1+1+1+1+1+1+1+1+1+1+1+1) x16)] from aE hl] at V17
    have H17:=Lib.hid ((H16.out).call hN17 (fun b h=>(sc17 b h).1) V17)
    clear V17 hN17 Dc17 sc17 pc17 cc17
    go_wp2
    rw [show X.set j [.i (q),.i (q+1),.i (q+1+1),.l (ah mt (q+1+1+1) x3),.i (q+1+1+1+ad x3),.i (q+1+1+1+ad x3+1),.i (q+1+1+1+ad x3+1+1),.i (q+1+1+1+ad x3+1+1+1),.i (q+1+1+1+ad x3+1+1+1+1),.s (mt (q+1+1+1+ad x3+1+1+1+1+1)),.s (mt (q+1+1+1+ad x3+1+1+1+1+1+1)),.i (q+1+1+1+ad x3+1+1+1+1+1+1+1),.s (mt (q+1+1+1+ad x3+1+1+1+1+1+1+1+1)),.s (mt (q+1+1+1+ad x3+1+1+1+1+1+1+1+1+1)),.i (q+1+1+1+ad x3+1+1+1+1+1+1+1+1+1+1),.i (q+1+1+1+ad x3+1+1+1+1+1+1+1+1+1+1+1),.l (ah mt (q+1+1+1+ad x3+1+1+1+1+1+1+1+1+1+1+1+1) x16)]=mkAt mt k rows (j+1) from hmk] at H17
    exact ⟨⟨j+1,hlt,by go_num,congrArg (Value.int IntKind.i64) (by omega),H17.out⟩,by simp [Go.RowKit.intOf];omega⟩
  · have nlt:¬ (j:Int) < (rows.length:Int):=by omega
    have ht:rows.take j=rows:=jcr (by omega)
    have ha:=d7 (mt:=mt) (k:=k) (a:=rows) (i:=j) (by omega)
    go_wp2
    go_ret
    exact ⟨rfl,by rw [← ha];exact HE0.out⟩
theorem wF (mt:Int→ByteArray) (hmt:FOk Tryz.prog T 40 (spMT mt)) (w:World) (F:Nat→Nat→Prop) (us:List Value) (row:List D) (k:Int) (hk:1≤k) (hb:k+cSl row≤4611686018427387904) (hgl:GlR T w (fun b=>∃ i,F i b)) (hD:DeepRow T w F cO us row) :
 Calls Tryz.prog 9 #[.agg us.toArray,.int .i64 k] w fun x w' => x=.returned (.int .i64 (k+cSl row))∧MkREnd T w w' F cO us (mkSl mt k row):=by
 have hw:=hD.wf
 obtain ⟨x0,r0,rfl,hr0⟩:=hw.int_
 obtain ⟨x1,r1,rfl,hr1⟩:=hr0.int_
 obtain ⟨x2,r2,rfl,hr2⟩:=hr1.int_
 obtain ⟨x3,r3,rfl,hr3⟩:=hr2.sl_
 obtain ⟨x4,r4,rfl,hr4⟩:=hr3.int_
 obtain ⟨x5,r5,rfl,hr5⟩:=hr4.int_
 obtain ⟨x6,r6,rfl,hr6⟩:=hr5.int_
 obtain ⟨x7,r7,rfl,hr7⟩:=hr6.int_
 obtain ⟨x8,r8,rfl,hr8⟩:=hr7.int_
 obtain ⟨x9,r9,rfl,hr9⟩:=hr8.str_
 obtain ⟨x10,r10,rfl,hr10⟩:=hr9.str_
 obtain ⟨x11,r11,rfl,hr11⟩:=hr10.int_
 obtain ⟨x12,r12,rfl,hr12⟩:=hr11.str_
 obtain ⟨x13,r13,rfl,hr13⟩:=hr12.str_
 obtain ⟨x14,r14,rfl,hr14⟩:=hr13.int_
 obtain ⟨x15,r15,rfl,hr15⟩:=hr14.int_
 obtain ⟨x16,r16,rfl,hr16⟩:=hr15.sl_
 obtain rfl:=hr16.end_
 clear hw hr0 hr1 hr2 hr3 hr4 hr5 hr6 hr7 hr8 hr9 hr10 hr11 hr12 hr13 hr14 hr15 hr16
 match us,hD.len with
 | [u0,u1,u2,u3,u4,u5,u6,u7,u8,u9,u10,u11,u12,u13,u14,u15,u16],_ =>
 have e0:=hD.flat 0 _ u0 _ rfl rfl rfl (fun e h=>by cases h)
 have e1:=hD.flat 1 _ u1 _ rfl rfl rfl (fun e h=>by cases h)
 have e2:=hD.flat 2 _ u2 _ rfl rfl rfl (fun e h=>by cases h)
 have e4:=hD.flat 4 _ u4 _ rfl rfl rfl (fun e h=>by cases h)
 have e5:=hD.flat 5 _ u5 _ rfl rfl rfl (fun e h=>by cases h)
 have e6:=hD.flat 6 _ u6 _ rfl rfl rfl (fun e h=>by cases h)
 have e7:=hD.flat 7 _ u7 _ rfl rfl rfl (fun e h=>by cases h)
 have e8:=hD.flat 8 _ u8 _ rfl rfl rfl (fun e h=>by cases h)
 have e9:=hD.flat 9 _ u9 _ rfl rfl rfl (fun e h=>by cases h)
 have e10:=hD.flat 10 _ u10 _ rfl rfl rfl (fun e h=>by cases h)
 have e11:=hD.flat 11 _ u11 _ rfl rfl rfl (fun e h=>by cases h)
 have e12:=hD.flat 12 _ u12 _ rfl rfl rfl (fun e h=>by cases h)
 have e13:=hD.flat 13 _ u13 _ rfl rfl rfl (fun e h=>by cases h)
 have e14:=hD.flat 14 _ u14 _ rfl rfl rfl (fun e h=>by cases h)
 have e15:=hD.flat 15 _ u15 _ rfl rfl rfl (fun e h=>by cases h)
 cases e0;cases e1;cases e2;cases e4;cases e5;cases e6;cases e7;cases e8;cases e9;cases e10;cases e11;cases e12;cases e13;cases e14;cases e15
 obtain ⟨A3,c3,rfl⟩:=(hD.sl 3 _ u3 _ rfl rfl rfl).slice
 obtain ⟨A16,c16,rfl⟩:=(hD.sl 16 _ u16 _ rfl rfl rfl).slice
 have hb' : k+((ad x3+(ad x16+0):Nat):Int)≤4611686018427387904:=hb
 have HG:=Lib.hid hgl
 have HD:=Lib.hid hD
 clear hgl hD
 have B0:=Lib.hid (MkREnd.start HD.out ((Below.refl _ _).alloc (jb4 _) (.cells #[.int .i64 x0,.int .i64 x1,.int .i64 x2,.slice A3 x3.length c3,.int .i64 x4,.int .i64 x5,.int .i64 x6,.int .i64 x7,.int .i64 x8,.string x9,.string x10,.int .i64 x11,.string x12,.string x13,.int .i64 x14,.int .i64 x15,.slice A16 x16.length c16] 29)))
 have nF:∀ i, ¬ F i w.heap.size:=fun i h=>Nat.lt_irrefl _ (HD.out.lt i _ h)
 have hsz:w.heap.size < (w.alloc (.cells #[.int .i64 x0,.int .i64 x1,.int .i64 x2,.slice A3 x3.length c3,.int .i64 x4,.int .i64 x5,.int .i64 x6,.int .i64 x7,.int .i64 x8,.string x9,.string x10,.int .i64 x11,.string x12,.string x13,.int .i64 x14,.int .i64 x15,.slice A16 x16.length c16] 29)).heap.size:=by simp
 have z16:=qp w #[.int .i64 x0,.int .i64 x1,.int .i64 x2,.slice A3 x3.length c3,.int .i64 x4,.int .i64 x5,.int .i64 x6,.int .i64 x7,.int .i64 x8,.string x9,.string x10,.int .i64 x11,.string x12,.string x13,.int .i64 x14,.int .i64 x15,.slice A16 x16.length c16] 29 16 _ rfl
 have Z16:=Lib.hid z16
 have HS0:=Lib.hid hsz
 clear z16 hsz
 go_enter Tryz.func9,Tryz.ntmps9
 go_wp2_with fail
 refine (yh mt (wD (.l x3)+1) _ (F 3) _ x3 (k) (by omega) (by omega) (jcO _) (B0.out.gl HG.out 3) (B0.out.deep.sl 3 _ _ _ rfl rfl rfl)).mono ?_;rintro e w1 ⟨rfl,h1⟩
 have y16:=h1.cell (nF 3) HS0.out Z16.out
 have Y1_16:=Lib.hid y16
 have HS1:=Lib.hid (jcM HS0.out h1.size)
 have B1:=Lib.hid (B0.out.step (i:=3) rfl rfl h1)
 clear h1
 go_wp2_with fail
 refine (jaW mt hmt (wD (.l x16)+1) _ (F 16) _ x16 (k+ad x3) (by omega) (by omega) (jcO _) (B1.out.gl HG.out 16) (B1.out.deep.sl 16 _ _ _ rfl rfl rfl)).mono ?_;rintro e w2 ⟨rfl,h2⟩
 have B2:=Lib.hid (B1.out.step (i:=16) rfl rfl h2)
 clear h2 y16
 go_wp2
 go_ret
 exact ⟨congrArg (fun z:Int=>Ending.returned (.int .i64 z)) (show k+(ad x3:Int)+(ad x16:Int)=k+((ad x3+(ad x16+0):Nat):Int) by omega),B2.out⟩
end Go.Proofs.YtdjfhmghebommaaGreatDoor
