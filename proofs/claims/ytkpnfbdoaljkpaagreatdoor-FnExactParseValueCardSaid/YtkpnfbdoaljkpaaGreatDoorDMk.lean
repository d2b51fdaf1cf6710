/- The walks of the law's functions that mark what is owned: printed by a program of this -/
import Derived.Test.YtkpnfbdoaljkpaaGreatDoorDMd
import Derived.Test.YtkpnfbdoaljkpaaGreatDoorDTa
import Derived.IntWalk
import Derived.Test.YtkpnfbdoaljkpaaGreatDoorDMo
namespace Go.Proofs.YtkpnfbdoaljkpaaGreatDoor
open Go.RowKit Ab
set_option linter.unusedVariables false
set_option linter.unusedSimpArgs false
set_option maxRecDepth 100000
set_option maxHeartbeats 2000000
theorem mk_75 (mt:Int→ByteArray) (n:Nat):MkOk Tryz.prog T mt 75 3 n:=by
  intro w F v rows k hk hb hn hgl hD
  obtain ⟨A,c,rfl⟩:=hD.slice
  have HD:=Lib.hid hD
  have HG:=Lib.hid hgl
  have hs:=hD.short
  simp only [maxLen] at hs
  clear hD hgl
  go_enter Tryz.func75,Tryz.ntmps75
  go_wp2_with fail
  go_loopw [1,5] (fun q i wr=>∃ j:Nat,j≤rows.length∧i=.int .i64 j∧q=.int .i64 (k+cRows (rows.take j))∧MkEnd T w wr F 3 (.slice A rows.length c) (mkAt mt k rows j)) (fun _ i _=>rows.length - (intOf i).toNat)
  case atStart=>exact ⟨0,Nat.zero_le _,rfl,by simp [cRows],by rw [mkAt_zero];exact MkEnd.refl HD.out⟩
  case round =>
    obtain ⟨j,hj,rfl,rfl,hE⟩:=hrel
    have HE0:=Lib.hid hE
    clear hE
    by_cases hlt:j < rows.length
    · obtain ⟨g,rfl⟩:=HD.out.some (by omega)
      have q0:(0:Int)≤(j:Int):=by omega
      have q1:(j:Int) < (rows.length:Int):=by omega
      obtain ⟨x0,r0,hr,hr0⟩:=WfRow.int_ (HD.out.row (show T 3=some _ from rfl) hlt)
      obtain rfl:=hr0.end_
      clear hr0
      have hc:=cRows_next hlt
      have hc2:=cRows_le rows (j+1)
      rw [hr] at hc
      have hc3:cRow [.i x0]=1+0:=rfl
      have hq0:1≤k+cRows (rows.take j):=by omega
      have hq1:k+cRows (rows.take j)+cRow [.i x0]≤4611686018427387904:=by omega
      rw [hc3] at hq1
      have hmk:=mkAt_next (mt:=mt) (k:=k) hlt (Eq.symm (congrArg (mkRow mt (k+cRows (rows.take j))) hr))
      have hX:=(mkAt_row (mt:=mt) (k:=k) hlt).trans hr
      have hl:j < (mkAt mt k rows j).length:=by rw [mkAt_length];exact hlt
      have hnext:k+(cRows (rows.take (j+1)):Int)=k+cRows (rows.take j)+cRow [.i x0]:=by omega
      rw [hc3] at hnext
      obtain ⟨X,hXX⟩:∃ X,mkAt mt k rows j=X:=⟨_,rfl⟩
      rw [hXX] at hX hl hmk HE0
      obtain ⟨q,hq⟩:∃ q,k+(cRows (rows.take j):Int)=q:=⟨_,rfl⟩
      rw [hq] at hq0 hq1 hmk hnext ⊢
      clear hc hc2 hXX hc3
      obtain ⟨-,hF, -,ub1,db1,Gb1,cb1,fb1,rb1,Db1,sb1,pb1,wb1⟩:=DeepV.part HE0.out.deep (show T 3=some _ from rfl) (k:=j) (j:=0) hlt rfl (o:=j) (by first|rfl|simp)
      have V1:=wb1 (fun e h=>by cases h) (.int .i64 (q)) (.i (q)) (.int _ _ (inK_pos (by omega) (by omega)))
      rw [show setD X j 0 (.i (q))=X.set j [.i (q)] from setD_one hX] at V1
      have H1:=Lib.hid ((HE0.out).store hF V1)
      clear V1 rb1 Db1 sb1 pb1 wb1
      go_wp2
      rw [show X.set j [.i (q)]=mkAt mt k rows (j+1) from hmk] at H1
      exact ⟨⟨j+1,hlt,by go_num,congrArg (Value.int IntKind.i64) (by omega),H1.out⟩,by simp [Go.RowKit.intOf];omega⟩
    · have nlt:¬ (j:Int) < (rows.length:Int):=by omega
      have ht:rows.take j=rows:=List.take_of_length_le (by omega)
      have ha:=mkAt_all (mt:=mt) (k:=k) (a:=rows) (i:=j) (by omega)
      go_wp2
      go_ret
      exact ⟨rfl,by rw [← ha];exact HE0.out⟩
theorem mk_59 (mt:Int→ByteArray) (hmt:FOk Tryz.prog T 81 (spMT mt)) (n:Nat):MkOk Tryz.prog T mt 59 9 n:=by
  intro w F v rows k hk hb hn hgl hD
  obtain ⟨A,c,rfl⟩:=hD.slice
  have HD:=Lib.hid hD
  have HG:=Lib.hid hgl
  have hs:=hD.short
  simp only [maxLen] at hs
  clear hD hgl
  go_enter Tryz.func59,Tryz.ntmps59
  go_wp2_with fail
  go_loopw [1,5] (fun q i wr=>∃ j:Nat,j≤rows.length∧i=.int .i64 j∧q=.int .i64 (k+cRows (rows.take j))∧MkEnd T w wr F 9 (.slice A rows.length c) (mkAt mt k rows j)) (fun _ i _=>rows.length - (intOf i).toNat)
  case atStart=>exact ⟨0,Nat.zero_le _,rfl,by simp [cRows],by rw [mkAt_zero];exact MkEnd.refl HD.out⟩
  case round =>
    obtain ⟨j,hj,rfl,rfl,hE⟩:=hrel
    have HE0:=Lib.hid hE
    clear hE
    by_cases hlt:j < rows.length
    · obtain ⟨g,rfl⟩:=HD.out.some (by omega)
      have q0:(0:Int)≤(j:Int):=by omega
      have q1:(j:Int) < (rows.length:Int):=by omega
      obtain ⟨x0,r0,hr,hr0⟩:=WfRow.str_ (HD.out.row (show T 9=some _ from rfl) hlt)
      obtain rfl:=hr0.end_
      clear hr0
      have hc:=cRows_next hlt
      have hc2:=cRows_le rows (j+1)
      rw [hr] at hc
      have hc3:cRow [.s x0]=1+0:=rfl
      have hq0:1≤k+cRows (rows.take j):=by omega
      have hq1:k+cRows (rows.take j)+cRow [.s x0]≤4611686018427387904:=by omega
      rw [hc3] at hq1
      have hmk:=mkAt_next (mt:=mt) (k:=k) hlt (Eq.symm (congrArg (mkRow mt (k+cRows (rows.take j))) hr))
      have hX:=(mkAt_row (mt:=mt) (k:=k) hlt).trans hr
      have hl:j < (mkAt mt k rows j).length:=by rw [mkAt_length];exact hlt
      have hnext:k+(cRows (rows.take (j+1)):Int)=k+cRows (rows.take j)+cRow [.s x0]:=by omega
      rw [hc3] at hnext
      obtain ⟨X,hXX⟩:∃ X,mkAt mt k rows j=X:=⟨_,rfl⟩
      rw [hXX] at hX hl hmk HE0
      obtain ⟨q,hq⟩:∃ q,k+(cRows (rows.take j):Int)=q:=⟨_,rfl⟩
      rw [hq] at hq0 hq1 hmk hnext ⊢
      clear hc hc2 hXX hc3
      go_wp2_with fail
      refine (hmt.mark (HE0.out).deep.lt ((HE0.out).gl HG.out) (k:=q) (by omega) (by omega)).mono ?_;rintro e wr1 ⟨rfl,hsz1,hb1⟩
      have H1:=Lib.hid ((HE0.out).below hb1)
      clear hb1
      obtain ⟨-,hF, -,ub1,db1,Gb1,cb1,fb1,rb1,Db1,sb1,pb1,wb1⟩:=DeepV.part H1.out.deep (show T 9=some _ from rfl) (k:=j) (j:=0) hlt rfl (o:=j) (by first|rfl|simp)
      have V1:=wb1 (fun e h=>by cases h) (.string (mt (q))) (.s (mt (q))) (.str _ hsz1)
      rw [show setD X j 0 (.s (mt (q)))=X.set j [.s (mt (q))] from setD_one hX] at V1
      have K1:=Lib.hid ((H1.out).store hF V1)
      clear V1 rb1 Db1 sb1 pb1 wb1
      go_wp2
      rw [show X.set j [.s (mt (q))]=mkAt mt k rows (j+1) from hmk] at K1
      exact ⟨⟨j+1,hlt,by go_num,congrArg (Value.int IntKind.i64) (by omega),K1.out⟩,by simp [Go.RowKit.intOf];omega⟩
    · have nlt:¬ (j:Int) < (rows.length:Int):=by omega
      have ht:rows.take j=rows:=List.take_of_length_le (by omega)
      have ha:=mkAt_all (mt:=mt) (k:=k) (a:=rows) (i:=j) (by omega)
      go_wp2
      go_ret
      exact ⟨rfl,by rw [← ha];exact HE0.out⟩
theorem mk_117 (mt:Int→ByteArray) (n:Nat):MkOk Tryz.prog T mt 117 167 n:=by
  intro w F v rows k hk hb hn hgl hD
  obtain ⟨A,c,rfl⟩:=hD.slice
  have HD:=Lib.hid hD
  have HG:=Lib.hid hgl
  have hs:=hD.short
  simp only [maxLen] at hs
  clear hD hgl
  go_enter Tryz.func117,Tryz.ntmps117
  go_wp2_with fail
  go_loopw [1,5] (fun q i wr=>∃ j:Nat,j≤rows.length∧i=.int .i64 j∧q=.int .i64 (k+cRows (rows.take j))∧MkEnd T w wr F 167 (.slice A rows.length c) (mkAt mt k rows j)) (fun _ i _=>rows.length - (intOf i).toNat)
  case atStart=>exact ⟨0,Nat.zero_le _,rfl,by simp [cRows],by rw [mkAt_zero];exact MkEnd.refl HD.out⟩
  case round =>
    obtain ⟨j,hj,rfl,rfl,hE⟩:=hrel
    have HE0:=Lib.hid hE
    clear hE
    by_cases hlt:j < rows.length
    · obtain ⟨g,rfl⟩:=HD.out.some (by omega)
      have q0:(0:Int)≤(j:Int):=by omega
      have q1:(j:Int) < (rows.length:Int):=by omega
      obtain ⟨x0,r0,hr,hr0⟩:=WfRow.int_ (HD.out.row (show T 167=some _ from rfl) hlt)
      obtain ⟨x1,r1,rfl,hr1⟩:=WfRow.int_ hr0
      obtain rfl:=hr1.end_
      clear hr1
      have hc:=cRows_next hlt
      have hc2:=cRows_le rows (j+1)
      rw [hr] at hc
      have hc3:cRow [.i x0,.i x1]=1+(1+0):=rfl
      have hq0:1≤k+cRows (rows.take j):=by omega
      have hq1:k+cRows (rows.take j)+cRow [.i x0,.i x1]≤4611686018427387904:=by omega
      rw [hc3] at hq1
      have hmk:=mkAt_next (mt:=mt) (k:=k) hlt (Eq.symm (congrArg (mkRow mt (k+cRows (rows.take j))) hr))
      have hX:=(mkAt_row (mt:=mt) (k:=k) hlt).trans hr
      have hl:j < (mkAt mt k rows j).length:=by rw [mkAt_length];exact hlt
      have hnext:k+(cRows (rows.take (j+1)):Int)=k+cRows (rows.take j)+cRow [.i x0,.i x1]:=by omega
      rw [hc3] at hnext
      obtain ⟨X,hXX⟩:∃ X,mkAt mt k rows j=X:=⟨_,rfl⟩
      rw [hXX] at hX hl hmk HE0
      obtain ⟨q,hq⟩:∃ q,k+(cRows (rows.take j):Int)=q:=⟨_,rfl⟩
      rw [hq] at hq0 hq1 hmk hnext ⊢
      clear hc hc2 hXX hc3
      obtain ⟨-,hF, -,ub1,db1,Gb1,cb1,fb1,rb1,Db1,sb1,pb1,wb1⟩:=DeepV.part HE0.out.deep (show T 167=some _ from rfl) (k:=j) (j:=0) hlt rfl (o:=j * 2) (by first|rfl|simp)
      have V1:=wb1 (fun e h=>by cases h) (.int .i64 (q)) (.i (q)) (.int _ _ (inK_pos (by omega) (by omega)))
      rw [show setD X j 0 (.i (q))=X.set j [.i (q),.i x1] from setD_one hX] at V1
      have H1:=Lib.hid ((HE0.out).store hF V1)
      clear V1 rb1 Db1 sb1 pb1 wb1
      obtain ⟨-,hF, -,ub2,db2,Gb2,cb2,fb2,rb2,Db2,sb2,pb2,wb2⟩:=DeepV.part HE0.out.deep (show T 167=some _ from rfl) (k:=j) (j:=1) hlt rfl (o:=j * 2+1) (by first|rfl|simp)
      obtain ⟨-,hF, -,uc2,dc2,Gc2,cc2,fc2,rc2,Dc2,sc2,pc2,wc2⟩:=DeepV.part H1.out.deep (show T 167=some _ from rfl) (k:=j) (j:=1) hlt rfl (o:=j * 2+1) (by first|rfl|simp)
      have V2:=wc2 (fun e h=>by cases h) (.int .i64 (q+1)) (.i (q+1)) (.int _ _ (inK_pos (by omega) (by omega)))
      rw [show setD (X.set j [.i (q),.i x1]) j 1 (.i (q+1))=X.set j [.i (q),.i (q+1)] from setD_set hl] at V2
      have H2:=Lib.hid ((H1.out).store hF V2)
      clear V2 rb2 Db2 sb2 pb2 wb2 rc2 Dc2 sc2 pc2 wc2 cc2 fc2
      go_wp2
      rw [show X.set j [.i (q),.i (q+1)]=mkAt mt k rows (j+1) from hmk] at H2
      exact ⟨⟨j+1,hlt,by go_num,congrArg (Value.int IntKind.i64) (by omega),H2.out⟩,by simp [Go.RowKit.intOf];omega⟩
    · have nlt:¬ (j:Int) < (rows.length:Int):=by omega
      have ht:rows.take j=rows:=List.take_of_length_le (by omega)
      have ha:=mkAt_all (mt:=mt) (k:=k) (a:=rows) (i:=j) (by omega)
      go_wp2
      go_ret
      exact ⟨rfl,by rw [← ha];exact HE0.out⟩
theorem mk_60 (mt:Int→ByteArray) (n:Nat):MkOk Tryz.prog T mt 60 131 n:=by
  intro w F v rows k hk hb hn hgl hD
  obtain ⟨A,c,rfl⟩:=hD.slice
  have HD:=Lib.hid hD
  have HG:=Lib.hid hgl
  have hs:=hD.short
  simp only [maxLen] at hs
  clear hD hgl
  go_enter Tryz.func60,Tryz.ntmps60
  go_wp2_with fail
  go_loopw [1,5] (fun q i wr=>∃ j:Nat,j≤rows.length∧i=.int .i64 j∧q=.int .i64 (k+cRows (rows.take j))∧MkEnd T w wr F 131 (.slice A rows.length c) (mkAt mt k rows j)) (fun _ i _=>rows.length - (intOf i).toNat)
  case atStart=>exact ⟨0,Nat.zero_le _,rfl,by simp [cRows],by rw [mkAt_zero];exact MkEnd.refl HD.out⟩
  case round =>
    obtain ⟨j,hj,rfl,rfl,hE⟩:=hrel
    have HE0:=Lib.hid hE
    clear hE
    by_cases hlt:j < rows.length
    · obtain ⟨g,rfl⟩:=HD.out.some (by omega)
      have q0:(0:Int)≤(j:Int):=by omega
      have q1:(j:Int) < (rows.length:Int):=by omega
      obtain ⟨x0,r0,hr,hr0⟩:=WfRow.sl_ (HD.out.row (show T 131=some _ from rfl) hlt)
      obtain ⟨x1,r1,rfl,hr1⟩:=WfRow.sl_ hr0
      obtain rfl:=hr1.end_
      clear hr1
      have hc:=cRows_next hlt
      have hc2:=cRows_le rows (j+1)
      rw [hr] at hc
      have hc3:cRow [.l x0,.l x1]=cRows x0+(cRows x1+0):=rfl
      have hq0:1≤k+cRows (rows.take j):=by omega
      have hq1:k+cRows (rows.take j)+cRow [.l x0,.l x1]≤4611686018427387904:=by omega
      rw [hc3] at hq1
      have hmk:=mkAt_next (mt:=mt) (k:=k) hlt (Eq.symm (congrArg (mkRow mt (k+cRows (rows.take j))) hr))
      have hX:=(mkAt_row (mt:=mt) (k:=k) hlt).trans hr
      have hl:j < (mkAt mt k rows j).length:=by rw [mkAt_length];exact hlt
      have hnext:k+(cRows (rows.take (j+1)):Int)=k+cRows (rows.take j)+cRow [.l x0,.l x1]:=by omega
      rw [hc3] at hnext
      obtain ⟨X,hXX⟩:∃ X,mkAt mt k rows j=X:=⟨_,rfl⟩
      rw [hXX] at hX hl hmk HE0
      obtain ⟨q,hq⟩:∃ q,k+(cRows (rows.take j):Int)=q:=⟨_,rfl⟩
      rw [hq] at hq0 hq1 hmk hnext ⊢
      have hm0:wD (.l x0) < wD (.l rows):=wD_part hlt (j:=0) (by rw [hr];rfl)
      have hm1:wD (.l x1) < wD (.l rows):=wD_part hlt (j:=1) (by rw [hr];rfl)
      clear hc hc2 hXX hc3
      obtain ⟨-,hF, -,uc1,dc1,Gc1,cc1,fc1,rc1,Dc1,sc1,pc1,wc1⟩:=DeepV.part HE0.out.deep (show T 131=some _ from rfl) (k:=j) (j:=0) hlt rfl (o:=j * 2) (by first|rfl|simp)
      obtain rfl:=cell_one hX rc1 (show ([.l x0,.l x1]:List D)[0]? = some (.l x0) from rfl)
      clear fc1 wc1 rc1
      go_wp2_with fail
      refine ((mk_75 mt (wD (.l x0)+1)) _ Gc1 uc1 x0 (q) (by omega) (by omega) (Nat.lt_succ_self _) (((HE0.out).gl HG.out).less fun b h=>(sc1 b h).1) Dc1).mono ?_;rintro e wr1 ⟨rfl,hN1⟩
      have V1:=pc1 _ _ (fun b hb hg=>hN1.block b ((HE0.out).deep.lt b hb) hg) hN1.deep
      rw [show setD X j 0 (.l (mkRows mt (q) x0))=X.set j [.l (mkRows mt (q) x0),.l x1] from setD_one hX] at V1
      have H1:=Lib.hid ((HE0.out).call hN1 (fun b h=>(sc1 b h).1) V1)
      clear V1 hN1 Dc1 sc1 pc1 cc1
      obtain ⟨-,hF, -,uc2,dc2,Gc2,cc2,fc2,rc2,Dc2,sc2,pc2,wc2⟩:=DeepV.part H1.out.deep (show T 131=some _ from rfl) (k:=j) (j:=1) hlt rfl (o:=j * 2+1) (by first|rfl|simp)
      obtain rfl:=cell_set hl rc2 (show ([.l (mkRows mt (q) x0),.l x1]:List D)[1]? = some (.l x1) from rfl)
      clear fc2 wc2 rc2
      go_wp2_with fail
      refine ((mk_117 mt (wD (.l x1)+1)) _ Gc2 uc2 x1 (q+cRows x0) (by omega) (by omega) (Nat.lt_succ_self _) (((H1.out).gl HG.out).less fun b h=>(sc2 b h).1) Dc2).mono ?_;rintro e wr2 ⟨rfl,hN2⟩
      have V2:=pc2 _ _ (fun b hb hg=>hN2.block b ((H1.out).deep.lt b hb) hg) hN2.deep
      rw [show setD (X.set j [.l (mkRows mt (q) x0),.l x1]) j 1 (.l (mkRows mt (q+cRows x0) x1))=X.set j [.l (mkRows mt (q) x0),.l (mkRows mt (q+cRows x0) x1)] from setD_set hl] at V2
      have H2:=Lib.hid ((H1.out).call hN2 (fun b h=>(sc2 b h).1) V2)
      clear V2 hN2 Dc2 sc2 pc2 cc2
      go_wp2
      rw [show X.set j [.l (mkRows mt (q) x0),.l (mkRows mt (q+cRows x0) x1)]=mkAt mt k rows (j+1) from hmk] at H2
      exact ⟨⟨j+1,hlt,by go_num,congrArg (Value.int IntKind.i64) (by omega),H2.out⟩,by simp [Go.RowKit.intOf];omega⟩
    · have nlt:¬ (j:Int) < (rows.length:Int):=by omega
      have ht:rows.take j=rows:=List.take_of_length_le (by omega)
      have ha:=mkAt_all (mt:=mt) (k:=k) (a:=rows) (i:=j) (by omega)
      go_wp2
      go_ret
      exact ⟨rfl,by rw [← ha];exact HE0.out⟩
theorem mkS_58 (mt:Int→ByteArray) (hmt:FOk Tryz.prog T 81 (spMT mt)) (n:Nat) (ih:MkOk Tryz.prog T mt 58 53 n):MkOk Tryz.prog T mt 58 53 (n+1):=by
  intro w F v rows k hk hb hn hgl hD
  obtain ⟨A,c,rfl⟩:=hD.slice
  have HD:=Lib.hid hD
  have HG:=Lib.hid hgl
  have hs:=hD.short
  simp only [maxLen] at hs
  clear hD hgl
  go_enter Tryz.func58,Tryz.ntmps58
  go_wp2_with fail
  go_loopw [1,5] (fun q i wr=>∃ j:Nat,j≤rows.length∧i=.int .i64 j∧q=.int .i64 (k+cRows (rows.take j))∧MkEnd T w wr F 53 (.slice A rows.length c) (mkAt mt k rows j)) (fun _ i _=>rows.length - (intOf i).toNat)
  case atStart=>exact ⟨0,Nat.zero_le _,rfl,by simp [cRows],by rw [mkAt_zero];exact MkEnd.refl HD.out⟩
  case round =>
    obtain ⟨j,hj,rfl,rfl,hE⟩:=hrel
    have HE0:=Lib.hid hE
    clear hE
    by_cases hlt:j < rows.length
    · obtain ⟨g,rfl⟩:=HD.out.some (by omega)
      have q0:(0:Int)≤(j:Int):=by omega
      have q1:(j:Int) < (rows.length:Int):=by omega
      obtain ⟨x0,r0,hr,hr0⟩:=WfRow.int_ (HD.out.row (show T 53=some _ from rfl) hlt)
      obtain ⟨x1,r1,rfl,hr1⟩:=WfRow.int_ hr0
      obtain ⟨x2,r2,rfl,hr2⟩:=WfRow.int_ hr1
      obtain ⟨x3,r3,rfl,hr3⟩:=WfRow.str_ hr2
      obtain ⟨x4,r4,rfl,hr4⟩:=WfRow.sl_ hr3
      obtain ⟨x5,r5,rfl,hr5⟩:=WfRow.sl_ hr4
      obtain ⟨x6,r6,rfl,hr6⟩:=WfRow.sl_ hr5
      obtain rfl:=hr6.end_
      clear hr6
      have hc:=cRows_next hlt
      have hc2:=cRows_le rows (j+1)
      rw [hr] at hc
      have hc3:cRow [.i x0,.i x1,.i x2,.s x3,.l x4,.l x5,.l x6]=1+(1+(1+(1+(cRows x4+(cRows x5+(cRows x6+0)))))):=rfl
      have hq0:1≤k+cRows (rows.take j):=by omega
      have hq1:k+cRows (rows.take j)+cRow [.i x0,.i x1,.i x2,.s x3,.l x4,.l x5,.l x6]≤4611686018427387904:=by omega
      rw [hc3] at hq1
      have hmk:=mkAt_next (mt:=mt) (k:=k) hlt (Eq.symm (congrArg (mkRow mt (k+cRows (rows.take j))) hr))
      have hX:=(mkAt_row (mt:=mt) (k:=k) hlt).trans hr
      have hl:j < (mkAt mt k rows j).length:=by rw [mkAt_length];exact hlt
      have hnext:k+(cRows (rows.take (j+1)):Int)=k+cRows (rows.take j)+cRow [.i x0,.i x1,.i x2,.s x3,.l x4,.l x5,.l x6]:=by omega
      rw [hc3] at hnext
      obtain ⟨X,hXX⟩:∃ X,mkAt mt k rows j=X:=⟨_,rfl⟩
      rw [hXX] at hX hl hmk HE0
      obtain ⟨q,hq⟩:∃ q,k+(cRows (rows.take j):Int)=q:=⟨_,rfl⟩
      rw [hq] at hq0 hq1 hmk hnext ⊢
      have hm4:wD (.l x4) < wD (.l rows):=wD_part hlt (j:=4) (by rw [hr];rfl)
      have hm5:wD (.l x5) < wD (.l rows):=wD_part hlt (j:=5) (by rw [hr];rfl)
      have hm6:wD (.l x6) < wD (.l rows):=wD_part hlt (j:=6) (by rw [hr];rfl)
      clear hc hc2 hXX hc3
      obtain ⟨-,hF, -,ub1,db1,Gb1,cb1,fb1,rb1,Db1,sb1,pb1,wb1⟩:=DeepV.part HE0.out.deep (show T 53=some _ from rfl) (k:=j) (j:=0) hlt rfl (o:=j * 7) (by first|rfl|simp)
      have V1:=wb1 (fun e h=>by cases h) (.int .i64 (q)) (.i (q)) (.int _ _ (inK_pos (by omega) (by omega)))
      rw [show setD X j 0 (.i (q))=X.set j [.i (q),.i x1,.i x2,.s x3,.l x4,.l x5,.l x6] from setD_one hX] at V1
      have H1:=Lib.hid ((HE0.out).store hF V1)
      clear V1 rb1 Db1 sb1 pb1 wb1
      obtain ⟨-,hF, -,ub2,db2,Gb2,cb2,fb2,rb2,Db2,sb2,pb2,wb2⟩:=DeepV.part HE0.out.deep (show T 53=some _ from rfl) (k:=j) (j:=1) hlt rfl (o:=j * 7+1) (by first|rfl|simp)
      obtain ⟨-,hF, -,uc2,dc2,Gc2,cc2,fc2,rc2,Dc2,sc2,pc2,wc2⟩:=DeepV.part H1.out.deep (show T 53=some _ from rfl) (k:=j) (j:=1) hlt rfl (o:=j * 7+1) (by first|rfl|simp)
      have V2:=wc2 (fun e h=>by cases h) (.int .i64 (q+1)) (.i (q+1)) (.int _ _ (inK_pos (by omega) (by omega)))
      rw [show setD (X.set j [.i (q),.i x1,.i x2,.s x3,.l x4,.l x5,.l x6]) j 1 (.i (q+1))=X.set j [.i (q),.i (q+1),.i x2,.s x3,.l x4,.l x5,.l x6] from setD_set hl] at V2
      have H2:=Lib.hid ((H1.out).store hF V2)
      clear V2 rb2 Db2 sb2 pb2 wb2 rc2 Dc2 sc2 pc2 wc2 cc2 fc2
      obtain ⟨-,hF, -,ub3,db3,Gb3,cb3,fb3,rb3,Db3,sb3,pb3,wb3⟩:=DeepV.part HE0.out.deep (show T 53=some _ from rfl) (k:=j) (j:=2) hlt rfl (o:=j * 7+2) (by first|rfl|simp)
      obtain ⟨-,hF, -,uc3,dc3,Gc3,cc3,fc3,rc3,Dc3,sc3,pc3,wc3⟩:=DeepV.part H2.out.deep (show T 53=some _ from rfl) (k:=j) (j:=2) hlt rfl (o:=j * 7+2) (by first|rfl|simp)
      have V3:=wc3 (fun e h=>by cases h) (.int .i64 (q+1+1)) (.i (q+1+1)) (.int _ _ (inK_pos (by omega) (by omega)))
      rw [show setD (X.set j [.i (q),.i (q+1),.i x2,.s x3,.l x4,.l x5,.l x6]) j 2 (.i (q+1+1))=X.set j [.i (q),.i (q+1),.i (q+1+1),.s x3,.l x4,.l x5,.l x6] from setD_set hl] at V3
      have H3:=Lib.hid ((H2.out).store hF V3)
      clear V3 rb3 Db3 sb3 pb3 wb3 rc3 Dc3 sc3 pc3 wc3 cc3 fc3
      go_wp2_with fail
      refine (hmt.mark (H3.out).deep.lt ((H3.out).gl HG.out) (k:=q+1+1+1) (by omega) (by omega)).mono ?_;rintro e wr4 ⟨rfl,hsz4,hb4⟩
      have H4:=Lib.hid ((H3.out).below hb4)
      clear hb4
      obtain ⟨-,hF, -,ub4,db4,Gb4,cb4,fb4,rb4,Db4,sb4,pb4,wb4⟩:=DeepV.part H4.out.deep (show T 53=some _ from rfl) (k:=j) (j:=3) hlt rfl (o:=j * 7+3) (by first|rfl|simp)
      have V4:=wb4 (fun e h=>by cases h) (.string (mt (q+1+1+1))) (.s (mt (q+1+1+1))) (.str _ hsz4)
      rw [show setD (X.set j [.i (q),.i (q+1),.i (q+1+1),.s x3,.l x4,.l x5,.l x6]) j 3 (.s (mt (q+1+1+1)))=X.set j [.i (q),.i (q+1),.i (q+1+1),.s (mt (q+1+1+1)),.l x4,.l x5,.l x6] from setD_set hl] at V4
      have K4:=Lib.hid ((H4.out).store hF V4)
      clear V4 rb4 Db4 sb4 pb4 wb4
      obtain ⟨-,hF, -,uc5,dc5,Gc5,cc5,fc5,rc5,Dc5,sc5,pc5,wc5⟩:=DeepV.part K4.out.deep (show T 53=some _ from rfl) (k:=j) (j:=4) hlt rfl (o:=j * 7+4) (by first|rfl|simp)
      obtain rfl:=cell_set hl rc5 (show ([.i (q),.i (q+1),.i (q+1+1),.s (mt (q+1+1+1)),.l x4,.l x5,.l x6]:List D)[4]? = some (.l x4) from rfl)
      rw [World.cell?_setCell_other _ _ _ _ (by intro h;simp only [Addr.mk.injEq] at h;omega)] at cc5
      clear fc5 wc5 rc5
      go_wp2_with fail
      refine (ih _ Gc5 uc5 x4 (q+1+1+1+1) (by omega) (by omega) (by omega) (((K4.out).gl HG.out).less fun b h=>(sc5 b h).1) Dc5).mono ?_;rintro e wr5 ⟨rfl,hN5⟩
      have V5:=pc5 _ _ (fun b hb hg=>hN5.block b ((K4.out).deep.lt b hb) hg) hN5.deep
      rw [show setD (X.set j [.i (q),.i (q+1),.i (q+1+1),.s (mt (q+1+1+1)),.l x4,.l x5,.l x6]) j 4 (.l (mkRows mt (q+1+1+1+1) x4))=X.set j [.i (q),.i (q+1),.i (q+1+1),.s (mt (q+1+1+1)),.l (mkRows mt (q+1+1+1+1) x4),.l x5,.l x6] from setD_set hl] at V5
      have H5:=Lib.hid ((K4.out).call hN5 (fun b h=>(sc5 b h).1) V5)
      clear V5 hN5 Dc5 sc5 pc5 cc5
      obtain ⟨-,hF, -,uc6,dc6,Gc6,cc6,fc6,rc6,Dc6,sc6,pc6,wc6⟩:=DeepV.part H5.out.deep (show T 53=some _ from rfl) (k:=j) (j:=5) hlt rfl (o:=j * 7+5) (by first|rfl|simp)
      obtain rfl:=cell_set hl rc6 (show ([.i (q),.i (q+1),.i (q+1+1),.s (mt (q+1+1+1)),.l (mkRows mt (q+1+1+1+1) x4),.l x5,.l x6]:List D)[5]? = some (.l x5) from rfl)
      clear fc6 wc6 rc6
      go_wp2_with fail
      refine ((mk_59 mt hmt (wD (.l x5)+1)) _ Gc6 uc6 x5 (q+1+1+1+1+cRows x4) (by omega) (by omega) (Nat.lt_succ_self _) (((H5.out).gl HG.out).less fun b h=>(sc6 b h).1) Dc6).mono ?_;rintro e wr6 ⟨rfl,hN6⟩
      have V6:=pc6 _ _ (fun b hb hg=>hN6.block b ((H5.out).deep.lt b hb) hg) hN6.deep
      rw [show setD (X.set j [.i (q),.i (q+1),.i (q+1+1),.s (mt (q+1+1+1)),.l (mkRows mt (q+1+1+1+1) x4),.l x5,.l x6]) j 5 (.l (mkRows mt (q+1+1+1+1+cRows x4) x5))=X.set j [.i (q),.i (q+1),.i (q+1+1),.s (mt (q+1+1+1)),.l (mkRows mt (q+1+1+1+1) x4),.l (mkRows mt (q+1+1+1+1+cRows x4) x5),.l x6] from setD_set hl] at V6
      have H6:=Lib.hid ((H5.out).call hN6 (fun b h=>(sc6 b h).1) V6)
      clear V6 hN6 Dc6 sc6 pc6 cc6
      obtain ⟨-,hF, -,uc7,dc7,Gc7,cc7,fc7,rc7,Dc7,sc7,pc7,wc7⟩:=DeepV.part H6.out.deep (show T 53=some _ from rfl) (k:=j) (j:=6) hlt rfl (o:=j * 7+6) (by first|rfl|simp)
      obtain rfl:=cell_set hl rc7 (show ([.i (q),.i (q+1),.i (q+1+1),.s (mt (q+1+1+1)),.l (mkRows mt (q+1+1+1+1) x4),.l (mkRows mt (q+1+1+1+1+cRows x4) x5),.l x6]:List D)[6]? = some (.l x6) from rfl)
      clear fc7 wc7 rc7
      go_wp2_with fail
      refine ((mk_60 mt (wD (.l x6)+1)) _ Gc7 uc7 x6 (q+1+1+1+1+cRows x4+cRows x5) (by omega) (by omega) (Nat.lt_succ_self _) (((H6.out).gl HG.out).less fun b h=>(sc7 b h).1) Dc7).mono ?_;rintro e wr7 ⟨rfl,hN7⟩
      have V7:=pc7 _ _ (fun b hb hg=>hN7.block b ((H6.out).deep.lt b hb) hg) hN7.deep
      rw [show setD (X.set j [.i (q),.i (q+1),.i (q+1+1),.s (mt (q+1+1+1)),.l (mkRows mt (q+1+1+1+1) x4),.l (mkRows mt (q+1+1+1+1+cRows x4) x5),.l x6]) j 6 (.l (mkRows mt (q+1+1+1+1+cRows x4+cRows x5) x6))=X.set j [.i (q),.i (q+1),.i (q+1+1),.s (mt (q+1+1+1)),.l (mkRows mt (q+1+1+1+1) x4),.l (mkRows mt (q+1+1+1+1+cRows x4) x5),.l (mkRows mt (q+1+1+1+1+cRows x4+cRows x5) x6)] from setD_set hl] at V7
      have H7:=Lib.hid ((H6.out).call hN7 (fun b h=>(sc7 b h).1) V7)
      clear V7 hN7 Dc7 sc7 pc7 cc7
      go_wp2
      rw [show X.set j [.i (q),.i (q+1),.i (q+1+1),.s (mt (q+1+1+1)),.l (mkRows mt (q+1+1+1+1) x4),.l (mkRows mt (q+1+1+1+1+cRows x4) x5),.l (mkRows mt (q+1+1+1+1+cRows x4+cRows x5) x6)]=mkAt mt k rows (j+1) from hmk] at H7
      exact ⟨⟨j+1,hlt,by go_num,congrArg (Value.int IntKind.i64) (by omega),H7.out⟩,by simp [Go.RowKit.intOf];omega⟩
    · have nlt:¬ (j:Int) < (rows.length:Int):=by omega
      have ht:rows.take j=rows:=List.take_of_length_le (by omega)
      have ha:=mkAt_all (mt:=mt) (k:=k) (a:=rows) (i:=j) (by omega)
      go_wp2
      go_ret
      exact ⟨rfl,by rw [← ha];exact HE0.out⟩
theorem mk_58 (mt:Int→ByteArray) (hmt:FOk Tryz.prog T 81 (spMT mt)):∀ n,MkOk Tryz.prog T mt 58 53 n
  | 0=>fun _ _ _ _ _ _ _ h=>absurd h (Nat.not_lt_zero _)
  | n+1=>mkS_58 mt hmt n (mk_58 mt hmt n)
theorem mkG_Value (mt:Int→ByteArray) (hmt:FOk Tryz.prog T 81 (spMT mt)) (w:World) (F:Nat→Nat→Prop) (us:List Value) (row:List D) (k:Int) (hk:1≤k) (hb:k+cSl row≤4611686018427387904) (hgl:GlR T w (fun b=>∃ i,F i b)) (hD:DeepRow T w F [.i .i64,.i .i64,.i .i64,.s,.l 53,.l 9,.l 131] us row) :
    Calls Tryz.prog 27 #[.agg us.toArray,.int .i64 k] w fun x w' => x=.returned (.int .i64 (k+cSl row))∧MkREnd T w w' F [.i .i64,.i .i64,.i .i64,.s,.l 53,.l 9,.l 131] us (mkSl mt k row):=by
  have hw:=hD.wf
  obtain ⟨x0,r0,rfl,hr0⟩:=hw.int_
  obtain ⟨x1,r1,rfl,hr1⟩:=hr0.int_
  obtain ⟨x2,r2,rfl,hr2⟩:=hr1.int_
  obtain ⟨x3,r3,rfl,hr3⟩:=hr2.str_
  obtain ⟨x4,r4,rfl,hr4⟩:=hr3.sl_
  obtain ⟨x5,r5,rfl,hr5⟩:=hr4.sl_
  obtain ⟨x6,r6,rfl,hr6⟩:=hr5.sl_
  obtain rfl:=hr6.end_
  clear hw hr0 hr1 hr2 hr3 hr4 hr5 hr6
  match us,hD.len with
  | [u0,u1,u2,u3,u4,u5,u6],_ =>
  have e0:=hD.flat 0 _ u0 _ rfl rfl rfl (fun e h=>by cases h)
  have e1:=hD.flat 1 _ u1 _ rfl rfl rfl (fun e h=>by cases h)
  have e2:=hD.flat 2 _ u2 _ rfl rfl rfl (fun e h=>by cases h)
  have e3:=hD.flat 3 _ u3 _ rfl rfl rfl (fun e h=>by cases h)
  cases e0;cases e1;cases e2;cases e3
  obtain ⟨A4,c4,rfl⟩:=(hD.sl 4 _ u4 _ rfl rfl rfl).slice
  obtain ⟨A5,c5,rfl⟩:=(hD.sl 5 _ u5 _ rfl rfl rfl).slice
  obtain ⟨A6,c6,rfl⟩:=(hD.sl 6 _ u6 _ rfl rfl rfl).slice
  have hb' : k+((cRows x4+(cRows x5+(cRows x6+0)):Nat):Int)≤4611686018427387904:=hb
  have HG:=Lib.hid hgl
  have HD:=Lib.hid hD
  clear hgl hD
  have B0:=Lib.hid (MkREnd.start HD.out ((Below.refl _ _).alloc (Nat.le_refl _) (.cells #[.int .i64 x0,.int .i64 x1,.int .i64 x2,.string x3,.slice A4 x4.length c4,.slice A5 x5.length c5,.slice A6 x6.length c6] 53)))
  have nF:∀ i, ¬ F i w.heap.size:=fun i h=>Nat.lt_irrefl _ (HD.out.lt i _ h)
  have hsz:w.heap.size < (w.alloc (.cells #[.int .i64 x0,.int .i64 x1,.int .i64 x2,.string x3,.slice A4 x4.length c4,.slice A5 x5.length c5,.slice A6 x6.length c6] 53)).heap.size:=by simp
  have z5:=box_cell w #[.int .i64 x0,.int .i64 x1,.int .i64 x2,.string x3,.slice A4 x4.length c4,.slice A5 x5.length c5,.slice A6 x6.length c6] 53 5 _ rfl
  have z6:=box_cell w #[.int .i64 x0,.int .i64 x1,.int .i64 x2,.string x3,.slice A4 x4.length c4,.slice A5 x5.length c5,.slice A6 x6.length c6] 53 6 _ rfl
  have Z5:=Lib.hid z5
  have Z6:=Lib.hid z6
  have HS:=Lib.hid hsz
  clear z5 z6 hsz
  go_enter Tryz.func27,Tryz.ntmps27
  go_wp2_with fail
  refine (mk_58 mt hmt (wD (.l x4)+1) _ (F 4) _ x4 k hk (by omega) (Nat.lt_succ_self _) (B0.out.gl HG.out 4) (B0.out.deep.sl 4 _ _ _ rfl rfl rfl)).mono ?_;rintro e w1 ⟨rfl,h1⟩
  have y5:=h1.cell (nF 4) HS.out Z5.out
  have y6:=h1.cell (nF 4) HS.out Z6.out
  have Y6:=Lib.hid y6
  have HS1:=Lib.hid (Nat.lt_of_lt_of_le HS.out h1.size)
  have B1:=Lib.hid (B0.out.step (i:=4) rfl rfl h1)
  clear h1 y6
  go_wp2_with fail
  refine (mk_59 mt hmt (wD (.l x5)+1) _ (F 5) _ x5 (k+cRows x4) (by omega) (by omega) (Nat.lt_succ_self _) (B1.out.gl HG.out 5) (B1.out.deep.sl 5 _ _ _ rfl rfl rfl)).mono ?_;rintro e w2 ⟨rfl,h2⟩
  have y6:=h2.cell (nF 5) HS1.out Y6.out
  have B2:=Lib.hid (B1.out.step (i:=5) rfl rfl h2)
  clear h2 y5
  go_wp2_with fail
  refine (mk_60 mt (wD (.l x6)+1) _ (F 6) _ x6 (k+cRows x4+cRows x5) (by omega) (by omega) (Nat.lt_succ_self _) (B2.out.gl HG.out 6) (B2.out.deep.sl 6 _ _ _ rfl rfl rfl)).mono ?_;rintro e w3 ⟨rfl,h3⟩
  have B3:=Lib.hid (B2.out.step (i:=6) rfl rfl h3)
  clear h3 y6
  go_wp2
  go_ret
  exact ⟨congrArg (fun z:Int=>Ending.returned (.int .i64 z)) (show k+(cRows x4:Int)+(cRows x5:Int)+(cRows x6:Int)=k+((cRows x4+(cRows x5+(cRows x6+0)):Nat):Int) by omega),B3.out⟩
end Go.Proofs.YtkpnfbdoaljkpaaGreatDoor
