import Derived.Test.YtblbohcaphcobaaGreatDoorBunS
import Derived.Test.YtblbohcaphcobaaGreatDoorBunE
set_option maxHeartbeats 16000000
set_option maxRecDepth 100000
namespace Go.Proofs.YtblbohcaphcobaaGreatDoor
open Go.ChangeShapes Go.WideShapes Go.ChangeAt Go.RowKit
theorem MC {w:World} {B:Nat} {f:cJ} {c:Nat} {S:ac} (h:fq w B f S) (k:fy c S) (hc:c<=890) (it:dJ) (hp:it.path.length<=1000000) (hd:it.data.length<=1000000) :
  Calls Tryz.prog 54 #[.pointer (some ⟨f.bF,0,none⟩),.agg #[bs it.path,it.kind,it.mode,it.uid,it.gid,it.mtime,bs it.data]] w (fun e w'=>e=.returned (.int .i64 (iq S it))/\mK w B f (iY S it) w'):=by
 obtain ⟨W1,b_⟩:∃W,W=w.alloc (.cells #[bs it.path,it.kind,it.mode,it.uid,it.gid,it.mtime,bs it.data] 80):=⟨_,rfl⟩;obtain ⟨b3,oh⟩:∃b,b=w.heap.size:=⟨_,rfl⟩;have E1:Ext w W1:=by rw[b_];exact (Ext.refl _).alloc _
 have B1:Has W1 b3 (.cells #[bs it.path,it.kind,it.mode,it.uid,it.gid,it.mtime,bs it.data] 80):=by rw[b_,oh];exact Has.new _ _
 have KF:=zH (fq.find (fq.ext h E1) k (by omega) it.path false hp);obtain⟨r,hr⟩:=ar (eG S it);rw [show dP S 0 0 it.path false=r from hr.symm]at KF;have BM:Hid (Calls Tryz.prog 30 #[.pointer (some ⟨f.bF,0,none⟩),.agg #[.int .i64 0,.int .i64 0],bs it.path,.bool false] W1 (aH W1 (.tuple #[.agg #[.int .i64 r.1.dir,bs r.1.name,r.1.no,.bool r.1.eS],.int .i64 r.2]))):=KF.out;have HR:=zH hr;have c0:=B1.cell 0;have cz:=B1.lt;simp only[gA,gB]at c0;have qs:=zH B1;have H1:=zH (fq.ext h E1);have H0:=zH h;clear h KF hr B1;go_enter Tryz.func54,Tryz.ntmps54;go_upto_region 1 with fail;rw [<-b_,<-oh];clear b_ oh;go_wp2_with fail;refine BM.out.mono ?_;rintro e w1 ⟨rfl,b1⟩;clear BM c0 cz;go_upto_region 2 with fail;obtain ⟨W2,dF⟩:∃W,W=w1.alloc (.cells #[.int .i64 r.1.dir,bs r.1.name,r.1.no,.bool r.1.eS] 89):=⟨_,rfl⟩;obtain ⟨b4,uL⟩:∃b,b=w1.heap.size:=⟨_,rfl⟩;have E2:Ext W1 W2:=by rw[dF];exact b1.alloc _
 have X2:Has W2 b4 (.cells #[.int .i64 r.1.dir,bs r.1.name,r.1.no,.bool r.1.eS] 89):=by rw[dF,uL];exact Has.new _ _
 rw [<-dF,<-uL];clear dF uL b1;have B2:=qs.out.ext E2;have P3:=fq.ext H1.out E2;have oo:=E1.trans E2;have wE:=zH X2;have x0:=X2.cell 0;have x1:=X2.cell 1;have x2:=X2.cell 2;have xz:=X2.lt;have d1:=B2.cell 1;have d6:=B2.cell 6;have dz:=B2.lt;simp only[gA,gB,gC]at x0 x1 x2 d1 d6;clear X2 B2
 by_cases he:r.2=0
 case neg =>
  have t1:(r.2 != 0)=true:=by simpa using he
  have hT:Hid (iY S it=S/\iq S it=0):=Fu (by rw[<-HR.out];exact he);clear he P3;go_wp2_with fail;go_ret;exact ⟨by rw[hT.out.2];rfl,by rw[hT.out.1];exact mK.refl H0.out oo⟩
 have t1:(r.2 != 0)=false:=by simpa using he
 have HE:=zH he
 by_cases bc:r.1.no=0
 case neg =>
  have t2:(r.1.no != 0)=true:=by simpa using bc
  obtain ⟨m1,jl⟩:∃m,m=aa S.nodes r.1.no:=⟨_,rfl⟩;have hT:Hid (iY S it=S/\iq S it=if it.kind=1/\m1.kind=1 then r.1.no else 0):=by show _/\_;rw[jl,HR.out];exact xN (by rw[<-HR.out];exact HE.out) (by rw[<-HR.out];exact bc)
  have KG:=zH (fq.get P3 k (by omega) r.1.no);have HM1:=zH jl;clear he bc P3 jl
  by_cases gG:it.kind=1
  case neg =>
   have t3:(it.kind == 1)=false:=by simpa using gG
   have zJ:Hid (iq S it=0):=by show _=_;rw[hT.out.2,if_neg (fun q=>gG q.1)]
   clear gG;go_wp2_with fail;go_ret;exact ⟨by rw[zJ.out];rfl,by rw[hT.out.1];exact mK.refl H0.out oo⟩
  have t3:(it.kind == 1)=true:=by simpa using gG
  go_wp2_with fail;refine KG.out.mono ?_;rintro e w4 ⟨A4,c4,rfl,sJ,E4⟩;clear KG;rw [<-HM1.out]at sJ|-;have acm:∀w',(Instr.field 58 (.agg #[m1.no,m1.dev,m1.kind,m1.mode,m1.uid,m1.gid,m1.mtime,m1.ctime,m1.ah,m1.up,bs m1.data,.slice A4 m1.ae.length c4]) 2).run Tryz.prog w'=.ok (.int .i64 m1.kind) w':=fun w'=>(CX _ _ _ _ _ _ _ _ _ _ _ _ w').2
  have x2':=(E4.cell xz).trans x2;have xz':b4<w4.heap.size:=by have:=E4.size;omega
  clear x0 x1 x2 xz d1 d6 dz
  by_cases hk2:m1.kind=1
  ·have t4:(m1.kind == 1)=true:=by simpa using hk2
   have zJ:Hid (iq S it=r.1.no):=by show _=_;rw[hT.out.2,if_pos ⟨gG,hk2⟩]
   clear gG hk2;go_wp2_with fail;go_ret;exact ⟨by rw[zJ.out];rfl,by rw[hT.out.1];exact mK.refl H0.out (oo.trans E4)⟩
  ·have t4:(m1.kind == 1)=false:=by simpa using hk2
   have zJ:Hid (iq S it=0):=by show _=_;rw[hT.out.2,if_neg (fun q=>hk2 q.2)]
   clear gG hk2;go_wp2_with fail;go_ret;exact ⟨by rw[zJ.out];rfl,by rw[hT.out.1];exact mK.refl H0.out (oo.trans E4)⟩
 have t2:(r.1.no != 0)=false:=by simpa using bc
 have hC:Hid (gT S it=if it.kind=1 then some (.bZ r.1.dir r.1.name 493) else if it.kind=2 then some (.bB r.1.dir r.1.name 420 it.data) else if it.kind=3 then some (.symlink r.1.dir r.1.name it.data)
   else if it.kind=4 then (if (uQ S it).2=0 then some (.link (uQ S it).1.no r.1.dir r.1.name) else none) else none):=by show _=_;rw[HR.out];exact Fv (by rw[<-HR.out];exact HE.out) (by rw[<-HR.out];exact bc)
 have Yc:Hid ((eG S it).1.no=0):=by show _=_;rw[<-HR.out];exact bc
 clear he bc
 by_cases k1:it.kind=1
 ·have t3:(it.kind == 1)=true:=by simpa using k1
  obtain ⟨X,hX⟩:∃X:jn,X=.bZ r.1.dir r.1.name 493:=⟨_,rfl⟩;have ph:gT S it=some X:=by rw[hC.out,if_pos k1,hX]
  have KC:=zH (fq.bZ P3 k (by omega) r.1.dir r.1.name 493 (by rw[HR.out];have:=kI S 0 0 it.path false;show (eG S it).1.name.length<=_;unfold eG;omega));rw [<-hX,<-iN ph,<-iO ph]at KC;clear k1 hX ph hC P3;go_wp2_with fail;refine KC.out.mono ?_;rintro e w5 ⟨rfl,T5⟩;go_wp2_with fail;go_ret;exact ⟨rfl,mK.pre oo T5⟩
 have t3:(it.kind == 1)=false:=by simpa using k1
 by_cases k2:it.kind=2
 ·have t4:(it.kind == 2)=true:=by simpa using k2
  obtain ⟨X,hX⟩:∃X:jn,X=.bB r.1.dir r.1.name 420 it.data:=⟨_,rfl⟩;have ph:gT S it=some X:=by rw[hC.out,if_neg k1,if_pos k2,hX]
  have KC:=zH (fq.bB P3 k (by omega) r.1.dir r.1.name 420 it.data (by rw[HR.out];have:=kI S 0 0 it.path false;show (eG S it).1.name.length<=_;unfold eG;omega) (by omega));rw [<-hX,<-iN ph,<-iO ph]at KC;clear k1 k2 hX ph hC P3;go_wp2_with fail;refine KC.out.mono ?_;rintro e w5 ⟨rfl,T5⟩;go_wp2_with fail;go_ret;exact ⟨rfl,mK.pre oo T5⟩
 have t4:(it.kind == 2)=false:=by simpa using k2
 by_cases k3:it.kind=3
 ·have t5:(it.kind == 3)=true:=by simpa using k3
  obtain ⟨X,hX⟩:∃X:jn,X=.symlink r.1.dir r.1.name it.data:=⟨_,rfl⟩;have ph:gT S it=some X:=by rw[hC.out,if_neg k1,if_neg k2,if_pos k3,hX]
  have KC:=zH (fq.symlink P3 k (by omega) r.1.dir r.1.name it.data (by rw[HR.out];have:=kI S 0 0 it.path false;show (eG S it).1.name.length<=_;unfold eG;omega) (by omega));rw [<-hX,<-iN ph,<-iO ph]at KC;clear k1 k2 k3 hX ph hC P3;go_wp2_with fail;refine KC.out.mono ?_;rintro e w5 ⟨rfl,T5⟩;go_wp2_with fail;go_ret;exact ⟨rfl,mK.pre oo T5⟩
 have t5:(it.kind == 3)=false:=by simpa using k3
 by_cases k4:it.kind=4
 case neg =>
  have t6:(it.kind == 4)=false:=by simpa using k4
  have hT:Hid (iY S it=S/\iq S it=0):=qq Yc.out (by rw[hC.out,if_neg k1,if_neg k2,if_neg k3,if_neg k4]);clear k1 k2 k3 k4 hC P3;go_wp2_with fail;go_ret;exact ⟨by rw[hT.out.2];rfl,by rw[hT.out.1];exact mK.refl H0.out oo⟩
 have t6:(it.kind == 4)=true:=by simpa using k4
 obtain⟨y,hy⟩:=ar (uQ S it);have Qd:Hid (gT S it=if y.2=0 then some (.link y.1.no r.1.dir r.1.name) else none):=by show _=_;rw[hC.out,if_neg k1,if_neg k2,if_neg k3,if_pos k4,hy]
 have KF:=zH (fq.find P3 k (by omega) it.data false hd);rw [show dP S 0 0 it.data false=y from hy.symm]at KF;have Yd:Hid (Calls Tryz.prog 30 #[.pointer (some ⟨f.bF,0,none⟩),.agg #[.int .i64 0,.int .i64 0],bs it.data,.bool false] W2 (aH W2 (.tuple #[.agg #[.int .i64 y.1.dir,bs y.1.name,y.1.no,.bool y.1.eS],.int .i64 y.2]))):=KF.out;have Fw:=zH P3;have RL:=wE;clear k1 k2 k3 k4 hC hy KF P3;go_wp2_with fail;refine Yd.out.mono ?_;rintro e w4 ⟨rfl,Ye⟩;clear Yd x0 x1 x2 xz d1 d6 dz;go_upto_region 18 with fail;obtain ⟨W4,fN⟩:∃W,W=w4.alloc (.cells #[.int .i64 y.1.dir,bs y.1.name,y.1.no,.bool y.1.eS] 89):=⟨_,rfl⟩;obtain ⟨iU,iW⟩:∃b,b=w4.heap.size:=⟨_,rfl⟩;have E4:Ext W2 W4:=by rw[fN];exact Ye.alloc _
 have Y4:Has W4 iU (.cells #[.int .i64 y.1.dir,bs y.1.name,y.1.no,.bool y.1.eS] 89):=by rw[fN,iW];exact Has.new _ _
 rw [<-fN,<-iW];clear fN iW Ye;have X4:=RL.out.ext E4;have P4:=fq.ext Fw.out E4;have x0:=X4.cell 0;have x1:=X4.cell 1;have xz:=X4.lt;have y2:=Y4.cell 2;have yz:=Y4.lt;simp only[gA,gB,gC]at x0 x1 y2;clear X4 Y4
 by_cases k5:y.2=0
 ·have t7:(y.2 == 0)=true:=by simpa using k5
  obtain ⟨X,hX⟩:∃X:jn,X=.link y.1.no r.1.dir r.1.name:=⟨_,rfl⟩;have ph:gT S it=some X:=by rw[Qd.out,if_pos k5,hX]
  have hN:Hid (iq S it=0):=by show _=_;rw[iO ph,hX];rfl
  have KC:=zH (fq.link P4 k (by omega) y.1.no r.1.dir r.1.name (by rw[HR.out];have:=kI S 0 0 it.path false;show (eG S it).1.name.length<=_;unfold eG;omega));rw [<-hX,<-iN ph]at KC;clear k5 hX ph Qd P4;go_wp2_with fail;refine KC.out.mono ?_;rintro e w5 ⟨rfl,T5⟩;go_wp2_with fail;go_ret;exact ⟨by rw[hN.out];rfl,mK.pre (oo.trans E4) T5⟩
 ·have t7:(y.2 == 0)=false:=by simpa using k5
  have hT:Hid (iY S it=S/\iq S it=0):=qq Yc.out (by rw[Qd.out,if_neg k5]);clear k5 Qd P4;go_wp2_with fail;go_ret;exact ⟨by rw[hT.out.2];rfl,by rw[hT.out.1];exact mK.refl H0.out (oo.trans E4)⟩
theorem MD {w:World} {B:Nat} {f:cJ} {c:Nat} {S:ac} (h:fq w B f S) (k:fy c S) (hc:c<=890) (m:eA) (hp:m.path.length<=1000000) :
  Calls Tryz.prog 53 #[.pointer (some ⟨f.bF,0,none⟩),.agg #[bs m.path,.int .i64 m.b,.int .i64 m.n]] w (fun e w'=>(∃v,e=.returned v)/\mK w B f (gF S m) w'):=by
 obtain ⟨W1,b_⟩:∃W,W=w.alloc (.cells #[bs m.path,.int .i64 m.b,.int .i64 m.n] 125):=⟨_,rfl⟩;obtain ⟨b3,oh⟩:∃b,b=w.heap.size:=⟨_,rfl⟩;have E1:Ext w W1:=by rw[b_];exact (Ext.refl _).alloc _
 have B1:Has W1 b3 (.cells #[bs m.path,.int .i64 m.b,.int .i64 m.n] 125):=by rw[b_,oh];exact Has.new _ _
 have hlt:=fq.lt h;have abc:w.heap.size<=b3:=by omega
 have KF:=zH (fq.find (fq.ext h E1) k (by omega) m.path false hp);obtain⟨r,hr⟩:=ar (mI S m);rw [show dP S 0 0 m.path false=r from hr.symm]at KF;have BM:Hid (Calls Tryz.prog 30 #[.pointer (some ⟨f.bF,0,none⟩),.agg #[.int .i64 0,.int .i64 0],bs m.path,.bool false] W1 (aH W1 (.tuple #[.agg #[.int .i64 r.1.dir,bs r.1.name,r.1.no,.bool r.1.eS],.int .i64 r.2]))):=KF.out;have HR:=zH hr;have c0:=B1.cell 0;have cz:=B1.lt;simp only[gA,gB]at c0;have qs:=zH B1;have H1:=zH (fq.ext h E1);have H0:=zH h;clear h KF hr B1;go_enter Tryz.func53,Tryz.ntmps53;go_upto_region 1 with fail;rw [<-b_,<-oh];clear b_ oh;go_wp2_with fail;refine BM.out.mono ?_;rintro e w1 ⟨rfl,b1⟩;clear BM c0 cz;go_upto_region 2 with fail;obtain ⟨W2,dF⟩:∃W,W=w1.alloc (.cells #[.int .i64 r.1.dir,bs r.1.name,r.1.no,.bool r.1.eS] 89):=⟨_,rfl⟩;obtain ⟨b4,uL⟩:∃b,b=w1.heap.size:=⟨_,rfl⟩;have E2:Ext W1 W2:=by rw[dF];exact b1.alloc _
 have X2:Has W2 b4 (.cells #[.int .i64 r.1.dir,bs r.1.name,r.1.no,.bool r.1.eS] 89):=by rw[dF,uL];exact Has.new _ _
 rw [<-dF,<-uL];have abd:W1.heap.size<=b4:=by have:=b1.size;omega
 clear dF uL b1;have P2:=fq.ext H1.out E2;have B2:=qs.out.ext E2;have Uh:=fq.lt H1.out;have xO:=zH P2;have wE:=zH X2;have I8:=zH B2;have x0:=X2.cell 0;have x1:=X2.cell 1;have x2:=X2.cell 2;have xz:=X2.lt;simp only[gA,gB,gC]at x0 x1 x2
 by_cases he:r.2=0
 case neg =>
  have t1:(r.2 == 0)=false:=by simpa using he
  have hT:Hid (gF S m=S):=BN (by rw[<-HR.out];exact he);clear he P2 X2 B2;go_wp2_with fail;go_end0;refine ⟨⟨_,rfl⟩,?_⟩;rw [hT.out];exact mK.refl H0.out (E1.trans E2)
 have t1:(r.2 == 0)=true:=by simpa using he
 have HE:=zH he
 by_cases bc:r.1.no=0
 case neg =>
  have t2:(r.1.no == 0)=false:=by simpa using bc
  have hT:Hid (gF S m=ct S r.1.no m.b m.n):=by show _=_;rw[HR.out];exact uX (by rw[<-HR.out];exact HE.out) (by rw[<-HR.out];exact bc)
  have d1:=B2.cell 1;have d2:=B2.cell 2;have dz:=B2.lt;simp only[gA,gB,gC]at d1 d2;have KM:=zH (fun u (hu:Ext W2 u)=>fq.ji (fq.ext P2 hu) k (by omega) r.1.no m.b m.n);clear he bc P2 X2 B2 x0 x1 xz;have x2:=wE.out.cell 2;have xz:=wE.out.lt;simp only[gA,gB,gC]at x2;go_wp2_with fail;refine (KM.out _ (Ext.refl _)).mono ?_;rintro e w3 ⟨⟨v3,rfl⟩,T3⟩;go_wp2_with fail;go_end0;refine ⟨⟨_,rfl⟩,?_⟩;rw [hT.out];exact mK.pre (E1.trans E2) T3
 have t2:(r.1.no == 0)=true:=by simpa using bc
 obtain ⟨X,hX⟩:∃X:jn,X=rE S m:=⟨_,rfl⟩;have Ui:X=.bZ r.1.dir r.1.name 493:=by rw[hX,HR.out];rfl
 have hT:Hid (gF S m=if fE S 0 0 0 X=0 then ct (cF S 0 0 0 X) (jT S 0 0 0 X) m.b m.n else cF S 0 0 0 X):=by show _=_;rw[hX];exact BO (by rw[<-HR.out];exact HE.out) (by rw[<-HR.out];exact bc)
 have KC:=zH (fq.bZ P2 k (by omega) r.1.dir r.1.name 493 (by rw[HR.out];have:=kI S 0 0 m.path false;show (mI S m).1.name.length<=_;unfold mI;omega));rw [<-Ui]at KC;have k1:fy (c+1) (cF S 0 0 0 X):=by rw[Ui];exact k.lP 0 0 0 _ (fun _ _ _ _ e=>by cases e)
 obtain⟨N,hN⟩:=ar (jT S 0 0 0 X);obtain ⟨e2,sZ⟩:∃e,e=fE S 0 0 0 X:=⟨_,rfl⟩;obtain⟨T,I9⟩:=ar (cF S 0 0 0 X);rw [<-hN,<-sZ,<-I9]at KC hT;rw [<-I9]at k1;clear he bc P2 X2 B2 hX Ui hN sZ I9;go_wp2_with fail;refine KC.out.mono ?_;rintro e w3 ⟨rfl,T3⟩;have X3:=mK.has T3 wE.out (fun hm=>by have:=Uh _ hm;omega);have B3:=mK.has T3 I8.out (fun hm=>by have:=hlt _ hm;omega);clear KC x0 x1 x2 xz;have f2:=Has.free X3 2;have xz:=X3.lt;have x2:=X3.cell 2;simp only[gA,gB,gC]at x2;obtain ⟨W4,fN⟩:∃W,W=w3.setCell ⟨b4,2,none⟩ (.int .i64 N):=⟨_,rfl⟩;have X4:Has W4 b4 (.cells #[.int .i64 r.1.dir,bs r.1.name,.int .i64 N,.bool r.1.eS] 89):=by rw[fN];exact Has.setCell X3 2 (.int .i64 N)
 have O4:Only [b4] w3 W4:=by rw[fN];exact Only.setCell _ _ _ _
 obtain ⟨g3,P3,O3,Uj⟩:=T3;change fq w3 B g3 T at P3;have F4:eR w3 B [b4]:=fun x hx=>by
  rw [List.mem_singleton]at hx;subst hx;have hB:=(fq.cV H0.out f.bF (by simp));have zy:=hlt f.bF (by simp);have:=E1.size;refine ⟨by omega,?_,?_⟩
  ·rintro⟨cs,fr,e⟩;unfold Has at X3;rw[X3]at e;injection e with e;injection e with _ e;exact absurd e (by decide)
  ·rintro⟨cs,fr,e⟩;unfold Has at X3;rw[X3]at e;injection e with e;injection e with _ e;exact absurd e (by decide)
 have Ot:∀x∈g3.list,x∉[b4]:=fun x hx hm=>by
  rw [List.mem_singleton]at hm;subst hm;exact fq.off P3 X3 (by decide) (by decide) (by decide) hx
 have P4:=fq.only P3 O4 F4 Ot;have B4:=O4.has B3 (by rw[List.mem_singleton];have:=qs.out.lt;omega);have Yf:cJ.on g3 f w:=⟨Uj.1,fun x hx=>(Uj.2 x hx).imp id fun e=>by have:=E1.size;have:=E2.size;omega⟩;have O0:Only (f.list) w W4:=(Only.pre (E1.trans E2) O3).trans O4 (fun x hx=>by rw[List.mem_singleton]at hx;subst hx;exact .inr (by have:=E1.size;omega));have Uk:=zH P4;have NR:=zH Yf;have TV:=zH O0;have I_:=zH X4;have Mj:=zH B4;clear P3 O3 Uj F4 Ot P4 Yf O0 X4 B4 O4 X3 B3
 by_cases h2:e2=0
 case neg =>
  have t3:(e2 == 0)=false:=by simpa using h2
  have zJ:Hid (gF S m=T):=by show _=_;rw[hT.out,if_neg h2]
  clear h2;go_upto_region 4 with fail;rw [<-fN];clear fN;go_wp2_with fail;go_end0;refine ⟨⟨_,rfl⟩,?_⟩;rw [zJ.out];exact ⟨g3,Uk.out,TV.out,NR.out⟩
 case pos =>
  have t3:(e2 == 0)=true:=by simpa using h2
  have zJ:Hid (gF S m=ct T N m.b m.n):=by show _=_;rw[hT.out,if_pos h2]
  have Uv:=fun u (hu:Ext W4 u)=>fq.ji (fq.ext Uk.out hu) k1 (by omega) N m.b m.n
  have Tb:=NR.out.1;simp only[Tb]at Uv;have KM:=zH Uv;clear Uv Tb;clear h2;go_upto_region 4 with fail;rw [<-fN];clear fN x2 xz f2;have x2:=I_.out.cell 2;have xz:=I_.out.lt;have d1:=Mj.out.cell 1;have d2:=Mj.out.cell 2;have dz:=Mj.out.lt;simp only[gA,gB,gC]at x2 d1 d2;go_wp2_with fail;refine (KM.out _ (Ext.refl _)).mono ?_;rintro e w5 ⟨⟨v5,rfl⟩,T5⟩;go_wp2_with fail;go_end0;refine ⟨⟨_,rfl⟩,?_⟩;rw [zJ.out];exact mK.trans NR.out TV.out T5
theorem fq.uZ {α:Type} {R:RowK α} {w:World} {B:Nat} {f:cJ} {S:ac} {base:Nat} {v:Value} {l:List α} (h:fq w B f S) (k:bJ R w base v l) (h1:R.t≠54) (h2:R.t≠58) (h3:R.t≠110):∀x,v.ownBlock=some x->x∉f.list:=by
 intro x hx;rcases k.cases with⟨rfl,_⟩|⟨g',cap,cur,rfl,_,h5,_⟩
 ·cases hx
 ·injection hx with hx
  subst hx;exact fq.off h h5 h1 h2 h3
theorem tj {f f':cJ} {w w0:World} (h:∀x∈f.list,w0.heap.size<=x) (on:cJ.on f' f w) (hs:w0.heap.size<=w.heap.size):∀x∈f'.list,w0.heap.size<=x:=by
 intro x hx;rcases on.2 x hx with e|e
 ·exact h x e
 ·omega
theorem ME (B:Nat) (b n:Int) (w:World) (hB:B<=w.heap.size) (hl:cA b n=true):Calls Tryz.prog 52 #[.int .i64 b,.int .i64 n] w (fun e w'=>∃g:cJ,e=.returned (.pointer (some ⟨g.bF,0,none⟩))/\gV w' B g (cr cE 0 b n) x0/\(∀x∈g.list,w.heap.size<=x)/\Ext w w'):=by
 go_enter Tryz.func52,Tryz.ntmps52;go_wp2_with fail;refine (kX b n _).mono ?_;rw [hl];rintro e w1 ⟨rfl,b1⟩;have hz:=b1.size;simp only[World.size_alloc]at hz;go_wp2_with fail;refine (tO B w.heap.size (.slice none 0 0) (.slice none 0 0) cE x0 0 b n w1 hB ((Has.new w _).ext b1) ⟨[],World.ownsRow_nil _ _ _ _,rfl,fun k hk=>by simp[cE]at hk⟩ (World.ownsRow_nil _ _ _ _) ⟨none,0,rfl⟩ ⟨none,0,rfl⟩ (by decide) (by decide) (aI.nil 0) (by decide) (by decide)).mono ?_;rintro e w2 ⟨rfl,bN,bE,F2,O2,h2,h3⟩;go_wp2_with fail;go_ret;refine ⟨⟨_,bN,bE⟩,rfl,F2,fun x hx=>?_,O2.after (((Ext.refl _).alloc _).trans b1) ?_⟩
 ·simp only[Value.ownBlock,reduceCtorEq,false_or]at h2 h3
  simp only[cJ.list,List.mem_cons,List.not_mem_nil,or_false]at hx;rcases hx with e|e|e
  ·have e':x=w.heap.size:=e
   omega
  ·have e':x=bN:=e
   omega
  ·have e':x=bE:=e
   omega
 ·intro x hx
  simp [Value.ownBlock]at hx;omega
theorem Eb (B:Nat) (Am:Option Addr) (ms:List eA) (cm:Nat) (Ai:Option Addr) (is:List dJ) (ci:Nat) (w:World) (hBw:B<=w.heap.size) (hM:dC uW w Am ms) (hI:dC sP w Ai is) (h1:ms.length<=10) (h2:is.length<=30)
  (h3:∀m∈ms,m.path.length<=1000000) (h4:∀it∈is,it.path.length<=1000000/\it.data.length<=1000000) :
  Calls Tryz.prog 27 #[.agg #[.slice Am ms.length cm,.slice Ai is.length ci]] w (fun e w'=>∃(f:cJ),e=.returned (.pointer (some ⟨f.bF,0,none⟩))/\RS w' B f ⟨fD ms is,0,0,[],false⟩/\Ext w w'):=by
 obtain ⟨nm,gY⟩:∃n,n=ms.length:=⟨_,rfl⟩;obtain ⟨ni,tg⟩:∃n,n=is.length:=⟨_,rfl⟩;obtain ⟨W1,b_⟩:∃W,W=w.alloc (.cells #[.slice Am nm cm,.slice Ai ni ci] 25):=⟨_,rfl⟩;obtain ⟨b1,jZ⟩:∃b,b=w.heap.size:=⟨_,rfl⟩;have E1:Ext w W1:=by rw[b_];exact (Ext.refl _).alloc _
 have B1:Has W1 b1 (.cells #[.slice Am nm cm,.slice Ai ni ci] 25):=by rw[b_,jZ];exact Has.new _ _
 have KL:Hid (Calls Tryz.prog 51 #[.agg #[.slice Am nm cm,.slice Ai ni ci]] W1 (aH W1 (.tuple #[.int .i64 (eK ms).1,.int .i64 (eK ms).2]))):=by
  show Calls _ _ _ _ _;rw [gY];exact DW Am ms cm Ai ni ci W1 (hM.ext E1) (by omega)
 rw [<-gY]at h1|-;rw [<-tg]at h2|-;have CA:=zH gY;have Qe:=zH tg;have HM:=zH (hM.ext E1);have HI:=zH (hI.ext E1);have qs:=zH B1;have c0:=B1.cell 0;have c1:=B1.cell 1;have cz:=B1.lt;simp only[gA,gB,gC]at c0 c1;clear gY tg hM hI B1;go_enter Tryz.func27,Tryz.ntmps27;go_upto_region 1 with fail;rw [<-b_,<-jZ];clear b_ jZ;go_wp2_with fail;refine KL.out.mono ?_;rintro e w2 ⟨rfl,E2⟩;clear KL c0 c1 cz;go_wp2_with fail;refine (ME B (eK ms).1 (eK ms).2 w2 (by have:=E1.size;have:=E2.size;omega) (jL ms)).mono ?_;rintro e w3 ⟨f0,rfl,K3,I4,E3⟩;have P3:fq w3 B f0 (dX (fX ms) (ms.take 0)):=⟨none,0,K3,.inl rfl⟩;have RP:Ext W1 w3:=E2.trans E3;have Lb:∀x∈f0.list,W1.heap.size<=x:=fun x hx=>by have:=I4 x hx;have:=E2.size;omega
 obtain ⟨bF,Tb⟩:∃b,b=f0.bF:=⟨_,rfl⟩;rw [<-Tb];have Fw:=zH P3;have HF1:=zH Lb;have HBF:=zH Tb;have hBW:B<=W1.heap.size:=by have:=E1.size;omega
 clear K3 P3 E2 E3 I4 Lb Tb;go_wp2_with fail;go_loopw [6] (fun vi wr=>∃(k:Nat) (f:cJ),vi=.int .i64 k/\k<=nm/\f.bF=bF/\(∀x∈f.list,W1.heap.size<=x)/\fq wr B f (dX (fX ms) (ms.take k))/\Ext W1 wr) (fun vi _=>nm-(intOf vi).toNat)
 case atStart=>exact⟨0,f0,rfl,Nat.zero_le _,HBF.out.symm,HF1.out,Fw.out,RP⟩
 case round =>
  clear Fw HF1 HBF;obtain ⟨k,f,rfl,hk,rfl,hF,hP,hE⟩:=hrel;have HF:=zH hF;have B3:=qs.out.ext hE;have c0:=B3.cell 0;have c1:=B3.cell 1;have cz:=B3.lt;simp only[gA,gB,gC]at c0 c1;clear B3 hF;have k0:(0:Int)<=(k:Int):=Int.natCast_nonneg _;have HP:=zH hP;have HE:=zH hE
  by_cases hlt:(k:Int)<nm
  case pos =>
   have dq:k<ms.length:=by have:=CA.out;omega
   obtain ⟨ba,o,rfl,zG,q0,q1,q2⟩:=(HM.out.ext hE).Ib dq;have Du:IntKind.i64.wrap ((k:Int)+1)=(k:Int)+1:=IntWalk.i64_in _ (by omega);have hst:=uY (fX ms) ms dq;have hpl:=h3 ms[k] (List.getElem_mem dq);have rI:fy (2*k) (dX (fX ms) (ms.take k)):=(((fy.first (jL ms)).wF (ms.take k))).mono (by rw[List.length_take];omega);obtain⟨m,hm⟩:=ar (ms[k]);rw [<-hm]at q0 q1 q2 hst hpl;have tp:=qp m.path;have KM:=zH (MD HP.out rI (by omega) m hpl);have ou:=zH hst;clear hP hE hm hst hpl rI;obtain⟨P,zf⟩:=ar (bs m.path);rw [<-zf]at q0 tp KM;clear zf;have tt:mJ m=(m.path == [47]):=rfl;rw [<-tt]at tp;clear tt
   cases ht:mJ m with
   | true =>
    rw [ht]at tp;have Mh:Hid (dX (fX ms) (ms.take (k+1))=dX (fX ms) (ms.take k)):=by show _=_;rw[ou.out,if_pos ht]
    clear ht;go_wp2_with fail;go_roundw
    case rel=>exact⟨k+1,f,by go_num,by omega,rfl,HF.out,by rw[Mh.out];exact HP.out,HE.out⟩
    case measure=>simp[intOf];omega
   | false =>
    rw [ht]at tp;have Mh:Hid (dX (fX ms) (ms.take (k+1))=gF (dX (fX ms) (ms.take k)) m):=by show _=_;rw[ou.out,if_neg (by rw[ht];decide)]
    clear ht;go_wp2_with fail;refine KM.out.mono ?_;rintro e w5 ⟨⟨v5,rfl⟩,T5⟩;obtain ⟨f5,P5,o5,on5⟩:=T5;change fq w5 B f5 _ at P5;have E5:Ext W1 w5:=o5.after HE.out HF.out;have Fx:=zH P5;have HF5:Hid (∀x∈f5.list,W1.heap.size<=x):=by
     show ∀_∈_,_;intro x hx;rcases on5.2 x hx with e|e
     ·exact HF.out x e
     ·have:=HE.out.size;omega
    have HB5:=zH on5.1;clear P5 KM o5 on5;go_wp2_with fail;go_roundw
    case rel=>exact⟨k+1,f5,by go_num,by omega,HB5.out,HF5.out,by rw[Mh.out];exact Fx.out,E5⟩
    case measure=>simp[intOf];omega
  case neg =>
   have lk:ms.take k=ms:=List.take_of_length_le (by have:=CA.out;omega);have zK:=HP.out;rw [lk]at zK;have DX:fy 20 (dX (fX ms) ms):=((fy.first (jL ms)).wF ms).mono (by have:=CA.out;omega);obtain ⟨S1,C5⟩:∃S,S=dX (fX ms) ms:=⟨_,rfl⟩;rw [<-C5]at zK DX;have Mk:Hid (fD ms is=dN (dD (S1,[]) is).1 ((dD (S1,[]) is).2.zip is)):=by show _=_;rw[C5];rfl
   have xO:=zH zK;have Ml:=zH DX;have Mm:B<=wr.heap.size:=by have h7:=HE.out.size;omega
   obtain ⟨N0,Ul⟩:∃N,N=wr.heap.size:=⟨_,rfl⟩;have Mn:N0<=wr.heap.size:=by omega
   have abg:W1.heap.size<=N0:=by have:=HE.out.size;omega
   rw [<-Ul]at Mm;clear hP hE zK DX lk C5 Ul;go_wp2_with fail;clear c0 c1 cz hlt hk k0;go_loopw [7,8] (fun vm vi wr=>∃(k:Nat) (f':cJ),vi=.int .i64 k/\k<=ni/\f'.bF=f.bF/\(∀x∈f'.list,W1.heap.size<=x)/\fq wr B f' (dD (S1,[]) (is.take k)).1/\bJ qj wr N0 vm (dD (S1,[]) (is.take k)).2/\N0<=wr.heap.size/\Ext W1 wr) (fun _ vi _=>ni-(intOf vi).toNat)
   case atStart=>exact⟨0,f,rfl,Nat.zero_le _,rfl,HF.out,xO.out,bJ.nil _ _ _,Mn,HE.out⟩
   case round =>
    clear xO HE Mn;obtain ⟨k,f2,rfl,hk,Yu,hF,hP,hO,Yj,hE⟩:=hrel;have Qj:=zH Yu;have Vt:=zH hF;clear Yu;have B3:=qs.out.ext hE;have c0:=B3.cell 0;have c1:=B3.cell 1;have cz:=B3.lt;simp only[gA,gB,gC]at c0 c1;clear B3 hF;have k0:(0:Int)<=(k:Int):=Int.natCast_nonneg _
    by_cases hlt:(k:Int)<ni
    case pos =>
     have dq:k<is.length:=by have:=Qe.out;omega
     obtain ⟨ba,o,rfl,zG,q0,q1,q2,q3,q4,q5,q6⟩:=(HI.out.ext hE).DV dq;have Du:IntKind.i64.wrap ((k:Int)+1)=(k:Int)+1:=IntWalk.i64_in _ (by omega);have hst:=sj (S1,[]) is dq;have hil:=h4 is[k] (List.getElem_mem dq);have fR:=fy.items (is.take k) (S1,[]) Ml.out;have pW:(is.take k).length=k:=by rw[List.length_take];omega
     rw [pW]at fR;obtain ⟨it,hit⟩:∃m,m=is[k]:=⟨_,rfl⟩;rw [<-hit]at q0 q1 q2 q3 q4 q5 q6 hst hil;obtain⟨p,sU⟩:=ar (dD (S1,[]) (is.take k));rw [<-sU]at hst hP hO fR;have Mo:=fR.2;simp only[List.length_nil,Nat.zero_add]at Mo;have Mp:=zH fR.1;obtain ⟨W8,vX⟩:∃W,W=wr.alloc (.cells #[bs it.path,it.kind,it.mode,it.uid,it.gid,it.mtime,bs it.data] 80):=⟨_,rfl⟩;obtain ⟨b9,tf⟩:∃b,b=wr.heap.size:=⟨_,rfl⟩;have E8:Ext wr W8:=by rw[vX];exact (Ext.refl _).alloc _
     have B8:Has W8 b9 (.cells #[bs it.path,it.kind,it.mode,it.uid,it.gid,it.mtime,bs it.data] 80):=by rw[vX,tf];exact Has.new _ _
     have P8:=fq.ext hP E8;have O8:=hO.ext E8;have Um:=fq.lt hP;have abf:wr.heap.size<=b9:=by omega
     have KN0:=MC P8 fR.1 (by omega) it hil.1 hil.2;rw [Qj.out]at KN0;have KN:=zH KN0;clear KN0;obtain⟨T,hT⟩:=ar (iY p.1 it);obtain ⟨no,bc⟩:∃n,n=iq p.1 it:=⟨_,rfl⟩;rw [<-hT,<-bc]at KN;have Bu:dD (S1,[]) (is.take (k+1))=(fp T no it,p.2++[no]):=by rw[hst,hT,bc];rfl
     have Mq:fy (20+3*k+1) T:=by rw[hT];exact fR.1.DV it
     have ou:=zH Bu;have Yk:=zH Mq;have Ih:=zH P8;have xP:=zH O8;have HB8:=zH B8;have zL:=zH (hE.trans E8);have r0:=B8.cell 0;have r1:=B8.cell 1;have r2:=B8.cell 2;have r3:=B8.cell 3;have r4:=B8.cell 4;have r5:=B8.cell 5;have r6:=B8.cell 6;have rz:=B8.lt;simp only[gA,gB,gC]at r0 r1 r2 r3 r4 r5 r6;clear hst hil fR sU hP hO hE hit hT bc Bu Mq P8 O8 B8 pW;go_upto_region 13 with fail;rw [<-vX,<-tf];clear vX tf q0 q1 q2 q3 q4 q5 q6 zG;go_wp2_with fail;refine KN.out.mono ?_;rintro e w9 ⟨rfl,T9⟩;have B9:=mK.has T9 HB8.out (fun hm=>by have:=Um _ hm;omega);have hoff:=fq.uZ Ih.out xP.out (by decide) (by decide) (by decide);obtain ⟨f9,P9,o9,Yl⟩:=T9;change fq w9 B f9 T at P9;have E9:Ext W1 w9:=o9.after zL.out Vt.out;have HF9:=zH (tj Vt.out Yl zL.out.size);have HB9:=zH (Yl.1.trans Qj.out);have O9:=xP.out.only o9 hoff;have Mr:N0<=w9.heap.size:=by have:=o9.size;have:=E8.size;omega
     obtain ⟨v10,DJ,Ms,Mt,DY,_⟩:=sf qj w9 O9 Mr no (by omega);have Qf:Ext W1 DJ:=(E9.alloc _).grown DY (fun g hv=>by have:=(O9.lt hv).1;omega);have Qg:Only u7.ownBlock.toList w9 DJ:=(Only.gS _ _ _).then (Only.of_grownBy DY (fun g hv=>Option.mem_toList.2 hv));have Ym:=fq.only P9 Qg (O9.cV Mm (by decide) (by decide)) (fun x hx hm=>fq.uZ P9 O9 (by decide) (by decide) (by decide) x (Option.mem_toList.1 hm) hx);have Yn:=Qg.has B9 (O9.ny B9 (by decide));have Mu:N0<=DJ.heap.size:=by have:=Qg.size;omega
     have Mv:=zH Ms;have vc:=zH Ym;have DZ:=zH Mt;have vg:=zH Yn;have Ii:=zH Qf;clear E9 B9 hoff P9 o9 Yl O9 Ms Mt DY Qf Qg Ym Yn KN r0 r1 r2 r3 r4 r5 r6 rz Mr
     by_cases iV:no=0
     case pos =>
      have t1:(no != 0)=false:=by simpa using iV
      have hD:Hid (fp T no it=T):=by show _=_;unfold fp;rw[if_neg (fun q=>q iV)]
      clear iV;go_wp2_with (at_builtin;refine Lib.wpList_append_run _ rfl _ _ 123 123 rfl _ _ rfl rfl _ _ Mv.out ?_);go_roundw
      case rel=>exact⟨k+1,f9,by go_num,by omega,HB9.out,HF9.out,by rw[ou.out,hD.out];exact vc.out,by rw[ou.out];exact DZ.out,Mu,Ii.out⟩
      case measure=>simp[intOf];omega
     case neg =>
      have t1:(no != 0)=true:=by simpa using iV
      have hD:Hid (fp T no it=cF (cF T 0 0 0 (.cU no it.uid it.gid)) 0 0 0 (.dn no it.mode)):=by show _=_;unfold fp;rw[if_pos iV];rfl
      have CB:=fq.cU vc.out Yk.out (by omega) no it.uid it.gid;rw [HB9.out]at CB;have KC:=zH CB;clear CB;have D2:fy (20+3*k+1+1) (cF T 0 0 0 (.cU no it.uid it.gid)):=Yk.out.lP 0 0 0 _ (fun _ _ _ _ e=>by cases e);obtain⟨U,hU⟩:=ar (cF T 0 0 0 (.cU no it.uid it.gid));obtain ⟨ec,Yo⟩:∃e,e=fE T 0 0 0 (.cU no it.uid it.gid):=⟨_,rfl⟩;rw [<-hU,<-Yo]at KC;rw [<-hU]at hD D2;have HPU:=zH D2;clear iV hU Yo D2;have r3:=vg.out.cell 3;have r4:=vg.out.cell 4;have rz:=vg.out.lt;simp only[gA,gB,gC]at r3 r4;go_wp2_with (at_builtin;refine Lib.wpList_append_run _ rfl _ _ 123 123 rfl _ _ rfl rfl _ _ Mv.out ?_);refine KC.out.mono ?_;rintro e Ja ⟨rfl,Mw⟩;have Un:=mK.has Mw vg.out (fq.off vc.out vg.out (by decide) (by decide) (by decide));have hoff:=fq.uZ vc.out DZ.out (by decide) (by decide) (by decide);obtain ⟨f11,D8,D_,vh⟩:=Mw;change fq Ja B f11 U at D8;have tc:Ext W1 Ja:=D_.after Ii.out HF9.out;have Qk:=zH (tj HF9.out vh Ii.out.size);have Ql:=zH (vh.1.trans HB9.out);have Mx:=DZ.out.only D_ hoff;have Yp:N0<=Ja.heap.size:=by have:=D_.size;omega
      have Uv:=fq.dn D8 HPU.out (by omega) no it.mode;rw [Ql.out]at Uv;have KM:=zH Uv;clear Uv;obtain⟨V,hV⟩:=ar (cF U 0 0 0 (.dn no it.mode));obtain ⟨ed,Yq⟩:∃e,e=fE U 0 0 0 (.dn no it.mode):=⟨_,rfl⟩;rw [<-hV,<-Yq]at KM;rw [<-hV]at hD;have BP:=zH D8;have zg:=zH Mx;have BQ:=zH tc;clear r3 r4 rz KC hV Yq vh D_ hoff D8 Mx tc;have r2:=Un.cell 2;have rz:=Un.lt;simp only[gA,gB,gC]at r2;clear Un;go_wp2_with fail;refine KM.out.mono ?_;rintro e I5 ⟨rfl,T12⟩;have hoff:=fq.uZ BP.out zg.out (by decide) (by decide) (by decide);obtain ⟨f12,Qh,RQ,My⟩:=T12;change fq I5 B f12 V at Qh;have Dm:Ext W1 I5:=RQ.after BQ.out Qk.out;have abh:=zH (tj Qk.out My BQ.out.size);have abj:=zH (My.1.trans Ql.out);have Ow:=zg.out.only RQ hoff;have Mz:N0<=I5.heap.size:=by have:=RQ.size;omega
      have Uo:=zH Qh;have Uq:=zH Ow;have Ea:=zH Dm;clear r2 rz KM My RQ hoff Qh Ow Dm;go_wp2_with fail;go_roundw
      case rel=>exact⟨k+1,f12,by go_num,by omega,abj.out,abh.out,by rw[ou.out,hD.out];exact Uo.out,by rw[ou.out];exact Uq.out,Mz,Ea.out⟩
      case measure=>simp[intOf];omega
    case neg =>
     have lk:is.take k=is:=List.take_of_length_le (by have:=Qe.out;omega);rw [lk]at hP hO;have fR:=fy.items is (S1,[]) Ml.out;have tg:=Qe.out;obtain⟨p,sU⟩:=ar (dD (S1,[]) is);rw [<-sU]at hP hO fR;have K_:Hid (fD ms is=dN p.1 (p.2.zip is)):=by show _=_;rw[Mk.out,sU]
     have Mo:p.2.length=ni:=by have:=fR.2;simp only[List.length_nil,Nat.zero_add]at this;omega
     have HOL:=zH Mo;have hzl:Hid ((p.2.zip is).length=ni):=by show _=_;rw[List.length_zip];omega
     have Ur:=zH (fR.1.mono (show 20+3*is.length<=110 by omega));have HP:=zH hP;obtain ⟨Am,cm',Yr,_,_,MA,_⟩:=hO.at_;rw [Mo]at Yr;have HO:=zH hO;have HE:=zH hE;have Us:=zH MA;subst Yr;clear hP hO hE lk fR tg sU Mo MA;go_wp2_with fail;clear c0 c1 cz hlt hk k0;go_loopw [11] (fun vi wr=>∃(k:Nat) (f':cJ),vi=.int .i64 k/\k<=ni/\f'.bF=f.bF/\(∀x∈f'.list,W1.heap.size<=x)/\fq wr B f' (dN p.1 ((p.2.zip is).take k))/\bJ qj wr N0 (.slice Am ni cm') p.2/\Ext W1 wr) (fun vi _=>ni-(intOf vi).toNat)
     case atStart=>exact⟨0,f2,rfl,Nat.zero_le _,Qj.out,Vt.out,HP.out,HO.out,HE.out⟩
     case round =>
      clear HP HO HE Yj Us Qj Vt;obtain ⟨k,f3,rfl,hk,Yu,hF,hP,hO,hE⟩:=hrel;have Qm:=zH Yu;have HF3:=zH hF;clear Yu;have B3:=qs.out.ext hE;have c0:=B3.cell 0;have c1:=B3.cell 1;have cz:=B3.lt;simp only[gA,gB,gC]at c0 c1;clear B3 hF;have k0:(0:Int)<=(k:Int):=Int.natCast_nonneg _
      by_cases hlt:(k:Int)<ni
      case pos =>
       have dq:k<is.length:=by have:=Qe.out;omega
       have Qi:k<p.2.length:=by have:=HOL.out;omega
       have Yt:k<(p.2.zip is).length:=by have:=hzl.out;omega
       obtain ⟨ba,o,rfl,zG,q0,q1,q2,q3,q4,q5,q6⟩:=(HI.out.ext hE).DV dq;obtain ⟨gm,Vp,Ut,qm⟩:∃gm,Am=some ⟨gm,0,none⟩/\gm<wr.heap.size/\wr.cell? ⟨gm,k,none⟩=some (.int .i64 p.2[k]):=by
        rcases hO.cases with⟨_,h2⟩|⟨gm,cap,cur,h2,_,h3,_,_,h4⟩
        ·rw[h2]at Qi;cases Qi
        ·injection h2 with h2
         have:=h4 k Qi 0 (by decide);exact ⟨gm,h2,h3.lt,by simpa [qj]using this⟩
       subst Vp;have Du:IntKind.i64.wrap ((k:Int)+1)=(k:Int)+1:=IntWalk.i64_in _ (by omega);have hst:=sk p.1 (p.2.zip is) Yt;rw [List.getElem_zip]at hst;have rI:fy (110+k) (dN p.1 ((p.2.zip is).take k)):=(fy.times ((p.2.zip is).take k) Ur.out).mono (by rw[List.length_take];omega);obtain ⟨it,hit⟩:∃m,m=is[k]:=⟨_,rfl⟩;obtain ⟨no,bc⟩:∃m,m=p.2[k]:=⟨_,rfl⟩;rw [<-hit]at q0 q1 q2 q3 q4 q5 q6 hst;rw [<-bc]at qm hst;obtain ⟨S3,Ig⟩:∃S,S=dN p.1 ((p.2.zip is).take k):=⟨_,rfl⟩;rw [<-Ig]at hst rI hP;have ou:=zH hst;have Ih:=zH hP;have xP:=zH hO;have zL:=zH hE;have Mp:=zH rI;obtain ⟨W8,vX⟩:∃W,W=wr:=⟨_,rfl⟩;clear hst hP hO hE hit bc Ig rI Qi Yt
       by_cases iV:no=0
       case pos =>
        have t1:(no != 0)=false:=by simpa using iV
        have hD:Hid (dN p.1 ((p.2.zip is).take (k+1))=S3):=by show _=_;rw[ou.out];unfold lU;rw[if_neg (fun q=>q iV)]
        clear iV;go_wp2_with fail;go_roundw
        case rel=>exact⟨k+1,f3,by go_num,by omega,Qm.out,HF3.out,by rw[hD.out];exact Ih.out,xP.out,zL.out⟩
        case measure=>simp[intOf];omega
       case neg =>
        have t1:(no != 0)=true:=by simpa using iV
        have hD:Hid (dN p.1 ((p.2.zip is).take (k+1))=cF S3 0 0 0 (.dp no it.mtime)):=by show _=_;rw[ou.out];unfold lU;rw[if_pos iV];rfl
        have Uu:=(Ext.refl wr).drew;have CB:=fq.dp (fq.ext Ih.out Uu) Mp.out (by omega) no it.mtime;rw [Qm.out]at CB;have KC:=zH CB;have MB:=zH Uu;clear iV Uu CB vX;go_upto_region 22 with fail;go_still_tail 12,(by kernel_rfl);change wpList _ _ _ _ _ wr.drew;go_wp2_with fail;refine KC.out.mono ?_;rintro e Ja ⟨rfl,Mw⟩;have hoff:=fq.uZ (fq.ext Ih.out MB.out) (xP.out.ext MB.out) (by decide) (by decide) (by decide);obtain ⟨f11,D8,D_,vh⟩:=Mw;change fq Ja B f11 _ at D8;have tc:Ext W1 Ja:=D_.after (zL.out.trans MB.out) HF3.out;have Qk:=zH (tj HF3.out vh (zL.out.trans MB.out).size);have Ql:=zH (vh.1.trans Qm.out);have Mx:=(xP.out.ext MB.out).only D_ hoff;have BP:=zH D8;have zg:=zH Mx;have BQ:=zH tc;clear KC vh D_ hoff D8 Mx tc;go_wp2_with fail;go_roundw
        case rel=>exact⟨k+1,f11,by go_num,by omega,Ql.out,Qk.out,by rw[hD.out];exact BP.out,zg.out,BQ.out⟩
        case measure=>simp[intOf];omega
      case neg =>
       have lk:(p.2.zip is).take k=p.2.zip is:=List.take_of_length_le (by have:=hzl.out;omega);rw [lk,<-K_.out]at hP;have HP:=zH hP;have HE:=zH hE;clear lk hP hE hO;go_wp2_with fail;go_ret;exact ⟨f3,by rw[Qm.out];rfl,HP.out,E1.trans HE.out⟩
end Go.Proofs.YtblbohcaphcobaaGreatDoor
