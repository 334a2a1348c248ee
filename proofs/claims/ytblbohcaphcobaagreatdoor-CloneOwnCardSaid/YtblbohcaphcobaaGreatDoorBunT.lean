import Derived.Test.YtblbohcaphcobaaGreatDoorBunS
import Derived.Test.YtblbohcaphcobaaGreatDoorBunE
set_option maxHeartbeats 16000000
set_option maxRecDepth 100000
namespace Go.Proofs.YtblbohcaphcobaaGreatDoor
open Go.ChangeShapes Go.WideShapes Go.ChangeAt Go.RowKit
theorem Lz {w:World} {B:Nat} {f:cE} {c:Nat} {S:aa} (h:eU w B f S) (k:e7 c S) (hc:c<=890) (it:dN) (hp:it.path.length<=1000000) (hd:it.data.length<=1000000) :
  Calls Tryz.prog 54 #[.pointer (some ⟨f.bF,0,none⟩),.agg #[bs it.path,it.kind,it.mode,it.uid,it.gid,it.mtime,bs it.data]] w (fun e w'=>e=.returned (.int .i64 (ie S it))/\mz w B f (jd S it) w'):=by
 obtain ⟨W1,bV⟩:∃W,W=w.alloc (.cells #[bs it.path,it.kind,it.mode,it.uid,it.gid,it.mtime,bs it.data] 80):=⟨_,rfl⟩;obtain ⟨b3,nK⟩:∃b,b=w.heap.size:=⟨_,rfl⟩;have E1:Ext w W1:=by rw[bV];exact (Ext.refl _).alloc _
 have B1:Has W1 b3 (.cells #[bs it.path,it.kind,it.mode,it.uid,it.gid,it.mtime,bs it.data] 80):=by rw[bV,nK];exact Has.new _ _
 have KF:=zH (eU.find (eU.ext h E1) k (by omega) it.path false hp);obtain⟨r,hr⟩:=aq (ew S it);rw [show dF S 0 0 it.path false=r from hr.symm]at KF;have A_:Hid (Calls Tryz.prog 30 #[.pointer (some ⟨f.bF,0,none⟩),.agg #[.int .i64 0,.int .i64 0],bs it.path,.bool false] W1 (aH W1 (.tuple #[.agg #[.int .i64 r.1.dir,bs r.1.name,r.1.no,.bool r.1.eH],.int .i64 r.2]))):=KF.out;have HR:=zH hr;have c0:=B1.cell 0;have cz:=B1.lt;simp only[gA,gB]at c0;have p6:=zH B1;have H1:=zH (eU.ext h E1);have H0:=zH h;clear h KF hr B1;go_enter Tryz.func54,Tryz.ntmps54;go_upto_region 1 with fail;rw [<-bV,<-nK];clear bV nK;go_wp2_with fail;refine A_.out.mono ?_;rintro e w1 ⟨rfl,b1⟩;clear A_ c0 cz;go_upto_region 2 with fail;obtain ⟨W2,du⟩:∃W,W=w1.alloc (.cells #[.int .i64 r.1.dir,bs r.1.name,r.1.no,.bool r.1.eH] 89):=⟨_,rfl⟩;obtain ⟨b4,ug⟩:∃b,b=w1.heap.size:=⟨_,rfl⟩;have E2:Ext W1 W2:=by rw[du];exact b1.alloc _
 have X2:Has W2 b4 (.cells #[.int .i64 r.1.dir,bs r.1.name,r.1.no,.bool r.1.eH] 89):=by rw[du,ug];exact Has.new _ _
 rw [<-du,<-ug];clear du ug b1;have B2:=p6.out.ext E2;have P3:=eU.ext H1.out E2;have nN:=E1.trans E2;have vM:=zH X2;have x0:=X2.cell 0;have x1:=X2.cell 1;have x2:=X2.cell 2;have xz:=X2.lt;have d1:=B2.cell 1;have d6:=B2.cell 6;have dz:=B2.lt;simp only[gA,gB,gC]at x0 x1 x2 d1 d6;clear X2 B2
 by_cases he:r.2=0
 case neg =>
  have t1:(r.2 != 0)=true:=by simpa using he
  have hT:Hid (jd S it=S/\ie S it=0):=EL (by rw[<-HR.out];exact he);clear he P3;go_wp2_with fail;go_ret;exact ⟨by rw[hT.out.2];rfl,by rw[hT.out.1];exact mz.refl H0.out nN⟩
 have t1:(r.2 != 0)=false:=by simpa using he
 have HE:=zH he
 by_cases aU:r.1.no=0
 case neg =>
  have t2:(r.1.no != 0)=true:=by simpa using aU
  obtain ⟨m1,i6⟩:∃m,m=ac S.nodes r.1.no:=⟨_,rfl⟩;have hT:Hid (jd S it=S/\ie S it=if it.kind=1/\m1.kind=1 then r.1.no else 0):=by show _/\_;rw[i6,HR.out];exact xi (by rw[<-HR.out];exact HE.out) (by rw[<-HR.out];exact aU)
  have KG:=zH (eU.get P3 k (by omega) r.1.no);have HM1:=zH i6;clear he aU P3 i6
  by_cases jI:it.kind=1
  case neg =>
   have t3:(it.kind == 1)=false:=by simpa using jI
   have ut:Hid (ie S it=0):=by show _=_;rw[hT.out.2,if_neg (fun q=>jI q.1)]
   clear jI;go_wp2_with fail;go_ret;exact ⟨by rw[ut.out];rfl,by rw[hT.out.1];exact mz.refl H0.out nN⟩
  have t3:(it.kind == 1)=true:=by simpa using jI
  go_wp2_with fail;refine KG.out.mono ?_;rintro e w4 ⟨A4,c4,rfl,rY,E4⟩;clear KG;rw [<-HM1.out]at rY|-;have acf:∀w',(Instr.field 58 (.agg #[m1.no,m1.dev,m1.kind,m1.mode,m1.uid,m1.gid,m1.mtime,m1.ctime,m1.ah,m1.up,bs m1.data,.slice A4 m1.af.length c4]) 2).run Tryz.prog w'=.ok (.int .i64 m1.kind) w':=fun w'=>(Cn _ _ _ _ _ _ _ _ _ _ _ _ w').2
  have x2':=(E4.cell xz).trans x2;have xz':b4<w4.heap.size:=by have:=E4.size;omega
  clear x0 x1 x2 xz d1 d6 dz
  by_cases hk2:m1.kind=1
  ·have t4:(m1.kind == 1)=true:=by simpa using hk2
   have ut:Hid (ie S it=r.1.no):=by show _=_;rw[hT.out.2,if_pos ⟨jI,hk2⟩]
   clear jI hk2;go_wp2_with fail;go_ret;exact ⟨by rw[ut.out];rfl,by rw[hT.out.1];exact mz.refl H0.out (nN.trans E4)⟩
  ·have t4:(m1.kind == 1)=false:=by simpa using hk2
   have ut:Hid (ie S it=0):=by show _=_;rw[hT.out.2,if_neg (fun q=>hk2 q.2)]
   clear jI hk2;go_wp2_with fail;go_ret;exact ⟨by rw[ut.out];rfl,by rw[hT.out.1];exact mz.refl H0.out (nN.trans E4)⟩
 have t2:(r.1.no != 0)=false:=by simpa using aU
 have hC:Hid (gR S it=if it.kind=1 then some (.bB r.1.dir r.1.name 493) else if it.kind=2 then some (.bc r.1.dir r.1.name 420 it.data) else if it.kind=3 then some (.symlink r.1.dir r.1.name it.data)
   else if it.kind=4 then (if (uo S it).2=0 then some (.link (uo S it).1.no r.1.dir r.1.name) else none) else none):=by show _=_;rw[HR.out];exact EM (by rw[<-HR.out];exact HE.out) (by rw[<-HR.out];exact aU)
 have V6:Hid ((ew S it).1.no=0):=by show _=_;rw[<-HR.out];exact aU
 clear he aU
 by_cases k1:it.kind=1
 ·have t3:(it.kind == 1)=true:=by simpa using k1
  obtain ⟨X,hX⟩:∃X:ia,X=.bB r.1.dir r.1.name 493:=⟨_,rfl⟩;have oW:gR S it=some X:=by rw[hC.out,if_pos k1,hX]
  have KC:=zH (eU.bB P3 k (by omega) r.1.dir r.1.name 493 (by rw[HR.out];have:=kv S 0 0 it.path false;show (ew S it).1.name.length<=_;unfold ew;omega));rw [<-hX,<-iE oW,<-iF oW]at KC;clear k1 hX oW hC P3;go_wp2_with fail;refine KC.out.mono ?_;rintro e w5 ⟨rfl,T5⟩;go_wp2_with fail;go_ret;exact ⟨rfl,mz.pre nN T5⟩
 have t3:(it.kind == 1)=false:=by simpa using k1
 by_cases k2:it.kind=2
 ·have t4:(it.kind == 2)=true:=by simpa using k2
  obtain ⟨X,hX⟩:∃X:ia,X=.bc r.1.dir r.1.name 420 it.data:=⟨_,rfl⟩;have oW:gR S it=some X:=by rw[hC.out,if_neg k1,if_pos k2,hX]
  have KC:=zH (eU.bc P3 k (by omega) r.1.dir r.1.name 420 it.data (by rw[HR.out];have:=kv S 0 0 it.path false;show (ew S it).1.name.length<=_;unfold ew;omega) (by omega));rw [<-hX,<-iE oW,<-iF oW]at KC;clear k1 k2 hX oW hC P3;go_wp2_with fail;refine KC.out.mono ?_;rintro e w5 ⟨rfl,T5⟩;go_wp2_with fail;go_ret;exact ⟨rfl,mz.pre nN T5⟩
 have t4:(it.kind == 2)=false:=by simpa using k2
 by_cases k3:it.kind=3
 ·have t5:(it.kind == 3)=true:=by simpa using k3
  obtain ⟨X,hX⟩:∃X:ia,X=.symlink r.1.dir r.1.name it.data:=⟨_,rfl⟩;have oW:gR S it=some X:=by rw[hC.out,if_neg k1,if_neg k2,if_pos k3,hX]
  have KC:=zH (eU.symlink P3 k (by omega) r.1.dir r.1.name it.data (by rw[HR.out];have:=kv S 0 0 it.path false;show (ew S it).1.name.length<=_;unfold ew;omega) (by omega));rw [<-hX,<-iE oW,<-iF oW]at KC;clear k1 k2 k3 hX oW hC P3;go_wp2_with fail;refine KC.out.mono ?_;rintro e w5 ⟨rfl,T5⟩;go_wp2_with fail;go_ret;exact ⟨rfl,mz.pre nN T5⟩
 have t5:(it.kind == 3)=false:=by simpa using k3
 by_cases k4:it.kind=4
 case neg =>
  have t6:(it.kind == 4)=false:=by simpa using k4
  have hT:Hid (jd S it=S/\ie S it=0):=p5 V6.out (by rw[hC.out,if_neg k1,if_neg k2,if_neg k3,if_neg k4]);clear k1 k2 k3 k4 hC P3;go_wp2_with fail;go_ret;exact ⟨by rw[hT.out.2];rfl,by rw[hT.out.1];exact mz.refl H0.out nN⟩
 have t6:(it.kind == 4)=true:=by simpa using k4
 obtain⟨y,hy⟩:=aq (uo S it);have Oz:Hid (gR S it=if y.2=0 then some (.link y.1.no r.1.dir r.1.name) else none):=by show _=_;rw[hC.out,if_neg k1,if_neg k2,if_neg k3,if_pos k4,hy]
 have KF:=zH (eU.find P3 k (by omega) it.data false hd);rw [show dF S 0 0 it.data false=y from hy.symm]at KF;have V7:Hid (Calls Tryz.prog 30 #[.pointer (some ⟨f.bF,0,none⟩),.agg #[.int .i64 0,.int .i64 0],bs it.data,.bool false] W2 (aH W2 (.tuple #[.agg #[.int .i64 y.1.dir,bs y.1.name,y.1.no,.bool y.1.eH],.int .i64 y.2]))):=KF.out;have Hs:=zH P3;have Qm:=vM;clear k1 k2 k3 k4 hC hy KF P3;go_wp2_with fail;refine V7.out.mono ?_;rintro e w4 ⟨rfl,V_⟩;clear V7 x0 x1 x2 xz d1 d6 dz;go_upto_region 18 with fail;obtain ⟨W4,fO⟩:∃W,W=w4.alloc (.cells #[.int .i64 y.1.dir,bs y.1.name,y.1.no,.bool y.1.eH] 89):=⟨_,rfl⟩;obtain ⟨jb,jC⟩:∃b,b=w4.heap.size:=⟨_,rfl⟩;have E4:Ext W2 W4:=by rw[fO];exact V_.alloc _
 have Y4:Has W4 jb (.cells #[.int .i64 y.1.dir,bs y.1.name,y.1.no,.bool y.1.eH] 89):=by rw[fO,jC];exact Has.new _ _
 rw [<-fO,<-jC];clear fO jC V_;have X4:=Qm.out.ext E4;have P4:=eU.ext Hs.out E4;have x0:=X4.cell 0;have x1:=X4.cell 1;have xz:=X4.lt;have y2:=Y4.cell 2;have yz:=Y4.lt;simp only[gA,gB,gC]at x0 x1 y2;clear X4 Y4
 by_cases k5:y.2=0
 ·have t7:(y.2 == 0)=true:=by simpa using k5
  obtain ⟨X,hX⟩:∃X:ia,X=.link y.1.no r.1.dir r.1.name:=⟨_,rfl⟩;have oW:gR S it=some X:=by rw[Oz.out,if_pos k5,hX]
  have hN:Hid (ie S it=0):=by show _=_;rw[iF oW,hX];rfl
  have KC:=zH (eU.link P4 k (by omega) y.1.no r.1.dir r.1.name (by rw[HR.out];have:=kv S 0 0 it.path false;show (ew S it).1.name.length<=_;unfold ew;omega));rw [<-hX,<-iE oW]at KC;clear k5 hX oW Oz P4;go_wp2_with fail;refine KC.out.mono ?_;rintro e w5 ⟨rfl,T5⟩;go_wp2_with fail;go_ret;exact ⟨by rw[hN.out];rfl,mz.pre (nN.trans E4) T5⟩
 ·have t7:(y.2 == 0)=false:=by simpa using k5
  have hT:Hid (jd S it=S/\ie S it=0):=p5 V6.out (by rw[Oz.out,if_neg k5]);clear k5 Oz P4;go_wp2_with fail;go_ret;exact ⟨by rw[hT.out.2];rfl,by rw[hT.out.1];exact mz.refl H0.out (nN.trans E4)⟩
theorem LA {w:World} {B:Nat} {f:cE} {c:Nat} {S:aa} (h:eU w B f S) (k:e7 c S) (hc:c<=890) (m:eF) (hp:m.path.length<=1000000) :
  Calls Tryz.prog 53 #[.pointer (some ⟨f.bF,0,none⟩),.agg #[bs m.path,.int .i64 m.b,.int .i64 m.n]] w (fun e w'=>(∃v,e=.returned v)/\mz w B f (gK S m) w'):=by
 obtain ⟨W1,bV⟩:∃W,W=w.alloc (.cells #[bs m.path,.int .i64 m.b,.int .i64 m.n] 125):=⟨_,rfl⟩;obtain ⟨b3,nK⟩:∃b,b=w.heap.size:=⟨_,rfl⟩;have E1:Ext w W1:=by rw[bV];exact (Ext.refl _).alloc _
 have B1:Has W1 b3 (.cells #[bs m.path,.int .i64 m.b,.int .i64 m.n] 125):=by rw[bV,nK];exact Has.new _ _
 have hlt:=eU.lt h;have aaJ:w.heap.size<=b3:=by omega
 have KF:=zH (eU.find (eU.ext h E1) k (by omega) m.path false hp);obtain⟨r,hr⟩:=aq (mw S m);rw [show dF S 0 0 m.path false=r from hr.symm]at KF;have A_:Hid (Calls Tryz.prog 30 #[.pointer (some ⟨f.bF,0,none⟩),.agg #[.int .i64 0,.int .i64 0],bs m.path,.bool false] W1 (aH W1 (.tuple #[.agg #[.int .i64 r.1.dir,bs r.1.name,r.1.no,.bool r.1.eH],.int .i64 r.2]))):=KF.out;have HR:=zH hr;have c0:=B1.cell 0;have cz:=B1.lt;simp only[gA,gB]at c0;have p6:=zH B1;have H1:=zH (eU.ext h E1);have H0:=zH h;clear h KF hr B1;go_enter Tryz.func53,Tryz.ntmps53;go_upto_region 1 with fail;rw [<-bV,<-nK];clear bV nK;go_wp2_with fail;refine A_.out.mono ?_;rintro e w1 ⟨rfl,b1⟩;clear A_ c0 cz;go_upto_region 2 with fail;obtain ⟨W2,du⟩:∃W,W=w1.alloc (.cells #[.int .i64 r.1.dir,bs r.1.name,r.1.no,.bool r.1.eH] 89):=⟨_,rfl⟩;obtain ⟨b4,ug⟩:∃b,b=w1.heap.size:=⟨_,rfl⟩;have E2:Ext W1 W2:=by rw[du];exact b1.alloc _
 have X2:Has W2 b4 (.cells #[.int .i64 r.1.dir,bs r.1.name,r.1.no,.bool r.1.eH] 89):=by rw[du,ug];exact Has.new _ _
 rw [<-du,<-ug];have aaK:W1.heap.size<=b4:=by have:=b1.size;omega
 clear du ug b1;have P2:=eU.ext H1.out E2;have B2:=p6.out.ext E2;have Sy:=eU.lt H1.out;have yA:=zH P2;have vM:=zH X2;have Ht:=zH B2;have x0:=X2.cell 0;have x1:=X2.cell 1;have x2:=X2.cell 2;have xz:=X2.lt;simp only[gA,gB,gC]at x0 x1 x2
 by_cases he:r.2=0
 case neg =>
  have t1:(r.2 == 0)=false:=by simpa using he
  have hT:Hid (gK S m=S):=Bb (by rw[<-HR.out];exact he);clear he P2 X2 B2;go_wp2_with fail;go_end0;refine ⟨⟨_,rfl⟩,?_⟩;rw [hT.out];exact mz.refl H0.out (E1.trans E2)
 have t1:(r.2 == 0)=true:=by simpa using he
 have HE:=zH he
 by_cases aU:r.1.no=0
 case neg =>
  have t2:(r.1.no == 0)=false:=by simpa using aU
  have hT:Hid (gK S m=cx S r.1.no m.b m.n):=by show _=_;rw[HR.out];exact uu (by rw[<-HR.out];exact HE.out) (by rw[<-HR.out];exact aU)
  have d1:=B2.cell 1;have d2:=B2.cell 2;have dz:=B2.lt;simp only[gA,gB,gC]at d1 d2;have KM:=zH (fun u (hu:Ext W2 u)=>eU.jT (eU.ext P2 hu) k (by omega) r.1.no m.b m.n);clear he aU P2 X2 B2 x0 x1 xz;have x2:=vM.out.cell 2;have xz:=vM.out.lt;simp only[gA,gB,gC]at x2;go_wp2_with fail;refine (KM.out _ (Ext.refl _)).mono ?_;rintro e w3 ⟨⟨v3,rfl⟩,T3⟩;go_wp2_with fail;go_end0;refine ⟨⟨_,rfl⟩,?_⟩;rw [hT.out];exact mz.pre (E1.trans E2) T3
 have t2:(r.1.no == 0)=true:=by simpa using aU
 obtain ⟨X,hX⟩:∃X:ia,X=qV S m:=⟨_,rfl⟩;have Sz:X=.bB r.1.dir r.1.name 493:=by rw[hX,HR.out];rfl
 have hT:Hid (gK S m=if fA S 0 0 0 X=0 then cx (cq S 0 0 0 X) (j_ S 0 0 0 X) m.b m.n else cq S 0 0 0 X):=by show _=_;rw[hX];exact Bc (by rw[<-HR.out];exact HE.out) (by rw[<-HR.out];exact aU)
 have KC:=zH (eU.bB P2 k (by omega) r.1.dir r.1.name 493 (by rw[HR.out];have:=kv S 0 0 m.path false;show (mw S m).1.name.length<=_;unfold mw;omega));rw [<-Sz]at KC;have k1:e7 (c+1) (cq S 0 0 0 X):=by rw[Sz];exact k.kp 0 0 0 _ (fun _ _ _ _ e=>by cases e)
 obtain⟨N,hN⟩:=aq (j_ S 0 0 0 X);obtain ⟨e2,rA⟩:∃e,e=fA S 0 0 0 X:=⟨_,rfl⟩;obtain⟨T,Hu⟩:=aq (cq S 0 0 0 X);rw [<-hN,<-rA,<-Hu]at KC hT;rw [<-Hu]at k1;clear he aU P2 X2 B2 hX Sz hN rA Hu;go_wp2_with fail;refine KC.out.mono ?_;rintro e w3 ⟨rfl,T3⟩;have X3:=mz.has T3 vM.out (fun hm=>by have:=Sy _ hm;omega);have B3:=mz.has T3 Ht.out (fun hm=>by have:=hlt _ hm;omega);clear KC x0 x1 x2 xz;have f2:=Has.free X3 2;have xz:=X3.lt;have x2:=X3.cell 2;simp only[gA,gB,gC]at x2;obtain ⟨W4,fO⟩:∃W,W=w3.setCell ⟨b4,2,none⟩ (.int .i64 N):=⟨_,rfl⟩;have X4:Has W4 b4 (.cells #[.int .i64 r.1.dir,bs r.1.name,.int .i64 N,.bool r.1.eH] 89):=by rw[fO];exact Has.setCell X3 2 (.int .i64 N)
 have O4:Only [b4] w3 W4:=by rw[fO];exact Only.setCell _ _ _ _
 obtain ⟨g3,P3,O3,SA⟩:=T3;change eU w3 B g3 T at P3;have F4:eG w3 B [b4]:=fun x hx=>by
  rw [List.mem_singleton]at hx;subst hx;have hB:=(eU.cR H0.out f.bF (by simp));have BI:=hlt f.bF (by simp);have:=E1.size;refine ⟨by omega,?_,?_⟩
  ·rintro⟨cs,fr,e⟩;unfold Has at X3;rw[X3]at e;injection e with e;injection e with _ e;exact absurd e (by decide)
  ·rintro⟨cs,fr,e⟩;unfold Has at X3;rw[X3]at e;injection e with e;injection e with _ e;exact absurd e (by decide)
 have MT:∀x∈g3.list,x∉[b4]:=fun x hx hm=>by
  rw [List.mem_singleton]at hm;subst hm;exact eU.off P3 X3 (by decide) (by decide) (by decide) hx
 have P4:=eU.only P3 O4 F4 MT;have B4:=O4.has B3 (by rw[List.mem_singleton];have:=p6.out.lt;omega);have Wb:cE.on g3 f w:=⟨SA.1,fun x hx=>(SA.2 x hx).imp id fun e=>by have:=E1.size;have:=E2.size;omega⟩;have O0:Only (f.list) w W4:=(Only.pre (E1.trans E2) O3).trans O4 (fun x hx=>by rw[List.mem_singleton]at hx;subst hx;exact .inr (by have:=E1.size;omega));have SB:=zH P4;have Mw:=zH Wb;have Sj:=zH O0;have Qo:=zH X4;have Lf:=zH B4;clear P3 O3 SA F4 MT P4 Wb O0 X4 B4 O4 X3 B3
 by_cases h2:e2=0
 case neg =>
  have t3:(e2 == 0)=false:=by simpa using h2
  have ut:Hid (gK S m=T):=by show _=_;rw[hT.out,if_neg h2]
  clear h2;go_upto_region 4 with fail;rw [<-fO];clear fO;go_wp2_with fail;go_end0;refine ⟨⟨_,rfl⟩,?_⟩;rw [ut.out];exact ⟨g3,SB.out,Sj.out,Mw.out⟩
 case pos =>
  have t3:(e2 == 0)=true:=by simpa using h2
  have ut:Hid (gK S m=cx T N m.b m.n):=by show _=_;rw[hT.out,if_pos h2]
  have SK:=fun u (hu:Ext W4 u)=>eU.jT (eU.ext SB.out hu) k1 (by omega) N m.b m.n
  have Rq:=Mw.out.1;simp only[Rq]at SK;have KM:=zH SK;clear SK Rq;clear h2;go_upto_region 4 with fail;rw [<-fO];clear fO x2 xz f2;have x2:=Qo.out.cell 2;have xz:=Qo.out.lt;have d1:=Lf.out.cell 1;have d2:=Lf.out.cell 2;have dz:=Lf.out.lt;simp only[gA,gB,gC]at x2 d1 d2;go_wp2_with fail;refine (KM.out _ (Ext.refl _)).mono ?_;rintro e w5 ⟨⟨v5,rfl⟩,T5⟩;go_wp2_with fail;go_end0;refine ⟨⟨_,rfl⟩,?_⟩;rw [ut.out];exact mz.trans Mw.out Sj.out T5
theorem eU.uw {α:Type} {R:RowK α} {w:World} {B:Nat} {f:cE} {S:aa} {base:Nat} {v:Value} {l:List α} (h:eU w B f S) (k:bZ R w base v l) (h1:R.t≠54) (h2:R.t≠58) (h3:R.t≠110):∀x,v.ownBlock=some x->x∉f.list:=by
 intro x hx;rcases k.cases with⟨rfl,_⟩|⟨g',cap,cur,rfl,_,h5,_⟩
 ·cases hx
 ·injection hx with hx
  subst hx;exact eU.off h h5 h1 h2 h3
theorem sC {f f':cE} {w w0:World} (h:∀x∈f.list,w0.heap.size<=x) (on:cE.on f' f w) (hs:w0.heap.size<=w.heap.size):∀x∈f'.list,w0.heap.size<=x:=by
 intro x hx;rcases on.2 x hx with e|e
 ·exact h x e
 ·omega
theorem LB (B:Nat) (b n:Int) (w:World) (hB:B<=w.heap.size) (hl:cj b n=true):Calls Tryz.prog 52 #[.int .i64 b,.int .i64 n] w (fun e w'=>∃g:cE,e=.returned (.pointer (some ⟨g.bF,0,none⟩))/\gU w' B g (b_ cB 0 b n) x0/\(∀x∈g.list,w.heap.size<=x)/\Ext w w'):=by
 go_enter Tryz.func52,Tryz.ntmps52;go_wp2_with fail;refine (kR b n _).mono ?_;rw [hl];rintro e w1 ⟨rfl,b1⟩;have hz:=b1.size;simp only[World.size_alloc]at hz;go_wp2_with fail;refine (sR B w.heap.size (.slice none 0 0) (.slice none 0 0) cB x0 0 b n w1 hB ((Has.new w _).ext b1) ⟨[],World.ownsRow_nil _ _ _ _,rfl,fun k hk=>by simp[cB]at hk⟩ (World.ownsRow_nil _ _ _ _) ⟨none,0,rfl⟩ ⟨none,0,rfl⟩ (by decide) (by decide) (aD.nil 0) (by decide) (by decide)).mono ?_;rintro e w2 ⟨rfl,bN,bE,F2,O2,h2,h3⟩;go_wp2_with fail;go_ret;refine ⟨⟨_,bN,bE⟩,rfl,F2,fun x hx=>?_,O2.after (((Ext.refl _).alloc _).trans b1) ?_⟩
 ·simp only[Value.ownBlock,reduceCtorEq,false_or]at h2 h3
  simp only[cE.list,List.mem_cons,List.not_mem_nil,or_false]at hx;rcases hx with e|e|e
  ·have e':x=w.heap.size:=e
   omega
  ·have e':x=bN:=e
   omega
  ·have e':x=bE:=e
   omega
 ·intro x hx
  simp [Value.ownBlock]at hx;omega
theorem Dt (B:Nat) (Am:Option Addr) (ms:List eF) (cm:Nat) (Ai:Option Addr) (is:List dN) (ci:Nat) (w:World) (hBw:B<=w.heap.size) (hM:eB ur w Am ms) (hI:eB se w Ai is) (h1:ms.length<=10) (h2:is.length<=30)
  (h3:∀m∈ms,m.path.length<=1000000) (h4:∀it∈is,it.path.length<=1000000/\it.data.length<=1000000) :
  Calls Tryz.prog 27 #[.agg #[.slice Am ms.length cm,.slice Ai is.length ci]] w (fun e w'=>∃(f:cE),e=.returned (.pointer (some ⟨f.bF,0,none⟩))/\RS w' B f ⟨fC ms is,0,0,[],false⟩/\Ext w w'):=by
 obtain ⟨nm,gP⟩:∃n,n=ms.length:=⟨_,rfl⟩;obtain ⟨ni,sB⟩:∃n,n=is.length:=⟨_,rfl⟩;obtain ⟨W1,bV⟩:∃W,W=w.alloc (.cells #[.slice Am nm cm,.slice Ai ni ci] 25):=⟨_,rfl⟩;obtain ⟨b1,jO⟩:∃b,b=w.heap.size:=⟨_,rfl⟩;have E1:Ext w W1:=by rw[bV];exact (Ext.refl _).alloc _
 have B1:Has W1 b1 (.cells #[.slice Am nm cm,.slice Ai ni ci] 25):=by rw[bV,jO];exact Has.new _ _
 have KL:Hid (Calls Tryz.prog 51 #[.agg #[.slice Am nm cm,.slice Ai ni ci]] W1 (aH W1 (.tuple #[.int .i64 (eC ms).1,.int .i64 (eC ms).2]))):=by
  show Calls _ _ _ _ _;rw [gP];exact Dl Am ms cm Ai ni ci W1 (hM.ext E1) (by omega)
 rw [<-gP]at h1|-;rw [<-sB]at h2|-;have BQ:=zH gP;have OA:=zH sB;have HM:=zH (hM.ext E1);have HI:=zH (hI.ext E1);have p6:=zH B1;have c0:=B1.cell 0;have c1:=B1.cell 1;have cz:=B1.lt;simp only[gA,gB,gC]at c0 c1;clear gP sB hM hI B1;go_enter Tryz.func27,Tryz.ntmps27;go_upto_region 1 with fail;rw [<-bV,<-jO];clear bV jO;go_wp2_with fail;refine KL.out.mono ?_;rintro e w2 ⟨rfl,E2⟩;clear KL c0 c1 cz;go_wp2_with fail;refine (LB B (eC ms).1 (eC ms).2 w2 (by have:=E1.size;have:=E2.size;omega) (jE ms)).mono ?_;rintro e w3 ⟨f0,rfl,K3,Ho,E3⟩;have P3:eU w3 B f0 (dZ (fM ms) (ms.take 0)):=⟨none,0,K3,.inl rfl⟩;have Wf:Ext W1 w3:=E2.trans E3;have JN:∀x∈f0.list,W1.heap.size<=x:=fun x hx=>by have:=Ho x hx;have:=E2.size;omega
 obtain ⟨bF,Rq⟩:∃b,b=f0.bF:=⟨_,rfl⟩;rw [<-Rq];have Hs:=zH P3;have HF1:=zH JN;have HBF:=zH Rq;have hBW:B<=W1.heap.size:=by have:=E1.size;omega
 clear K3 P3 E2 E3 Ho JN Rq;go_wp2_with fail;go_loopw [6] (fun vi wr=>∃(k:Nat) (f:cE),vi=.int .i64 k/\k<=nm/\f.bF=bF/\(∀x∈f.list,W1.heap.size<=x)/\eU wr B f (dZ (fM ms) (ms.take k))/\Ext W1 wr) (fun vi _=>nm-(intOf vi).toNat)
 case atStart=>exact⟨0,f0,rfl,Nat.zero_le _,HBF.out.symm,HF1.out,Hs.out,Wf⟩
 case round =>
  clear Hs HF1 HBF;obtain ⟨k,f,rfl,hk,rfl,hF,hP,hE⟩:=hrel;have HF:=zH hF;have B3:=p6.out.ext hE;have c0:=B3.cell 0;have c1:=B3.cell 1;have cz:=B3.lt;simp only[gA,gB,gC]at c0 c1;clear B3 hF;have k0:(0:Int)<=(k:Int):=Int.natCast_nonneg _;have HP:=zH hP;have HE:=zH hE
  by_cases hlt:(k:Int)<nm
  case pos =>
   have dh:k<ms.length:=by have:=BQ.out;omega
   obtain ⟨ba,o,rfl,yX,q0,q1,q2⟩:=(HM.out.ext hE).KX dh;have BM:IntKind.i64.wrap ((k:Int)+1)=(k:Int)+1:=IntWalk.i64_in _ (by omega);have hst:=uv (fM ms) ms dh;have hpl:=h3 ms[k] (List.getElem_mem dh);have qZ:e7 (2*k) (dZ (fM ms) (ms.take k)):=(((e7.first (jE ms)).AU (ms.take k))).mono (by rw[List.length_take];omega);obtain⟨m,hm⟩:=aq (ms[k]);rw [<-hm]at q0 q1 q2 hst hpl;have tp:=pZ m.path;have KM:=zH (LA HP.out qZ (by omega) m hpl);have oD:=zH hst;clear hP hE hm hst hpl qZ;obtain⟨P,yB⟩:=aq (bs m.path);rw [<-yB]at q0 tp KM;clear yB;have tt:my m=(m.path == [47]):=rfl;rw [<-tt]at tp;clear tt
   cases ht:my m with
   | true =>
    rw [ht]at tp;have Ld:Hid (dZ (fM ms) (ms.take (k+1))=dZ (fM ms) (ms.take k)):=by show _=_;rw[oD.out,if_pos ht]
    clear ht;go_wp2_with fail;go_roundw
    case rel=>exact⟨k+1,f,by go_num,by omega,rfl,HF.out,by rw[Ld.out];exact HP.out,HE.out⟩
    case measure=>simp[intOf];omega
   | false =>
    rw [ht]at tp;have Ld:Hid (dZ (fM ms) (ms.take (k+1))=gK (dZ (fM ms) (ms.take k)) m):=by show _=_;rw[oD.out,if_neg (by rw[ht];decide)]
    clear ht;go_wp2_with fail;refine KM.out.mono ?_;rintro e w5 ⟨⟨v5,rfl⟩,T5⟩;obtain ⟨f5,P5,o5,on5⟩:=T5;change eU w5 B f5 _ at P5;have E5:Ext W1 w5:=o5.after HE.out HF.out;have EN:=zH P5;have HF5:Hid (∀x∈f5.list,W1.heap.size<=x):=by
     show ∀_∈_,_;intro x hx;rcases on5.2 x hx with e|e
     ·exact HF.out x e
     ·have:=HE.out.size;omega
    have HB5:=zH on5.1;clear P5 KM o5 on5;go_wp2_with fail;go_roundw
    case rel=>exact⟨k+1,f5,by go_num,by omega,HB5.out,HF5.out,by rw[Ld.out];exact EN.out,E5⟩
    case measure=>simp[intOf];omega
  case neg =>
   have lM:ms.take k=ms:=List.take_of_length_le (by have:=BQ.out;omega);have yY:=HP.out;rw [lM]at yY;have Dm:e7 20 (dZ (fM ms) ms):=((e7.first (jE ms)).AU ms).mono (by have:=BQ.out;omega);obtain ⟨S1,Cs⟩:∃S,S=dZ (fM ms) ms:=⟨_,rfl⟩;rw [<-Cs]at yY Dm;have Lg:Hid (fC ms is=dS (dD (S1,[]) is).1 ((dD (S1,[]) is).2.zip is)):=by show _=_;rw[Cs];rfl
   have yA:=zH yY;have Lh:=zH Dm;have Li:B<=wr.heap.size:=by have h7:=HE.out.size;omega
   obtain ⟨N0,Wh⟩:∃N,N=wr.heap.size:=⟨_,rfl⟩;have Lj:N0<=wr.heap.size:=by omega
   have aaN:W1.heap.size<=N0:=by have:=HE.out.size;omega
   rw [<-Wh]at Li;clear hP hE yY Dm lM Cs Wh;go_wp2_with fail;clear c0 c1 cz hlt hk k0;go_loopw [7,8] (fun vm vi wr=>∃(k:Nat) (f':cE),vi=.int .i64 k/\k<=ni/\f'.bF=f.bF/\(∀x∈f'.list,W1.heap.size<=x)/\eU wr B f' (dD (S1,[]) (is.take k)).1/\bZ pW wr N0 vm (dD (S1,[]) (is.take k)).2/\N0<=wr.heap.size/\Ext W1 wr) (fun _ vi _=>ni-(intOf vi).toNat)
   case atStart=>exact⟨0,f,rfl,Nat.zero_le _,rfl,HF.out,yA.out,bZ.nil _ _ _,Lj,HE.out⟩
   case round =>
    clear yA HE Lj;obtain ⟨k,f2,rfl,hk,Wt,hF,hP,hO,Wi,hE⟩:=hrel;have OE:=zH Wt;have YG:=zH hF;clear Wt;have B3:=p6.out.ext hE;have c0:=B3.cell 0;have c1:=B3.cell 1;have cz:=B3.lt;simp only[gA,gB,gC]at c0 c1;clear B3 hF;have k0:(0:Int)<=(k:Int):=Int.natCast_nonneg _
    by_cases hlt:(k:Int)<ni
    case pos =>
     have dh:k<is.length:=by have:=OA.out;omega
     obtain ⟨ba,o,rfl,yX,q0,q1,q2,q3,q4,q5,q6⟩:=(HI.out.ext hE).GR dh;have BM:IntKind.i64.wrap ((k:Int)+1)=(k:Int)+1:=IntWalk.i64_in _ (by omega);have hst:=rL (S1,[]) is dh;have hil:=h4 is[k] (List.getElem_mem dh);have fH:=e7.items (is.take k) (S1,[]) Lh.out;have pJ:(is.take k).length=k:=by rw[List.length_take];omega
     rw [pJ]at fH;obtain ⟨it,hit⟩:∃m,m=is[k]:=⟨_,rfl⟩;rw [<-hit]at q0 q1 q2 q3 q4 q5 q6 hst hil;obtain⟨p,sj⟩:=aq (dD (S1,[]) (is.take k));rw [<-sj]at hst hP hO fH;have Lk:=fH.2;simp only[List.length_nil,Nat.zero_add]at Lk;have Ll:=zH fH.1;obtain ⟨W8,vh⟩:∃W,W=wr.alloc (.cells #[bs it.path,it.kind,it.mode,it.uid,it.gid,it.mtime,bs it.data] 80):=⟨_,rfl⟩;obtain ⟨b9,sy⟩:∃b,b=wr.heap.size:=⟨_,rfl⟩;have E8:Ext wr W8:=by rw[vh];exact (Ext.refl _).alloc _
     have B8:Has W8 b9 (.cells #[bs it.path,it.kind,it.mode,it.uid,it.gid,it.mtime,bs it.data] 80):=by rw[vh,sy];exact Has.new _ _
     have P8:=eU.ext hP E8;have O8:=hO.ext E8;have SC:=eU.lt hP;have aaM:wr.heap.size<=b9:=by omega
     have KN0:=Lz P8 fH.1 (by omega) it hil.1 hil.2;rw [OE.out]at KN0;have KN:=zH KN0;clear KN0;obtain⟨T,hT⟩:=aq (jd p.1 it);obtain ⟨no,aU⟩:∃n,n=ie p.1 it:=⟨_,rfl⟩;rw [<-hT,<-aU]at KN;have Ay:dD (S1,[]) (is.take (k+1))=(fB T no it,p.2++[no]):=by rw[hst,hT,aU];rfl
     have Lm:e7 (20+3*k+1) T:=by rw[hT];exact fH.1.GR it
     have oD:=zH Ay;have Wj:=zH Lm;have GW:=zH P8;have yZ:=zH O8;have HB8:=zH B8;have yC:=zH (hE.trans E8);have r0:=B8.cell 0;have r1:=B8.cell 1;have r2:=B8.cell 2;have r3:=B8.cell 3;have r4:=B8.cell 4;have r5:=B8.cell 5;have r6:=B8.cell 6;have rz:=B8.lt;simp only[gA,gB,gC]at r0 r1 r2 r3 r4 r5 r6;clear hst hil fH sj hP hO hE hit hT aU Ay Lm P8 O8 B8 pJ;go_upto_region 13 with fail;rw [<-vh,<-sy];clear vh sy q0 q1 q2 q3 q4 q5 q6 yX;go_wp2_with fail;refine KN.out.mono ?_;rintro e w9 ⟨rfl,T9⟩;have B9:=mz.has T9 HB8.out (fun hm=>by have:=SC _ hm;omega);have hoff:=eU.uw GW.out yZ.out (by decide) (by decide) (by decide);obtain ⟨f9,P9,o9,Wk⟩:=T9;change eU w9 B f9 T at P9;have E9:Ext W1 w9:=o9.after yC.out YG.out;have HF9:=zH (sC YG.out Wk yC.out.size);have HB9:=zH (Wk.1.trans OE.out);have O9:=yZ.out.only o9 hoff;have Ln:N0<=w9.heap.size:=by have:=o9.size;have:=E8.size;omega
     obtain ⟨v10,Da,Lo,Lp,Dn,_⟩:=um pW w9 O9 Ln no (by omega);have Qq:Ext W1 Da:=(E9.alloc _).grown Dn (fun g hv=>by have:=(O9.lt hv).1;omega);have OB:Only u7.ownBlock.toList w9 Da:=(Only.gJ _ _ _).then (Only.of_grownBy Dn (fun g hv=>Option.mem_toList.2 hv));have Wl:=eU.only P9 OB (O9.cR Li (by decide) (by decide)) (fun x hx hm=>eU.uw P9 O9 (by decide) (by decide) (by decide) x (Option.mem_toList.1 hm) hx);have Wm:=OB.has B9 (O9.mY B9 (by decide));have Lq:N0<=Da.heap.size:=by have:=OB.size;omega
     have Lr:=zH Lo;have uB:=zH Wl;have Do:=zH Lp;have uC:=zH Wm;have Bd:=zH Qq;clear E9 B9 hoff P9 o9 Wk O9 Lo Lp Dn Qq OB Wl Wm KN r0 r1 r2 r3 r4 r5 r6 rz Ln
     by_cases iK:no=0
     case pos =>
      have t1:(no != 0)=false:=by simpa using iK
      have hD:Hid (fB T no it=T):=by show _=_;unfold fB;rw[if_neg (fun q=>q iK)]
      clear iK;go_wp2_with (at_builtin;refine Lib.wpList_append_run _ rfl _ _ 123 123 rfl _ _ rfl rfl _ _ Lr.out ?_);go_roundw
      case rel=>exact⟨k+1,f9,by go_num,by omega,HB9.out,HF9.out,by rw[oD.out,hD.out];exact uB.out,by rw[oD.out];exact Do.out,Lq,Bd.out⟩
      case measure=>simp[intOf];omega
     case neg =>
      have t1:(no != 0)=true:=by simpa using iK
      have hD:Hid (fB T no it=cq (cq T 0 0 0 (.cK no it.uid it.gid)) 0 0 0 (.cJ no it.mode)):=by show _=_;unfold fB;rw[if_pos iK];rfl
      have BR:=eU.cK uB.out Wj.out (by omega) no it.uid it.gid;rw [HB9.out]at BR;have KC:=zH BR;clear BR;have Dp:e7 (20+3*k+1+1) (cq T 0 0 0 (.cK no it.uid it.gid)):=Wj.out.kp 0 0 0 _ (fun _ _ _ _ e=>by cases e);obtain⟨U,hU⟩:=aq (cq T 0 0 0 (.cK no it.uid it.gid));obtain ⟨ec,Wn⟩:∃e,e=fA T 0 0 0 (.cK no it.uid it.gid):=⟨_,rfl⟩;rw [<-hU,<-Wn]at KC;rw [<-hU]at hD Dp;have HPU:=zH Dp;clear iK hU Wn Dp;have r3:=uC.out.cell 3;have r4:=uC.out.cell 4;have rz:=uC.out.lt;simp only[gA,gB,gC]at r3 r4;go_wp2_with (at_builtin;refine Lib.wpList_append_run _ rfl _ _ 123 123 rfl _ _ rfl rfl _ _ Lr.out ?_);refine KC.out.mono ?_;rintro e Ls ⟨rfl,Lt⟩;have SD:=mz.has Lt uC.out (eU.off uB.out uC.out (by decide) (by decide) (by decide));have hoff:=eU.uw uB.out Do.out (by decide) (by decide) (by decide);obtain ⟨f11,Dq,Dr,uD⟩:=Lt;change eU Ls B f11 U at Dq;have wX:Ext W1 Ls:=Dr.after Bd.out HF9.out;have OG:=zH (sC HF9.out uD Bd.out.size);have OH:=zH (uD.1.trans HB9.out);have Lu:=Do.out.only Dr hoff;have Wo:N0<=Ls.heap.size:=by have:=Dr.size;omega
      have SK:=eU.cJ Dq HPU.out (by omega) no it.mode;rw [OH.out]at SK;have KM:=zH SK;clear SK;obtain⟨V,hV⟩:=aq (cq U 0 0 0 (.cJ no it.mode));obtain ⟨ed,Wp⟩:∃e,e=fA U 0 0 0 (.cJ no it.mode):=⟨_,rfl⟩;rw [<-hV,<-Wp]at KM;rw [<-hV]at hD;have Be:=zH Dq;have yD:=zH Lu;have Bf:=zH wX;clear r3 r4 rz KC hV Wp uD Dr hoff Dq Lu wX;have r2:=SD.cell 2;have rz:=SD.lt;simp only[gA,gB,gC]at r2;clear SD;go_wp2_with fail;refine KM.out.mono ?_;rintro e RZ ⟨rfl,YF⟩;have hoff:=eU.uw Be.out yD.out (by decide) (by decide) (by decide);obtain ⟨f12,Ua,Qr,Lv⟩:=YF;change eU RZ B f12 V at Ua;have CH:Ext W1 RZ:=Qr.after Bf.out OG.out;have aaO:=zH (sC OG.out Lv Bf.out.size);have aaP:=zH (Lv.1.trans OH.out);have Wq:=yD.out.only Qr hoff;have Lw:N0<=RZ.heap.size:=by have:=Qr.size;omega
      have SE:=zH Ua;have SF:=zH Wq;have Bg:=zH CH;clear r2 rz KM Lv Qr hoff Ua Wq CH;go_wp2_with fail;go_roundw
      case rel=>exact⟨k+1,f12,by go_num,by omega,aaP.out,aaO.out,by rw[oD.out,hD.out];exact SE.out,by rw[oD.out];exact SF.out,Lw,Bg.out⟩
      case measure=>simp[intOf];omega
    case neg =>
     have lM:is.take k=is:=List.take_of_length_le (by have:=OA.out;omega);rw [lM]at hP hO;have fH:=e7.items is (S1,[]) Lh.out;have sB:=OA.out;obtain⟨p,sj⟩:=aq (dD (S1,[]) is);rw [<-sj]at hP hO fH;have JL:Hid (fC ms is=dS p.1 (p.2.zip is)):=by show _=_;rw[Lg.out,sj]
     have Lk:p.2.length=ni:=by have:=fH.2;simp only[List.length_nil,Nat.zero_add]at this;omega
     have HOL:=zH Lk;have hzl:Hid ((p.2.zip is).length=ni):=by show _=_;rw[List.length_zip];omega
     have SG:=zH (fH.1.mono (show 20+3*is.length<=110 by omega));have HP:=zH hP;obtain ⟨Am,cm',Wr,_,_,Lx,_⟩:=hO.at_;rw [Lk]at Wr;have HO:=zH hO;have HE:=zH hE;have SH:=zH Lx;subst Wr;clear hP hO hE lM fH sB sj Lk Lx;go_wp2_with fail;clear c0 c1 cz hlt hk k0;go_loopw [11] (fun vi wr=>∃(k:Nat) (f':cE),vi=.int .i64 k/\k<=ni/\f'.bF=f.bF/\(∀x∈f'.list,W1.heap.size<=x)/\eU wr B f' (dS p.1 ((p.2.zip is).take k))/\bZ pW wr N0 (.slice Am ni cm') p.2/\Ext W1 wr) (fun vi _=>ni-(intOf vi).toNat)
     case atStart=>exact⟨0,f2,rfl,Nat.zero_le _,OE.out,YG.out,HP.out,HO.out,HE.out⟩
     case round =>
      clear HP HO HE Wi SH OE YG;obtain ⟨k,f3,rfl,hk,Wt,hF,hP,hO,hE⟩:=hrel;have OI:=zH Wt;have HF3:=zH hF;clear Wt;have B3:=p6.out.ext hE;have c0:=B3.cell 0;have c1:=B3.cell 1;have cz:=B3.lt;simp only[gA,gB,gC]at c0 c1;clear B3 hF;have k0:(0:Int)<=(k:Int):=Int.natCast_nonneg _
      by_cases hlt:(k:Int)<ni
      case pos =>
       have dh:k<is.length:=by have:=OA.out;omega
       have OD:k<p.2.length:=by have:=HOL.out;omega
       have Ws:k<(p.2.zip is).length:=by have:=hzl.out;omega
       obtain ⟨ba,o,rfl,yX,q0,q1,q2,q3,q4,q5,q6⟩:=(HI.out.ext hE).GR dh;obtain ⟨gm,IP,SI,qm⟩:∃gm,Am=some ⟨gm,0,none⟩/\gm<wr.heap.size/\wr.cell? ⟨gm,k,none⟩=some (.int .i64 p.2[k]):=by
        rcases hO.cases with⟨_,h2⟩|⟨gm,cap,cur,h2,_,h3,_,_,h4⟩
        ·rw[h2]at OD;cases OD
        ·injection h2 with h2
         have:=h4 k OD 0 (by decide);exact ⟨gm,h2,h3.lt,by simpa [pW]using this⟩
       subst IP;have BM:IntKind.i64.wrap ((k:Int)+1)=(k:Int)+1:=IntWalk.i64_in _ (by omega);have hst:=rM p.1 (p.2.zip is) Ws;rw [List.getElem_zip]at hst;have qZ:e7 (110+k) (dS p.1 ((p.2.zip is).take k)):=(e7.times ((p.2.zip is).take k) SG.out).mono (by rw[List.length_take];omega);obtain ⟨it,hit⟩:∃m,m=is[k]:=⟨_,rfl⟩;obtain ⟨no,aU⟩:∃m,m=p.2[k]:=⟨_,rfl⟩;rw [<-hit]at q0 q1 q2 q3 q4 q5 q6 hst;rw [<-aU]at qm hst;obtain ⟨S3,GV⟩:∃S,S=dS p.1 ((p.2.zip is).take k):=⟨_,rfl⟩;rw [<-GV]at hst qZ hP;have oD:=zH hst;have GW:=zH hP;have yZ:=zH hO;have yC:=zH hE;have Ll:=zH qZ;obtain ⟨W8,vh⟩:∃W,W=wr:=⟨_,rfl⟩;clear hst hP hO hE hit aU GV qZ OD Ws
       by_cases iK:no=0
       case pos =>
        have t1:(no != 0)=false:=by simpa using iK
        have hD:Hid (dS p.1 ((p.2.zip is).take (k+1))=S3):=by show _=_;rw[oD.out];unfold mi;rw[if_neg (fun q=>q iK)]
        clear iK;go_wp2_with fail;go_roundw
        case rel=>exact⟨k+1,f3,by go_num,by omega,OI.out,HF3.out,by rw[hD.out];exact GW.out,yZ.out,yC.out⟩
        case measure=>simp[intOf];omega
       case neg =>
        have t1:(no != 0)=true:=by simpa using iK
        have hD:Hid (dS p.1 ((p.2.zip is).take (k+1))=cq S3 0 0 0 (.dA no it.mtime)):=by show _=_;rw[oD.out];unfold mi;rw[if_pos iK];rfl
        have SJ:=(Ext.refl wr).drew;have BR:=eU.dA (eU.ext GW.out SJ) Ll.out (by omega) no it.mtime;rw [OI.out]at BR;have KC:=zH BR;have Ly:=zH SJ;clear iK SJ BR vh;go_upto_region 22 with fail;go_still_tail 12,(by kernel_rfl);change wpList _ _ _ _ _ wr.drew;go_wp2_with fail;refine KC.out.mono ?_;rintro e Ls ⟨rfl,Lt⟩;have hoff:=eU.uw (eU.ext GW.out Ly.out) (yZ.out.ext Ly.out) (by decide) (by decide) (by decide);obtain ⟨f11,Dq,Dr,uD⟩:=Lt;change eU Ls B f11 _ at Dq;have wX:Ext W1 Ls:=Dr.after (yC.out.trans Ly.out) HF3.out;have OG:=zH (sC HF3.out uD (yC.out.trans Ly.out).size);have OH:=zH (uD.1.trans OI.out);have Lu:=(yZ.out.ext Ly.out).only Dr hoff;have Be:=zH Dq;have yD:=zH Lu;have Bf:=zH wX;clear KC uD Dr hoff Dq Lu wX;go_wp2_with fail;go_roundw
        case rel=>exact⟨k+1,f11,by go_num,by omega,OH.out,OG.out,by rw[hD.out];exact Be.out,yD.out,Bf.out⟩
        case measure=>simp[intOf];omega
      case neg =>
       have lM:(p.2.zip is).take k=p.2.zip is:=List.take_of_length_le (by have:=hzl.out;omega);rw [lM,<-JL.out]at hP;have HP:=zH hP;have HE:=zH hE;clear lM hP hE hO;go_wp2_with fail;go_ret;exact ⟨f3,by rw[OI.out];rfl,HP.out,E1.trans HE.out⟩
end Go.Proofs.YtblbohcaphcobaaGreatDoor
