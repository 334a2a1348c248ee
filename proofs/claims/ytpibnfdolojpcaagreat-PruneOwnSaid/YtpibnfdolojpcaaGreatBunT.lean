import Derived.Test.YtpibnfdolojpcaaGreatBunS
import Derived.Test.YtpibnfdolojpcaaGreatBunE
set_option maxHeartbeats 16000000
set_option maxRecDepth 100000
namespace Go.Proofs.YtpibnfdolojpcaaGreat
open Go.ChangeShapes Go.WideShapes Go.ChangeAt Go.RowKit
theorem ND {w:World} {B:Nat} {f:cI} {c:Nat} {S:ae} (h:fA w B f S) (k:fI c S) (hc:c<=890) (it:dS) (hp:it.path.length<=1000000) (hd:it.data.length<=1000000) :
  Calls Tryz.prog 74 #[.pointer (some ⟨f.bF,0,none⟩),.agg #[bs it.path,it.kind,it.mode,it.uid,it.gid,it.mtime,bs it.data]] w (fun e w'=>e=.returned (.int .i64 (iU S it))/\nc w B f (jD S it) w'):=by
 obtain ⟨W1,bL⟩:∃W,W=w.alloc (.cells #[bs it.path,it.kind,it.mode,it.uid,it.gid,it.mtime,bs it.data] 72):=⟨_,rfl⟩;obtain ⟨b3,oT⟩:∃b,b=w.heap.size:=⟨_,rfl⟩;have E1:Ext w W1:=by rw[bL];exact (Ext.refl _).alloc _
 have B1:Has W1 b3 (.cells #[bs it.path,it.kind,it.mode,it.uid,it.gid,it.mtime,bs it.data] 72):=by rw[bL,oT];exact Has.new _ _
 have KF:=zH (fA.find (fA.ext h E1) k (by omega) it.path false hp);obtain⟨r,hr⟩:=zE (eJ S it);rw [show dV S 0 0 it.path false=r from hr.symm]at KF;have FV:Hid (Calls Tryz.prog 40 #[.pointer (some ⟨f.bF,0,none⟩),.agg #[.int .i64 0,.int .i64 0],bs it.path,.bool false] W1 (aI W1 (.tuple #[.agg #[.int .i64 r.1.dir,bs r.1.name,r.1.no,.bool r.1.fR],.int .i64 r.2]))):=KF.out;have HR:=zH hr;have c0:=B1.cell 0;have cz:=B1.lt;simp only[gA,gB]at c0;have qR:=zH B1;have H1:=zH (fA.ext h E1);have H0:=zH h;clear h KF hr B1;go_enter Tryz.func74,Tryz.ntmps74;go_upto_region 1 with fail;rw [<-bL,<-oT];clear bL oT;go_wp2_with fail;refine FV.out.mono ?_;rintro e w1 ⟨rfl,b1⟩;clear FV c0 cz;go_upto_region 2 with fail;obtain ⟨W2,cQ⟩:∃W,W=w1.alloc (.cells #[.int .i64 r.1.dir,bs r.1.name,r.1.no,.bool r.1.fR] 82):=⟨_,rfl⟩;obtain ⟨b4,oq⟩:∃b,b=w1.heap.size:=⟨_,rfl⟩;have E2:Ext W1 W2:=by rw[cQ];exact b1.alloc _
 have X2:Has W2 b4 (.cells #[.int .i64 r.1.dir,bs r.1.name,r.1.no,.bool r.1.fR] 82):=by rw[cQ,oq];exact Has.new _ _
 rw [<-cQ,<-oq];clear cQ oq b1;have B2:=qR.out.ext E2;have P3:=fA.ext H1.out E2;have mR:=E1.trans E2;have ra:=zH X2;have x0:=X2.cell 0;have x1:=X2.cell 1;have x2:=X2.cell 2;have xz:=X2.lt;have d1:=B2.cell 1;have d6:=B2.cell 6;have dz:=B2.lt;simp only[gA,gB,gC]at x0 x1 x2 d1 d6;clear X2 B2
 by_cases he:r.2=0
 case neg =>
  have t1:(r.2 != 0)=true:=by simpa using he
  have hT:Hid (jD S it=S/\iU S it=0):=FT (by rw[<-HR.out];exact he);clear he P3;go_wp2_with fail;go_ret;exact ⟨by rw[hT.out.2];rfl,by rw[hT.out.1];exact nc.refl H0.out mR⟩
 have t1:(r.2 != 0)=false:=by simpa using he
 have HE:=zH he
 by_cases aW:r.1.no=0
 case neg =>
  have t2:(r.1.no != 0)=true:=by simpa using aW
  obtain ⟨m1,fX⟩:∃m,m=ac S.nodes r.1.no:=⟨_,rfl⟩;have hT:Hid (jD S it=S/\iU S it=if it.kind=1/\m1.kind=1 then r.1.no else 0):=by show _/\_;rw[fX,HR.out];exact xU (by rw[<-HR.out];exact HE.out) (by rw[<-HR.out];exact aW)
  have KG:=zH (fA.get P3 k (by omega) r.1.no);have HM1:=zH fX;clear he aW P3 fX
  by_cases jK:it.kind=1
  case neg =>
   have t3:(it.kind == 1)=false:=by simpa using jK
   have zL:Hid (iU S it=0):=by show _=_;rw[hT.out.2,if_neg (fun q=>jK q.1)]
   clear jK;go_wp2_with fail;go_ret;exact ⟨by rw[zL.out];rfl,by rw[hT.out.1];exact nc.refl H0.out mR⟩
  have t3:(it.kind == 1)=true:=by simpa using jK
  go_wp2_with fail;refine KG.out.mono ?_;rintro e w4 ⟨A4,c4,rfl,qy,E4⟩;clear KG;rw [<-HM1.out]at qy|-;have acO:∀w',(Instr.field 66 (.agg #[m1.no,m1.dev,m1.kind,m1.mode,m1.uid,m1.gid,m1.mtime,m1.ctime,m1.ag,m1.up,bs m1.data,.slice A4 m1.af.length c4]) 2).run Tryz.prog w'=.ok (.int .i64 m1.kind) w':=fun w'=>(Dc _ _ _ _ _ _ _ _ _ _ _ _ w').2
  have x2':=(E4.cell xz).trans x2;have VY:b4<w4.heap.size:=by have:=E4.size;omega
  clear x0 x1 x2 xz d1 d6 dz
  by_cases hk2:m1.kind=1
  ·have t4:(m1.kind == 1)=true:=by simpa using hk2
   have zL:Hid (iU S it=r.1.no):=by show _=_;rw[hT.out.2,if_pos ⟨jK,hk2⟩]
   clear jK hk2;go_wp2_with fail;go_ret;exact ⟨by rw[zL.out];rfl,by rw[hT.out.1];exact nc.refl H0.out (mR.trans E4)⟩
  ·have t4:(m1.kind == 1)=false:=by simpa using hk2
   have zL:Hid (iU S it=0):=by show _=_;rw[hT.out.2,if_neg (fun q=>hk2 q.2)]
   clear jK hk2;go_wp2_with fail;go_ret;exact ⟨by rw[zL.out];rfl,by rw[hT.out.1];exact nc.refl H0.out (mR.trans E4)⟩
 have t2:(r.1.no != 0)=false:=by simpa using aW
 have hC:Hid (iH S it=if it.kind=1 then some (.da r.1.dir r.1.name 493) else if it.kind=2 then some (.cL r.1.dir r.1.name 420 it.data) else if it.kind=3 then some (.symlink r.1.dir r.1.name it.data)
   else if it.kind=4 then (if (vB S it).2=0 then some (.link (vB S it).1.no r.1.dir r.1.name) else none) else none):=by show _=_;rw[HR.out];exact FU (by rw[<-HR.out];exact HE.out) (by rw[<-HR.out];exact aW)
 have SA:Hid ((eJ S it).1.no=0):=by show _=_;rw[<-HR.out];exact aW
 clear he aW
 by_cases k1:it.kind=1
 ·have t3:(it.kind == 1)=true:=by simpa using k1
  obtain ⟨X,hX⟩:∃X:lG,X=.da r.1.dir r.1.name 493:=⟨_,rfl⟩;have pQ:iH S it=some X:=by rw[hC.out,if_pos k1,hX]
  have KC:=zH (fA.da P3 k (by omega) r.1.dir r.1.name 493 (by rw[HR.out];have:=kN S 0 0 it.path false;show (eJ S it).1.name.length<=_;unfold eJ;omega));rw [<-hX,<-jh pQ,<-ji pQ]at KC;clear k1 hX pQ hC P3;go_wp2_with fail;refine KC.out.mono ?_;rintro e w5 ⟨rfl,T5⟩;go_wp2_with fail;go_ret;exact ⟨rfl,nc.pre mR T5⟩
 have t3:(it.kind == 1)=false:=by simpa using k1
 by_cases k2:it.kind=2
 ·have t4:(it.kind == 2)=true:=by simpa using k2
  obtain ⟨X,hX⟩:∃X:lG,X=.cL r.1.dir r.1.name 420 it.data:=⟨_,rfl⟩;have pQ:iH S it=some X:=by rw[hC.out,if_neg k1,if_pos k2,hX]
  have KC:=zH (fA.cL P3 k (by omega) r.1.dir r.1.name 420 it.data (by rw[HR.out];have:=kN S 0 0 it.path false;show (eJ S it).1.name.length<=_;unfold eJ;omega) (by omega));rw [<-hX,<-jh pQ,<-ji pQ]at KC;clear k1 k2 hX pQ hC P3;go_wp2_with fail;refine KC.out.mono ?_;rintro e w5 ⟨rfl,T5⟩;go_wp2_with fail;go_ret;exact ⟨rfl,nc.pre mR T5⟩
 have t4:(it.kind == 2)=false:=by simpa using k2
 by_cases k3:it.kind=3
 ·have t5:(it.kind == 3)=true:=by simpa using k3
  obtain ⟨X,hX⟩:∃X:lG,X=.symlink r.1.dir r.1.name it.data:=⟨_,rfl⟩;have pQ:iH S it=some X:=by rw[hC.out,if_neg k1,if_neg k2,if_pos k3,hX]
  have KC:=zH (fA.symlink P3 k (by omega) r.1.dir r.1.name it.data (by rw[HR.out];have:=kN S 0 0 it.path false;show (eJ S it).1.name.length<=_;unfold eJ;omega) (by omega));rw [<-hX,<-jh pQ,<-ji pQ]at KC;clear k1 k2 k3 hX pQ hC P3;go_wp2_with fail;refine KC.out.mono ?_;rintro e w5 ⟨rfl,T5⟩;go_wp2_with fail;go_ret;exact ⟨rfl,nc.pre mR T5⟩
 have t5:(it.kind == 3)=false:=by simpa using k3
 by_cases k4:it.kind=4
 case neg =>
  have t6:(it.kind == 4)=false:=by simpa using k4
  have hT:Hid (jD S it=S/\iU S it=0):=qQ SA.out (by rw[hC.out,if_neg k1,if_neg k2,if_neg k3,if_neg k4]);clear k1 k2 k3 k4 hC P3;go_wp2_with fail;go_ret;exact ⟨by rw[hT.out.2];rfl,by rw[hT.out.1];exact nc.refl H0.out mR⟩
 have t6:(it.kind == 4)=true:=by simpa using k4
 obtain⟨y,hy⟩:=zE (vB S it);have QQ:Hid (iH S it=if y.2=0 then some (.link y.1.no r.1.dir r.1.name) else none):=by show _=_;rw[hC.out,if_neg k1,if_neg k2,if_neg k3,if_pos k4,hy]
 have KF:=zH (fA.find P3 k (by omega) it.data false hd);rw [show dV S 0 0 it.data false=y from hy.symm]at KF;have YZ:Hid (Calls Tryz.prog 40 #[.pointer (some ⟨f.bF,0,none⟩),.agg #[.int .i64 0,.int .i64 0],bs it.data,.bool false] W2 (aI W2 (.tuple #[.agg #[.int .i64 y.1.dir,bs y.1.name,y.1.no,.bool y.1.fR],.int .i64 y.2]))):=KF.out;have QR:=zH P3;have MH:=ra;clear k1 k2 k3 k4 hC hy KF P3;go_wp2_with fail;refine YZ.out.mono ?_;rintro e w4 ⟨rfl,Y0⟩;clear YZ x0 x1 x2 xz d1 d6 dz;go_upto_region 18 with fail;obtain ⟨W4,ij⟩:∃W,W=w4.alloc (.cells #[.int .i64 y.1.dir,bs y.1.name,y.1.no,.bool y.1.fR] 82):=⟨_,rfl⟩;obtain ⟨CC,mL⟩:∃b,b=w4.heap.size:=⟨_,rfl⟩;have E4:Ext W2 W4:=by rw[ij];exact Y0.alloc _
 have Y4:Has W4 CC (.cells #[.int .i64 y.1.dir,bs y.1.name,y.1.no,.bool y.1.fR] 82):=by rw[ij,mL];exact Has.new _ _
 rw [<-ij,<-mL];clear ij mL Y0;have X4:=MH.out.ext E4;have P4:=fA.ext QR.out E4;have x0:=X4.cell 0;have x1:=X4.cell 1;have xz:=X4.lt;have y2:=Y4.cell 2;have yz:=Y4.lt;simp only[gA,gB,gC]at x0 x1 y2;clear X4 Y4
 by_cases k5:y.2=0
 ·have t7:(y.2 == 0)=true:=by simpa using k5
  obtain ⟨X,hX⟩:∃X:lG,X=.link y.1.no r.1.dir r.1.name:=⟨_,rfl⟩;have pQ:iH S it=some X:=by rw[QQ.out,if_pos k5,hX]
  have hN:Hid (iU S it=0):=by show _=_;rw[ji pQ,hX];rfl
  have KC:=zH (fA.link P4 k (by omega) y.1.no r.1.dir r.1.name (by rw[HR.out];have:=kN S 0 0 it.path false;show (eJ S it).1.name.length<=_;unfold eJ;omega));rw [<-hX,<-jh pQ]at KC;clear k5 hX pQ QQ P4;go_wp2_with fail;refine KC.out.mono ?_;rintro e w5 ⟨rfl,T5⟩;go_wp2_with fail;go_ret;exact ⟨by rw[hN.out];rfl,nc.pre (mR.trans E4) T5⟩
 ·have t7:(y.2 == 0)=false:=by simpa using k5
  have hT:Hid (jD S it=S/\iU S it=0):=qQ SA.out (by rw[QQ.out,if_neg k5]);clear k5 QQ P4;go_wp2_with fail;go_ret;exact ⟨by rw[hT.out.2];rfl,by rw[hT.out.1];exact nc.refl H0.out (mR.trans E4)⟩
theorem NF {w:World} {B:Nat} {f:cI} {c:Nat} {S:ae} (h:fA w B f S) (k:fI c S) (hc:c<=890) (m:eW) (hp:m.path.length<=1000000) :
  Calls Tryz.prog 73 #[.pointer (some ⟨f.bF,0,none⟩),.agg #[bs m.path,.int .i64 m.b,.int .i64 m.n]] w (fun e w'=>(∃v,e=.returned v)/\nc w B f (iA S m) w'):=by
 obtain ⟨W1,bL⟩:∃W,W=w.alloc (.cells #[bs m.path,.int .i64 m.b,.int .i64 m.n] 119):=⟨_,rfl⟩;obtain ⟨b3,oT⟩:∃b,b=w.heap.size:=⟨_,rfl⟩;have E1:Ext w W1:=by rw[bL];exact (Ext.refl _).alloc _
 have B1:Has W1 b3 (.cells #[bs m.path,.int .i64 m.b,.int .i64 m.n] 119):=by rw[bL,oT];exact Has.new _ _
 have hlt:=fA.lt h;have abx:w.heap.size<=b3:=by omega
 have KF:=zH (fA.find (fA.ext h E1) k (by omega) m.path false hp);obtain⟨r,hr⟩:=zE (m_ S m);rw [show dV S 0 0 m.path false=r from hr.symm]at KF;have FV:Hid (Calls Tryz.prog 40 #[.pointer (some ⟨f.bF,0,none⟩),.agg #[.int .i64 0,.int .i64 0],bs m.path,.bool false] W1 (aI W1 (.tuple #[.agg #[.int .i64 r.1.dir,bs r.1.name,r.1.no,.bool r.1.fR],.int .i64 r.2]))):=KF.out;have HR:=zH hr;have c0:=B1.cell 0;have cz:=B1.lt;simp only[gA,gB]at c0;have qR:=zH B1;have H1:=zH (fA.ext h E1);have H0:=zH h;clear h KF hr B1;go_enter Tryz.func73,Tryz.ntmps73;go_upto_region 1 with fail;rw [<-bL,<-oT];clear bL oT;go_wp2_with fail;refine FV.out.mono ?_;rintro e w1 ⟨rfl,b1⟩;clear FV c0 cz;go_upto_region 2 with fail;obtain ⟨W2,cQ⟩:∃W,W=w1.alloc (.cells #[.int .i64 r.1.dir,bs r.1.name,r.1.no,.bool r.1.fR] 82):=⟨_,rfl⟩;obtain ⟨b4,oq⟩:∃b,b=w1.heap.size:=⟨_,rfl⟩;have E2:Ext W1 W2:=by rw[cQ];exact b1.alloc _
 have X2:Has W2 b4 (.cells #[.int .i64 r.1.dir,bs r.1.name,r.1.no,.bool r.1.fR] 82):=by rw[cQ,oq];exact Has.new _ _
 rw [<-cQ,<-oq];have aby:W1.heap.size<=b4:=by have:=b1.size;omega
 clear cQ oq b1;have P2:=fA.ext H1.out E2;have B2:=qR.out.ext E2;have UY:=fA.lt H1.out;have SB:=zH P2;have ra:=zH X2;have UZ:=zH B2;have x0:=X2.cell 0;have x1:=X2.cell 1;have x2:=X2.cell 2;have xz:=X2.lt;simp only[gA,gB,gC]at x0 x1 x2
 by_cases he:r.2=0
 case neg =>
  have t1:(r.2 == 0)=false:=by simpa using he
  have hT:Hid (iA S m=S):=BM (by rw[<-HR.out];exact he);clear he P2 X2 B2;go_wp2_with fail;go_end0;refine ⟨⟨_,rfl⟩,?_⟩;rw [hT.out];exact nc.refl H0.out (E1.trans E2)
 have t1:(r.2 == 0)=true:=by simpa using he
 have HE:=zH he
 by_cases aW:r.1.no=0
 case neg =>
  have t2:(r.1.no == 0)=false:=by simpa using aW
  have hT:Hid (iA S m=cH S r.1.no m.b m.n):=by show _=_;rw[HR.out];exact vF (by rw[<-HR.out];exact HE.out) (by rw[<-HR.out];exact aW)
  have d1:=B2.cell 1;have d2:=B2.cell 2;have dz:=B2.lt;simp only[gA,gB,gC]at d1 d2;have KM:=zH (fun u (hu:Ext W2 u)=>fA.kw (fA.ext P2 hu) k (by omega) r.1.no m.b m.n);clear he aW P2 X2 B2 x0 x1 xz;have x2:=ra.out.cell 2;have xz:=ra.out.lt;simp only[gA,gB,gC]at x2;go_wp2_with fail;refine (KM.out _ (Ext.refl _)).mono ?_;rintro e w3 ⟨⟨v3,rfl⟩,T3⟩;go_wp2_with fail;go_end0;refine ⟨⟨_,rfl⟩,?_⟩;rw [hT.out];exact nc.pre (E1.trans E2) T3
 have t2:(r.1.no == 0)=true:=by simpa using aW
 obtain ⟨X,hX⟩:∃X:lG,X=sx S m:=⟨_,rfl⟩;have U0:X=.da r.1.dir r.1.name 493:=by rw[hX,HR.out];rfl
 have hT:Hid (iA S m=if fQ S 0 0 0 X=0 then cH (cM S 0 0 0 X) (kW S 0 0 0 X) m.b m.n else cM S 0 0 0 X):=by show _=_;rw[hX];exact BN (by rw[<-HR.out];exact HE.out) (by rw[<-HR.out];exact aW)
 have KC:=zH (fA.da P2 k (by omega) r.1.dir r.1.name 493 (by rw[HR.out];have:=kN S 0 0 m.path false;show (m_ S m).1.name.length<=_;unfold m_;omega));rw [<-U0]at KC;have k1:fI (c+1) (cM S 0 0 0 X):=by rw[U0];exact k.oc 0 0 0 _ (fun _ _ _ _ e=>by cases e)
 obtain⟨N,hN⟩:=zE (kW S 0 0 0 X);obtain ⟨e2,mi⟩:∃e,e=fQ S 0 0 0 X:=⟨_,rfl⟩;obtain⟨T,JQ⟩:=zE (cM S 0 0 0 X);rw [<-hN,<-mi,<-JQ]at KC hT;rw [<-JQ]at k1;clear he aW P2 X2 B2 hX U0 hN mi JQ;go_wp2_with fail;refine KC.out.mono ?_;rintro e w3 ⟨rfl,T3⟩;have X3:=nc.has T3 ra.out (fun hm=>by have:=UY _ hm;omega);have B3:=nc.has T3 UZ.out (fun hm=>by have:=hlt _ hm;omega);clear KC x0 x1 x2 xz;have f2:=Has.free X3 2;have xz:=X3.lt;have x2:=X3.cell 2;simp only[gA,gB,gC]at x2;obtain ⟨W4,ij⟩:∃W,W=w3.setCell ⟨b4,2,none⟩ (.int .i64 N):=⟨_,rfl⟩;have X4:Has W4 b4 (.cells #[.int .i64 r.1.dir,bs r.1.name,.int .i64 N,.bool r.1.fR] 82):=by rw[ij];exact Has.setCell X3 2 (.int .i64 N)
 have O4:Only [b4] w3 W4:=by rw[ij];exact Only.setCell _ _ _ _
 obtain ⟨g3,P3,O3,U1⟩:=T3;change fA w3 B g3 T at P3;have F4:dh w3 B [b4]:=fun x hx=>by
  rw [List.mem_singleton]at hx;subst hx;have hB:=(fA.cU H0.out f.bF (by simp));have mV:=hlt f.bF (by simp);have:=E1.size;refine ⟨by omega,?_,?_⟩
  ·rintro⟨cs,fr,e⟩;unfold Has at X3;rw[X3]at e;injection e with e;injection e with _ e;exact absurd e (by decide)
  ·rintro⟨cs,fr,e⟩;unfold Has at X3;rw[X3]at e;injection e with e;injection e with _ e;exact absurd e (by decide)
 have CH:∀x∈g3.list,x∉[b4]:=fun x hx hm=>by
  rw [List.mem_singleton]at hm;subst hm;exact fA.off P3 X3 (by decide) (by decide) (by decide) hx
 have P4:=fA.only P3 O4 F4 CH;have B4:=O4.has B3 (by rw[List.mem_singleton];have:=qR.out.lt;omega);have Y1:cI.on g3 f w:=⟨U1.1,fun x hx=>(U1.2 x hx).imp id fun e=>by have:=E1.size;have:=E2.size;omega⟩;have O0:Only (f.list) w W4:=(Only.pre (E1.trans E2) O3).trans O4 (fun x hx=>by rw[List.mem_singleton]at hx;subst hx;exact .inr (by have:=E1.size;omega));have SC:=zH P4;have OO:=zH Y1;have O_:=zH O0;have SD:=zH X4;have JR:=zH B4;clear P3 O3 U1 F4 CH P4 Y1 O0 X4 B4 O4 X3 B3
 by_cases h2:e2=0
 case neg =>
  have t3:(e2 == 0)=false:=by simpa using h2
  have zL:Hid (iA S m=T):=by show _=_;rw[hT.out,if_neg h2]
  clear h2;go_upto_region 4 with fail;rw [<-ij];clear ij;go_wp2_with fail;go_end0;refine ⟨⟨_,rfl⟩,?_⟩;rw [zL.out];exact ⟨g3,SC.out,O_.out,OO.out⟩
 case pos =>
  have t3:(e2 == 0)=true:=by simpa using h2
  have zL:Hid (iA S m=cH T N m.b m.n):=by show _=_;rw[hT.out,if_pos h2]
  have Va:=fun u (hu:Ext W4 u)=>fA.kw (fA.ext SC.out hu) k1 (by omega) N m.b m.n
  have TG:=OO.out.1;simp only[TG]at Va;have KM:=zH Va;clear Va TG;clear h2;go_upto_region 4 with fail;rw [<-ij];clear ij x2 xz f2;have x2:=SD.out.cell 2;have xz:=SD.out.lt;have d1:=JR.out.cell 1;have d2:=JR.out.cell 2;have dz:=JR.out.lt;simp only[gA,gB,gC]at x2 d1 d2;go_wp2_with fail;refine (KM.out _ (Ext.refl _)).mono ?_;rintro e w5 ⟨⟨v5,rfl⟩,T5⟩;go_wp2_with fail;go_end0;refine ⟨⟨_,rfl⟩,?_⟩;rw [zL.out];exact nc.trans OO.out O_.out T5
theorem fA.vH {α:Type} {R:gJ α} {w:World} {B:Nat} {f:cI} {S:ae} {base:Nat} {v:Value} {l:List α} (h:fA w B f S) (k:dq R w base v l) (h1:R.t≠78) (h2:R.t≠66) (h3:R.t≠191):∀x,v.ownBlock=some x->x∉f.list:=by
 intro x hx;rcases k.cases with⟨rfl,_⟩|⟨g',cap,cur,rfl,_,h5,_⟩
 ·cases hx
 ·injection hx with hx
  subst hx;exact fA.off h h5 h1 h2 h3
theorem tR {f f':cI} {w w0:World} (h:∀x∈f.list,w0.heap.size<=x) (on:cI.on f' f w) (hs:w0.heap.size<=w.heap.size):∀x∈f'.list,w0.heap.size<=x:=by
 intro x hx;rcases on.2 x hx with e|e
 ·exact h x e
 ·omega
theorem NG (B:Nat) (b n:Int) (w:World) (hB:B<=w.heap.size) (hl:cx b n=true):Calls Tryz.prog 72 #[.int .i64 b,.int .i64 n] w (fun e w'=>∃g:cI,e=.returned (.pointer (some ⟨g.bF,0,none⟩))/\gR w' B g (cq cJ 0 b n) x0/\(∀x∈g.list,w.heap.size<=x)/\Ext w w'):=by
 go_enter Tryz.func72,Tryz.ntmps72;go_wp2_with fail;refine (lg b n _).mono ?_;rw [hl];rintro e w1 ⟨rfl,b1⟩;have hz:=b1.size;simp only[World.size_alloc]at hz;go_wp2_with fail;refine (ue B w.heap.size (.slice none 0 0) (.slice none 0 0) cJ x0 0 b n w1 hB ((Has.new w _).ext b1) ⟨[],World.ownsRow_nil _ _ _ _,rfl,fun k hk=>by simp[cJ]at hk⟩ (World.ownsRow_nil _ _ _ _) ⟨none,0,rfl⟩ ⟨none,0,rfl⟩ (by decide) (by decide) (aD.nil 0) (by decide) (by decide)).mono ?_;rintro e w2 ⟨rfl,bN,bE,F2,O2,h2,h3⟩;go_wp2_with fail;go_ret;refine ⟨⟨_,bN,bE⟩,rfl,F2,fun x hx=>?_,O2.after (((Ext.refl _).alloc _).trans b1) ?_⟩
 ·simp only[Value.ownBlock,reduceCtorEq,false_or]at h2 h3
  simp only[cI.list,List.mem_cons,List.not_mem_nil,or_false]at hx;rcases hx with e|e|e
  ·have e':x=w.heap.size:=e
   omega
  ·have e':x=bN:=e
   omega
  ·have e':x=bE:=e
   omega
 ·intro x hx
  simp [Value.ownBlock]at hx;omega
theorem Eg (B:Nat) (Am:Option Addr) (ms:List eW) (cm:Nat) (Ai:Option Addr) (is:List dS) (ci:Nat) (w:World) (hBw:B<=w.heap.size) (hM:eP vE w Am ms) (hI:eP tC w Ai is) (h1:ms.length<=10) (h2:is.length<=30)
  (h3:∀m∈ms,m.path.length<=1000000) (h4:∀it∈is,it.path.length<=1000000/\it.data.length<=1000000) :
  Calls Tryz.prog 37 #[.agg #[.slice Am ms.length cm,.slice Ai is.length ci]] w (fun e w'=>∃(f:cI),e=.returned (.pointer (some ⟨f.bF,0,none⟩))/\RS w' B f ⟨gp ms is,0,0,[],false⟩/\Ext w w'):=by
 obtain ⟨nm,jA⟩:∃n,n=ms.length:=⟨_,rfl⟩;obtain ⟨ni,sD⟩:∃n,n=is.length:=⟨_,rfl⟩;obtain ⟨W1,bL⟩:∃W,W=w.alloc (.cells #[.slice Am nm cm,.slice Ai ni ci] 25):=⟨_,rfl⟩;obtain ⟨b1,kG⟩:∃b,b=w.heap.size:=⟨_,rfl⟩;have E1:Ext w W1:=by rw[bL];exact (Ext.refl _).alloc _
 have B1:Has W1 b1 (.cells #[.slice Am nm cm,.slice Ai ni ci] 25):=by rw[bL,kG];exact Has.new _ _
 have KL:Hid (Calls Tryz.prog 71 #[.agg #[.slice Am nm cm,.slice Ai ni ci]] W1 (aI W1 (.tuple #[.int .i64 (eQ ms).1,.int .i64 (eQ ms).2]))):=by
  show Calls _ _ _ _ _;rw [jA];exact D_ Am ms cm Ai ni ci W1 (hM.ext E1) (by omega)
 rw [<-jA]at h1|-;rw [<-sD]at h2|-;have QS:=zH jA;have QT:=zH sD;have HM:=zH (hM.ext E1);have HI:=zH (hI.ext E1);have qR:=zH B1;have c0:=B1.cell 0;have c1:=B1.cell 1;have cz:=B1.lt;simp only[gA,gB,gC]at c0 c1;clear jA sD hM hI B1;go_enter Tryz.func37,Tryz.ntmps37;go_upto_region 1 with fail;rw [<-bL,<-kG];clear bL kG;go_wp2_with fail;refine KL.out.mono ?_;rintro e w2 ⟨rfl,E2⟩;clear KL c0 c1 cz;go_wp2_with fail;refine (NG B (eQ ms).1 (eQ ms).2 w2 (by have:=E1.size;have:=E2.size;omega) (j9 ms)).mono ?_;rintro e w3 ⟨f0,rfl,K3,JI,E3⟩;have P3:fA w3 B f0 (ey (gP ms) (ms.take 0)):=⟨none,0,K3,.inl rfl⟩;have Y3:Ext W1 w3:=E2.trans E3;have JA:∀x∈f0.list,W1.heap.size<=x:=fun x hx=>by have:=JI x hx;have:=E2.size;omega
 obtain ⟨bF,TG⟩:∃b,b=f0.bF:=⟨_,rfl⟩;rw [<-TG];have QR:=zH P3;have Sv:=zH JA;have HBF:=zH TG;have hBW:B<=W1.heap.size:=by have:=E1.size;omega
 clear K3 P3 E2 E3 JI JA TG;go_wp2_with fail;go_loopw [6] (fun vi wr=>∃(k:Nat) (f:cI),vi=.int .i64 k/\k<=nm/\f.bF=bF/\(∀x∈f.list,W1.heap.size<=x)/\fA wr B f (ey (gP ms) (ms.take k))/\Ext W1 wr) (fun vi _=>nm-(intOf vi).toNat)
 case atStart=>exact⟨0,f0,rfl,Nat.zero_le _,HBF.out.symm,Sv.out,QR.out,Y3⟩
 case round =>
  clear QR Sv HBF;obtain ⟨k,f,rfl,hk,rfl,hF,hP,hE⟩:=hrel;have HF:=zH hF;have B3:=qR.out.ext hE;have c0:=B3.cell 0;have c1:=B3.cell 1;have cz:=B3.lt;simp only[gA,gB,gC]at c0 c1;clear B3 hF;have k0:(0:Int)<=(k:Int):=Int.natCast_nonneg _;have HP:=zH hP;have HE:=zH hE
  by_cases hlt:(k:Int)<nm
  case pos =>
   have dI:k<ms.length:=by have:=QS.out;omega
   obtain ⟨ba,o,rfl,wH,q0,q1,q2⟩:=(HM.out.ext hE).M_ dI;have AY:IntKind.i64.wrap ((k:Int)+1)=(k:Int)+1:=IntWalk.i64_in _ (by omega);have hst:=vG (gP ms) ms dI;have hpl:=h3 ms[k] (List.getElem_mem dI);have sE:fI (2*k) (ey (gP ms) (ms.take k)):=(((fI.first (j9 ms)).BI (ms.take k))).mono (by rw[List.length_take];omega);obtain⟨m,hm⟩:=zE (ms[k]);rw [<-hm]at q0 q1 q2 hst hpl;have tp:=qP m.path;have KM:=zH (NF HP.out sE (by omega) m hpl);have rb:=zH hst;clear hP hE hm hst hpl sE;obtain⟨P,zm⟩:=zE (bs m.path);rw [<-zm]at q0 tp KM;clear zm;have tt:na m=(m.path == [47]):=rfl;rw [<-tt]at tp;clear tt
   cases ht:na m with
   | true =>
    rw [ht]at tp;have BL:Hid (ey (gP ms) (ms.take (k+1))=ey (gP ms) (ms.take k)):=by show _=_;rw[rb.out,if_pos ht]
    clear ht;go_wp2_with fail;go_roundw
    case rel=>exact⟨k+1,f,by go_num,by omega,rfl,HF.out,by rw[BL.out];exact HP.out,HE.out⟩
    case measure=>simp[intOf];omega
   | false =>
    rw [ht]at tp;have BL:Hid (ey (gP ms) (ms.take (k+1))=iA (ey (gP ms) (ms.take k)) m):=by show _=_;rw[rb.out,if_neg (by rw[ht];decide)]
    clear ht;go_wp2_with fail;refine KM.out.mono ?_;rintro e w5 ⟨⟨v5,rfl⟩,T5⟩;obtain ⟨f5,P5,o5,on5⟩:=T5;change fA w5 B f5 _ at P5;have E5:Ext W1 w5:=o5.after HE.out HF.out;have HP5:=zH P5;have HF5:Hid (∀x∈f5.list,W1.heap.size<=x):=by
     show ∀_∈_,_;intro x hx;rcases on5.2 x hx with e|e
     ·exact HF.out x e
     ·have:=HE.out.size;omega
    have HB5:=zH on5.1;clear P5 KM o5 on5;go_wp2_with fail;go_roundw
    case rel=>exact⟨k+1,f5,by go_num,by omega,HB5.out,HF5.out,by rw[BL.out];exact HP5.out,E5⟩
    case measure=>simp[intOf];omega
  case neg =>
   have ng:ms.take k=ms:=List.take_of_length_le (by have:=QS.out;omega);have QU:=HP.out;rw [ng]at QU;have Ea:fI 20 (ey (gP ms) ms):=((fI.first (j9 ms)).BI ms).mono (by have:=QS.out;omega);obtain ⟨S1,Az⟩:∃S,S=ey (gP ms) ms:=⟨_,rfl⟩;rw [<-Az]at QU Ea;have Nk:Hid (gp ms is=ee (dL (S1,[]) is).1 ((dL (S1,[]) is).2.zip is)):=by show _=_;rw[Az];rfl
   have SB:=zH QU;have Nl:=zH Ea;have Nn:B<=wr.heap.size:=by have h7:=HE.out.size;omega
   obtain ⟨N0,Sc⟩:∃N,N=wr.heap.size:=⟨_,rfl⟩;have Np:N0<=wr.heap.size:=by omega
   have abA:W1.heap.size<=N0:=by have:=HE.out.size;omega
   rw [<-Sc]at Nn;clear hP hE QU Ea ng Az Sc;go_wp2_with fail;clear c0 c1 cz hlt hk k0;go_loopw [7,8] (fun vm vi wr=>∃(k:Nat) (f':cI),vi=.int .i64 k/\k<=ni/\f'.bF=f.bF/\(∀x∈f'.list,W1.heap.size<=x)/\fA wr B f' (dL (S1,[]) (is.take k)).1/\dq jQ wr N0 vm (dL (S1,[]) (is.take k)).2/\N0<=wr.heap.size/\Ext W1 wr) (fun _ vi _=>ni-(intOf vi).toNat)
   case atStart=>exact⟨0,f,rfl,Nat.zero_le _,rfl,HF.out,SB.out,dq.nil _ _ _,Np,HE.out⟩
   case round =>
    clear SB HE Np;obtain ⟨k,f2,rfl,hk,Zf,hF,hP,hO,Y6,hE⟩:=hrel;have QY:=zH Zf;have Vb:=zH hF;clear Zf;have B3:=qR.out.ext hE;have c0:=B3.cell 0;have c1:=B3.cell 1;have cz:=B3.lt;simp only[gA,gB,gC]at c0 c1;clear B3 hF;have k0:(0:Int)<=(k:Int):=Int.natCast_nonneg _
    by_cases hlt:(k:Int)<ni
    case pos =>
     have dI:k<is.length:=by have:=QT.out;omega
     obtain ⟨ba,o,rfl,wH,q0,q1,q2,q3,q4,q5,q6⟩:=(HI.out.ext hE).IK dI;have AY:IntKind.i64.wrap ((k:Int)+1)=(k:Int)+1:=IntWalk.i64_in _ (by omega);have hst:=ta (S1,[]) is dI;have hil:=h4 is[k] (List.getElem_mem dI);have gF:=fI.items (is.take k) (S1,[]) Nl.out;have rQ:(is.take k).length=k:=by rw[List.length_take];omega
     rw [rQ]at gF;obtain ⟨it,hit⟩:∃m,m=is[k]:=⟨_,rfl⟩;rw [<-hit]at q0 q1 q2 q3 q4 q5 q6 hst hil;obtain⟨p,pC⟩:=zE (dL (S1,[]) (is.take k));rw [<-pC]at hst hP hO gF;have Nq:=gF.2;simp only[List.length_nil,Nat.zero_add]at Nq;have Nr:=zH gF.1;obtain ⟨W8,tm⟩:∃W,W=wr.alloc (.cells #[bs it.path,it.kind,it.mode,it.uid,it.gid,it.mtime,bs it.data] 72):=⟨_,rfl⟩;obtain ⟨b9,DV⟩:∃b,b=wr.heap.size:=⟨_,rfl⟩;have E8:Ext wr W8:=by rw[tm];exact (Ext.refl _).alloc _
     have B8:Has W8 b9 (.cells #[bs it.path,it.kind,it.mode,it.uid,it.gid,it.mtime,bs it.data] 72):=by rw[tm,DV];exact Has.new _ _
     have P8:=fA.ext hP E8;have O8:=hO.ext E8;have U2:=fA.lt hP;have QN:wr.heap.size<=b9:=by omega
     have KN0:=ND P8 gF.1 (by omega) it hil.1 hil.2;rw [QY.out]at KN0;have KN:=zH KN0;clear KN0;obtain⟨T,hT⟩:=zE (jD p.1 it);obtain ⟨no,aW⟩:∃n,n=iU p.1 it:=⟨_,rfl⟩;rw [<-hT,<-aW]at KN;have wA:dL (S1,[]) (is.take (k+1))=(gj T no it,p.2++[no]):=by rw[hst,hT,aW];rfl
     have Ns:fI (20+3*k+1) T:=by rw[hT];exact gF.1.IK it
     have rb:=zH wA;have Y7:=zH Ns;have IR:=zH P8;have DY:=zH O8;have IU:=zH B8;have II:=zH (hE.trans E8);have r0:=B8.cell 0;have r1:=B8.cell 1;have r2:=B8.cell 2;have r3:=B8.cell 3;have r4:=B8.cell 4;have r5:=B8.cell 5;have r6:=B8.cell 6;have rz:=B8.lt;simp only[gA,gB,gC]at r0 r1 r2 r3 r4 r5 r6;clear hst hil gF pC hP hO hE hit hT aW wA Ns P8 O8 B8 rQ;go_upto_region 13 with fail;rw [<-tm,<-DV];clear tm DV q0 q1 q2 q3 q4 q5 q6 wH;go_wp2_with fail;refine KN.out.mono ?_;rintro e w9 ⟨rfl,T9⟩;have B9:=nc.has T9 IU.out (fun hm=>by have:=U2 _ hm;omega);have hoff:=fA.vH IR.out DY.out (by decide) (by decide) (by decide);obtain ⟨f9,P9,o9,Y8⟩:=T9;change fA w9 B f9 T at P9;have E9:Ext W1 w9:=o9.after II.out Vb.out;have HF9:=zH (tR Vb.out Y8 II.out.size);have HB9:=zH (Y8.1.trans QY.out);have O9:=DY.out.only o9 hoff;have Nt:N0<=w9.heap.size:=by have:=o9.size;have:=E8.size;omega
     obtain ⟨v10,pO,Nu,Nv,Eb,_⟩:=xO jQ w9 O9 Nt no (by omega);have Y9:Ext W1 pO:=(E9.alloc _).grown Eb (fun g hv=>by have:=(O9.lt hv).1;omega);have QV:Only u7.ownBlock.toList w9 pO:=(Only.jw _ _ _).then (Only.of_grownBy Eb (fun g hv=>Option.mem_toList.2 hv));have MZ:=fA.only P9 QV (O9.cU Nn (by decide) (by decide)) (fun x hx hm=>fA.vH P9 O9 (by decide) (by decide) (by decide) x (Option.mem_toList.1 hm) hx);have Sz:=QV.has B9 (O9.vJ B9 (by decide));have Nw:N0<=pO.heap.size:=by have:=QV.size;omega
     have BG:=zH Nu;have vL:=zH MZ;have Ec:=zH Nv;have qJ:=zH Sz;have IV:=zH Y9;clear E9 B9 hoff P9 o9 Y8 O9 Nu Nv Eb Y9 QV MZ Sz KN r0 r1 r2 r3 r4 r5 r6 rz Nt
     by_cases jj:no=0
     case pos =>
      have t1:(no != 0)=false:=by simpa using jj
      have hD:Hid (gj T no it=T):=by show _=_;unfold gj;rw[if_neg (fun q=>q jj)]
      clear jj;go_wp2_with (at_builtin;refine Lib.wpList_append_run _ rfl _ _ 124 124 rfl _ _ rfl rfl _ _ BG.out ?_);go_roundw
      case rel=>exact⟨k+1,f9,by go_num,by omega,HB9.out,HF9.out,by rw[rb.out,hD.out];exact vL.out,by rw[rb.out];exact Ec.out,Nw,IV.out⟩
      case measure=>simp[intOf];omega
     case neg =>
      have t1:(no != 0)=true:=by simpa using jj
      have hD:Hid (gj T no it=cM (cM T 0 0 0 (.eu no it.uid it.gid)) 0 0 0 (.dP no it.mode)):=by show _=_;unfold gj;rw[if_pos jj];rfl
      have Vc:=fA.eu vL.out Y7.out (by omega) no it.uid it.gid;rw [HB9.out]at Vc;have KC:=zH Vc;clear Vc;have Ed:fI (20+3*k+1+1) (cM T 0 0 0 (.eu no it.uid it.gid)):=Y7.out.oc 0 0 0 _ (fun _ _ _ _ e=>by cases e);obtain⟨U,hU⟩:=zE (cM T 0 0 0 (.eu no it.uid it.gid));obtain ⟨ec,Y_⟩:∃e,e=fQ T 0 0 0 (.eu no it.uid it.gid):=⟨_,rfl⟩;rw [<-hU,<-Y_]at KC;rw [<-hU]at hD Ed;have HPU:=zH Ed;clear jj hU Y_ Ed;have r3:=qJ.out.cell 3;have r4:=qJ.out.cell 4;have rz:=qJ.out.lt;simp only[gA,gB,gC]at r3 r4;go_wp2_with (at_builtin;refine Lib.wpList_append_run _ rfl _ _ 124 124 rfl _ _ rfl rfl _ _ BG.out ?_);refine KC.out.mono ?_;rintro e JS ⟨rfl,Nx⟩;have U3:=nc.has Nx qJ.out (fA.off vL.out qJ.out (by decide) (by decide) (by decide));have hoff:=fA.vH vL.out Ec.out (by decide) (by decide) (by decide);obtain ⟨f11,Ee,Ef,vM⟩:=Nx;change fA JS B f11 U at Ee;have vp:Ext W1 JS:=Ef.after IV.out HF9.out;have QZ:=zH (tR HF9.out vM IV.out.size);have Q9:=zH (vM.1.trans HB9.out);have Ny:=Ec.out.only Ef hoff;have Za:N0<=JS.heap.size:=by have:=Ef.size;omega
      have Va:=fA.dP Ee HPU.out (by omega) no it.mode;rw [Q9.out]at Va;have KM:=zH Va;clear Va;obtain⟨V,hV⟩:=zE (cM U 0 0 0 (.dP no it.mode));obtain ⟨ed,Zb⟩:∃e,e=fQ U 0 0 0 (.dP no it.mode):=⟨_,rfl⟩;rw [<-hV,<-Zb]at KM;rw [<-hV]at hD;have BO:=zH Ee;have zn:=zH Ny;have BP:=zH vp;clear r3 r4 rz KC hV Zb vM Ef hoff Ee Ny vp;have r2:=U3.cell 2;have rz:=U3.lt;simp only[gA,gB,gC]at r2;clear U3;go_wp2_with fail;refine KM.out.mono ?_;rintro e Ss ⟨rfl,T12⟩;have hoff:=fA.vH BO.out zn.out (by decide) (by decide) (by decide);obtain ⟨f12,Wr,SF,Nz⟩:=T12;change fA Ss B f12 V at Wr;have Dp:Ext W1 Ss:=SF.after BP.out QZ.out;have abB:=zH (tR QZ.out Nz BP.out.size);have Vd:=zH (Nz.1.trans Q9.out);have Zc:=zn.out.only SF hoff;have NA:N0<=Ss.heap.size:=by have:=SF.size;omega
      have U4:=zH Wr;have U6:=zH Zc;have IW:=zH Dp;clear r2 rz KM Nz SF hoff Wr Zc Dp;go_wp2_with fail;go_roundw
      case rel=>exact⟨k+1,f12,by go_num,by omega,Vd.out,abB.out,by rw[rb.out,hD.out];exact U4.out,by rw[rb.out];exact U6.out,NA,IW.out⟩
      case measure=>simp[intOf];omega
    case neg =>
     have ng:is.take k=is:=List.take_of_length_le (by have:=QT.out;omega);rw [ng]at hP hO;have gF:=fI.items is (S1,[]) Nl.out;have sD:=QT.out;obtain⟨p,pC⟩:=zE (dL (S1,[]) is);rw [<-pC]at hP hO gF;have Hg:Hid (gp ms is=ee p.1 (p.2.zip is)):=by show _=_;rw[Nk.out,pC]
     have Nq:p.2.length=ni:=by have:=gF.2;simp only[List.length_nil,Nat.zero_add]at this;omega
     have HOL:=zH Nq;have hzl:Hid ((p.2.zip is).length=ni):=by show _=_;rw[List.length_zip];omega
     have U7:=zH (gF.1.mono (show 20+3*is.length<=110 by omega));have HP:=zH hP;obtain ⟨Am,cm',Zd,_,_,NB,_⟩:=hO.at_;rw [Nq]at Zd;have HO:=zH hO;have HE:=zH hE;have U8:=zH NB;subst Zd;clear hP hO hE ng gF sD pC Nq NB;go_wp2_with fail;clear c0 c1 cz hlt hk k0;go_loopw [11] (fun vi wr=>∃(k:Nat) (f':cI),vi=.int .i64 k/\k<=ni/\f'.bF=f.bF/\(∀x∈f'.list,W1.heap.size<=x)/\fA wr B f' (ee p.1 ((p.2.zip is).take k))/\dq jQ wr N0 (.slice Am ni cm') p.2/\Ext W1 wr) (fun vi _=>ni-(intOf vi).toNat)
     case atStart=>exact⟨0,f2,rfl,Nat.zero_le _,QY.out,Vb.out,HP.out,HO.out,HE.out⟩
     case round =>
      clear HP HO HE Y6 U8 QY Vb;obtain ⟨k,f3,rfl,hk,Zf,hF,hP,hO,hE⟩:=hrel;have Q_:=zH Zf;have Ws:=zH hF;clear Zf;have B3:=qR.out.ext hE;have c0:=B3.cell 0;have c1:=B3.cell 1;have cz:=B3.lt;simp only[gA,gB,gC]at c0 c1;clear B3 hF;have k0:(0:Int)<=(k:Int):=Int.natCast_nonneg _
      by_cases hlt:(k:Int)<ni
      case pos =>
       have dI:k<is.length:=by have:=QT.out;omega
       have QW:k<p.2.length:=by have:=HOL.out;omega
       have Ze:k<(p.2.zip is).length:=by have:=hzl.out;omega
       obtain ⟨ba,o,rfl,wH,q0,q1,q2,q3,q4,q5,q6⟩:=(HI.out.ext hE).IK dI;obtain ⟨gm,VQ,U9,qm⟩:∃gm,Am=some ⟨gm,0,none⟩/\gm<wr.heap.size/\wr.cell? ⟨gm,k,none⟩=some (.int .i64 p.2[k]):=by
        rcases hO.cases with⟨_,h2⟩|⟨gm,cap,cur,h2,_,h3,_,_,h4⟩
        ·rw[h2]at QW;cases QW
        ·injection h2 with h2
         have:=h4 k QW 0 (by decide);exact ⟨gm,h2,h3.lt,by simpa [jQ]using this⟩
       subst VQ;have AY:IntKind.i64.wrap ((k:Int)+1)=(k:Int)+1:=IntWalk.i64_in _ (by omega);have hst:=tb p.1 (p.2.zip is) Ze;rw [List.getElem_zip]at hst;have sE:fI (110+k) (ee p.1 ((p.2.zip is).take k)):=(fI.times ((p.2.zip is).take k) U7.out).mono (by rw[List.length_take];omega);obtain ⟨it,hit⟩:∃m,m=is[k]:=⟨_,rfl⟩;obtain ⟨no,aW⟩:∃m,m=p.2[k]:=⟨_,rfl⟩;rw [<-hit]at q0 q1 q2 q3 q4 q5 q6 hst;rw [<-aW]at qm hst;obtain ⟨S3,IQ⟩:∃S,S=ee p.1 ((p.2.zip is).take k):=⟨_,rfl⟩;rw [<-IQ]at hst sE hP;have rb:=zH hst;have IR:=zH hP;have DY:=zH hO;have II:=zH hE;have Nr:=zH sE;obtain ⟨W8,tm⟩:∃W,W=wr:=⟨_,rfl⟩;clear hst hP hO hE hit aW IQ sE QW Ze
       by_cases jj:no=0
       case pos =>
        have t1:(no != 0)=false:=by simpa using jj
        have hD:Hid (ee p.1 ((p.2.zip is).take (k+1))=S3):=by show _=_;rw[rb.out];unfold mS;rw[if_neg (fun q=>q jj)]
        clear jj;go_wp2_with fail;go_roundw
        case rel=>exact⟨k+1,f3,by go_num,by omega,Q_.out,Ws.out,by rw[hD.out];exact IR.out,DY.out,II.out⟩
        case measure=>simp[intOf];omega
       case neg =>
        have t1:(no != 0)=true:=by simpa using jj
        have hD:Hid (ee p.1 ((p.2.zip is).take (k+1))=cM S3 0 0 0 (.fP no it.mtime)):=by show _=_;rw[rb.out];unfold mS;rw[if_pos jj];rfl
        have U_:=(Ext.refl wr).drew;have Vc:=fA.fP (fA.ext IR.out U_) Nr.out (by omega) no it.mtime;rw [Q_.out]at Vc;have KC:=zH Vc;have NC:=zH U_;clear jj U_ Vc tm;go_upto_region 22 with fail;go_still_tail 12,(by kernel_rfl);change wpList _ _ _ _ _ wr.drew;go_wp2_with fail;refine KC.out.mono ?_;rintro e JS ⟨rfl,Nx⟩;have hoff:=fA.vH (fA.ext IR.out NC.out) (DY.out.ext NC.out) (by decide) (by decide) (by decide);obtain ⟨f11,Ee,Ef,vM⟩:=Nx;change fA JS B f11 _ at Ee;have vp:Ext W1 JS:=Ef.after (II.out.trans NC.out) Ws.out;have QZ:=zH (tR Ws.out vM (II.out.trans NC.out).size);have Q9:=zH (vM.1.trans Q_.out);have Ny:=(DY.out.ext NC.out).only Ef hoff;have BO:=zH Ee;have zn:=zH Ny;have BP:=zH vp;clear KC vM Ef hoff Ee Ny vp;go_wp2_with fail;go_roundw
        case rel=>exact⟨k+1,f11,by go_num,by omega,Q9.out,QZ.out,by rw[hD.out];exact BO.out,zn.out,BP.out⟩
        case measure=>simp[intOf];omega
      case neg =>
       have ng:(p.2.zip is).take k=p.2.zip is:=List.take_of_length_le (by have:=hzl.out;omega);rw [ng,<-Hg.out]at hP;have HP:=zH hP;have HE:=zH hE;clear ng hP hE hO;go_wp2_with fail;go_ret;exact ⟨f3,by rw[Q_.out];rfl,HP.out,E1.trans HE.out⟩
end Go.Proofs.YtpibnfdolojpcaaGreat
