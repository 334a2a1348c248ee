import Derived.Test.YtpibnfdolojpcaaGreatBunS
import Derived.Test.YtpibnfdolojpcaaGreatBunE
set_option maxHeartbeats 16000000
set_option maxRecDepth 100000
namespace Go.Proofs.YtpibnfdolojpcaaGreat
open Go.Proofs.Tryz
open Go.ChangeShapes Go.WideShapes Go.ChangeAt Go.RowKit
variable {w:World} {f:cI} {B:Nat} {S:ag}
theorem Vm {c:Nat} (h:gZ w B f S) (k:ik c S) (hc:c<=890) (it:fk) (hp:it.path.length<=1000000) (hd:it.data.length<=1000000) :
  Calls prog 74 #[((),f.bF),.agg #[bs it.path,it.kind,it.mode,it.uid,it.gid,it.mtime,bs it.data]] w (fun e w'=>e=.returned (.int .i64 (kv S it))/\qW w B f (lv S it) w'):=by
 obtain⟨W1,cA⟩:=ai (w.alloc (.cells #[bs it.path,it.kind,it.mode,it.uid,it.gid,it.mtime,bs it.data] 72));obtain⟨b3,qZ⟩:=ai w.heap.size;have E1:Ext w W1:=by rw[cA];exact (Ext.refl _).alloc _
 have B1:Has W1 b3 (.cells #[bs it.path,it.kind,it.mode,it.uid,it.gid,it.mtime,bs it.data] 72):=by rw[cA,qZ];exact Has.new _ _
 have KF:=zH (gZ.find (gZ.ext h E1) k (by omega) it.path false hp);obtain⟨r,hr⟩:=ai (fT S it);rw[show fq S 0 0 it.path false=r from hr.symm]at KF;have Jn:Hid (Calls prog 40 #[((),f.bF),.agg #[(),()],bs it.path,.bool false] W1 (aO W1 (.tuple #[.agg #[r.1.dir,bs r.1.name,r.1.no,.bool r.1.iE],r.2]))):=KF.o;have HR:=zH hr;have c0:=B1.cell 0;have cz:=B1.lt;simp only[gA,gB]at c0;have nZ:=zH B1;have H1:=zH (gZ.ext h E1);have H0:=zH h;clear h KF hr B1;go_in;go_upto_region 1 with fail;rw[<-cA,<-qZ];clear cA qZ;go_wp2_with fail;refine Jn.o.mono ?_;rintro e w1 ⟨rfl,b1⟩;clear Jn c0 cz;go_upto_region 2 with fail;obtain⟨W2,dp⟩:=ai (w1.alloc (.cells #[r.1.dir,bs r.1.name,r.1.no,.bool r.1.iE] 82));obtain⟨b4,qA⟩:=ai w1.heap.size;have E2:Ext W1 W2:=by rw[dp];exact b1.alloc _
 have X2:Has W2 b4 (.cells #[r.1.dir,bs r.1.name,r.1.no,.bool r.1.iE] 82):=by rw[dp,qA];exact Has.new _ _
 rw[<-dp,<-qA];clear dp qA b1;have B2:=nZ.o.ext E2;have P3:=gZ.ext H1.o E2;have oR:=E1.trans E2;have ui:=zH X2;have x0:=aA X2 0 rfl;have x1:=aA X2 1 rfl;have x2:=aA X2 2 rfl;have xz:=X2.lt;have d1:=aA B2 1 rfl;have d6:=aA B2 6 rfl;have dz:=B2.lt;clear X2 B2
 by_cases he:r.2=0
 case neg =>
  have t1:(r.2 != 0)=true:=by simpa using he
  have hT:Hid (lv S it=S/\kv S it=0):=Np (by rw[<-HR.o];exact he);clear he P3;go_wp2;go_ret;exact⟨by rw[hT.o.2];rfl,by rw[hT.o.1];exact qW.refl H0.o oR⟩
 have t1:(r.2 != 0)=false:=by simpa using he
 have HE:=zH he
 by_cases bB:r.1.no=0
 case neg =>
  have t2:(r.1.no != 0)=true:=by simpa using bB
  obtain⟨m1,ig⟩:=ai (aa S.nodes r.1.no);have hT:Hid (lv S it=S/\kv S it=if it.kind=1/\m1.kind=1 then r.1.no else 0):=by show _/\_;rw[ig,HR.o];exact DH (by rw[<-HR.o];exact HE.o) (by rw[<-HR.o];exact bB)
  have KG:=zH (gZ.get P3 k (by omega) r.1.no);have HM1:=zH ig;clear he bB P3 ig
  by_cases mq:it.kind=1
  case neg =>
   have t3:(it.kind == 1)=false:=by simpa using mq
   have FT:Hid (kv S it=0):=by show _=_;rw[hT.o.2,ac (fun q=>mq q.1)]
   clear mq;go_wp2;go_ret;exact⟨by rw[FT.o];rfl,by rw[hT.o.1];exact qW.refl H0.o oR⟩
  have t3:(it.kind == 1)=true:=by simpa using mq
  go_wp2_with fail;refine KG.o.mono ?_;rintro e w4 ⟨A4,c4,rfl,tO,E4⟩;clear KG;rw[<-HM1.o]at tO|-;have af8:∀w',(Instr.field 66 (.agg (m1,A4,c4)) 2).run prog w'=.ok (.int .i64 m1.kind) w':=fun w'=>(Ac _ _ _ _ _ _ _ _ _ _ _ _ w').2
  have Xh:=(E4.cell xz).trans x2;have xz':b4<w4.heap.size:=by have:=E4.size;omega
  clear x0 x1 x2 xz d1 d6 dz
  by_cases hk2:m1.kind=1
  ·have t4:(m1.kind == 1)=true:=by simpa using hk2
   have FT:Hid (kv S it=r.1.no):=by show _=_;rw[hT.o.2,af ⟨mq,hk2⟩]
   clear mq hk2;go_wp2;go_ret;exact⟨by rw[FT.o];rfl,by rw[hT.o.1];exact qW.refl H0.o (oR.trans E4)⟩
  ·have t4:(m1.kind == 1)=false:=by simpa using hk2
   have FT:Hid (kv S it=0):=by show _=_;rw[hT.o.2,ac (fun q=>hk2 q.2)]
   clear mq hk2;go_wp2;go_ret;exact⟨by rw[FT.o];rfl,by rw[hT.o.1];exact qW.refl H0.o (oR.trans E4)⟩
 have t2:(r.1.no != 0)=false:=by simpa using bB
 have hC:Hid (j9 S it=if it.kind=1 then some (.dS r.1.dir r.1.name 493) else if it.kind=2 then some (.dH r.1.dir r.1.name 420 it.data) else if it.kind=3 then some (.symlink r.1.dir r.1.name it.data)
   else if it.kind=4 then (if (Bm S it).2=0 then some (.link (Bm S it).1.no r.1.dir r.1.name) else none) else none):=by show _=_;rw[HR.o];exact Nq (by rw[<-HR.o];exact HE.o) (by rw[<-HR.o];exact bB)
 have HN0:Hid ((fT S it).1.no=0):=by show _=_;rw[<-HR.o];exact bB
 clear he bB
 by_cases k1:it.kind=1
 ·have t3:(it.kind == 1)=true:=by simpa using k1
  obtain⟨X,hX⟩:∃X:pZ,X=.dS r.1.dir r.1.name 493:=⟨_,rfl⟩;have tY:j9 S it=some X:=by rw[hC.o,af k1,hX]
  have KC:=zH (gZ.dS P3 k (by omega) r.1.dir r.1.name 493 (by rw[HR.o];have:=nh S 0 0 it.path false;show (fT S it).1.name.length<=_;unfold fT;omega));rw[<-hX,<-kO tY,<-kQ tY]at KC;clear k1 hX tY hC P3;go_wp2_with fail;refine KC.o.mono ?_;rintro e w5 ⟨rfl,T5⟩;go_wp2;go_ret;exact⟨rfl,qW.pre oR T5⟩
 have t3:(it.kind == 1)=false:=by simpa using k1
 by_cases k2:it.kind=2
 ·have t4:(it.kind == 2)=true:=by simpa using k2
  obtain⟨X,hX⟩:∃X:pZ,X=.dH r.1.dir r.1.name 420 it.data:=⟨_,rfl⟩;have tY:j9 S it=some X:=by rw[hC.o,ac k1,af k2,hX]
  have KC:=zH (gZ.dH P3 k (by omega) r.1.dir r.1.name 420 it.data (by rw[HR.o];have:=nh S 0 0 it.path false;show (fT S it).1.name.length<=_;unfold fT;omega) (by omega));rw[<-hX,<-kO tY,<-kQ tY]at KC;clear k1 k2 hX tY hC P3;go_wp2_with fail;refine KC.o.mono ?_;rintro e w5 ⟨rfl,T5⟩;go_wp2;go_ret;exact⟨rfl,qW.pre oR T5⟩
 have t4:(it.kind == 2)=false:=by simpa using k2
 by_cases k3:it.kind=3
 ·have t5:(it.kind == 3)=true:=by simpa using k3
  obtain⟨X,hX⟩:∃X:pZ,X=.symlink r.1.dir r.1.name it.data:=⟨_,rfl⟩;have tY:j9 S it=some X:=by rw[hC.o,ac k1,ac k2,af k3,hX]
  have KC:=zH (gZ.symlink P3 k (by omega) r.1.dir r.1.name it.data (by rw[HR.o];have:=nh S 0 0 it.path false;show (fT S it).1.name.length<=_;unfold fT;omega) (by omega));rw[<-hX,<-kO tY,<-kQ tY]at KC;clear k1 k2 k3 hX tY hC P3;go_wp2_with fail;refine KC.o.mono ?_;rintro e w5 ⟨rfl,T5⟩;go_wp2;go_ret;exact⟨rfl,qW.pre oR T5⟩
 have t5:(it.kind == 3)=false:=by simpa using k3
 by_cases k4:it.kind=4
 case neg =>
  have t6:(it.kind == 4)=false:=by simpa using k4
  have hT:Hid (lv S it=S/\kv S it=0):=vM HN0.o (by rw[hC.o,ac k1,ac k2,ac k3,ac k4]);clear k1 k2 k3 k4 hC P3;go_wp2;go_ret;exact⟨by rw[hT.o.2];rfl,by rw[hT.o.1];exact qW.refl H0.o oR⟩
 have t6:(it.kind == 4)=true:=by simpa using k4
 obtain⟨y,hy⟩:=ai (Bm S it);have Yt:Hid (j9 S it=if y.2=0 then some (.link y.1.no r.1.dir r.1.name) else none):=by show _=_;rw[hC.o,ac k1,ac k2,ac k3,af k4,hy]
 have KF:=zH (gZ.find P3 k (by omega) it.data false hd);rw[show fq S 0 0 it.data false=y from hy.symm]at KF;have KF3:Hid (Calls prog 40 #[((),f.bF),.agg #[(),()],bs it.data,.bool false] W2 (aO W2 (.tuple #[.agg #[y.1.dir,bs y.1.name,y.1.no,.bool y.1.iE],y.2]))):=KF.o;have Yu:=zH P3;have Uz:=ui;clear k1 k2 k3 k4 hC hy KF P3;go_wp2_with fail;refine KF3.o.mono ?_;rintro e w4 ⟨rfl,ZT⟩;clear KF3 x0 x1 x2 xz d1 d6 dz;go_upto_region 18 with fail;obtain⟨W4,gb⟩:=ai (w4.alloc (.cells #[y.1.dir,bs y.1.name,y.1.no,.bool y.1.iE] 82));obtain⟨CN,lK⟩:=ai w4.heap.size;have E4:Ext W2 W4:=by rw[gb];exact ZT.alloc _
 have Y4:Has W4 CN (.cells #[y.1.dir,bs y.1.name,y.1.no,.bool y.1.iE] 82):=by rw[gb,lK];exact Has.new _ _
 rw[<-gb,<-lK];clear gb lK ZT;have X4:=Uz.o.ext E4;have P4:=gZ.ext Yu.o E4;have x0:=aA X4 0 rfl;have x1:=aA X4 1 rfl;have xz:=X4.lt;have y2:=aA Y4 2 rfl;have yz:=Y4.lt;clear X4 Y4
 by_cases k5:y.2=0
 ·have t7:(y.2 == 0)=true:=by simpa using k5
  obtain⟨X,hX⟩:∃X:pZ,X=.link y.1.no r.1.dir r.1.name:=⟨_,rfl⟩;have tY:j9 S it=some X:=by rw[Yt.o,af k5,hX]
  have hN:Hid (kv S it=0):=by show _=_;rw[kQ tY,hX];rfl
  have KC:=zH (gZ.link P4 k (by omega) y.1.no r.1.dir r.1.name (by rw[HR.o];have:=nh S 0 0 it.path false;show (fT S it).1.name.length<=_;unfold fT;omega));rw[<-hX,<-kO tY]at KC;clear k5 hX tY Yt P4;go_wp2_with fail;refine KC.o.mono ?_;rintro e w5 ⟨rfl,T5⟩;go_wp2;go_ret;exact⟨by rw[hN.o];rfl,qW.pre (oR.trans E4) T5⟩
 ·have t7:(y.2 == 0)=false:=by simpa using k5
  have hT:Hid (lv S it=S/\kv S it=0):=vM HN0.o (by rw[Yt.o,ac k5]);clear k5 Yt P4;go_wp2;go_ret;exact⟨by rw[hT.o.2];rfl,by rw[hT.o.1];exact qW.refl H0.o (oR.trans E4)⟩
theorem Vn {c:Nat} (h:gZ w B f S) (k:ik c S) (hc:c<=890) (m:gi) (hp:m.path.length<=1000000) :
  Calls prog 73 #[((),f.bF),.agg #[bs m.path,m.b,m.n]] w (fun e w'=>(∃v,e=.returned v)/\qW w B f (jV S m) w'):=by
 obtain⟨W1,cA⟩:=ai (w.alloc (.cells #[bs m.path,m.b,m.n] 119));obtain⟨b3,qZ⟩:=ai w.heap.size;have E1:Ext w W1:=by rw[cA];exact (Ext.refl _).alloc _
 have B1:Has W1 b3 (.cells #[bs m.path,m.b,m.n] 119):=by rw[cA,qZ];exact Has.new _ _
 have hlt:=gZ.lt h;have ae0:w.heap.size<=b3:=by omega
 have KF:=zH (gZ.find (gZ.ext h E1) k (by omega) m.path false hp);obtain⟨r,hr⟩:=ai (qU S m);rw[show fq S 0 0 m.path false=r from hr.symm]at KF;have Jn:Hid (Calls prog 40 #[((),f.bF),.agg #[(),()],bs m.path,.bool false] W1 (aO W1 (.tuple #[.agg #[r.1.dir,bs r.1.name,r.1.no,.bool r.1.iE],r.2]))):=KF.o;have HR:=zH hr;have c0:=B1.cell 0;have cz:=B1.lt;simp only[gA,gB]at c0;have nZ:=zH B1;have H1:=zH (gZ.ext h E1);have H0:=zH h;clear h KF hr B1;go_in;go_upto_region 1 with fail;rw[<-cA,<-qZ];clear cA qZ;go_wp2_with fail;refine Jn.o.mono ?_;rintro e w1 ⟨rfl,b1⟩;clear Jn c0 cz;go_upto_region 2 with fail;obtain⟨W2,dp⟩:=ai (w1.alloc (.cells #[r.1.dir,bs r.1.name,r.1.no,.bool r.1.iE] 82));obtain⟨b4,qA⟩:=ai w1.heap.size;have E2:Ext W1 W2:=by rw[dp];exact b1.alloc _
 have X2:Has W2 b4 (.cells #[r.1.dir,bs r.1.name,r.1.no,.bool r.1.iE] 82):=by rw[dp,qA];exact Has.new _ _
 rw[<-dp,<-qA];have ae1:W1.heap.size<=b4:=by have:=b1.size;omega
 clear dp qA b1;have P2:=gZ.ext H1.o E2;have B2:=nZ.o.ext E2;have abn:=gZ.lt H1.o;have FU:=zH P2;have ui:=zH X2;have Rw:=zH B2;have x0:=aA X2 0 rfl;have x1:=aA X2 1 rfl;have x2:=aA X2 2 rfl;have xz:=X2.lt
 by_cases he:r.2=0
 case neg =>
  have t1:(r.2 == 0)=false:=by simpa using he
  have hT:Hid (jV S m=S):=Iu (by rw[<-HR.o];exact he);clear he P2 X2 B2;go_wp2_with fail;go_end0;refine⟨⟨_,rfl⟩,?_⟩;rw[hT.o];exact qW.refl H0.o (E1.trans E2)
 have t1:(r.2 == 0)=true:=by simpa using he
 have HE:=zH he
 by_cases bB:r.1.no=0
 case neg =>
  have t2:(r.1.no == 0)=false:=by simpa using bB
  have hT:Hid (jV S m=dB S r.1.no m.b m.n):=by show _=_;rw[HR.o];exact Bq (by rw[<-HR.o];exact HE.o) (by rw[<-HR.o];exact bB)
  have d1:=aA B2 1 rfl;have d2:=aA B2 2 rfl;have dz:=B2.lt;have KM:=zH (fun u (hu:Ext W2 u)=>gZ.mK (gZ.ext P2 hu) k (by omega) r.1.no m.b m.n);clear he bB P2 X2 B2 x0 x1 xz;have x2:=aA ui.o 2 rfl;have xz:=ui.o.lt;go_wp2_with fail;refine (KM.o _ (Ext.refl _)).mono ?_;rintro e w3 ⟨⟨v3,rfl⟩,T3⟩;go_wp2_with fail;go_end0;refine⟨⟨_,rfl⟩,?_⟩;rw[hT.o];exact qW.pre (E1.trans E2) T3
 have t2:(r.1.no == 0)=true:=by simpa using bB
 obtain⟨X,hX⟩:∃X:pZ,X=xu S m:=⟨_,rfl⟩;have hX':X=.dS r.1.dir r.1.name 493:=by rw[hX,HR.o];rfl
 have hT:Hid (jV S m=if gL S 0 0 0 X=0 then dB (di S 0 0 0 X) (mT S 0 0 0 X) m.b m.n else di S 0 0 0 X):=by show _=_;rw[hX];exact Iv (by rw[<-HR.o];exact HE.o) (by rw[<-HR.o];exact bB)
 have KC:=zH (gZ.dS P2 k (by omega) r.1.dir r.1.name 493 (by rw[HR.o];have:=nh S 0 0 m.path false;show (qU S m).1.name.length<=_;unfold qU;omega));rw[<-hX']at KC;have k1:ik (c+1) (di S 0 0 0 X):=by rw[hX'];exact k.qT 0 0 0 _ (fun _ _ _ _ e=>by cases e)
 obtain⟨N,hN⟩:=ai (mT S 0 0 0 X);obtain⟨e2,oU⟩:=ai (gL S 0 0 0 X);obtain⟨T,Rx⟩:=ai (di S 0 0 0 X);rw[<-hN,<-oU,<-Rx]at KC hT;rw[<-Rx]at k1;clear he bB P2 X2 B2 hX hX' hN oU Rx;go_wp2_with fail;refine KC.o.mono ?_;rintro e w3 ⟨rfl,T3⟩;have X3:=qW.has T3 ui.o (fun hm=>by have:=abn _ hm;omega);have B3:=qW.has T3 Rw.o (fun hm=>by have:=hlt _ hm;omega);clear KC x0 x1 x2 xz;have f2:=Has.free X3 2;have xz:=X3.lt;have x2:=X3.cell 2;simp only[gA,gB,gC]at x2;obtain⟨W4,gb⟩:=ai (w3.setCell (b4,2) (.int .i64 N));have X4:Has W4 b4 (.cells #[r.1.dir,bs r.1.name,N,.bool r.1.iE] 82):=by rw[gb];exact Has.setCell X3 2 (.int .i64 N)
 have O4:Only [b4] w3 W4:=by rw[gb];exact Only.setCell _ _ _ _
 obtain ⟨g3,P3,O3,on3⟩:=T3;change gZ w3 B g3 T at P3;have F4:dX w3 B [b4]:=fun x hx=>by
  rw[ax]at hx;subst hx;have hB:=(gZ.dJ H0.o f.bF (by simp));have oV:=hlt f.bF (by simp);have:=E1.size;refine⟨by omega,?_,?_⟩
  ·rintro⟨cs,fr,e⟩;unfold Has at X3;rw[X3]at e;injection e with e;injection e with _ e;exact absurd e (by decide)
  ·rintro⟨cs,fr,e⟩;unfold Has at X3;rw[X3]at e;injection e with e;injection e with _ e;exact absurd e (by decide)
 have Jm:∀x∈g3.list,x∉[b4]:=fun x hx hm=>by
  rw[ax]at hm;subst hm;exact gZ.off P3 X3 (by decide) (by decide) (by decide) hx
 have P4:=gZ.only P3 O4 F4 Jm;have B4:=O4.has B3 (by rw[ax];have:=nZ.o.lt;omega);have on0:cI.on g3 f w:=⟨on3.1,fun x hx=>(on3.2 x hx).imp id fun e=>by have:=E1.size;have:=E2.size;omega⟩;have O0:Only (f.list) w W4:=(Only.pre (E1.trans E2) O3).trans O4 (fun x hx=>by rw[ax]at hx;subst hx;exact .inr (by have:=E1.size;omega));have ZU:=zH P4;have Wh:=zH on0;have Wv:=zH O0;have ZV:=zH X4;have Wx:=zH B4;clear P3 O3 on3 F4 Jm P4 on0 O0 X4 B4 O4 X3 B3
 by_cases h2:e2=0
 case neg =>
  have t3:(e2 == 0)=false:=by simpa using h2
  have FT:Hid (jV S m=T):=by show _=_;rw[hT.o,ac h2]
  clear h2;go_upto_region 4 with fail;rw[<-gb];clear gb;go_wp2_with fail;go_end0;refine⟨⟨_,rfl⟩,?_⟩;rw[FT.o];exact⟨g3,ZU.o,Wv.o,Wh.o⟩
 case pos =>
  have t3:(e2 == 0)=true:=by simpa using h2
  have FT:Hid (jV S m=dB T N m.b m.n):=by show _=_;rw[hT.o,af h2]
  have KM0:=fun u (hu:Ext W4 u)=>gZ.mK (gZ.ext ZU.o hu) k1 (by omega) N m.b m.n
  have FR:=Wh.o.1;simp only[FR]at KM0;have KM:=zH KM0;clear KM0 FR;clear h2;go_upto_region 4 with fail;rw[<-gb];clear gb x2 xz f2;have x2:=aA ZV.o 2 rfl;have xz:=ZV.o.lt;have d1:=aA Wx.o 1 rfl;have d2:=aA Wx.o 2 rfl;have dz:=Wx.o.lt;go_wp2_with fail;refine (KM.o _ (Ext.refl _)).mono ?_;rintro e w5 ⟨⟨v5,rfl⟩,T5⟩;go_wp2_with fail;go_end0;refine⟨⟨_,rfl⟩,?_⟩;rw[FT.o];exact qW.trans Wh.o Wv.o T5
theorem gZ.Bt {α:Type} {R:je α} {base:Nat} {v:Value} {l:List α} (h:gZ w B f S) (k:en R w base v l) (h1:R.t≠78) (h2:R.t≠66) (h3:R.t≠191):∀x,v.ownBlock=some x->x∉f.list:=by
 intro x hx;rcases k.cases with⟨rfl,_⟩|⟨g',cap,cur,rfl,_,h5,_⟩
 ·cases hx
 ·injection hx with hx
  subst hx;exact gZ.off h h5 h1 h2 h3
theorem yT {f':cI} {w0:World} (h:∀x∈f.list,w0.heap.size<=x) (on:cI.on f' f w) (hs:w0.heap.size<=w.heap.size):∀x∈f'.list,w0.heap.size<=x:=by
 intro x hx;rcases on.2 x hx with e|e
 ·exact h x e
 ·omega
theorem Vo (B:Nat) (b n:Int) (w:World) (hB:B<=w.heap.size) (hl:dg b n=true):Calls prog 72 #[b,n] w (fun e w'=>∃g:cI,e=.returned (.pointer (some ⟨g.bF,0,none⟩))/\gv w' B g (cZ dF 0 b n) x0/\(∀x∈g.list,w.heap.size<=x)/\Ext w w'):=by
 go_in;go_wp2_with fail;refine (ou b n _).mono ?_;rw[hl];rintro e w1 ⟨rfl,b1⟩;have hz:=b1.size;simp only[bi]at hz;go_wp2_with fail;refine (zX B w.heap.size (.slice none 0 0) (.slice none 0 0) dF x0 0 b n w1 hB ((Has.new w _).ext b1) ⟨[],oG _ _ _ _,rfl,fun k hk=>by simp[dF]at hk⟩ (oG _ _ _ _) ⟨none,0,rfl⟩ ⟨none,0,rfl⟩ (by decide) (by decide) (aQ.nil 0) (by decide) (by decide)).mono ?_;rintro e w2 ⟨rfl,bN,bE,F2,O2,h2,h3⟩;go_wp2;go_ret;refine⟨⟨_,bN,bE⟩,rfl,F2,fun x hx=>?_,O2.after (((Ext.refl _).alloc _).trans b1) ?_⟩
 ·simp only[Value.ownBlock,reduceCtorEq,false_or]at h2 h3
  simp only[cI.list,aR,bg,bh]at hx;rcases hx with e|e|e
  ·have e':x=w.heap.size:=e
   omega
  ·have e':x=bN:=e
   omega
  ·have e':x=bE:=e
   omega
 ·intro x hx
  simp[Value.ownBlock]at hx;omega
theorem LI (B:Nat) (Am:Option Addr) (ms:List gi) (cm:Nat) (Ai:Option Addr) (is:List fk) (ci:Nat) (w:World) (hBw:B<=w.heap.size) (hM:fY Bo w Am ms) (hI:fY yA w Ai is) (h1:ms.length<=10) (h2:is.length<=30)
  (h3:∀m∈ms,m.path.length<=1000000) (h4:∀it∈is,it.path.length<=1000000/\it.data.length<=1000000) :
  Calls prog 37 #[.agg #[.slice Am ms.length cm,.slice Ai is.length ci]] w (fun e w'=>∃(f:cI),e=.returned (.pointer (some ⟨f.bF,0,none⟩))/\RS w' B f ⟨jf ms is,0,0,[],false⟩/\Ext w w'):=by
 obtain⟨nm,ie⟩:=ai ms.length;obtain⟨ni,yS⟩:=ai is.length;obtain⟨W1,cA⟩:=ai (w.alloc (.cells #[.slice Am nm cm,.slice Ai ni ci] 25));obtain⟨b1,j_⟩:=ai w.heap.size;have E1:Ext w W1:=by rw[cA];exact (Ext.refl _).alloc _
 have B1:Has W1 b1 (.cells #[.slice Am nm cm,.slice Ai ni ci] 25):=by rw[cA,j_];exact Has.new _ _
 have KL:Hid (Calls prog 71 #[.agg #[.slice Am nm cm,.slice Ai ni ci]] W1 (aO W1 (.tuple #[.int .i64 (fZ ms).1,.int .i64 (fZ ms).2]))):=by
  show Calls _ _ _ _ _;rw[ie];exact Ly Am ms cm Ai ni ci W1 (hM.ext E1) (by omega)
 rw[<-ie]at h1|-;rw[<-yS]at h2|-;have Yv:=zH ie;have Qr:=zH yS;have HM:=zH (hM.ext E1);have HI:=zH (hI.ext E1);have nZ:=zH B1;have c0:=aA B1 0 rfl;have c1:=aA B1 1 rfl;have cz:=B1.lt;clear ie yS hM hI B1;go_in;go_upto_region 1 with fail;rw[<-cA,<-j_];clear cA j_;go_wp2_with fail;refine KL.o.mono ?_;rintro e w2 ⟨rfl,E2⟩;clear KL c0 c1 cz;go_wp2_with fail;refine (Vo B (fZ ms).1 (fZ ms).2 w2 (by have:=E1.size;have:=E2.size;omega) (mh ms)).mono ?_;rintro e w3 ⟨f0,rfl,K3,Ro,E3⟩;have P3:gZ w3 B f0 (fG (jo ms) (ms.take 0)):=⟨none,0,K3,.inl rfl⟩;have E13:Ext W1 w3:=E2.trans E3;have Rk:∀x∈f0.list,W1.heap.size<=x:=fun x hx=>by have:=Ro x hx;have:=E2.size;omega
 obtain⟨bF,FR⟩:=ai f0.bF;rw[<-FR];have Yu:=zH P3;have ZQ:=zH Rk;have HBF:=zH FR;have hBW:B<=W1.heap.size:=by have:=E1.size;omega
 clear K3 P3 E2 E3 Ro Rk FR;go_wp2_with fail;go_loopw [6] (fun vi wr=>∃(k:Nat) (f:cI),vi=.int .i64 k/\k<=nm/\f.bF=bF/\(∀x∈f.list,W1.heap.size<=x)/\gZ wr B f (fG (jo ms) (ms.take k))/\Ext W1 wr) (fun vi _=>nm-(intOf vi).toNat)
 case atStart=>exact⟨0,f0,rfl,bC _,HBF.o.symm,ZQ.o,Yu.o,E13⟩
 case round =>
  clear Yu ZQ HBF;obtain⟨k,f,rfl,hk,rfl,hF,hP,hE⟩:=hrel;have HF:=zH hF;have B3:=nZ.o.ext hE;have c0:=aA B3 0 rfl;have c1:=aA B3 1 rfl;have cz:=B3.lt;clear B3 hF;have k0:(0:Int)<=(k:Int):=cO _;have HP:=zH hP;have HE:=zH hE
  by_cases hlt:(k:Int)<nm
  case pos =>
   have dN:k<ms.length:=by have:=Yv.o;omega
   obtain⟨ba,o,rfl,yx,q0,q1,q2⟩:=(HM.o.ext hE).UV dN;have BS:IntKind.i64.wrap ((k:Int)+1)=(k:Int)+1:=cB _ (by omega);have hst:=Br (jo ms) ms dN;have hpl:=h3 ms[k] (jh dN);have xA:ik (2*k) (fG (jo ms) (ms.take k)):=(((ik.first (mh ms)).Ip (ms.take k))).mono (by rw[iG];omega);obtain⟨m,hm⟩:=ai (ms[k]);rw[<-hm]at q0 q1 q2 hst hpl;have tp:=vL m.path;have KM:=zH (Vn HP.o xA (by omega) m hpl);have qQ:=zH hst;clear hP hE hm hst hpl xA;obtain⟨P,Fy⟩:=ai (bs m.path);rw[<-Fy]at q0 tp KM;clear Fy;have tt:qV m=(m.path == [47]):=rfl;rw[<-tt]at tp;clear tt
   cases ht:qV m with
   | true =>
    rw[ht]at tp;have Bp:Hid (fG (jo ms) (ms.take (k+1))=fG (jo ms) (ms.take k)):=by show _=_;rw[qQ.o,af ht]
    clear ht;go_wp2_with fail;go_roundw
    case rel=>exact⟨k+1,f,by go_num,by omega,rfl,HF.o,by rw[Bp.o];exact HP.o,HE.o⟩
    case measure=>simp[intOf];omega
   | false =>
    rw[ht]at tp;have Bp:Hid (fG (jo ms) (ms.take (k+1))=jV (fG (jo ms) (ms.take k)) m):=by show _=_;rw[qQ.o,ac (by rw[ht];decide)]
    clear ht;go_wp2_with fail;refine KM.o.mono ?_;rintro e w5 ⟨⟨v5,rfl⟩,T5⟩;obtain⟨f5,P5,o5,on5⟩:=T5;change gZ w5 B f5 _ at P5;have E5:Ext W1 w5:=o5.after HE.o HF.o;have HP5:=zH P5;have HF5:Hid (∀x∈f5.list,W1.heap.size<=x):=by
     show ∀_∈_,_;intro x hx;rcases on5.2 x hx with e|e
     ·exact HF.o x e
     ·have:=HE.o.size;omega
    have HB5:=zH on5.1;clear P5 KM o5 on5;go_wp2_with fail;go_roundw
    case rel=>exact⟨k+1,f5,by go_num,by omega,HB5.o,HF5.o,by rw[Bp.o];exact HP5.o,E5⟩
    case measure=>simp[intOf];omega
  case neg =>
   have q7:ms.take k=ms:=lw (by have:=Yv.o;omega);have Lz:=HP.o;rw[q7]at Lz;have LA:ik 20 (fG (jo ms) ms):=((ik.first (mh ms)).Ip ms).mono (by have:=Yv.o;omega);obtain⟨S1,Kc⟩:=ai (fG (jo ms) ms);rw[<-Kc]at Lz LA;have U7:Hid (jf ms is=fA (eS (S1,[]) is).1 ((eS (S1,[]) is).2.zip is)):=by show _=_;rw[Kc];rfl
   have FU:=zH Lz;have U8:=zH LA;have U9:B<=wr.heap.size:=by have h7:=HE.o.size;omega
   obtain⟨N0,Tx⟩:=ai wr.heap.size;have U_:N0<=wr.heap.size:=by omega
   have ae3:W1.heap.size<=N0:=by have:=HE.o.size;omega
   rw[<-Tx]at U9;clear hP hE Lz LA q7 Kc Tx;go_wp2_with fail;clear c0 c1 cz hlt hk k0;go_loopw [7,8] (fun vm vi wr=>∃(k:Nat) (f':cI),vi=.int .i64 k/\k<=ni/\f'.bF=f.bF/\(∀x∈f'.list,W1.heap.size<=x)/\gZ wr B f' (eS (S1,[]) (is.take k)).1/\en lP wr N0 vm (eS (S1,[]) (is.take k)).2/\N0<=wr.heap.size/\Ext W1 wr) (fun _ vi _=>ni-(intOf vi).toNat)
   case atStart=>exact⟨0,f,rfl,bC _,rfl,HF.o,FU.o,en.nil _ _ _,U_,HE.o⟩
   case round =>
    clear FU HE U_;obtain⟨k,f2,rfl,hk,hbf,hF,hP,hO,hNl,hE⟩:=hrel;have Yx:=zH hbf;have SD:=zH hF;clear hbf;have B3:=nZ.o.ext hE;have c0:=aA B3 0 rfl;have c1:=aA B3 1 rfl;have cz:=B3.lt;clear B3 hF;have k0:(0:Int)<=(k:Int):=cO _
    by_cases hlt:(k:Int)<ni
    case pos =>
     have dN:k<is.length:=by have:=Qr.o;omega
     obtain⟨ba,o,rfl,yx,q0,q1,q2,q3,q4,q5,q6⟩:=(HI.o.ext hE).Ql dN;have BS:IntKind.i64.wrap ((k:Int)+1)=(k:Int)+1:=cB _ (by omega);have hst:=yg (S1,[]) is dN;have hil:=h4 is[k] (jh dN);have iY:=ik.items (is.take k) (S1,[]) U8.o;have sO:(is.take k).length=k:=by rw[iG];omega
     rw[sO]at iY;obtain⟨it,hit⟩:=ai (is[k]);rw[<-hit]at q0 q1 q2 q3 q4 q5 q6 hst hil;obtain⟨p,uf⟩:=ai (eS (S1,[]) (is.take k));rw[<-uf]at hst hP hO iY;have Va:=iY.2;simp only[gj,eY]at Va;have Vb:=zH iY.1;obtain⟨W8,uG⟩:=ai (wr.alloc (.cells #[bs it.path,it.kind,it.mode,it.uid,it.gid,it.mtime,bs it.data] 72));obtain⟨b9,Fu⟩:=ai wr.heap.size;have E8:Ext wr W8:=by rw[uG];exact (Ext.refl _).alloc _
     have B8:Has W8 b9 (.cells #[bs it.path,it.kind,it.mode,it.uid,it.gid,it.mtime,bs it.data] 72):=by rw[uG,Fu];exact Has.new _ _
     have P8:=gZ.ext hP E8;have O8:=hO.ext E8;have abp:=gZ.lt hP;have Yp:wr.heap.size<=b9:=by omega
     have KN0:=Vm P8 iY.1 (by omega) it hil.1 hil.2;rw[Yx.o]at KN0;have KN:=zH KN0;clear KN0;obtain⟨T,hT⟩:=ai (lv p.1 it);obtain⟨no,bB⟩:=ai (kv p.1 it);rw[<-hT,<-bB]at KN;have Ch:eS (S1,[]) (is.take (k+1))=(iO T no it,p.2++[no]):=by rw[hst,hT,bB];rfl
     have Vc:ik (20+3*k+1) T:=by rw[hT];exact iY.1.Ql it
     have qQ:=zH Ch;have HPT:=zH Vc;have Qs:=zH P8;have Lw:=zH O8;have Iw:=zH B8;have Qj:=zH (hE.trans E8);have r0:=aA B8 0 rfl;have r1:=aA B8 1 rfl;have r2:=aA B8 2 rfl;have r3:=aA B8 3 rfl;have r4:=aA B8 4 rfl;have r5:=aA B8 5 rfl;have r6:=aA B8 6 rfl;have rz:=B8.lt;clear hst hil iY uf hP hO hE hit hT bB Ch Vc P8 O8 B8 sO;go_upto_region 13 with fail;rw[<-uG,<-Fu];clear uG Fu q0 q1 q2 q3 q4 q5 q6 yx;go_wp2_with fail;refine KN.o.mono ?_;rintro e w9 ⟨rfl,T9⟩;have B9:=qW.has T9 Iw.o (fun hm=>by have:=abp _ hm;omega);have hoff:=gZ.Bt Qs.o Lw.o (by decide) (by decide) (by decide);obtain⟨f9,P9,o9,on9⟩:=T9;change gZ w9 B f9 T at P9;have E9:Ext W1 w9:=o9.after Qj.o SD.o;have HF9:=zH (yT SD.o on9 Qj.o.size);have HB9:=zH (on9.1.trans Yx.o);have O9:=Lw.o.only o9 hoff;have Vd:N0<=w9.heap.size:=by have:=o9.size;have:=E8.size;omega
     obtain⟨v10,tg,Ve,Vf,LB,_⟩:=DB lP w9 O9 Vd no (by omega);have E10:Ext W1 tg:=(E9.alloc _).grown LB (fun g hv=>by have:=(O9.lt hv).1;omega);have Yw:Only u7.ownBlock.toList w9 tg:=(Only.lh _ _ _).then (Only.of_grownBy LB (fun g hv=>cR.2 hv));have ZS:=gZ.only P9 Yw (O9.dJ U9 (by decide) (by decide)) (fun x hx hm=>gZ.Bt P9 O9 (by decide) (by decide) (by decide) x (cR.1 hm) hx);have ZR:=Yw.has B9 (O9.Bu B9 (by decide));have Vg:N0<=tg.heap.size:=by have:=Yw.size;omega
     have Im:=zH Ve;have Bw:=zH ZS;have EL:=zH Vf;have vE:=zH ZR;have Qt:=zH E10;clear E9 B9 hoff P9 o9 on9 O9 Ve Vf LB E10 Yw ZS ZR KN r0 r1 r2 r3 r4 r5 r6 rz Vd
     by_cases kR:no=0
     case pos =>
      have t1:(no != 0)=false:=by simpa using kR
      have hD:Hid (iO T no it=T):=by show _=_;unfold iO;rw[ac (fun q=>q kR)]
      clear kR;go_wp2_with (at_builtin;refine nj _ rfl _ _ 124 124 rfl _ _ rfl rfl _ _ Im.o ?_);go_roundw
      case rel=>exact⟨k+1,f9,by go_num,by omega,HB9.o,HF9.o,by rw[qQ.o,hD.o];exact Bw.o,by rw[qQ.o];exact EL.o,Vg,Qt.o⟩
      case measure=>simp[intOf];omega
     case neg =>
      have t1:(no != 0)=true:=by simpa using kR
      have hD:Hid (iO T no it=di (di T 0 0 0 (.fF no it.uid it.gid)) 0 0 0 (.ee no it.mode)):=by show _=_;unfold iO;rw[af kR];rfl
      have Qu:=gZ.fF Bw.o HPT.o (by omega) no it.uid it.gid;rw[HB9.o]at Qu;have KC:=zH Qu;clear Qu;have LC:ik (20+3*k+1+1) (di T 0 0 0 (.fF no it.uid it.gid)):=HPT.o.qT 0 0 0 _ (fun _ _ _ _ e=>by cases e);obtain⟨U,hU⟩:=ai (di T 0 0 0 (.fF no it.uid it.gid));obtain⟨ec,hec⟩:=ai (gL T 0 0 0 (.fF no it.uid it.gid));rw[<-hU,<-hec]at KC;rw[<-hU]at hD LC;have HPU:=zH LC;clear kR hU hec LC;have r3:=aA vE.o 3 rfl;have r4:=aA vE.o 4 rfl;have rz:=vE.o.lt;go_wp2_with (at_builtin;refine nj _ rfl _ _ 124 124 rfl _ _ rfl rfl _ _ Im.o ?_);refine KC.o.mono ?_;rintro e Rg ⟨rfl,Vh⟩;have B11:=qW.has Vh vE.o (gZ.off Bw.o vE.o (by decide) (by decide) (by decide));have hoff:=gZ.Bt Bw.o EL.o (by decide) (by decide) (by decide);obtain⟨f11,LG,LH,Bz⟩:=Vh;change gZ Rg B f11 U at LG;have Dt:Ext W1 Rg:=LH.after Qt.o HF9.o;have Yy:=zH (yT HF9.o Bz Qt.o.size);have Yz:=zH (Bz.1.trans HB9.o);have Vi:=EL.o.only LH hoff;have ac4:N0<=Rg.heap.size:=by have:=LH.size;omega
      have KM0:=gZ.ee LG HPU.o (by omega) no it.mode;rw[Yz.o]at KM0;have KM:=zH KM0;clear KM0;obtain⟨V,hV⟩:=ai (di U 0 0 0 (.ee no it.mode));obtain⟨ed,hed⟩:=ai (gL U 0 0 0 (.ee no it.mode));rw[<-hV,<-hed]at KM;rw[<-hV]at hD;have Iy:=zH LG;have Fz:=zH Vi;have Iz:=zH Dt;clear r3 r4 rz KC hV hed Bz LH hoff LG Vi Dt;have r2:=aA B11 2 rfl;have rz:=B11.lt;clear B11;go_wp2_with fail;refine KM.o.mono ?_;rintro e w12 ⟨rfl,T12⟩;have hoff:=gZ.Bt Iy.o Fz.o (by decide) (by decide) (by decide);obtain⟨f12,P12,ZX,Vj⟩:=T12;change gZ w12 B f12 V at P12;have Pa:Ext W1 w12:=ZX.after Iz.o Yy.o;have ae4:=zH (yT Yy.o Vj Iz.o.size);have ae5:=zH (Vj.1.trans Yz.o);have O12:=Fz.o.only ZX hoff;have Vk:N0<=w12.heap.size:=by have:=ZX.size;omega
      have abq:=zH P12;have abr:=zH O12;have abt:=zH Pa;clear r2 rz KM Vj ZX hoff P12 O12 Pa;go_wp2_with fail;go_roundw
      case rel=>exact⟨k+1,f12,by go_num,by omega,ae5.o,ae4.o,by rw[qQ.o,hD.o];exact abq.o,by rw[qQ.o];exact abr.o,Vk,abt.o⟩
      case measure=>simp[intOf];omega
    case neg =>
     have q7:is.take k=is:=lw (by have:=Qr.o;omega);rw[q7]at hP hO;have iY:=ik.items is (S1,[]) U8.o;have yS:=Qr.o;obtain⟨p,uf⟩:=ai (eS (S1,[]) is);rw[<-uf]at hP hO iY;have Pu:Hid (jf ms is=fA p.1 (p.2.zip is)):=by show _=_;rw[U7.o,uf]
     have Va:p.2.length=ni:=by have:=iY.2;simp only[gj,eY]at this;omega
     have HOL:=zH Va;have hzl:Hid ((p.2.zip is).length=ni):=by show _=_;rw[JI];omega
     have abu:=zH (iY.1.mono (show 20+3*is.length<=110 by omega));have HP:=zH hP;obtain⟨Am,cm',hvm,_,_,Vl,_⟩:=hO.at_;rw[Va]at hvm;have HO:=zH hO;have HE:=zH hE;have abv:=zH Vl;subst hvm;clear hP hO hE q7 iY yS uf Va Vl;go_wp2_with fail;clear c0 c1 cz hlt hk k0;go_loopw [11] (fun vi wr=>∃(k:Nat) (f':cI),vi=.int .i64 k/\k<=ni/\f'.bF=f.bF/\(∀x∈f'.list,W1.heap.size<=x)/\gZ wr B f' (fA p.1 ((p.2.zip is).take k))/\en lP wr N0 (.slice Am ni cm') p.2/\Ext W1 wr) (fun vi _=>ni-(intOf vi).toNat)
     case atStart=>exact⟨0,f2,rfl,bC _,Yx.o,SD.o,HP.o,HO.o,HE.o⟩
     case round =>
      clear HP HO HE hNl abv Yx SD;obtain⟨k,f3,rfl,hk,hbf,hF,hP,hO,hE⟩:=hrel;have YA:=zH hbf;have HF3:=zH hF;clear hbf;have B3:=nZ.o.ext hE;have c0:=aA B3 0 rfl;have c1:=aA B3 1 rfl;have cz:=B3.lt;clear B3 hF;have k0:(0:Int)<=(k:Int):=cO _
      by_cases hlt:(k:Int)<ni
      case pos =>
       have dN:k<is.length:=by have:=Qr.o;omega
       have Ry:k<p.2.length:=by have:=HOL.o;omega
       have hkz:k<(p.2.zip is).length:=by have:=hzl.o;omega
       obtain ⟨ba,o,rfl,yx,q0,q1,q2,q3,q4,q5,q6⟩:=(HI.o.ext hE).Ql dN;obtain⟨gm,hgm,abw,qm⟩:∃gm,Am=some ⟨gm,0,none⟩/\gm<wr.heap.size/\wr.cell? ⟨gm,k,none⟩=some (.int .i64 p.2[k]):=by
        rcases hO.cases with⟨_,h2⟩|⟨gm,cap,cur,h2,_,h3,_,_,h4⟩
        ·rw[h2]at Ry;cases Ry
        ·injection h2 with h2
         have:=h4 k Ry 0 (by decide);exact⟨gm,h2,h3.lt,by simpa [lP]using this⟩
       subst hgm;have BS:IntKind.i64.wrap ((k:Int)+1)=(k:Int)+1:=cB _ (by omega);have hst:=yh p.1 (p.2.zip is) hkz;rw[List.getElem_zip]at hst;have xA:ik (110+k) (fA p.1 ((p.2.zip is).take k)):=(ik.times ((p.2.zip is).take k) abu.o).mono (by rw[iG];omega);obtain⟨it,hit⟩:=ai (is[k]);obtain⟨no,bB⟩:=ai (p.2[k]);rw[<-hit]at q0 q1 q2 q3 q4 q5 q6 hst;rw[<-bB]at qm hst;obtain⟨S3,Qo⟩:=ai (fA p.1 ((p.2.zip is).take k));rw[<-Qo]at hst xA hP;have qQ:=zH hst;have Qs:=zH hP;have Lw:=zH hO;have Qj:=zH hE;have Vb:=zH xA;obtain⟨W8,uG⟩:=ai wr;clear hst hP hO hE hit bB Qo xA Ry hkz
       by_cases kR:no=0
       case pos =>
        have t1:(no != 0)=false:=by simpa using kR
        have hD:Hid (fA p.1 ((p.2.zip is).take (k+1))=S3):=by show _=_;rw[qQ.o];unfold qL;rw[ac (fun q=>q kR)]
        clear kR;go_wp2_with fail;go_roundw
        case rel=>exact⟨k+1,f3,by go_num,by omega,YA.o,HF3.o,by rw[hD.o];exact Qs.o,Lw.o,Qj.o⟩
        case measure=>simp[intOf];omega
       case neg =>
        have t1:(no != 0)=true:=by simpa using kR
        have hD:Hid (fA p.1 ((p.2.zip is).take (k+1))=di S3 0 0 0 (.iD no it.mtime)):=by show _=_;rw[qQ.o];unfold qL;rw[af kR];rfl
        have hDr:=(Ext.refl wr).drew;have Qu:=gZ.iD (gZ.ext Qs.o hDr) Vb.o (by omega) no it.mtime;rw[YA.o]at Qu;have KC:=zH Qu;have Jg:=zH hDr;clear kR hDr Qu uG;go_upto_region 22 with fail;go_still_tail 12,(by kernel_rfl);change wpList _ _ _ _ _ wr.drew;go_wp2_with fail;refine KC.o.mono ?_;rintro e Rg ⟨rfl,Vh⟩;have hoff:=gZ.Bt (gZ.ext Qs.o Jg.o) (Lw.o.ext Jg.o) (by decide) (by decide) (by decide);obtain⟨f11,LG,LH,Bz⟩:=Vh;change gZ Rg B f11 _ at LG;have Dt:Ext W1 Rg:=LH.after (Qj.o.trans Jg.o) HF3.o;have Yy:=zH (yT HF3.o Bz (Qj.o.trans Jg.o).size);have Yz:=zH (Bz.1.trans YA.o);have Vi:=(Lw.o.ext Jg.o).only LH hoff;have Iy:=zH LG;have Fz:=zH Vi;have Iz:=zH Dt;clear KC Bz LH hoff LG Vi Dt;go_wp2_with fail;go_roundw
        case rel=>exact⟨k+1,f11,by go_num,by omega,Yz.o,Yy.o,by rw[hD.o];exact Iy.o,Fz.o,Iz.o⟩
        case measure=>simp[intOf];omega
      case neg =>
       have q7:(p.2.zip is).take k=p.2.zip is:=lw (by have:=hzl.o;omega);rw[q7,<-Pu.o]at hP;have HP:=zH hP;have HE:=zH hE;clear q7 hP hE hO;go_wp2;go_ret;exact⟨f3,by rw[YA.o];rfl,HP.o,E1.trans HE.o⟩
end Go.Proofs.YtpibnfdolojpcaaGreat
