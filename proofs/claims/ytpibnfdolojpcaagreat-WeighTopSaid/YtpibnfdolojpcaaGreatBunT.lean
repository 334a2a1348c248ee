import Derived.Test.YtpibnfdolojpcaaGreatBunS
import Derived.Test.YtpibnfdolojpcaaGreatBunE
set_option maxHeartbeats 16000000
set_option maxRecDepth 100000
namespace Go.Proofs.YtpibnfdolojpcaaGreat
open Go.ChangeShapes Go.WideShapes Go.ChangeAt Go.RowKit
theorem rnod_any {w:World} {B:Nat} {f:GhF} {c:Nat} {S:TreeD} (h:RIn w B f S) (k:Plt c S) (hc:c≤890) (it:ItmD) (hp:it.path.length≤1000000) (hd:it.data.length≤1000000) :
  Calls Tryz.prog 74 #[.pointer (some ⟨f.bF,0,none⟩),.agg #[.string (bs it.path),.int .i64 it.kind,.int .i64 it.mode,.int .i64 it.uid,.int .i64 it.gid,.int .i64 it.mtime,.string (bs it.data)]] w (fun e w'=>e=.returned (.int .i64 (itmN S it))∧RTp w B f (itmT S it) w'):=by
 obtain ⟨W1,hW1⟩:∃W,W=w.alloc (.cells #[.string (bs it.path),.int .i64 it.kind,.int .i64 it.mode,.int .i64 it.uid,.int .i64 it.gid,.int .i64 it.mtime,.string (bs it.data)] 72):=⟨_,rfl⟩;obtain ⟨b3,hb3⟩:∃b,b=w.heap.size:=⟨_,rfl⟩;have E1:Ext w W1:=by rw[hW1];exact (Ext.refl _).alloc _
 have B1:Has W1 b3 (.cells #[.string (bs it.path),.int .i64 it.kind,.int .i64 it.mode,.int .i64 it.uid,.int .i64 it.gid,.int .i64 it.mtime,.string (bs it.data)] 72):=by rw[hW1,hb3];exact Has.new _ _
 have KF:=zH (RIn.find (RIn.ext h E1) k (by omega) it.path false hp);obtain ⟨r,hr⟩:∃r,r=itmP S it:=⟨_,rfl⟩;rw [show pathF S 0 0 it.path false=r from hr.symm]at KF;have KF2:Hid (Calls Tryz.prog 40 #[.pointer (some ⟨f.bF,0,none⟩),.agg #[.int .i64 0,.int .i64 0],.string (bs it.path),.bool false] W1 (Ret W1 (.tuple #[.agg #[.int .i64 r.1.dir,.string (bs r.1.name),.int .i64 r.1.no,.bool r.1.slash],.int .i64 r.2]))):=KF.out;have HR:=zH hr;have c0:=B1.cell 0;have cz:=B1.lt;simp only[gA,gB]at c0;have HB1:=zH B1;have H1:=zH (RIn.ext h E1);have H0:=zH h;clear h KF hr B1;go_enter Tryz.func74,Tryz.ntmps74;go_upto_region 1 with fail;rw [←hW1,←hb3];clear hW1 hb3;go_wp2_with fail;refine KF2.out.mono ?_;rintro e w1 ⟨rfl,b1⟩;clear KF2 c0 cz;go_upto_region 2 with fail;obtain ⟨W2,hW2⟩:∃W,W=w1.alloc (.cells #[.int .i64 r.1.dir,.string (bs r.1.name),.int .i64 r.1.no,.bool r.1.slash] 82):=⟨_,rfl⟩;obtain ⟨b4,hb4⟩:∃b,b=w1.heap.size:=⟨_,rfl⟩;have E2:Ext W1 W2:=by rw[hW2];exact b1.alloc _
 have X2:Has W2 b4 (.cells #[.int .i64 r.1.dir,.string (bs r.1.name),.int .i64 r.1.no,.bool r.1.slash] 82):=by rw[hW2,hb4];exact Has.new _ _
 rw [←hW2,←hb4];clear hW2 hb4 b1;have B2:=HB1.out.ext E2;have P3:=RIn.ext H1.out E2;have E03:=E1.trans E2;have HX2:=zH X2;have x0:=X2.cell 0;have x1:=X2.cell 1;have x2:=X2.cell 2;have xz:=X2.lt;have d1:=B2.cell 1;have d6:=B2.cell 6;have dz:=B2.lt;simp only[gA,gB,gC]at x0 x1 x2 d1 d6;clear X2 B2
 by_cases he:r.2=0
 case neg =>
  have t1:(r.2 != 0)=true:=by simpa using he
  have hT:Hid (itmT S it=S∧itmN S it=0):=itm_err (by rw[←HR.out];exact he);clear he P3;go_wp2_with fail;go_ret;exact ⟨by rw[hT.out.2];rfl,by rw[hT.out.1];exact RTp.refl H0.out E03⟩
 have t1:(r.2 != 0)=false:=by simpa using he
 have HE:=zH he
 by_cases hno:r.1.no=0
 case neg =>
  have t2:(r.1.no != 0)=true:=by simpa using hno
  obtain ⟨m1,hm1⟩:∃m,m=getN S.nodes r.1.no:=⟨_,rfl⟩;have hT:Hid (itmT S it=S∧itmN S it=if it.kind=1∧m1.kind=1 then r.1.no else 0):=by show _∧_;rw[hm1,HR.out];exact itm_there (by rw[←HR.out];exact HE.out) (by rw[←HR.out];exact hno)
  have KG:=zH (RIn.get P3 k (by omega) r.1.no);have HM1:=zH hm1;clear he hno P3 hm1
  by_cases hk1:it.kind=1
  case neg =>
   have t3:(it.kind == 1)=false:=by simpa using hk1
   have hT2:Hid (itmN S it=0):=by show _=_;rw[hT.out.2,if_neg (fun q=>hk1 q.1)]
   clear hk1;go_wp2_with fail;go_ret;exact ⟨by rw[hT2.out];rfl,by rw[hT.out.1];exact RTp.refl H0.out E03⟩
  have t3:(it.kind == 1)=true:=by simpa using hk1
  go_wp2_with fail;refine KG.out.mono ?_;rintro e w4 ⟨A4,c4,rfl,ok4,E4⟩;clear KG;rw [←HM1.out]at ok4⊢;have hfld:∀w',(Instr.field 66 (.agg #[.int .i64 m1.no,.int .i64 m1.dev,.int .i64 m1.kind,.int .i64 m1.mode,.int .i64 m1.uid,.int .i64 m1.gid,.int .i64 m1.mtime,.int .i64 m1.ctime,.int .i64 m1.links,.int .i64 m1.up,.string (bs m1.data),.slice A4 m1.ents.length c4]) 2).run Tryz.prog w'=.ok (.int .i64 m1.kind) w':=fun w'=>(field_node _ _ _ _ _ _ _ _ _ _ _ _ w').2
  have x2':=(E4.cell xz).trans x2;have xz':b4<w4.heap.size:=by have:=E4.size;omega
  clear x0 x1 x2 xz d1 d6 dz
  by_cases hk2:m1.kind=1
  ·have t4:(m1.kind == 1)=true:=by simpa using hk2
   have hT2:Hid (itmN S it=r.1.no):=by show _=_;rw[hT.out.2,if_pos ⟨hk1,hk2⟩]
   clear hk1 hk2;go_wp2_with fail;go_ret;exact ⟨by rw[hT2.out];rfl,by rw[hT.out.1];exact RTp.refl H0.out (E03.trans E4)⟩
  ·have t4:(m1.kind == 1)=false:=by simpa using hk2
   have hT2:Hid (itmN S it=0):=by show _=_;rw[hT.out.2,if_neg (fun q=>hk2 q.2)]
   clear hk1 hk2;go_wp2_with fail;go_ret;exact ⟨by rw[hT2.out];rfl,by rw[hT.out.1];exact RTp.refl H0.out (E03.trans E4)⟩
 have t2:(r.1.no != 0)=false:=by simpa using hno
 have hC:Hid (itmC S it=if it.kind=1 then some (.mkdir r.1.dir r.1.name 493) else if it.kind=2 then some (.create r.1.dir r.1.name 420 it.data) else if it.kind=3 then some (.symlink r.1.dir r.1.name it.data)
   else if it.kind=4 then (if (itmL S it).2=0 then some (.link (itmL S it).1.no r.1.dir r.1.name) else none) else none):=by show _=_;rw[HR.out];exact itm_new (by rw[←HR.out];exact HE.out) (by rw[←HR.out];exact hno)
 have HN0:Hid ((itmP S it).1.no=0):=by show _=_;rw[←HR.out];exact hno
 clear he hno
 by_cases k1:it.kind=1
 ·have t3:(it.kind == 1)=true:=by simpa using k1
  obtain ⟨X,hX⟩:∃X:Chg,X=.mkdir r.1.dir r.1.name 493:=⟨_,rfl⟩;have hCX:itmC S it=some X:=by rw[hC.out,if_pos k1,hX]
  have KC:=zH (RIn.mkdir P3 k (by omega) r.1.dir r.1.name 493 (by rw[HR.out];have:=path_name S 0 0 it.path false;show (itmP S it).1.name.length≤_;unfold itmP;omega));rw [←hX,←itmT_some hCX,←itmN_some hCX]at KC;clear k1 hX hCX hC P3;go_wp2_with fail;refine KC.out.mono ?_;rintro e w5 ⟨rfl,T5⟩;go_wp2_with fail;go_ret;exact ⟨rfl,RTp.pre E03 T5⟩
 have t3:(it.kind == 1)=false:=by simpa using k1
 by_cases k2:it.kind=2
 ·have t4:(it.kind == 2)=true:=by simpa using k2
  obtain ⟨X,hX⟩:∃X:Chg,X=.create r.1.dir r.1.name 420 it.data:=⟨_,rfl⟩;have hCX:itmC S it=some X:=by rw[hC.out,if_neg k1,if_pos k2,hX]
  have KC:=zH (RIn.create P3 k (by omega) r.1.dir r.1.name 420 it.data (by rw[HR.out];have:=path_name S 0 0 it.path false;show (itmP S it).1.name.length≤_;unfold itmP;omega) (by omega));rw [←hX,←itmT_some hCX,←itmN_some hCX]at KC;clear k1 k2 hX hCX hC P3;go_wp2_with fail;refine KC.out.mono ?_;rintro e w5 ⟨rfl,T5⟩;go_wp2_with fail;go_ret;exact ⟨rfl,RTp.pre E03 T5⟩
 have t4:(it.kind == 2)=false:=by simpa using k2
 by_cases k3:it.kind=3
 ·have t5:(it.kind == 3)=true:=by simpa using k3
  obtain ⟨X,hX⟩:∃X:Chg,X=.symlink r.1.dir r.1.name it.data:=⟨_,rfl⟩;have hCX:itmC S it=some X:=by rw[hC.out,if_neg k1,if_neg k2,if_pos k3,hX]
  have KC:=zH (RIn.symlink P3 k (by omega) r.1.dir r.1.name it.data (by rw[HR.out];have:=path_name S 0 0 it.path false;show (itmP S it).1.name.length≤_;unfold itmP;omega) (by omega));rw [←hX,←itmT_some hCX,←itmN_some hCX]at KC;clear k1 k2 k3 hX hCX hC P3;go_wp2_with fail;refine KC.out.mono ?_;rintro e w5 ⟨rfl,T5⟩;go_wp2_with fail;go_ret;exact ⟨rfl,RTp.pre E03 T5⟩
 have t5:(it.kind == 3)=false:=by simpa using k3
 by_cases k4:it.kind=4
 case neg =>
  have t6:(it.kind == 4)=false:=by simpa using k4
  have hT:Hid (itmT S it=S∧itmN S it=0):=itm_new0 HN0.out (by rw[hC.out,if_neg k1,if_neg k2,if_neg k3,if_neg k4]);clear k1 k2 k3 k4 hC P3;go_wp2_with fail;go_ret;exact ⟨by rw[hT.out.2];rfl,by rw[hT.out.1];exact RTp.refl H0.out E03⟩
 have t6:(it.kind == 4)=true:=by simpa using k4
 obtain ⟨y,hy⟩:∃y,y=itmL S it:=⟨_,rfl⟩;have hC4:Hid (itmC S it=if y.2=0 then some (.link y.1.no r.1.dir r.1.name) else none):=by show _=_;rw[hC.out,if_neg k1,if_neg k2,if_neg k3,if_pos k4,hy]
 have KF:=zH (RIn.find P3 k (by omega) it.data false hd);rw [show pathF S 0 0 it.data false=y from hy.symm]at KF;have KF3:Hid (Calls Tryz.prog 40 #[.pointer (some ⟨f.bF,0,none⟩),.agg #[.int .i64 0,.int .i64 0],.string (bs it.data),.bool false] W2 (Ret W2 (.tuple #[.agg #[.int .i64 y.1.dir,.string (bs y.1.name),.int .i64 y.1.no,.bool y.1.slash],.int .i64 y.2]))):=KF.out;have HP3:=zH P3;have HX3:=HX2;clear k1 k2 k3 k4 hC hy KF P3;go_wp2_with fail;refine KF3.out.mono ?_;rintro e w4 ⟨rfl,b4'⟩;clear KF3 x0 x1 x2 xz d1 d6 dz;go_upto_region 18 with fail;obtain ⟨W4,hW4⟩:∃W,W=w4.alloc (.cells #[.int .i64 y.1.dir,.string (bs y.1.name),.int .i64 y.1.no,.bool y.1.slash] 82):=⟨_,rfl⟩;obtain ⟨b10,hb10⟩:∃b,b=w4.heap.size:=⟨_,rfl⟩;have E4:Ext W2 W4:=by rw[hW4];exact b4'.alloc _
 have Y4:Has W4 b10 (.cells #[.int .i64 y.1.dir,.string (bs y.1.name),.int .i64 y.1.no,.bool y.1.slash] 82):=by rw[hW4,hb10];exact Has.new _ _
 rw [←hW4,←hb10];clear hW4 hb10 b4';have X4:=HX3.out.ext E4;have P4:=RIn.ext HP3.out E4;have x0:=X4.cell 0;have x1:=X4.cell 1;have xz:=X4.lt;have y2:=Y4.cell 2;have yz:=Y4.lt;simp only[gA,gB,gC]at x0 x1 y2;clear X4 Y4
 by_cases k5:y.2=0
 ·have t7:(y.2 == 0)=true:=by simpa using k5
  obtain ⟨X,hX⟩:∃X:Chg,X=.link y.1.no r.1.dir r.1.name:=⟨_,rfl⟩;have hCX:itmC S it=some X:=by rw[hC4.out,if_pos k5,hX]
  have hN:Hid (itmN S it=0):=by show _=_;rw[itmN_some hCX,hX];rfl
  have KC:=zH (RIn.link P4 k (by omega) y.1.no r.1.dir r.1.name (by rw[HR.out];have:=path_name S 0 0 it.path false;show (itmP S it).1.name.length≤_;unfold itmP;omega));rw [←hX,←itmT_some hCX]at KC;clear k5 hX hCX hC4 P4;go_wp2_with fail;refine KC.out.mono ?_;rintro e w5 ⟨rfl,T5⟩;go_wp2_with fail;go_ret;exact ⟨by rw[hN.out];rfl,RTp.pre (E03.trans E4) T5⟩
 ·have t7:(y.2 == 0)=false:=by simpa using k5
  have hT:Hid (itmT S it=S∧itmN S it=0):=itm_new0 HN0.out (by rw[hC4.out,if_neg k5]);clear k5 hC4 P4;go_wp2_with fail;go_ret;exact ⟨by rw[hT.out.2];rfl,by rw[hT.out.1];exact RTp.refl H0.out (E03.trans E4)⟩
theorem rmnt_any {w:World} {B:Nat} {f:GhF} {c:Nat} {S:TreeD} (h:RIn w B f S) (k:Plt c S) (hc:c≤890) (m:MntD) (hp:m.path.length≤1000000) :
  Calls Tryz.prog 73 #[.pointer (some ⟨f.bF,0,none⟩),.agg #[.string (bs m.path),.int .i64 m.b,.int .i64 m.n]] w (fun e w'=>(∃v,e=.returned v)∧RTp w B f (mntT S m) w'):=by
 obtain ⟨W1,hW1⟩:∃W,W=w.alloc (.cells #[.string (bs m.path),.int .i64 m.b,.int .i64 m.n] 119):=⟨_,rfl⟩;obtain ⟨b3,hb3⟩:∃b,b=w.heap.size:=⟨_,rfl⟩;have E1:Ext w W1:=by rw[hW1];exact (Ext.refl _).alloc _
 have B1:Has W1 b3 (.cells #[.string (bs m.path),.int .i64 m.b,.int .i64 m.n] 119):=by rw[hW1,hb3];exact Has.new _ _
 have hlt:=RIn.lt h;have hb3w:w.heap.size≤b3:=by omega
 have KF:=zH (RIn.find (RIn.ext h E1) k (by omega) m.path false hp);obtain ⟨r,hr⟩:∃r,r=mntP S m:=⟨_,rfl⟩;rw [show pathF S 0 0 m.path false=r from hr.symm]at KF;have KF2:Hid (Calls Tryz.prog 40 #[.pointer (some ⟨f.bF,0,none⟩),.agg #[.int .i64 0,.int .i64 0],.string (bs m.path),.bool false] W1 (Ret W1 (.tuple #[.agg #[.int .i64 r.1.dir,.string (bs r.1.name),.int .i64 r.1.no,.bool r.1.slash],.int .i64 r.2]))):=KF.out;have HR:=zH hr;have c0:=B1.cell 0;have cz:=B1.lt;simp only[gA,gB]at c0;have HB1:=zH B1;have H1:=zH (RIn.ext h E1);have H0:=zH h;clear h KF hr B1;go_enter Tryz.func73,Tryz.ntmps73;go_upto_region 1 with fail;rw [←hW1,←hb3];clear hW1 hb3;go_wp2_with fail;refine KF2.out.mono ?_;rintro e w1 ⟨rfl,b1⟩;clear KF2 c0 cz;go_upto_region 2 with fail;obtain ⟨W2,hW2⟩:∃W,W=w1.alloc (.cells #[.int .i64 r.1.dir,.string (bs r.1.name),.int .i64 r.1.no,.bool r.1.slash] 82):=⟨_,rfl⟩;obtain ⟨b4,hb4⟩:∃b,b=w1.heap.size:=⟨_,rfl⟩;have E2:Ext W1 W2:=by rw[hW2];exact b1.alloc _
 have X2:Has W2 b4 (.cells #[.int .i64 r.1.dir,.string (bs r.1.name),.int .i64 r.1.no,.bool r.1.slash] 82):=by rw[hW2,hb4];exact Has.new _ _
 rw [←hW2,←hb4];have hb4w:W1.heap.size≤b4:=by have:=b1.size;omega
 clear hW2 hb4 b1;have P2:=RIn.ext H1.out E2;have B2:=HB1.out.ext E2;have hlt1:=RIn.lt H1.out;have HP2:=zH P2;have HX2:=zH X2;have HB2:=zH B2;have x0:=X2.cell 0;have x1:=X2.cell 1;have x2:=X2.cell 2;have xz:=X2.lt;simp only[gA,gB,gC]at x0 x1 x2
 by_cases he:r.2=0
 case neg =>
  have t1:(r.2 == 0)=false:=by simpa using he
  have hT:Hid (mntT S m=S):=mntT_err (by rw[←HR.out];exact he);clear he P2 X2 B2;go_wp2_with fail;go_end0;refine ⟨⟨_,rfl⟩,?_⟩;rw [hT.out];exact RTp.refl H0.out (E1.trans E2)
 have t1:(r.2 == 0)=true:=by simpa using he
 have HE:=zH he
 by_cases hno:r.1.no=0
 case neg =>
  have t2:(r.1.no == 0)=false:=by simpa using hno
  have hT:Hid (mntT S m=mountT S r.1.no m.b m.n):=by show _=_;rw[HR.out];exact mntT_there (by rw[←HR.out];exact HE.out) (by rw[←HR.out];exact hno)
  have d1:=B2.cell 1;have d2:=B2.cell 2;have dz:=B2.lt;simp only[gA,gB,gC]at d1 d2;have KM:=zH (fun u (hu:Ext W2 u)=>RIn.mount (RIn.ext P2 hu) k (by omega) r.1.no m.b m.n);clear he hno P2 X2 B2 x0 x1 xz;have x2:=HX2.out.cell 2;have xz:=HX2.out.lt;simp only[gA,gB,gC]at x2;go_wp2_with fail;refine (KM.out _ (Ext.refl _)).mono ?_;rintro e w3 ⟨⟨v3,rfl⟩,T3⟩;go_wp2_with fail;go_end0;refine ⟨⟨_,rfl⟩,?_⟩;rw [hT.out];exact RTp.pre (E1.trans E2) T3
 have t2:(r.1.no == 0)=true:=by simpa using hno
 obtain ⟨X,hX⟩:∃X:Chg,X=mntC S m:=⟨_,rfl⟩;have hX':X=.mkdir r.1.dir r.1.name 493:=by rw[hX,HR.out];rfl
 have hT:Hid (mntT S m=if chgE S 0 0 0 X=0 then mountT (chgT S 0 0 0 X) (chgN S 0 0 0 X) m.b m.n else chgT S 0 0 0 X):=by show _=_;rw[hX];exact mntT_new (by rw[←HR.out];exact HE.out) (by rw[←HR.out];exact hno)
 have KC:=zH (RIn.mkdir P2 k (by omega) r.1.dir r.1.name 493 (by rw[HR.out];have:=path_name S 0 0 m.path false;show (mntP S m).1.name.length≤_;unfold mntP;omega));rw [←hX']at KC;have k1:Plt (c+1) (chgT S 0 0 0 X):=by rw[hX'];exact k.chg 0 0 0 _ (fun _ _ _ _ e=>by cases e)
 obtain ⟨N,hN⟩:∃N,N=chgN S 0 0 0 X:=⟨_,rfl⟩;obtain ⟨e2,he2⟩:∃e,e=chgE S 0 0 0 X:=⟨_,rfl⟩;obtain ⟨T,hTT⟩:∃T,T=chgT S 0 0 0 X:=⟨_,rfl⟩;rw [←hN,←he2,←hTT]at KC hT;rw [←hTT]at k1;clear he hno P2 X2 B2 hX hX' hN he2 hTT;go_wp2_with fail;refine KC.out.mono ?_;rintro e w3 ⟨rfl,T3⟩;have X3:=RTp.has T3 HX2.out (fun hm=>by have:=hlt1 _ hm;omega);have B3:=RTp.has T3 HB2.out (fun hm=>by have:=hlt _ hm;omega);clear KC x0 x1 x2 xz;have f2:=Has.free X3 2;have xz:=X3.lt;have x2:=X3.cell 2;simp only[gA,gB,gC]at x2;obtain ⟨W4,hW4⟩:∃W,W=w3.setCell ⟨b4,2,none⟩ (.int .i64 N):=⟨_,rfl⟩;have X4:Has W4 b4 (.cells #[.int .i64 r.1.dir,.string (bs r.1.name),.int .i64 N,.bool r.1.slash] 82):=by rw[hW4];exact Has.setCell X3 2 (.int .i64 N)
 have O4:Only [b4] w3 W4:=by rw[hW4];exact Only.setCell _ _ _ _
 obtain ⟨g3,P3,O3,on3⟩:=T3;change RIn w3 B g3 T at P3;have F4:Free2 w3 B [b4]:=fun x hx=>by
  rw [List.mem_singleton]at hx;subst hx;have hB:=(RIn.free2 H0.out f.bF (by simp));have hbl:=hlt f.bF (by simp);have:=E1.size;refine ⟨by omega,?_,?_⟩
  ·rintro⟨cs,fr,e⟩;unfold Has at X3;rw[X3]at e;injection e with e;injection e with _ e;exact absurd e (by decide)
  ·rintro⟨cs,fr,e⟩;unfold Has at X3;rw[X3]at e;injection e with e;injection e with _ e;exact absurd e (by decide)
 have hn4:∀x∈g3.list,x∉[b4]:=fun x hx hm=>by
  rw [List.mem_singleton]at hm;subst hm;exact RIn.off P3 X3 (by decide) (by decide) (by decide) hx
 have P4:=RIn.only P3 O4 F4 hn4;have B4:=O4.has B3 (by rw[List.mem_singleton];have:=HB1.out.lt;omega);have on0:GhF.on g3 f w:=⟨on3.1,fun x hx=>(on3.2 x hx).imp id fun e=>by have:=E1.size;have:=E2.size;omega⟩;have O0:Only (f.list) w W4:=(Only.pre (E1.trans E2) O3).trans O4 (fun x hx=>by rw[List.mem_singleton]at hx;subst hx;exact .inr (by have:=E1.size;omega));have HP4:=zH P4;have HON:=zH on0;have HO0:=zH O0;have HX4:=zH X4;have HB4:=zH B4;clear P3 O3 on3 F4 hn4 P4 on0 O0 X4 B4 O4 X3 B3
 by_cases h2:e2=0
 case neg =>
  have t3:(e2 == 0)=false:=by simpa using h2
  have hT2:Hid (mntT S m=T):=by show _=_;rw[hT.out,if_neg h2]
  clear h2;go_upto_region 4 with fail;rw [←hW4];clear hW4;go_wp2_with fail;go_end0;refine ⟨⟨_,rfl⟩,?_⟩;rw [hT2.out];exact ⟨g3,HP4.out,HO0.out,HON.out⟩
 case pos =>
  have t3:(e2 == 0)=true:=by simpa using h2
  have hT2:Hid (mntT S m=mountT T N m.b m.n):=by show _=_;rw[hT.out,if_pos h2]
  have KM0:=fun u (hu:Ext W4 u)=>RIn.mount (RIn.ext HP4.out hu) k1 (by omega) N m.b m.n
  have hbF:=HON.out.1;simp only[hbF]at KM0;have KM:=zH KM0;clear KM0 hbF;clear h2;go_upto_region 4 with fail;rw [←hW4];clear hW4 x2 xz f2;have x2:=HX4.out.cell 2;have xz:=HX4.out.lt;have d1:=HB4.out.cell 1;have d2:=HB4.out.cell 2;have dz:=HB4.out.lt;simp only[gA,gB,gC]at x2 d1 d2;go_wp2_with fail;refine (KM.out _ (Ext.refl _)).mono ?_;rintro e w5 ⟨⟨v5,rfl⟩,T5⟩;go_wp2_with fail;go_end0;refine ⟨⟨_,rfl⟩,?_⟩;rw [hT2.out];exact RTp.trans HON.out HO0.out T5
theorem RIn.offG {α:Type} {R:RowK α} {w:World} {B:Nat} {f:GhF} {S:TreeD} {base:Nat} {v:Value} {l:List α} (h:RIn w B f S) (k:OwnG R w base v l) (h1:R.t≠78) (h2:R.t≠66) (h3:R.t≠191):∀x,v.ownBlock=some x→x∉f.list:=by
 intro x hx;rcases k.cases with⟨rfl,_⟩|⟨g',cap,cur,rfl,_,h5,_⟩
 ·cases hx
 ·injection hx with hx
  subst hx;exact RIn.off h h5 h1 h2 h3
theorem ghF_new {f f':GhF} {w w0:World} (h:∀x∈f.list,w0.heap.size≤x) (on:GhF.on f' f w) (hs:w0.heap.size≤w.heap.size):∀x∈f'.list,w0.heap.size≤x:=by
 intro x hx;rcases on.2 x hx with e|e
 ·exact h x e
 ·omega
theorem rnew_new (B:Nat) (b n:Int) (w:World) (hB:B≤w.heap.size) (hl:limitsF b n=true):Calls Tryz.prog 72 #[.int .i64 b,.int .i64 n] w (fun e w'=>∃g:GhF,e=.returned (.pointer (some ⟨g.bF,0,none⟩))∧FAt w' B g (rootT emptyT 0 b n) x0∧(∀x∈g.list,w.heap.size≤x)∧Ext w w'):=by
 go_enter Tryz.func72,Tryz.ntmps72;go_wp2_with fail;refine (rlimits_any b n _).mono ?_;rw [hl];rintro e w1 ⟨rfl,b1⟩;have hz:=b1.size;simp only[World.size_alloc]at hz;go_wp2_with fail;refine (rroot_core B w.heap.size (.slice none 0 0) (.slice none 0 0) emptyT x0 0 b n w1 hB ((Has.new w _).ext b1) ⟨[],World.ownsRow_nil _ _ _ _,rfl,fun k hk=>by simp[emptyT]at hk⟩ (World.ownsRow_nil _ _ _ _) ⟨none,0,rfl⟩ ⟨none,0,rfl⟩ (by decide) (by decide) (NosUp.nil 0) (by decide) (by decide)).mono ?_;rintro e w2 ⟨rfl,bN,bE,F2,O2,h2,h3⟩;go_wp2_with fail;go_ret;refine ⟨⟨_,bN,bE⟩,rfl,F2,fun x hx=>?_,O2.after (((Ext.refl _).alloc _).trans b1) ?_⟩
 ·simp only[Value.ownBlock,reduceCtorEq,false_or]at h2 h3
  simp only[GhF.list,List.mem_cons,List.not_mem_nil,or_false]at hx;rcases hx with e|e|e
  ·have e':x=w.heap.size:=e
   omega
  ·have e':x=bN:=e
   omega
  ·have e':x=bE:=e
   omega
 ·intro x hx
  simp [Value.ownBlock]at hx;omega
theorem rplant_any (B:Nat) (Am:Option Addr) (ms:List MntD) (cm:Nat) (Ai:Option Addr) (is:List ItmD) (ci:Nat) (w:World) (hBw:B≤w.heap.size) (hM:RowAt rowM w Am ms) (hI:RowAt rowT w Ai is) (h1:ms.length≤10) (h2:is.length≤30)
  (h3:∀m∈ms,m.path.length≤1000000) (h4:∀it∈is,it.path.length≤1000000∧it.data.length≤1000000) :
  Calls Tryz.prog 37 #[.agg #[.slice Am ms.length cm,.slice Ai is.length ci]] w (fun e w'=>∃(f:GhF),e=.returned (.pointer (some ⟨f.bF,0,none⟩))∧RS w' B f ⟨plantT ms is,0,0,[],false⟩∧Ext w w'):=by
 obtain ⟨nm,hnm⟩:∃n,n=ms.length:=⟨_,rfl⟩;obtain ⟨ni,hni⟩:∃n,n=is.length:=⟨_,rfl⟩;obtain ⟨W1,hW1⟩:∃W,W=w.alloc (.cells #[.slice Am nm cm,.slice Ai ni ci] 25):=⟨_,rfl⟩;obtain ⟨b1,hb1⟩:∃b,b=w.heap.size:=⟨_,rfl⟩;have E1:Ext w W1:=by rw[hW1];exact (Ext.refl _).alloc _
 have B1:Has W1 b1 (.cells #[.slice Am nm cm,.slice Ai ni ci] 25):=by rw[hW1,hb1];exact Has.new _ _
 have KL:Hid (Calls Tryz.prog 71 #[.agg #[.slice Am nm cm,.slice Ai ni ci]] W1 (Ret W1 (.tuple #[.int .i64 (seedB ms).1,.int .i64 (seedB ms).2]))):=by
  show Calls _ _ _ _ _;rw [hnm];exact rlim22_any Am ms cm Ai ni ci W1 (hM.ext E1) (by omega)
 rw [←hnm]at h1⊢;rw [←hni]at h2⊢;have HNM:=zH hnm;have HNI:=zH hni;have HM:=zH (hM.ext E1);have HI:=zH (hI.ext E1);have HB1:=zH B1;have c0:=B1.cell 0;have c1:=B1.cell 1;have cz:=B1.lt;simp only[gA,gB,gC]at c0 c1;clear hnm hni hM hI B1;go_enter Tryz.func37,Tryz.ntmps37;go_upto_region 1 with fail;rw [←hW1,←hb1];clear hW1 hb1;go_wp2_with fail;refine KL.out.mono ?_;rintro e w2 ⟨rfl,E2⟩;clear KL c0 c1 cz;go_wp2_with fail;refine (rnew_new B (seedB ms).1 (seedB ms).2 w2 (by have:=E1.size;have:=E2.size;omega) (seedB_ok ms)).mono ?_;rintro e w3 ⟨f0,rfl,K3,hf0,E3⟩;have P3:RIn w3 B f0 (mntsT (seed0 ms) (ms.take 0)):=⟨none,0,K3,.inl rfl⟩;have E13:Ext W1 w3:=E2.trans E3;have hf1:∀x∈f0.list,W1.heap.size≤x:=fun x hx=>by have:=hf0 x hx;have:=E2.size;omega
 obtain ⟨bF,hbF⟩:∃b,b=f0.bF:=⟨_,rfl⟩;rw [←hbF];have HP3:=zH P3;have HF1:=zH hf1;have HBF:=zH hbF;have hBW:B≤W1.heap.size:=by have:=E1.size;omega
 clear K3 P3 E2 E3 hf0 hf1 hbF;go_wp2_with fail;go_loopw [6] (fun vi wr=>∃(k:Nat) (f:GhF),vi=.int .i64 k∧k≤nm∧f.bF=bF∧(∀x∈f.list,W1.heap.size≤x)∧RIn wr B f (mntsT (seed0 ms) (ms.take k))∧Ext W1 wr) (fun vi _=>nm-(intOf vi).toNat)
 case atStart=>exact⟨0,f0,rfl,Nat.zero_le _,HBF.out.symm,HF1.out,HP3.out,E13⟩
 case round =>
  clear HP3 HF1 HBF;obtain ⟨k,f,rfl,hk,rfl,hF,hP,hE⟩:=hrel;have HF:=zH hF;have B3:=HB1.out.ext hE;have c0:=B3.cell 0;have c1:=B3.cell 1;have cz:=B3.lt;simp only[gA,gB,gC]at c0 c1;clear B3 hF;have k0:(0:Int)≤(k:Int):=Int.natCast_nonneg _;have HP:=zH hP;have HE:=zH hE
  by_cases hlt:(k:Int)<nm
  case pos =>
   have hkl:k<ms.length:=by have:=HNM.out;omega
   obtain ⟨ba,o,rfl,hba,q0,q1,q2⟩:=(HM.out.ext hE).mnt hkl;have w1w:IntKind.i64.wrap ((k:Int)+1)=(k:Int)+1:=IntWalk.i64_in _ (by omega);have hst:=mntsT_take (seed0 ms) ms hkl;have hpl:=h3 ms[k] (List.getElem_mem hkl);have hplt:Plt (2*k) (mntsT (seed0 ms) (ms.take k)):=(((Plt.first (seedB_ok ms)).mnts (ms.take k))).mono (by rw[List.length_take];omega);obtain ⟨m,hm⟩:∃m,m=ms[k]:=⟨_,rfl⟩;rw [←hm]at q0 q1 q2 hst hpl;have tp:=top_test m.path;have KM:=zH (rmnt_any HP.out hplt (by omega) m hpl);have HST:=zH hst;clear hP hE hm hst hpl hplt;obtain ⟨P,hPP⟩:∃P,P=bs m.path:=⟨_,rfl⟩;rw [←hPP]at q0 tp KM;clear hPP;have tt:topB m=(m.path == [47]):=rfl;rw [←tt]at tp;clear tt
   cases ht:topB m with
   | true =>
    rw [ht]at tp;have hS2:Hid (mntsT (seed0 ms) (ms.take (k+1))=mntsT (seed0 ms) (ms.take k)):=by show _=_;rw[HST.out,if_pos ht]
    clear ht;go_wp2_with fail;go_roundw
    case rel=>exact⟨k+1,f,by go_num,by omega,rfl,HF.out,by rw[hS2.out];exact HP.out,HE.out⟩
    case measure=>simp[intOf];omega
   | false =>
    rw [ht]at tp;have hS2:Hid (mntsT (seed0 ms) (ms.take (k+1))=mntT (mntsT (seed0 ms) (ms.take k)) m):=by show _=_;rw[HST.out,if_neg (by rw[ht];decide)]
    clear ht;go_wp2_with fail;refine KM.out.mono ?_;rintro e w5 ⟨⟨v5,rfl⟩,T5⟩;obtain ⟨f5,P5,o5,on5⟩:=T5;change RIn w5 B f5 _ at P5;have E5:Ext W1 w5:=o5.after HE.out HF.out;have HP5:=zH P5;have HF5:Hid (∀x∈f5.list,W1.heap.size≤x):=by
     show ∀_∈_,_;intro x hx;rcases on5.2 x hx with e|e
     ·exact HF.out x e
     ·have:=HE.out.size;omega
    have HB5:=zH on5.1;clear P5 KM o5 on5;go_wp2_with fail;go_roundw
    case rel=>exact⟨k+1,f5,by go_num,by omega,HB5.out,HF5.out,by rw[hS2.out];exact HP5.out,E5⟩
    case measure=>simp[intOf];omega
  case neg =>
   have htk:ms.take k=ms:=List.take_of_length_le (by have:=HNM.out;omega);have hP2:=HP.out;rw [htk]at hP2;have hpl1:Plt 20 (mntsT (seed0 ms) ms):=((Plt.first (seedB_ok ms)).mnts ms).mono (by have:=HNM.out;omega);obtain ⟨S1,hS1⟩:∃S,S=mntsT (seed0 ms) ms:=⟨_,rfl⟩;rw [←hS1]at hP2 hpl1;have hgoal:Hid (plantT ms is=timesT (itemsS (S1,[]) is).1 ((itemsS (S1,[]) is).2.zip is)):=by show _=_;rw[hS1];rfl
   have HP2:=zH hP2;have HPL1:=zH hpl1;have hBwr:B≤wr.heap.size:=by have h7:=HE.out.size;omega
   obtain ⟨N0,hN0⟩:∃N,N=wr.heap.size:=⟨_,rfl⟩;have hN6l:N0≤wr.heap.size:=by omega
   have hW1N:W1.heap.size≤N0:=by have:=HE.out.size;omega
   rw [←hN0]at hBwr;clear hP hE hP2 hpl1 htk hS1 hN0;go_wp2_with fail;clear c0 c1 cz hlt hk k0;go_loopw [7,8] (fun vm vi wr=>∃(k:Nat) (f':GhF),vi=.int .i64 k∧k≤ni∧f'.bF=f.bF∧(∀x∈f'.list,W1.heap.size≤x)∧RIn wr B f' (itemsS (S1,[]) (is.take k)).1∧OwnG rowI wr N0 vm (itemsS (S1,[]) (is.take k)).2∧N0≤wr.heap.size∧Ext W1 wr) (fun _ vi _=>ni-(intOf vi).toNat)
   case atStart=>exact⟨0,f,rfl,Nat.zero_le _,rfl,HF.out,HP2.out,OwnG.nil _ _ _,hN6l,HE.out⟩
   case round =>
    clear HP2 HE hN6l;obtain ⟨k,f2,rfl,hk,hbf,hF,hP,hO,hNl,hE⟩:=hrel;have HBF2:=zH hbf;have HF2:=zH hF;clear hbf;have B3:=HB1.out.ext hE;have c0:=B3.cell 0;have c1:=B3.cell 1;have cz:=B3.lt;simp only[gA,gB,gC]at c0 c1;clear B3 hF;have k0:(0:Int)≤(k:Int):=Int.natCast_nonneg _
    by_cases hlt:(k:Int)<ni
    case pos =>
     have hkl:k<is.length:=by have:=HNI.out;omega
     obtain ⟨ba,o,rfl,hba,q0,q1,q2,q3,q4,q5,q6⟩:=(HI.out.ext hE).itm hkl;have w1w:IntKind.i64.wrap ((k:Int)+1)=(k:Int)+1:=IntWalk.i64_in _ (by omega);have hst:=itemsS_take (S1,[]) is hkl;have hil:=h4 is[k] (List.getElem_mem hkl);have hplt0:=Plt.items (is.take k) (S1,[]) HPL1.out;have htl:(is.take k).length=k:=by rw[List.length_take];omega
     rw [htl]at hplt0;obtain ⟨it,hit⟩:∃m,m=is[k]:=⟨_,rfl⟩;rw [←hit]at q0 q1 q2 q3 q4 q5 q6 hst hil;obtain ⟨p,hpp⟩:∃p,p=itemsS (S1,[]) (is.take k):=⟨_,rfl⟩;rw [←hpp]at hst hP hO hplt0;have hol:=hplt0.2;simp only[List.length_nil,Nat.zero_add]at hol;have HPLT:=zH hplt0.1;obtain ⟨W8,hW8⟩:∃W,W=wr.alloc (.cells #[.string (bs it.path),.int .i64 it.kind,.int .i64 it.mode,.int .i64 it.uid,.int .i64 it.gid,.int .i64 it.mtime,.string (bs it.data)] 72):=⟨_,rfl⟩;obtain ⟨b9,hb9⟩:∃b,b=wr.heap.size:=⟨_,rfl⟩;have E8:Ext wr W8:=by rw[hW8];exact (Ext.refl _).alloc _
     have B8:Has W8 b9 (.cells #[.string (bs it.path),.int .i64 it.kind,.int .i64 it.mode,.int .i64 it.uid,.int .i64 it.gid,.int .i64 it.mtime,.string (bs it.data)] 72):=by rw[hW8,hb9];exact Has.new _ _
     have P8:=RIn.ext hP E8;have O8:=hO.ext E8;have hlt8:=RIn.lt hP;have hb9l:wr.heap.size≤b9:=by omega
     have KN0:=rnod_any P8 hplt0.1 (by omega) it hil.1 hil.2;rw [HBF2.out]at KN0;have KN:=zH KN0;clear KN0;obtain ⟨T,hT⟩:∃T,T=itmT p.1 it:=⟨_,rfl⟩;obtain ⟨no,hno⟩:∃n,n=itmN p.1 it:=⟨_,rfl⟩;rw [←hT,←hno]at KN;have hst2:itemsS (S1,[]) (is.take (k+1))=(dressT T no it,p.2++[no]):=by rw[hst,hT,hno];rfl
     have hplT:Plt (20+3*k+1) T:=by rw[hT];exact hplt0.1.itm it
     have HST:=zH hst2;have HPT:=zH hplT;have HP8:=zH P8;have HO8:=zH O8;have HB8:=zH B8;have HE8:=zH (hE.trans E8);have r0:=B8.cell 0;have r1:=B8.cell 1;have r2:=B8.cell 2;have r3:=B8.cell 3;have r4:=B8.cell 4;have r5:=B8.cell 5;have r6:=B8.cell 6;have rz:=B8.lt;simp only[gA,gB,gC]at r0 r1 r2 r3 r4 r5 r6;clear hst hil hplt0 hpp hP hO hE hit hT hno hst2 hplT P8 O8 B8 htl;go_upto_region 13 with fail;rw [←hW8,←hb9];clear hW8 hb9 q0 q1 q2 q3 q4 q5 q6 hba;go_wp2_with fail;refine KN.out.mono ?_;rintro e w9 ⟨rfl,T9⟩;have B9:=RTp.has T9 HB8.out (fun hm=>by have:=hlt8 _ hm;omega);have hoff:=RIn.offG HP8.out HO8.out (by decide) (by decide) (by decide);obtain ⟨f9,P9,o9,on9⟩:=T9;change RIn w9 B f9 T at P9;have E9:Ext W1 w9:=o9.after HE8.out HF2.out;have HF9:=zH (ghF_new HF2.out on9 HE8.out.size);have HB9:=zH (on9.1.trans HBF2.out);have O9:=HO8.out.only o9 hoff;have hsz9:N0≤w9.heap.size:=by have:=o9.size;have:=E8.size;omega
     obtain ⟨v10,w10,hr10,hO10,hg10,_⟩:=app_g rowI w9 O9 hsz9 no (by omega);have E10:Ext W1 w10:=(E9.alloc _).grown hg10 (fun g hv=>by have:=(O9.lt hv).1;omega);have o10:Only u7.ownBlock.toList w9 w10:=(Only.allocN _ _ _).then (Only.of_grownBy hg10 (fun g hv=>Option.mem_toList.2 hv));have P10:=RIn.only P9 o10 (O9.free2 hBwr (by decide) (by decide)) (fun x hx hm=>RIn.offG P9 O9 (by decide) (by decide) (by decide) x (Option.mem_toList.1 hm) hx);have B10:=o10.has B9 (O9.notHas B9 (by decide));have hsz10:N0≤w10.heap.size:=by have:=o10.size;omega
     have HR10:=zH hr10;have HP10:=zH P10;have HO10:=zH hO10;have HB10:=zH B10;have HE10:=zH E10;clear E9 B9 hoff P9 o9 on9 O9 hr10 hO10 hg10 E10 o10 P10 B10 KN r0 r1 r2 r3 r4 r5 r6 rz hsz9
     by_cases hno0:no=0
     case pos =>
      have t1:(no != 0)=false:=by simpa using hno0
      have hD:Hid (dressT T no it=T):=by show _=_;unfold dressT;rw[if_neg (fun q=>q hno0)]
      clear hno0;go_wp2_with (at_builtin;refine Lib.wpList_append_run _ rfl _ _ 124 124 rfl _ _ rfl rfl _ _ HR10.out ?_);go_roundw
      case rel=>exact⟨k+1,f9,by go_num,by omega,HB9.out,HF9.out,by rw[HST.out,hD.out];exact HP10.out,by rw[HST.out];exact HO10.out,hsz10,HE10.out⟩
      case measure=>simp[intOf];omega
     case neg =>
      have t1:(no != 0)=true:=by simpa using hno0
      have hD:Hid (dressT T no it=chgT (chgT T 0 0 0 (.chown no it.uid it.gid)) 0 0 0 (.chmod no it.mode)):=by show _=_;unfold dressT;rw[if_pos hno0];rfl
      have KC0:=RIn.chown HP10.out HPT.out (by omega) no it.uid it.gid;rw [HB9.out]at KC0;have KC:=zH KC0;clear KC0;have hplU:Plt (20+3*k+1+1) (chgT T 0 0 0 (.chown no it.uid it.gid)):=HPT.out.chg 0 0 0 _ (fun _ _ _ _ e=>by cases e);obtain ⟨U,hU⟩:∃U,U=chgT T 0 0 0 (.chown no it.uid it.gid):=⟨_,rfl⟩;obtain ⟨ec,hec⟩:∃e,e=chgE T 0 0 0 (.chown no it.uid it.gid):=⟨_,rfl⟩;rw [←hU,←hec]at KC;rw [←hU]at hD hplU;have HPU:=zH hplU;clear hno0 hU hec hplU;have r3:=HB10.out.cell 3;have r4:=HB10.out.cell 4;have rz:=HB10.out.lt;simp only[gA,gB,gC]at r3 r4;go_wp2_with (at_builtin;refine Lib.wpList_append_run _ rfl _ _ 124 124 rfl _ _ rfl rfl _ _ HR10.out ?_);refine KC.out.mono ?_;rintro e w11 ⟨rfl,T11⟩;have B11:=RTp.has T11 HB10.out (RIn.off HP10.out HB10.out (by decide) (by decide) (by decide));have hoff:=RIn.offG HP10.out HO10.out (by decide) (by decide) (by decide);obtain ⟨f11,P11,o11,on11⟩:=T11;change RIn w11 B f11 U at P11;have E11:Ext W1 w11:=o11.after HE10.out HF9.out;have HF11:=zH (ghF_new HF9.out on11 HE10.out.size);have HB11:=zH (on11.1.trans HB9.out);have O11:=HO10.out.only o11 hoff;have hsz11:N0≤w11.heap.size:=by have:=o11.size;omega
      have KM0:=RIn.chmod P11 HPU.out (by omega) no it.mode;rw [HB11.out]at KM0;have KM:=zH KM0;clear KM0;obtain ⟨V,hV⟩:∃V,V=chgT U 0 0 0 (.chmod no it.mode):=⟨_,rfl⟩;obtain ⟨ed,hed⟩:∃e,e=chgE U 0 0 0 (.chmod no it.mode):=⟨_,rfl⟩;rw [←hV,←hed]at KM;rw [←hV]at hD;have HP11:=zH P11;have HO11:=zH O11;have HE11:=zH E11;clear r3 r4 rz KC hV hed on11 o11 hoff P11 O11 E11;have r2:=B11.cell 2;have rz:=B11.lt;simp only[gA,gB,gC]at r2;clear B11;go_wp2_with fail;refine KM.out.mono ?_;rintro e w12 ⟨rfl,T12⟩;have hoff:=RIn.offG HP11.out HO11.out (by decide) (by decide) (by decide);obtain ⟨f12,P12,o12,on12⟩:=T12;change RIn w12 B f12 V at P12;have E12:Ext W1 w12:=o12.after HE11.out HF11.out;have HF12:=zH (ghF_new HF11.out on12 HE11.out.size);have HB12:=zH (on12.1.trans HB11.out);have O12:=HO11.out.only o12 hoff;have hsz12:N0≤w12.heap.size:=by have:=o12.size;omega
      have HP12:=zH P12;have HO12:=zH O12;have HE12:=zH E12;clear r2 rz KM on12 o12 hoff P12 O12 E12;go_wp2_with fail;go_roundw
      case rel=>exact⟨k+1,f12,by go_num,by omega,HB12.out,HF12.out,by rw[HST.out,hD.out];exact HP12.out,by rw[HST.out];exact HO12.out,hsz12,HE12.out⟩
      case measure=>simp[intOf];omega
    case neg =>
     have htk:is.take k=is:=List.take_of_length_le (by have:=HNI.out;omega);rw [htk]at hP hO;have hplt0:=Plt.items is (S1,[]) HPL1.out;have hni:=HNI.out;obtain ⟨p,hpp⟩:∃p,p=itemsS (S1,[]) is:=⟨_,rfl⟩;rw [←hpp]at hP hO hplt0;have hg2:Hid (plantT ms is=timesT p.1 (p.2.zip is)):=by show _=_;rw[hgoal.out,hpp]
     have hol:p.2.length=ni:=by have:=hplt0.2;simp only[List.length_nil,Nat.zero_add]at this;omega
     have HOL:=zH hol;have hzl:Hid ((p.2.zip is).length=ni):=by show _=_;rw[List.length_zip];omega
     have HPL2:=zH (hplt0.1.mono (show 20+3*is.length≤110 by omega));have HP:=zH hP;obtain ⟨Am,cm',hvm,_,_,hmat,_⟩:=hO.at_;rw [hol]at hvm;have HO:=zH hO;have HE:=zH hE;have HMAT:=zH hmat;subst hvm;clear hP hO hE htk hplt0 hni hpp hol hmat;go_wp2_with fail;clear c0 c1 cz hlt hk k0;go_loopw [11] (fun vi wr=>∃(k:Nat) (f':GhF),vi=.int .i64 k∧k≤ni∧f'.bF=f.bF∧(∀x∈f'.list,W1.heap.size≤x)∧RIn wr B f' (timesT p.1 ((p.2.zip is).take k))∧OwnG rowI wr N0 (.slice Am ni cm') p.2∧Ext W1 wr) (fun vi _=>ni-(intOf vi).toNat)
     case atStart=>exact⟨0,f2,rfl,Nat.zero_le _,HBF2.out,HF2.out,HP.out,HO.out,HE.out⟩
     case round =>
      clear HP HO HE hNl HMAT HBF2 HF2;obtain ⟨k,f3,rfl,hk,hbf,hF,hP,hO,hE⟩:=hrel;have HBF3:=zH hbf;have HF3:=zH hF;clear hbf;have B3:=HB1.out.ext hE;have c0:=B3.cell 0;have c1:=B3.cell 1;have cz:=B3.lt;simp only[gA,gB,gC]at c0 c1;clear B3 hF;have k0:(0:Int)≤(k:Int):=Int.natCast_nonneg _
      by_cases hlt:(k:Int)<ni
      case pos =>
       have hkl:k<is.length:=by have:=HNI.out;omega
       have hkp:k<p.2.length:=by have:=HOL.out;omega
       have hkz:k<(p.2.zip is).length:=by have:=hzl.out;omega
       obtain ⟨ba,o,rfl,hba,q0,q1,q2,q3,q4,q5,q6⟩:=(HI.out.ext hE).itm hkl;obtain ⟨gm,hgm,hgml,qm⟩:∃gm,Am=some ⟨gm,0,none⟩∧gm<wr.heap.size∧wr.cell? ⟨gm,k,none⟩=some (.int .i64 p.2[k]):=by
        rcases hO.cases with⟨_,h2⟩|⟨gm,cap,cur,h2,_,h3,_,_,h4⟩
        ·rw[h2]at hkp;cases hkp
        ·injection h2 with h2
         have:=h4 k hkp 0 (by decide);exact ⟨gm,h2,h3.lt,by simpa [rowI]using this⟩
       subst hgm;have w1w:IntKind.i64.wrap ((k:Int)+1)=(k:Int)+1:=IntWalk.i64_in _ (by omega);have hst:=timesT_take p.1 (p.2.zip is) hkz;rw [List.getElem_zip]at hst;have hplt:Plt (110+k) (timesT p.1 ((p.2.zip is).take k)):=(Plt.times ((p.2.zip is).take k) HPL2.out).mono (by rw[List.length_take];omega);obtain ⟨it,hit⟩:∃m,m=is[k]:=⟨_,rfl⟩;obtain ⟨no,hno⟩:∃m,m=p.2[k]:=⟨_,rfl⟩;rw [←hit]at q0 q1 q2 q3 q4 q5 q6 hst;rw [←hno]at qm hst;obtain ⟨S3,hS3⟩:∃S,S=timesT p.1 ((p.2.zip is).take k):=⟨_,rfl⟩;rw [←hS3]at hst hplt hP;have HST:=zH hst;have HP8:=zH hP;have HO8:=zH hO;have HE8:=zH hE;have HPLT:=zH hplt;obtain ⟨W8,hW8⟩:∃W,W=wr:=⟨_,rfl⟩;clear hst hP hO hE hit hno hS3 hplt hkp hkz
       by_cases hno0:no=0
       case pos =>
        have t1:(no != 0)=false:=by simpa using hno0
        have hD:Hid (timesT p.1 ((p.2.zip is).take (k+1))=S3):=by show _=_;rw[HST.out];unfold timeS;rw[if_neg (fun q=>q hno0)]
        clear hno0;go_wp2_with fail;go_roundw
        case rel=>exact⟨k+1,f3,by go_num,by omega,HBF3.out,HF3.out,by rw[hD.out];exact HP8.out,HO8.out,HE8.out⟩
        case measure=>simp[intOf];omega
       case neg =>
        have t1:(no != 0)=true:=by simpa using hno0
        have hD:Hid (timesT p.1 ((p.2.zip is).take (k+1))=chgT S3 0 0 0 (.utime no it.mtime)):=by show _=_;rw[HST.out];unfold timeS;rw[if_pos hno0];rfl
        have hDr:=(Ext.refl wr).drew;have KC0:=RIn.utime (RIn.ext HP8.out hDr) HPLT.out (by omega) no it.mtime;rw [HBF3.out]at KC0;have KC:=zH KC0;have HDR:=zH hDr;clear hno0 hDr KC0 hW8;go_upto_region 22 with fail;go_still_tail 12,(by kernel_rfl);change wpList _ _ _ _ _ wr.drew;go_wp2_with fail;refine KC.out.mono ?_;rintro e w11 ⟨rfl,T11⟩;have hoff:=RIn.offG (RIn.ext HP8.out HDR.out) (HO8.out.ext HDR.out) (by decide) (by decide) (by decide);obtain ⟨f11,P11,o11,on11⟩:=T11;change RIn w11 B f11 _ at P11;have E11:Ext W1 w11:=o11.after (HE8.out.trans HDR.out) HF3.out;have HF11:=zH (ghF_new HF3.out on11 (HE8.out.trans HDR.out).size);have HB11:=zH (on11.1.trans HBF3.out);have O11:=(HO8.out.ext HDR.out).only o11 hoff;have HP11:=zH P11;have HO11:=zH O11;have HE11:=zH E11;clear KC on11 o11 hoff P11 O11 E11;go_wp2_with fail;go_roundw
        case rel=>exact⟨k+1,f11,by go_num,by omega,HB11.out,HF11.out,by rw[hD.out];exact HP11.out,HO11.out,HE11.out⟩
        case measure=>simp[intOf];omega
      case neg =>
       have htk:(p.2.zip is).take k=p.2.zip is:=List.take_of_length_le (by have:=hzl.out;omega);rw [htk,←hg2.out]at hP;have HP:=zH hP;have HE:=zH hE;clear htk hP hE hO;go_wp2_with fail;go_ret;exact ⟨f3,by rw[HBF3.out];rfl,HP.out,E1.trans HE.out⟩
end Go.Proofs.YtpibnfdolojpcaaGreat
