import Derived.Test.YtpibnfdolojpcaaGreatBunN
import Derived.Test.YtpibnfdolojpcaaGreatBunM
import Derived.Test.YtpibnfdolojpcaaGreatBunJ
import Derived.Test.YtpibnfdolojpcaaGreatBunP
set_option maxHeartbeats 8000000
set_option maxRecDepth 100000
namespace Go.Proofs.YtpibnfdolojpcaaGreat
open Go.ChangeShapes Go.WideShapes Go.ChangeAt Go.RowKit
theorem list_none {s:SysD} {cu cg no:Int} (h:rdE s (openE s.t cu cg no 1 4)≠0):rdL s (listF s.t (openN s.t cu cg no 1 4).ents)=[]:=by
 unfold rdE at h;unfold rdL;split
 ·rfl
 ·rename_i hd
  rw [if_neg hd]at h;unfold openN;rw [if_neg h];rfl
section
variable {c:Nat} {w:World} {B:Nat} {f:GhF} {s:SysD}
theorem RS.into24 (h:RS w B f s) (hs:Sane c s) (hc:c≤900) (cu cg:Int) (x:SpotD) (hx0:0≤x.depth) (hx1:x.depth≤1000000) :
  Calls Tryz.prog 44 #[.pointer (some ⟨f.bF,0,none⟩),.agg #[.int .i64 cu,.int .i64 cg],.agg #[.int .i64 x.dir,.string (bs x.name),.int .i64 x.no,.int .i64 x.depth]] w (IntoR w (inL s cu cg x) (inE s cu cg x)):=by
 obtain ⟨W0,hW0⟩:∃W,W=(w.alloc (.cells #[.int .i64 cu,.int .i64 cg] 27)).alloc (.cells #[.int .i64 x.dir,.string (bs x.name),.int .i64 x.no,.int .i64 x.depth] 41):=⟨_,rfl⟩;obtain ⟨b4,hb4⟩:∃b,b=w.heap.size:=⟨_,rfl⟩;obtain ⟨b5,hb5⟩:∃b,b=w.heap.size+1:=⟨_,rfl⟩;have E0:Ext w W0:=by rw[hW0];exact ((Ext.refl _).alloc _).alloc _
 have X0:Has W0 b5 (.cells #[.int .i64 x.dir,.string (bs x.name),.int .i64 x.no,.int .i64 x.depth] 41):=by rw[hW0,hb5];have:=Has.new (w.alloc (.cells #[.int .i64 cu,.int .i64 cg] 27)) (.cells #[.int .i64 x.dir,.string (bs x.name),.int .i64 x.no,.int .i64 x.depth] 41);rw[World.size_alloc]at this;exact this
 have C0:Has W0 b4 (.cells #[.int .i64 cu,.int .i64 cg] 27):=by rw[hW0,hb4];exact (Has.new w _).alloc _
 have h0:=h.ext E0;obtain ⟨e1,he1⟩:∃e,e=rdE s (statE s.t x.no):=⟨_,rfl⟩;obtain ⟨e2,he2⟩:∃e,e=rdE s (statE s.t x.dir):=⟨_,rfl⟩;obtain ⟨e3,he3⟩:∃e,e=rdE s (openE s.t cu cg x.no 1 4):=⟨_,rfl⟩;obtain ⟨m1,hm1⟩:∃m,m=rdM s (getN s.t.nodes x.no):=⟨_,rfl⟩;obtain ⟨m2,hm2⟩:∃m,m=rdM s (getN s.t.nodes x.dir):=⟨_,rfl⟩;obtain ⟨L,hL⟩:∃L,L=rdL s (listF s.t (openN s.t cu cg x.no 1 4).ents):=⟨_,rfl⟩;have hLl:L.length≤1000000:=by
  rw [hL];unfold rdL;split
  ·simp
  ·rw[listF_len];have:=(hs.tre.openN cu cg x.no 1 4).2;omega
 have K1:Hid (∀u,Ext W0 u→Calls Tryz.prog 91 #[.pointer (some ⟨f.bF,0,none⟩),.int .i64 x.no] u (Ret u (.tuple #[statV m1,.int .i64 e1]))):=by
  show ∀u,_;intro u hu;rw [hm1,he1];exact (h0.ext hu).stat21 hs hc x.no
 have K2:Hid (∀u,Ext W0 u→Calls Tryz.prog 91 #[.pointer (some ⟨f.bF,0,none⟩),.int .i64 x.dir] u (Ret u (.tuple #[statV m2,.int .i64 e2]))):=by
  show ∀u,_;intro u hu;rw [hm2,he2];exact (h0.ext hu).stat21 hs hc x.dir
 have K3:Hid (∀u,Ext W0 u→Calls Tryz.prog 92 #[.pointer (some ⟨f.bF,0,none⟩),.agg #[.int .i64 cu,.int .i64 cg],.int .i64 x.no] u (ListQ u L e3)):=by
  show ∀u,_;intro u hu;rw [hL,he3];exact (h0.ext hu).list21 hs hc cu cg x.no
 have N1:Hid (e1≠0→inE s cu cg x=e1):=fun k=>by rw[he1]at k⊢;exact in_no1 k
 have N2:Hid (e1=0→e2≠0→inE s cu cg x=e2):=fun k1 k2=>by rw[he1]at k1;rw[he2]at k2⊢;exact in_no2 k1 k2
 have N3:Hid (e1=0→e2=0→m1.dev≠m2.dev→inE s cu cg x=16):=fun k1 k2 k3=>by rw[he1]at k1;rw[he2]at k2;rw[hm1,hm2]at k3;exact in_dev k1 k2 k3
 have N4:Hid (e1=0→e2=0→m1.dev=m2.dev→m1.kind≠1→inE s cu cg x=0∧inL s cu cg x=[]):=fun k1 k2 k3 k4=>by rw[he1]at k1;rw[he2]at k2;rw[hm1,hm2]at k3;rw[hm1]at k4;exact in_kind k1 k2 k3 k4
 have N5:Hid (e1=0→e2=0→m1.dev=m2.dev→¬m1.kind≠1→inE s cu cg x=e3∧(e3=0→inL s cu cg x=L.map (spotOf x))):=fun k1 k2 k3 k4=>by rw[he1]at k1;rw[he2]at k2;rw[hm1,hm2]at k3;rw[hm1]at k4;rw[he3,hL];exact in_list k1 k2 k3 k4
 have NL:Hid (e3≠0→L=[]):=fun k=>by rw[he3]at k;rw[hL];exact list_none k
 have NE:Hid (inE s cu cg x≠0→inL s cu cg x=[]):=fun k=>inL_err k
 obtain ⟨IE,hIE⟩:∃e,e=inE s cu cg x:=⟨_,rfl⟩;obtain ⟨IL,hIL⟩:∃e,e=inL s cu cg x:=⟨_,rfl⟩;rw [←hIE]at N1 N2 N3 N4 N5 NE⊢;rw [←hIL]at N4 N5 NE⊢;have c0:=C0.cell 0;have c1:=C0.cell 1;have cz:=C0.lt;have x0:=X0.cell 0;have x1:=X0.cell 1;have x2:=X0.cell 2;have x3:=X0.cell 3;have xz:=X0.lt;simp only[gA,gB,gC]at x0 x1 x2 x3;clear h h0 hs he1 he2 he3 hm1 hm2 hL hIE hIL;go_enter Tryz.func44,Tryz.ntmps44;go_upto_region 1 with fail;rw [show (w.alloc _).alloc _=W0 from hW0.symm,←hb5,←hb4];clear hW0 hb4 hb5;unfold statV at K1 K2;go_wp2_with fail;refine (K1.out _ (Ext.refl _)).mono ?_;rintro e w1 ⟨rfl,b1⟩;clear c0 c1 cz x0 x1 x2 x3 xz K1;go_upto_region 2 with fail;obtain ⟨W1,hW1⟩:∃W,W=w1.alloc (.cells #[.int .i64 m1.no,.int .i64 m1.dev,.int .i64 m1.kind,.int .i64 m1.mode,.int .i64 m1.uid,.int .i64 m1.gid,.int .i64 m1.links,.int .i64 m1.data.length,.int .i64 m1.mtime,.int .i64 m1.ctime] 95):=⟨_,rfl⟩;obtain ⟨b8,hb8⟩:∃b,b=w1.heap.size:=⟨_,rfl⟩;have S1:Has W1 b8 (.cells #[.int .i64 m1.no,.int .i64 m1.dev,.int .i64 m1.kind,.int .i64 m1.mode,.int .i64 m1.uid,.int .i64 m1.gid,.int .i64 m1.links,.int .i64 m1.data.length,.int .i64 m1.mtime,.int .i64 m1.ctime] 95):=by rw[hW1,hb8];exact Has.new _ _
 have E1:Ext W0 W1:=by rw[hW1];exact b1.alloc _
 rw [←hW1,←hb8];clear hW1 hb8 b1;have x0:=(X0.ext E1).cell 0;have xz:=(X0.ext E1).lt;simp only[gA,gB]at x0;go_wp2_with fail;refine (K2.out _ E1).mono ?_;rintro e w2 ⟨rfl,b2⟩;clear x0 xz K2;go_upto_region 3 with fail;obtain ⟨W2,hW2⟩:∃W,W=w2.alloc (.cells #[.int .i64 m2.no,.int .i64 m2.dev,.int .i64 m2.kind,.int .i64 m2.mode,.int .i64 m2.uid,.int .i64 m2.gid,.int .i64 m2.links,.int .i64 m2.data.length,.int .i64 m2.mtime,.int .i64 m2.ctime] 95):=⟨_,rfl⟩;obtain ⟨b10,hb10⟩:∃b,b=w2.heap.size:=⟨_,rfl⟩;have S2:Has W2 b10 (.cells #[.int .i64 m2.no,.int .i64 m2.dev,.int .i64 m2.kind,.int .i64 m2.mode,.int .i64 m2.uid,.int .i64 m2.gid,.int .i64 m2.links,.int .i64 m2.data.length,.int .i64 m2.mtime,.int .i64 m2.ctime] 95):=by rw[hW2,hb10];exact Has.new _ _
 have S1':Has W2 b8 (.cells #[.int .i64 m1.no,.int .i64 m1.dev,.int .i64 m1.kind,.int .i64 m1.mode,.int .i64 m1.uid,.int .i64 m1.gid,.int .i64 m1.links,.int .i64 m1.data.length,.int .i64 m1.mtime,.int .i64 m1.ctime] 95):=by rw[hW2];exact (S1.ext b2).alloc _
 have E2:Ext W0 W2:=by rw[hW2];exact (E1.trans b2).alloc _
 rw [←hW2,←hb10];clear hW2 hb10 b2 S1 E1
 by_cases k1:e1=0
 case neg =>
  have t1:(e1 != 0)=true:=by simpa using k1
  have HK:=zH k1;have H1:=zH (N1.out k1);clear k1;go_wp2_with fail;go_ret2;have hz:IL=[]:=NE.out (by rw[H1.out];exact HK.out);exact ⟨.slice none 0 0,by rw[H1.out];rfl,by rw[hz];exact OwnP.nil _ _,E0.trans E2⟩
 have HK1:=zH k1
 by_cases k2:e2=0
 case neg =>
  have t1:(e1 != 0)=false:=by simpa using k1
  have t2:(e2 != 0)=true:=by simpa using k2
  have HK:=zH k2;have H1:=zH (N2.out k1 k2);clear k1 k2;go_wp2_with fail;go_ret2;have hz:IL=[]:=NE.out (by rw[H1.out];exact HK.out);exact ⟨.slice none 0 0,by rw[H1.out];rfl,by rw[hz];exact OwnP.nil _ _,E0.trans E2⟩
 have HK2:=zH k2;have t1:(e1 != 0)=false:=by simpa using k1
 have t2:(e2 != 0)=false:=by simpa using k2
 clear k1 k2;have y1:=S1'.cell 1;have y2:=S1'.cell 2;have yz:=S1'.lt;have z1:=S2.cell 1;have zz:=S2.lt
 by_cases k3:m1.dev=m2.dev
 case neg =>
  have t3:(m1.dev != m2.dev)=true:=by simpa using k3
  have H1:=zH (N3.out HK1.out HK2.out k3);clear k3;go_wp2_with fail;go_ret2;have hz:IL=[]:=NE.out (by rw[H1.out];decide);exact ⟨.slice none 0 0,by rw[H1.out];rfl,by rw[hz];exact OwnP.nil _ _,E0.trans E2⟩
 have t3:(m1.dev != m2.dev)=false:=by simpa using k3
 have HK3:=zH k3;clear k3
 by_cases k4:m1.kind=1
 case neg =>
  have t4:(m1.kind != 1)=true:=by simpa using k4
  have H1:=zH (N4.out HK1.out HK2.out HK3.out k4);clear k4;go_wp2_with fail;go_ret2;exact ⟨.slice none 0 0,by rw[H1.out.1];rfl,by rw[H1.out.2];exact OwnP.nil _ _,E0.trans E2⟩
 have t4:(m1.kind != 1)=false:=by simpa using k4
 have H5:=zH (N5.out HK1.out HK2.out HK3.out (fun k=>k k4));clear k4;have c0:=(C0.ext E2).cell 0;have c1:=(C0.ext E2).cell 1;have cz:=(C0.ext E2).lt;have x2:=(X0.ext E2).cell 2;have xz:=(X0.ext E2).lt;simp only[gA,gB,gC]at x2;go_wp2_with fail;refine (K3.out _ E2).mono ?_;rintro e w3 ⟨A,cap,rfl,hat,b3⟩;clear c0 c1 cz x2 xz K3 t1 t2 t3 t4 y1 y2 yz z1 zz;have HIL:Hid (IL=L.map (spotOf x)):=by
  show _=_
  by_cases k5:e3=0
  ·exact H5.out.2 k5
  ·rw[NE.out (by rw[H5.out.1];exact k5),NL.out k5];rfl
 obtain ⟨n,hn⟩:∃n,n=L.length:=⟨_,rfl⟩;rw [←hn]at hLl⊢;have HN:=zH hn;have HE3:=zH (E0.trans (E2.trans b3));have X3:=X0.ext (E2.trans b3);have HX3:=zH X3;have hsz:w.heap.size≤w3.heap.size:=HE3.out.size;have HAT:=zH hat;clear hn hat X3;go_wp2_with fail;go_loopw [14,15] (fun vo vi wr=>∃k:Nat,vi=.int .i64 k∧k≤n∧OwnP wr w3.heap.size vo ((L.take k).map (spotOf x))∧Ext w3 wr) (fun _ vi _=>n-(intOf vi).toNat)
 case atStart=>exact⟨0,rfl,Nat.zero_le _,OwnP.nil _ _,Ext.refl _⟩
 case round =>
  obtain ⟨k,rfl,hk,hO,hE⟩:=hrel
  by_cases hlt:(k:Int)<n
  ·have hkl:k<L.length:=by have:=HN.out;omega
   obtain ⟨ba,o,rfl,hba3,ea3,eb3⟩:=HAT.out.lt0 hkl;have hba:ba<wr.heap.size:=by have:=hE.size;omega
   have ea:=(hE.cell hba3).trans ea3;have eb:=(hE.cell hba3).trans eb3;have htk:Hid ((L.take (k+1)).map (spotOf x)=(L.take k).map (spotOf x)++[spotOf x L[k]]):=by
    show _=_;rw [List.take_succ_eq_append_getElem hkl,List.map_append];rfl
   have hlk:((L.take k).map (spotOf x)).length≤1000000:=by rw[List.length_map,List.length_take];omega
   obtain ⟨y,hy⟩:∃y,y=L[k]:=⟨_,rfl⟩;rw [←hy]at ea eb htk ea3 eb3;obtain ⟨yn,yo⟩:=y;have q0:(0:Int)≤(k:Int):=Int.natCast_nonneg _;have w1w:IntKind.i64.wrap ((k:Int)+1)=(k:Int)+1:=IntWalk.i64_in _ (by omega);have w2w:IntKind.i64.wrap (x.depth+1)=x.depth+1:=IntWalk.i64_in _ (by omega);have X4:=HX3.out.ext hE;have x2:=X4.cell 2;have x3:=X4.cell 3;have xz:=X4.lt;simp only[gA,gB,gC]at x2 x3;have X30:=HX3.out;have x2':=X30.cell 2;have x3':=X30.cell 3;have xz':=X30.lt;simp only[gA,gB,gC]at x2' x3';have ea':w3.cell? ⟨ba,o+k*2,none⟩=some (.string (bs yn)):=ea3;have eb':w3.cell? ⟨ba,o+k*2+1,none⟩=some (.int .i64 yo):=eb3;have KS:Hid (∀w',Ext w3 w'→(Ext w3 w'∧w'.cell? ⟨b5,2,none⟩=some (.int .i64 x.no)∧w'.cell? ⟨b5,3,none⟩=some (.int .i64 x.depth)∧w'.cell? ⟨ba,o+k*2,none⟩=some (.string (bs yn))∧w'.cell? ⟨ba,o+k*2+1,none⟩=some (.int .i64 yo))):=fun w' h'=>⟨h',(h'.cell xz').trans x2',(h'.cell xz').trans x3',(h'.cell hba3).trans ea',(h'.cell hba3).trans eb'⟩
   have hW1:Ext w3 wr.drew:=hE.drew;have hsz5:w3.heap.size≤wr.drew.heap.size:=hW1.size;have HOD:=zH (hO.ext ((Ext.refl wr).drew));clear hO hE ea eb X4 hy ea3 eb3 hba3 ea' eb' x2 x3 xz x2' x3' xz' X30 hba;go_upto_region 16 with fail;go_region_held3 (fun w'=>Ext w3 w'∧w'.cell? ⟨b5,2,none⟩=some (.int .i64 x.no)∧w'.cell? ⟨b5,3,none⟩=some (.int .i64 x.depth)∧w'.cell? ⟨ba,o+k*2,none⟩=some (.string (bs yn))∧w'.cell? ⟨ba,o+k*2+1,none⟩=some (.int .i64 yo))
    ((first|exact KS.out _ hW1|exact KS.out _ (hW1.alloc _)|exact KS.out _ hE9))
    ((refine step_append_ent _ (by rfl) _ _ 39 (by rfl) _ _ (by rfl) (by rfl) (app_spot wr.drew HOD.out hsz5 ⟨x.no,yn,yo,x.depth+1⟩ (by omega)) ?_;rintro v9 w9 ⟨hO9,hg9,_⟩;have hE9:Ext w3 w9:=(hW1.alloc _).grown hg9 (fun g hv=>(HOD.out.lt hv).1)))
   have HO9:=zH hO9;clear hO9 hg9;go_wp2_with fail;go_roundw
   case rel=>exact⟨k+1,by go_num,by omega,by rw[htk.out];exact HO9.out,hE9⟩
   case measure=>simp[intOf];omega
  ·have hkn:k=L.length:=by have:=HN.out;omega
   have HOW:=zH hO;have HEE:=zH hE;have hf:Hid ((L.take k).map (spotOf x)=L.map (spotOf x)):=by show _=_;rw[hkn,List.take_length]
   clear hO hE hkn;go_wp2_with fail;go_ret2;exact ⟨_,by rw[H5.out.1];rfl,by rw[HIL.out,←hf.out];exact HOW.out.base hsz,HE3.out.trans HEE.out⟩
end
end Go.Proofs.YtpibnfdolojpcaaGreat
namespace Go.Proofs.YtpibnfdolojpcaaGreat
open Go.ChangeShapes Go.WideShapes Go.ChangeAt Go.RowKit
section
variable {c:Nat} {w:World} {B:Nat} {f:GhF} {s:SysD}
theorem RS.down24 (h:RS w B f s) (hs:Sane c s) (hc:c≤900) (cu cg dir:Int) (nm:List UInt8) (l:List SpotD) (b0:SpotD) (e0:Int) (hT:DownT s cu cg dir nm l b0 e0) (hlen:l.length≤1000) :
    Calls Tryz.prog 15 #[.pointer (some ⟨f.bF,0,none⟩),.agg #[.int .i64 cu,.int .i64 cg],.int .i64 dir,.string (bs nm)] w
      (fun e w'=>∃v,e=.returned (.tuple #[v,.agg (spotC b0).toArray,.int .i64 e0])∧OwnP w' w.heap.size v l∧Ext w w'):=by
  obtain ⟨W0,hW0⟩:∃W,W=(w.alloc (.cells #[.int .i64 cu,.int .i64 cg] 27)).alloc (.cells #[.int .i64 0,.string ⟨#[]⟩,.int .i64 0,.int .i64 0] 41):=⟨_,rfl⟩
  obtain ⟨b5,hb5⟩:∃b,b=w.heap.size:=⟨_,rfl⟩
  obtain ⟨b9,hb9⟩:∃b,b=w.heap.size+1:=⟨_,rfl⟩
  have E0:Ext w W0:=by rw[hW0];exact ((Ext.refl _).alloc _).alloc _
  have C0:Has W0 b5 (.cells #[.int .i64 cu,.int .i64 cg] 27):=by rw[hW0,hb5];exact (Has.new w _).alloc _
  have R0:Has W0 b9 (.cells (spotC spotZ).toArray 41):=by rw[hW0,hb9];have:=Has.new (w.alloc (.cells #[.int .i64 cu,.int .i64 cg] 27)) (.cells #[.int .i64 0,.string ⟨#[]⟩,.int .i64 0,.int .i64 0] 41);rw[World.size_alloc]at this;exact this
  have h0:=h.ext E0
  obtain ⟨X,hX⟩:∃X,X=firstX s cu cg dir nm:=⟨_,rfl⟩
  obtain ⟨e1,he1⟩:∃e1,e1=firstE s cu cg dir nm:=⟨_,rfl⟩
  have hXd:X.dir=dir∧X.name=nm∧X.depth=0∧X.no=rdN s (lookN s.t cu cg dir nm):=by rw[hX];exact⟨rfl,rfl,rfl,rfl⟩
  have KL:Hid (Calls Tryz.prog 43 #[.pointer (some ⟨f.bF,0,none⟩),.agg #[.int .i64 cu,.int .i64 cg],.int .i64 dir,.string (bs nm)] W0 (Ret W0 (.tuple #[.int .i64 X.no,.int .i64 e1]))):=by
    show Calls _ _ _ _ _
    rw [hXd.2.2.2,he1]
    exact h0.look21 hs hc cu cg dir nm
  unfold DownT at hT
  rw [←hX,←he1]at hT
  have HT:=zH hT
  have HXD:=zH hXd
  have HS:=zH hs
  have HR:=zH h0
  have HW:=zH hW0
  have HE0:=zH E0
  have c0:=C0.cell 0
  have c1:=C0.cell 1
  have cz:=C0.lt
  simp only[gA,gB,gC]at c0 c1
  clear hT hX he1 hXd hs h0 h
  go_enter Tryz.func15,Tryz.ntmps15
  go_upto_region 2 with fail
  rw [show (w.alloc _).alloc _=W0 from hW0.symm,←hb9,←hb5]
  have hb9w:w.heap.size≤b9:=by omega
  clear hW0 hb5 hb9
  go_wp2_with fail
  refine KL.out.mono ?_
  rintro e w1 ⟨rfl,b1⟩
  clear c0 c1 cz KL
  go_upto_region 4 with fail
  obtain ⟨W2,hW2⟩:∃V,V=w1.alloc (.cells #[.int .i64 dir,.string (bs nm),.int .i64 X.no,.int .i64 0] 41):=⟨_,rfl⟩
  obtain ⟨br,hbr⟩:∃b,b=w1.heap.size:=⟨_,rfl⟩
  have N2:Has W2 br (.cells (spotC X).toArray 41):=by
    rw [hW2,hbr]
    have e:(spotC X).toArray=#[.int .i64 dir,.string (bs nm),.int .i64 X.no,.int .i64 0]:=by
      show #[Value.int .i64 X.dir,.string (bs X.name),.int .i64 X.no,.int .i64 X.depth]=_
      rw [HXD.out.1,HXD.out.2.1,HXD.out.2.2.1]
    rw [e]
    exact Has.new _ _
  have E2:Ext w1 W2:=by rw[hW2];exact (Ext.refl _).alloc _
  have hbr1:w1.heap.size≤br:=by omega
  have O2:OwnP W2 w1.heap.size (.slice (some ⟨br,0,none⟩) 1 1) [X]:=⟨rfl,.inr ⟨br,1,_,rfl,hbr1,N2,Nat.le_refl _,by decide,rfl,rfl⟩⟩
  rw [←hW2,←hbr]
  have HE1:=zH (E0.trans b1)
  have HR0':=zH (R0.ext b1)
  have HC0':=zH (C0.ext b1)
  have HRS:=zH (HR.out.ext b1)
  clear hW2 hbr R0 C0 HW HE0 b1 E0 HR
  go_loopg [11,14] (l.length+1) (fun m vo vt wr=>∃p t,OwnP wr w1.heap.size vo p∧OwnP wr w1.heap.size vt t∧(∀g,vo.ownBlock=some g→vt.ownBlock≠some g)∧Ext w1 wr∧t.length≤1+p.length*1000∧(∀y∈t,0≤y.depth∧y.depth≤p.length) ∧
    ((e1≠0∧p=[]∧t=[X]∧l=[]∧b0=X∧e0=e1)∨(e1=0∧s.dead=false∧∃l1,DownR s.t cu cg t l1 b0 e0∧l=p++l1∧m=l1.length+1)))
  case atStart =>
    refine ⟨[],[X],OwnP.nil _ _,O2,fun g hg=>(by cases hg),E2,by simp,fun y hy=>?_,?_⟩
    · rw[List.mem_singleton]at hy;subst hy;rw[HXD.out.2.2.1];simp
    · rcases HT.out with⟨h1,h2,h3,h4⟩|⟨h1,h2,h3⟩
      · exact .inl ⟨h1,rfl,rfl,h2,h3,h4⟩
      · exact .inr ⟨h1,h2,l,h3,rfl,rfl⟩
  case round =>
    clear O2 N2 E2
    obtain ⟨p,t,hO,hV,hap,hE,htl,hdep,hrest⟩:=hrel
    obtain ⟨A,cap,rfl,_,_,hat,_⟩:=hV.at_
    obtain ⟨A1,cap1,rfl,_,_,_,_⟩:=hO.at_
    by_cases he:e1=0
    case neg =>
      obtain ⟨_,hp,ht,hl,hb0,he0⟩:e1≠0∧p=[]∧t=[X]∧l=[]∧b0=X∧e0=e1:=by
        rcases hrest with h1|⟨h1,_⟩
        · exact h1
        · exact absurd h1 he
      subst hp
      subst ht
      have t1:(e1 == 0)=false:=by simpa using he
      have t3:(e1 != 0)=true:=by simpa using he
      obtain ⟨gt,rfl⟩:∃gt,A=some ⟨gt,0,none⟩:=by
        rcases hV.cases with⟨h1,h2⟩|⟨g,_,_,h2,_⟩
        · cases h2
        · injection h2 with h2;exact⟨g,h2⟩
      obtain ⟨hgt0,hgtl,hcell⟩:w1.heap.size≤gt∧gt<wr.heap.size∧∀j,j<4→wr.cell? ⟨gt,j,none⟩=(spotC X)[j]?:=by
        rcases hV.cases with⟨h1,_⟩|⟨g,cap',cur,h1,h2,h3,h4,h5,h6⟩
        · cases h1
        · injection h1 with h1 _ _
          injection h1 with h1
          injection h1 with h1
          subst h1
          exact ⟨h2,h3.lt,fun j hj=>by have:=h6 0 (Nat.succ_pos _) j hj;rw[Nat.zero_mul,Nat.zero_add]at this;exact this⟩
      have hb9l:b9<w1.heap.size:=HR0'.out.lt
      have hgb:gt≠b9:=by omega
      have HO:=zH hO
      have HE4w:=zH (HE1.out.trans hE)
      have R4:=HR0'.out.ext hE
      obtain ⟨Ph,hPh⟩:∃Ph:Nat→World→Prop,Ph=fun j w'=>Only [b9] wr w'∧Has w' b9 (.cells (spotC (if 1≤j then X else spotZ)).toArray 41):=⟨_,rfl⟩
      have HV2:Hid (Ph 0 wr.drew):=by
        show Ph 0 _
        rw [hPh]
        exact ⟨Only.of_ext (Ext.refl _).drew,R4.ext (Ext.refl _).drew⟩
      have hne:Nonempty (Hp Ph):=⟨⟨0,_,HV2.out⟩⟩
      have uX:∀u:Hp Ph,∀j,j<4→u.w.cell? ⟨gt,j,none⟩=(spotC X)[j]?:=by
        rw [hPh]
        exact Hp.all (T:=fun w'=>∀j,j<4→w'.cell? ⟨gt,j,none⟩=(spotC X)[j]?) (fun _ _ h j hj=>(cell_same (h.1.block gt hgtl (by simpa using hgb)) j).trans (hcell j hj))
      have ux0:∀u:Hp Ph,u.w.cell? ⟨gt,0,none⟩=some (.int .i64 X.dir):=fun u=>uX u 0 (by decide)
      have ux1:∀u:Hp Ph,u.w.cell? ⟨gt,1,none⟩=some (.string (bs X.name)):=fun u=>uX u 1 (by decide)
      have ux2:∀u:Hp Ph,u.w.cell? ⟨gt,2,none⟩=some (.int .i64 X.no):=fun u=>uX u 2 (by decide)
      have ux3:∀u:Hp Ph,u.w.cell? ⟨gt,3,none⟩=some (.int .i64 X.depth):=fun u=>uX u 3 (by decide)
      have S0:Hid (∀u,Ph 0 u→∃cs tt,Has u b9 (.cells cs tt)∧cs.size=(Value.agg (spotC X).toArray).cells.size∧Ph 1 (u.setCells b9 0 (Value.agg (spotC X).toArray).cells.toList)):=by
        show ∀_,_
        rw [hPh]
        rintro u ⟨h1,h2⟩
        exact ⟨_,_,h2,rfl,h1.then (only_setCells (g:=b9) (spotC X) 0 u),h2.putSpot X⟩
      have KQ:Hid (∀w',Ph 1 w'→Only [b9] wr w'∧Has w' b9 (.cells (spotC X).toArray 41)):=by
        show ∀_,_
        rw [hPh]
        exact fun _ h=>h
      have HL:=zH hl
      have HB:=zH hb0
      have HEZ:=zH he0
      clear hPh uX he hrest hl hb0 he0 hO hV hap hE htl hdep hat hcell
      simp only[List.length_nil,List.length_cons,Nat.zero_add]
      go_upto_region 12 with fail
      refine wp_region_phase Ph [6] (by kernel_rfl) (by kernel_rfl) (by kernel_rfl) HV2.out ?_
      repeat (first
        | (refine wpLexE_plain (by kernel_rfl) (fun K hK=>?_)
           go_simp
           refine hK _ ?_
           clear hK K)
        | (refine wpLexE_change 0 (by kernel_rfl) rfl (fun K hK=>?_)
           refine ⟨undef,change_store rfl _ _ b9 (.agg (spotC X).toArray) rfl rfl infoSpot4 (all_oneCell_toArray (cs:=spotC X) (spotC_one X)) S0.out,hK _ ?_⟩
           clear hK K
           try simp only[Act.put]))
      refine wpLexE_nil ?_
      intro w9 hw9
      obtain ⟨O9,R9⟩:=KQ.out _ hw9
      clear ux0 ux1 ux2 ux3 S0 HV2 hw9 KQ
      iterate 12 (try (first|go_values|go_skip|go_guarded|go_step|go_upon))
      have y0:=R9.cell 0
      have y1:=R9.cell 1
      have y2:=R9.cell 2
      have y3:=R9.cell 3
      have hww:w.heap.size≤w1.heap.size:=HE1.out.size
      refine bodyPost_ret (v:=.tuple #[.slice A1 0 cap1,.agg (spotC X).toArray,.int .i64 e1]) (by simp[results,Tryz.results15,go_sem,y0,y1,y2,y3]) rfl ?_
      exact ⟨_,by rw[HB.out,HEZ.out],by rw[HL.out];exact (HO.out.only O9 (fun g hg hm=>by have:=(HO.out.lt hg).1;rw[List.mem_singleton]at hm;omega)).base hww,O9.after HE4w.out (fun z hz=>by rw[List.mem_singleton]at hz;omega)⟩
    obtain ⟨_,hd,l1,hD,hL,hm⟩:e1=0∧s.dead=false∧∃l1,DownR s.t cu cg t l1 b0 e0∧l=p++l1∧gk=l1.length+1:=by
      rcases hrest with⟨h1,_⟩|h1
      · exact absurd he h1
      · exact h1
    subst he
    cases t with
    | nil =>
      obtain ⟨rfl,rfl,rfl⟩:l1=[]∧b0=spotZ∧e0=0:=by cases hD;exact⟨rfl,rfl,rfl⟩
      have HL:=zH hL
      have HO:=zH hO
      have HEE:=zH hE
      obtain ⟨np,hnp⟩:∃np,np=p.length:=⟨_,rfl⟩
      rw [←hnp]at HO⊢
      have R5:=HR0'.out.ext hE
      clear hD hL hO hV hap hE htl hdep hrest hm hat hnp
      simp only[List.length_nil]
      go_wp2_with (refine wpList_store_spot rfl _ _ rfl b9 spotZ spotZ rfl rfl R5 ?_;intro w9 R9 O9)
      have y0:=R9.cell 0
      have y1:=R9.cell 1
      have y2:=R9.cell 2
      have y3:=R9.cell 3
      have hb9l:b9<w1.heap.size:=HR0'.out.lt
      have hww:w.heap.size≤w1.heap.size:=HE1.out.size
      refine bodyPost_ret (v:=.tuple #[.slice A1 np cap1,.agg (spotC spotZ).toArray,.int .i64 0]) (by simp[results,Tryz.results15,go_sem,y0,y1,y2,y3]) rfl ?_
      exact ⟨_,rfl,by rw[HL.out,List.append_nil];exact (HO.out.only O9 (fun g hg hm=>by have:=(HO.out.lt hg).1;rw[List.mem_singleton]at hm;omega)).base hww,O9.after (HE1.out.trans HEE.out) (fun z hz=>by rw[List.mem_singleton]at hz;omega)⟩
    | cons x' t' =>
      have hV0:=hV
      obtain ⟨gt,rfl⟩:∃gt,A=some ⟨gt,0,none⟩:=by
        rcases hV.cases with⟨h1,h2⟩|⟨g,_,_,h2,_⟩
        · cases h2
        · injection h2 with h2;exact⟨g,h2⟩
      obtain ⟨hgt0,hgtl,hcell⟩:w1.heap.size≤gt∧gt<wr.heap.size∧∀k,(h:k<(x'::t').length)→∀j,j<4→wr.cell? ⟨gt,k*4+j,none⟩=(spotC (x'::t')[k])[j]?:=by
        rcases hV.cases with⟨h1,_⟩|⟨g,cap',cur,h1,h2,h3,h4,h5,h6⟩
        · cases h1
        · injection h1 with h1 _ _
          injection h1 with h1
          injection h1 with h1
          subst h1
          exact ⟨h2,h3.lt,h6⟩
      have q0:wr.cell? ⟨gt,0,none⟩=some (.int .i64 x'.dir):=hcell 0 (Nat.succ_pos _) 0 (by decide)
      have q1:wr.cell? ⟨gt,1,none⟩=some (.string (bs x'.name)):=hcell 0 (Nat.succ_pos _) 1 (by decide)
      have q2:wr.cell? ⟨gt,2,none⟩=some (.int .i64 x'.no):=hcell 0 (Nat.succ_pos _) 2 (by decide)
      have q3:wr.cell? ⟨gt,3,none⟩=some (.int .i64 x'.depth):=hcell 0 (Nat.succ_pos _) 3 (by decide)
      obtain ⟨T,hT⟩:∃T,T=t'.length:=⟨_,rfl⟩
      obtain ⟨np,hnp⟩:∃np,np=p.length:=⟨_,rfl⟩
      have e2:(x'::t').length=T+1:=by rw[hT];rfl
      rw [e2]at hV htl⊢
      rw [←hnp]at hO htl⊢
      have hdx:=hdep x' (List.mem_cons_self ..)
      have hpl:np≤1000:=by rw[hnp];have:=congrArg List.length hL;rw[List.length_append]at this;omega
      rw [←hnp]at hdx
      have HV:=zH hV
      have HO:=zH hO
      have HAP:=zH hap
      have HEE:=zH hE
      have HDEP:=zH hdep
      have HD:=zH hD
      have HL:=zH hL
      have HM:=zH hm
      have HC:=zH hcell
      have HT2:=zH hT
      have HNP:=zH hnp
      have c0:=(HC0'.out.ext hE).cell 0
      have c1:=(HC0'.out.ext hE).cell 1
      have cz:=(HC0'.out.ext hE).lt
      simp only[gA,gB,gC]at c0 c1
      have KI:=zH (fun u (hu:Ext wr u)=>(HRS.out.ext (hE.trans hu)).into24 HS.out hc cu cg x' hdx.1 (by omega))
      clear hD hL hO hV hV0 hap hE hdep hrest hm hat hcell hT hnp e2
      go_upto_region 6 with fail
      obtain ⟨W5,hW5⟩:∃V,V=wr.alloc (.cells #[.int .i64 x'.dir,.string (bs x'.name),.int .i64 x'.no,.int .i64 x'.depth] 41):=⟨_,rfl⟩
      obtain ⟨bx,hbx⟩:∃b,b=wr.heap.size:=⟨_,rfl⟩
      have X5:Has W5 bx (.cells #[.int .i64 x'.dir,.string (bs x'.name),.int .i64 x'.no,.int .i64 x'.depth] 41):=by rw[hW5,hbx];exact Has.new _ _
      have E5:Ext wr W5:=by rw[hW5];exact (Ext.refl _).alloc _
      rw [←hW5,←hbx]
      have hbx1:wr.heap.size≤bx:=by omega
      clear hW5 hbx q0 q1 q2 q3
      have d0:=(E5.cell cz).trans c0
      have d1:=(E5.cell cz).trans c1
      have dz:b5<W5.heap.size:=by have:=E5.size;omega
      have x0:=X5.cell 0
      have x1:=X5.cell 1
      have x2:=X5.cell 2
      have x3:=X5.cell 3
      have xz:=X5.lt
      simp only[gA,gB,gC]at x0 x1 x2 x3
      clear c0 c1 cz
      go_upto_region 7 with (go_at_call 44;refine (KI.out _ E5).mono ?_;rintro e w4 ⟨v4,rfl,hO4,b4⟩)
      clear d0 d1 dz x0 x1 x2 x3 xz KI
      have hin:=in_alive hd cu cg x'
      obtain ⟨e3,he3⟩:∃e,e=inE s cu cg x':=⟨_,rfl⟩
      obtain ⟨l4,hl4⟩:∃e,e=inL s cu cg x':=⟨_,rfl⟩
      have hl4l:l4.length≤900:=by rw[hl4];exact Nat.le_trans (inL_len HS.out cu cg x') hc
      have hl4d:Hid (∀z∈l4,z.depth=x'.depth+1):=by show ∀_∈_,_;rw[hl4];exact fun z hz=>inL_depth hz
      rw [←he3,←hl4]at hin
      rw [←hl4]at hO4
      rw [←he3]
      have HIN:=zH hin
      have X4:=X5.ext b4
      have x0:=X4.cell 0
      have x1:=X4.cell 1
      have x2:=X4.cell 2
      have x3:=X4.cell 3
      have xz:=X4.lt
      simp only[gA,gB,gC]at x0 x1 x2 x3
      by_cases h3:e3=0
      case neg =>
        have t3:(e3 != 0)=true:=by simpa using h3
        obtain ⟨hl1,hb0,he0⟩:l1=[]∧b0=x'∧e0=e3:=by
          have hne:intoE s.t cu cg x'≠0:=by rw[←HIN.out.1];exact h3
          have hd2:=HD.out
          cases hd2 with
          | bad h=>exact⟨rfl,rfl,HIN.out.1.symm⟩
          | step h _=>exact absurd h hne
        have HL1:=zH hl1
        have R4:=HR0'.out.ext (HEE.out.trans (E5.trans b4))
        have HO4w:=zH (HO.out.ext (E5.trans b4))
        have HE4w:=zH (HE1.out.trans (HEE.out.trans (E5.trans b4)))
        obtain ⟨Ph,hPh⟩:∃Ph:Nat→World→Prop,Ph=fun j w'=>Only [b9] w4 w'∧Has w' b9 (.cells (spotC (if 1≤j then x' else spotZ)).toArray 41):=⟨_,rfl⟩
        have HV2:Hid (Ph 0 w4.drew):=by
          show Ph 0 _
          rw [hPh]
          exact ⟨Only.of_ext (Ext.refl _).drew,R4.ext (Ext.refl _).drew⟩
        have hne:Nonempty (Hp Ph):=⟨⟨0,_,HV2.out⟩⟩
        have hb9x:bx≠b9:=by have:=HR0'.out.lt;have:=HEE.out.size;omega
        have uX:∀u:Hp Ph,Has u.w bx (.cells #[.int .i64 x'.dir,.string (bs x'.name),.int .i64 x'.no,.int .i64 x'.depth] 41):=by
          rw [hPh]
          exact Hp.all (T:=fun w'=>Has w' bx (.cells #[.int .i64 x'.dir,.string (bs x'.name),.int .i64 x'.no,.int .i64 x'.depth] 41)) (fun _ _ h=>h.1.has X4 (by simpa using hb9x))
        have ux0:∀u:Hp Ph,u.w.cell? ⟨bx,0,none⟩=some (.int .i64 x'.dir):=fun u=>(uX u).cell 0
        have ux1:∀u:Hp Ph,u.w.cell? ⟨bx,1,none⟩=some (.string (bs x'.name)):=fun u=>(uX u).cell 1
        have ux2:∀u:Hp Ph,u.w.cell? ⟨bx,2,none⟩=some (.int .i64 x'.no):=fun u=>(uX u).cell 2
        have ux3:∀u:Hp Ph,u.w.cell? ⟨bx,3,none⟩=some (.int .i64 x'.depth):=fun u=>(uX u).cell 3
        have S0:Hid (∀u,Ph 0 u→∃cs tt,Has u b9 (.cells cs tt)∧cs.size=(Value.agg (spotC x').toArray).cells.size∧Ph 1 (u.setCells b9 0 (Value.agg (spotC x').toArray).cells.toList)):=by
          show ∀_,_
          rw [hPh]
          rintro u ⟨h1,h2⟩
          exact ⟨_,_,h2,rfl,h1.then (only_setCells (g:=b9) (spotC x') 0 u),h2.putSpot x'⟩
        have KQ:Hid (∀w',Ph 1 w'→Only [b9] w4 w'∧Has w' b9 (.cells (spotC x').toArray 41)):=by
          show ∀_,_
          rw [hPh]
          exact fun _ h=>h
        clear hPh uX h3 hl1 x0 x1 x2 x3 xz hO4 hin
        have hb0:=hb0.symm
        have he0:=he0.symm
        subst hb0 he0
        go_upto_region 8 with fail
        refine wp_region_phase Ph [4] (by kernel_rfl) (by kernel_rfl) (by kernel_rfl) HV2.out ?_
        repeat (first
          | (refine wpLexE_plain (by kernel_rfl) (fun K hK=>?_)
             go_simp
             refine hK _ ?_
             clear hK K)
          | (refine wpLexE_change 0 (by kernel_rfl) rfl (fun K hK=>?_)
             refine ⟨undef,change_store rfl _ _ b9 (.agg (spotC x').toArray) rfl rfl infoSpot4 (all_oneCell_toArray (cs:=spotC x') (spotC_one x')) S0.out,hK _ ?_⟩
             clear hK K
             try simp only[Act.put]))
        refine wpLexE_nil ?_
        intro w9 hw9
        obtain ⟨O9,R9⟩:=KQ.out _ hw9
        clear ux0 ux1 ux2 ux3 S0 HV2 hw9 KQ
        iterate 12 (try (first|go_values|go_skip|go_guarded|go_step|go_upon))
        have y0:=R9.cell 0
        have y1:=R9.cell 1
        have y2:=R9.cell 2
        have y3:=R9.cell 3
        have hb9l:b9<w1.heap.size:=HR0'.out.lt
        have hww:w.heap.size≤w1.heap.size:=HE1.out.size
        refine bodyPost_ret (v:=.tuple #[.slice A1 np cap1,.agg (spotC x').toArray,.int .i64 (inE s cu cg x')]) (by simp[results,Tryz.results15,go_sem,y0,y1,y2,y3]) rfl ?_
        exact ⟨_,by rw[he3],by rw[HL.out,HL1.out,List.append_nil];exact (HO4w.out.only O9 (fun g hg hm=>by have:=(HO.out.lt hg).1;rw[List.mem_singleton]at hm;omega)).base hww,O9.after HE4w.out (fun z hz=>by rw[List.mem_singleton]at hz;omega)⟩
      have t3:(e3 != 0)=false:=by simpa using h3
      obtain ⟨l2,hL2,hD2⟩:∃l2,l1=x'::l2∧DownR s.t cu cg (l4++t') l2 b0 e0:=by
        have h0:intoE s.t cu cg x'=0:=by rw[←HIN.out.1];exact h3
        have hd2:=HD.out
        rw [HIN.out.2]
        cases hd2 with
        | bad h=>exact absurd h0 h
        | step _ hd3=>exact⟨_,rfl,hd3⟩
      have HL2:=zH hL2
      have HD2:=zH hD2
      obtain ⟨A4,c4,hv4,hc41,_⟩:=hO4.at_
      obtain ⟨n4,hn4⟩:∃n4,n4=l4.length:=⟨_,rfl⟩
      rw [←hn4]at hv4
      have HO4:=zH hO4
      subst hv4
      have E4:Ext wr w4:=E5.trans b4
      have hs14:w1.heap.size≤w4.heap.size:=(HEE.out.trans E4).size
      obtain ⟨v6,w6,hr6,hO6,hg6,hb6⟩:=app_spot w4 (HO.out.ext E4) hs14 x' (by rw[←HNP.out];omega)
      have E6:Ext w1 w6:=((HEE.out.trans E4).alloc _).grown hg6 (fun g hv=>(HO.out.lt hv).1)
      have o6:Only (Value.slice A1 np cap1).ownBlock.toList w4 w6:=(Only.allocN _ _ _).then (Only.of_grownBy hg6 (fun g hv=>Option.mem_toList.2 hv))
      have O46:OwnP w6 w1.heap.size (.slice A4 n4 c4) l4:=(HO4.out.only o6 (fun g hv hm=>by
        have h1:=(HO4.out.lt hv).1
        have h2:=(HO.out.lt (Option.mem_toList.1 hm)).2
        have:=E5.size
        omega)).base (by have:=(HEE.out.trans E5).size;exact this)
      obtain ⟨o,ho,hso⟩:∃o,(cap=1∧o=0∨cap≠1∧o=4)∧(if cap=1 then some (⟨gt,0,none⟩:Addr) else some ⟨gt,4,none⟩)=some ⟨gt,o,none⟩:=by
        by_cases hcp:cap=1
        · exact⟨0,.inl ⟨hcp,rfl⟩,by rw[if_pos hcp]⟩
        · exact⟨4,.inr ⟨hcp,rfl⟩,by rw[if_neg hcp]⟩
      have hTc:T+1≤cap:=by
        rcases HV.out.2 with⟨e,_⟩|⟨g,cap',_,e,_,_,hn,_⟩
        · cases e
        · injection e with _ e1 e2
          omega
      have hgt6:∀j,w6.cell? ⟨gt,j,none⟩=wr.cell? ⟨gt,j,none⟩:=fun j=>cell_same ((o6.block gt (by have:=E4.size;omega) (fun hm=>by have hm2:=Option.mem_toList.1 hm;rw[HNP.out]at hm2;exact HAP.out gt hm2 rfl)).trans (Below.block E4 gt hgtl)) j
      have hh2:∀k,(h:k<t'.length)→∀j,j<4→w6.cell? ⟨gt,o+k*4+j,none⟩=(spotC t'[k])[j]?:=fun k hk j hj=>by
        rcases ho with⟨h1,_⟩|⟨_,rfl⟩
        · have:=HT2.out;omega
        · have h:=HC.out (k+1) (by simpa using hk) j hj
          rw [hgt6,show 4+k*4+j=(k+1)*4+j by omega,h]
          simp
      have htt:t'.length=T:=HT2.out.symm
      obtain ⟨v8,w8,hr8,hO8,hg8,hb8⟩:=app_spots w6 O46 E6.size t' gt o (cap-1) hh2 (by omega) (by omega)
      rw [htt]at hr8
      have HR6:=zH hr6
      have HR8:=zH hr8
      have E8:Ext w1 w8:=E6.grown hg8 (fun g hv=>(O46.lt hv).1)
      have hv6:∀g,v6.ownBlock=some g→g<W5.heap.size∨w4.heap.size≤g:=fun g hg=>by
        rcases hb6 with e|e
        · rw[e]at hg;have:=(HO.out.lt hg).2;have:=E5.size;exact .inl (by omega)
        · rw[e]at hg;injection hg with hg;exact .inr (by omega)
      have O68:OwnP w8 w1.heap.size v6 (p++[x']):=hO6.only (L:=(Value.slice A4 n4 c4).ownBlock.toList) (Only.of_grownBy hg8 (fun g hv=>Option.mem_toList.2 hv)) (fun g hg hm=>by
        have h2:=HO4.out.lt (Option.mem_toList.1 hm)
        rcases hv6 g hg with h|h<;>omega)
      have hap8:∀g,v6.ownBlock=some g→v8.ownBlock≠some g:=fun g hg he=>by
        rcases hb8 with e|e
        · rw [e]at he
          have h2:=HO4.out.lt he
          rcases hv6 g hg with h|h<;>omega
        · rw [e]at he
          injection he with he
          have:=(hO6.lt hg).2
          omega
      have HO8:=zH hO8
      have HO68:=zH O68
      have HAP8:=zH hap8
      have HE8:=zH E8
      have HCC:=zH hTc
      clear hL2 hD2 hO4 hn4 E4 hs14 hr6 hO6 hg6 hb6 E6 o6 O46 hgt6 hh2 hr8 hO8 hg8 hb8 E8 hv6 O68 hap8 ho he3 hl4 hin X4 X5 E5 b4
      go_wp2_with (first|(at_builtin;refine Lib.wpList_append_run _ rfl _ _ 39 39 rfl _ _ rfl rfl _ _ HR6.out ?_)|(at_builtin;refine Lib.wpList_append_run _ rfl _ _ 39 39 rfl _ _ rfl rfl _ _ HR8.out ?_))
      go_roundg (l2.length+1)
      case measure=>rw[HM.out,HL2.out];simp
      case rel =>
        refine ⟨p++[x'],l4++t',HO68.out,HO8.out,HAP8.out,HE8.out,?_,fun z hz=>?_,.inr ⟨by trivial,hd,l2,HD2.out,by rw[HL.out,HL2.out];simp,rfl⟩⟩
        · have:=HT2.out
          have:=HNP.out
          rw [List.length_append,List.length_append,List.length_singleton]
          omega
        · have:=HNP.out
          rw [List.length_append,List.length_singleton]
          rcases List.mem_append.1 hz with hm|hm
          · have:=hl4d.out z hm
            omega
          · have:=HDEP.out z (List.mem_cons_of_mem _ hm)
            omega
end
end Go.Proofs.YtpibnfdolojpcaaGreat
