import Derived.Test.YtpibnfdolojpcaaGreatBunN
import Derived.Test.YtpibnfdolojpcaaGreatBunM
import Derived.Test.YtpibnfdolojpcaaGreatBunJ
import Derived.Test.YtpibnfdolojpcaaGreatBunP
set_option maxHeartbeats 8000000
set_option maxRecDepth 100000
namespace Go.Proofs.YtpibnfdolojpcaaGreat
section
open Go.ChangeShapes Go.WideShapes Go.ChangeAt Go.RowKit
theorem IH {s:av} {cu cg no:Int} (h:fk s (bt s.t cu cg no 1 4)≠0):sa s (bo s.t (bf s.t cu cg no 1 4).af)=[]:=by
 unfold fk at h;unfold sa;split
 ·rfl
 ·rename_i hd
  rw [if_neg hd]at h;unfold bf;rw [if_neg h];rfl
section
variable {c:Nat} {w:World} {B:Nat} {f:cI} {s:av}
theorem RS.UK (h:RS w B f s) (hs:eH c s) (hc:c<=900) (cu cg:Int) (x:aj) (aV:0<=x.depth) (sI:x.depth<=1000000) :
  Calls Tryz.prog 44 #[.pointer (some ⟨f.bF,0,none⟩),.agg #[cu,cg],.agg #[.int .i64 x.dir,bs x.name,x.no,.int .i64 x.depth]] w (FL w (nr s cu cg x) (jP s cu cg x)):=by
 obtain ⟨W0,aH⟩:∃W,W=(w.alloc (.cells #[cu,cg] 27)).alloc (.cells #[.int .i64 x.dir,bs x.name,x.no,.int .i64 x.depth] 41):=⟨_,rfl⟩;obtain ⟨b4,oq⟩:∃b,b=w.heap.size:=⟨_,rfl⟩;obtain ⟨b5,gQ⟩:∃b,b=w.heap.size+1:=⟨_,rfl⟩;have E0:Ext w W0:=by rw[aH];exact ((Ext.refl _).alloc _).alloc _
 have X0:Has W0 b5 (.cells #[.int .i64 x.dir,bs x.name,x.no,.int .i64 x.depth] 41):=by rw[aH,gQ];have:=Has.new (w.alloc (.cells #[cu,cg] 27)) (.cells #[.int .i64 x.dir,bs x.name,x.no,.int .i64 x.depth] 41);rw[World.size_alloc]at this;exact this
 have C0:Has W0 b4 (.cells #[cu,cg] 27):=by rw[aH,oq];exact (Has.new w _).alloc _
 have h0:=h.ext E0;obtain ⟨e1,lF⟩:∃e,e=fk s (cT s.t x.no):=⟨_,rfl⟩;obtain ⟨e2,mi⟩:∃e,e=fk s (cT s.t x.dir):=⟨_,rfl⟩;obtain ⟨e3,pY⟩:∃e,e=fk s (bt s.t cu cg x.no 1 4):=⟨_,rfl⟩;obtain ⟨m1,fX⟩:∃m,m=q_ s (ac s.t.nodes x.no):=⟨_,rfl⟩;obtain ⟨m2,bU⟩:∃m,m=q_ s (ac s.t.nodes x.dir):=⟨_,rfl⟩;obtain⟨L,hL⟩:=zE (sa s (bo s.t (bf s.t cu cg x.no 1 4).af));have Us:L.length<=1000000:=by
  rw [hL];unfold sa;split
  ·simp
  ·rw[gG];have:=(hs.fE.bf cu cg x.no 1 4).2;omega
 have K1:Hid (∀u,Ext W0 u->Calls Tryz.prog 91 #[.pointer (some ⟨f.bF,0,none⟩),x.no] u (aI u (.tuple #[gU m1,.int .i64 e1]))):=by
  show ∀u,_;intro u hu;rw [fX,lF];exact (h0.ext hu).Mw hs hc x.no
 have K2:Hid (∀u,Ext W0 u->Calls Tryz.prog 91 #[.pointer (some ⟨f.bF,0,none⟩),.int .i64 x.dir] u (aI u (.tuple #[gU m2,.int .i64 e2]))):=by
  show ∀u,_;intro u hu;rw [bU,mi];exact (h0.ext hu).Mw hs hc x.dir
 have K3:Hid (∀u,Ext W0 u->Calls Tryz.prog 92 #[.pointer (some ⟨f.bF,0,none⟩),.agg #[cu,cg],x.no] u (qC u L e3)):=by
  show ∀u,_;intro u hu;rw [hL,pY];exact (h0.ext hu).Uo hs hc cu cg x.no
 have N1:Hid (e1≠0->jP s cu cg x=e1):=fun k=>by rw[lF]at k|-;exact ME k
 have N2:Hid (e1=0->e2≠0->jP s cu cg x=e2):=fun k1 k2=>by rw[lF]at k1;rw[mi]at k2|-;exact MF k1 k2
 have N3:Hid (e1=0->e2=0->m1.dev≠m2.dev->jP s cu cg x=16):=fun k1 k2 k3=>by rw[lF]at k1;rw[mi]at k2;rw[fX,bU]at k3;exact MG k1 k2 k3
 have N4:Hid (e1=0->e2=0->m1.dev=m2.dev->m1.kind≠1->jP s cu cg x=0/\nr s cu cg x=[]):=fun k1 k2 k3 k4=>by rw[lF]at k1;rw[mi]at k2;rw[fX,bU]at k3;rw[fX]at k4;exact FO k1 k2 k3 k4
 have N5:Hid (e1=0->e2=0->m1.dev=m2.dev->¬m1.kind≠1->jP s cu cg x=e3/\(e3=0->nr s cu cg x=L.map (dZ x))):=fun k1 k2 k3 k4=>by rw[lF]at k1;rw[mi]at k2;rw[fX,bU]at k3;rw[fX]at k4;rw[pY,hL];exact FP k1 k2 k3 k4
 have NL:Hid (e3≠0->L=[]):=fun k=>by rw[pY]at k;rw[hL];exact IH k
 have NE:Hid (jP s cu cg x≠0->nr s cu cg x=[]):=fun k=>FM k
 obtain ⟨IE,Yy⟩:∃e,e=jP s cu cg x:=⟨_,rfl⟩;obtain ⟨IL,Yz⟩:∃e,e=nr s cu cg x:=⟨_,rfl⟩;rw [<-Yy]at N1 N2 N3 N4 N5 NE|-;rw [<-Yz]at N4 N5 NE|-;have c0:=C0.cell 0;have c1:=C0.cell 1;have cz:=C0.lt;have x0:=X0.cell 0;have x1:=X0.cell 1;have x2:=X0.cell 2;have x3:=X0.cell 3;have xz:=X0.lt;simp only[gA,gB,gC]at x0 x1 x2 x3;clear h h0 hs lF mi pY fX bU hL Yy Yz;go_enter Tryz.func44,Tryz.ntmps44;go_upto_region 1 with fail;rw [show (w.alloc _).alloc _=W0 from aH.symm,<-gQ,<-oq];clear aH oq gQ;unfold gU at K1 K2;go_wp2_with fail;refine (K1.out _ (Ext.refl _)).mono ?_;rintro e w1 ⟨rfl,b1⟩;clear c0 c1 cz x0 x1 x2 x3 xz K1;go_upto_region 2 with fail;obtain ⟨W1,bL⟩:∃W,W=w1.alloc (.cells #[m1.no,m1.dev,m1.kind,m1.mode,m1.uid,m1.gid,m1.ag,.int .i64 m1.data.length,m1.mtime,m1.ctime] 95):=⟨_,rfl⟩;obtain ⟨b8,fM⟩:∃b,b=w1.heap.size:=⟨_,rfl⟩;have S1:Has W1 b8 (.cells #[m1.no,m1.dev,m1.kind,m1.mode,m1.uid,m1.gid,m1.ag,.int .i64 m1.data.length,m1.mtime,m1.ctime] 95):=by rw[bL,fM];exact Has.new _ _
 have E1:Ext W0 W1:=by rw[bL];exact b1.alloc _
 rw [<-bL,<-fM];clear bL fM b1;have x0:=(X0.ext E1).cell 0;have xz:=(X0.ext E1).lt;simp only[gA,gB]at x0;go_wp2_with fail;refine (K2.out _ E1).mono ?_;rintro e w2 ⟨rfl,b2⟩;clear x0 xz K2;go_upto_region 3 with fail;obtain ⟨W2,cQ⟩:∃W,W=w2.alloc (.cells #[m2.no,m2.dev,m2.kind,m2.mode,m2.uid,m2.gid,m2.ag,.int .i64 m2.data.length,m2.mtime,m2.ctime] 95):=⟨_,rfl⟩;obtain ⟨CC,mL⟩:∃b,b=w2.heap.size:=⟨_,rfl⟩;have S2:Has W2 CC (.cells #[m2.no,m2.dev,m2.kind,m2.mode,m2.uid,m2.gid,m2.ag,.int .i64 m2.data.length,m2.mtime,m2.ctime] 95):=by rw[cQ,mL];exact Has.new _ _
 have Ut:Has W2 b8 (.cells #[m1.no,m1.dev,m1.kind,m1.mode,m1.uid,m1.gid,m1.ag,.int .i64 m1.data.length,m1.mtime,m1.ctime] 95):=by rw[cQ];exact (S1.ext b2).alloc _
 have E2:Ext W0 W2:=by rw[cQ];exact (E1.trans b2).alloc _
 rw [<-cQ,<-mL];clear cQ mL b2 S1 E1
 by_cases k1:e1=0
 case neg =>
  have t1:(e1 != 0)=true:=by simpa using k1
  have HK:=zH k1;have H1:=zH (N1.out k1);clear k1;go_wp2_with fail;go_ret2;have hz:IL=[]:=NE.out (by rw[H1.out];exact HK.out);exact ⟨.slice none 0 0,by rw[H1.out];rfl,by rw[hz];exact dw.nil _ _,E0.trans E2⟩
 have JH:=zH k1
 by_cases k2:e2=0
 case neg =>
  have t1:(e1 != 0)=false:=by simpa using k1
  have t2:(e2 != 0)=true:=by simpa using k2
  have HK:=zH k2;have H1:=zH (N2.out k1 k2);clear k1 k2;go_wp2_with fail;go_ret2;have hz:IL=[]:=NE.out (by rw[H1.out];exact HK.out);exact ⟨.slice none 0 0,by rw[H1.out];rfl,by rw[hz];exact dw.nil _ _,E0.trans E2⟩
 have Uu:=zH k2;have t1:(e1 != 0)=false:=by simpa using k1
 have t2:(e2 != 0)=false:=by simpa using k2
 clear k1 k2;have y1:=Ut.cell 1;have y2:=Ut.cell 2;have yz:=Ut.lt;have z1:=S2.cell 1;have zz:=S2.lt
 by_cases k3:m1.dev=m2.dev
 case neg =>
  have t3:(m1.dev != m2.dev)=true:=by simpa using k3
  have H1:=zH (N3.out JH.out Uu.out k3);clear k3;go_wp2_with fail;go_ret2;have hz:IL=[]:=NE.out (by rw[H1.out];decide);exact ⟨.slice none 0 0,by rw[H1.out];rfl,by rw[hz];exact dw.nil _ _,E0.trans E2⟩
 have t3:(m1.dev != m2.dev)=false:=by simpa using k3
 have Ii:=zH k3;clear k3
 by_cases k4:m1.kind=1
 case neg =>
  have t4:(m1.kind != 1)=true:=by simpa using k4
  have H1:=zH (N4.out JH.out Uu.out Ii.out k4);clear k4;go_wp2_with fail;go_ret2;exact ⟨.slice none 0 0,by rw[H1.out.1];rfl,by rw[H1.out.2];exact dw.nil _ _,E0.trans E2⟩
 have t4:(m1.kind != 1)=false:=by simpa using k4
 have H5:=zH (N5.out JH.out Uu.out Ii.out (fun k=>k k4));clear k4;have c0:=(C0.ext E2).cell 0;have c1:=(C0.ext E2).cell 1;have cz:=(C0.ext E2).lt;have x2:=(X0.ext E2).cell 2;have xz:=(X0.ext E2).lt;simp only[gA,gB,gC]at x2;go_wp2_with fail;refine (K3.out _ E2).mono ?_;rintro e w3 ⟨A,cap,rfl,⟨hat,_⟩,b3⟩;clear c0 c1 cz x2 xz K3 t1 t2 t3 t4 y1 y2 yz z1 zz;have HIL:Hid (IL=L.map (dZ x)):=by
  show _=_
  by_cases k5:e3=0
  ·exact H5.out.2 k5
  ·rw[NE.out (by rw[H5.out.1];exact k5),NL.out k5];rfl
 obtain⟨n,hn⟩:=zE L.length;rw [<-hn]at Us|-;have HN:=zH hn;have QA:=zH (E0.trans (E2.trans b3));have X3:=X0.ext (E2.trans b3);have MH:=zH X3;have hsz:w.heap.size<=w3.heap.size:=QA.out.size;have JE:=zH hat;clear hn hat X3;go_wp2_with fail;go_loopw [14,15] (fun vo vi wr=>∃k:Nat,vi=.int .i64 k/\k<=n/\dw wr w3.heap.size vo ((L.take k).map (dZ x))/\Ext w3 wr) (fun _ vi _=>n-(intOf vi).toNat)
 case atStart=>exact⟨0,rfl,Nat.zero_le _,dw.nil _ _,Ext.refl _⟩
 case round =>
  obtain ⟨k,rfl,hk,hO,hE⟩:=hrel
  by_cases hlt:(k:Int)<n
  ·have dI:k<L.length:=by have:=HN.out;omega
   obtain ⟨ba,o,rfl,M8,ea3,eb3⟩:=JE.out.XL dI;have wH:ba<wr.heap.size:=by have:=hE.size;omega
   have ea:=(hE.cell M8).trans ea3;have eb:=(hE.cell M8).trans eb3;have ng:Hid ((L.take (k+1)).map (dZ x)=(L.take k).map (dZ x)++[dZ x L[k]]):=by
    show _=_;rw [List.take_succ_eq_append_getElem dI,List.map_append];rfl
   have hlk:((L.take k).map (dZ x)).length<=1000000:=by rw[List.length_map,List.length_take];omega
   obtain⟨y,hy⟩:=zE (L[k]);rw [<-hy]at ea eb ng ea3 eb3;obtain ⟨yn,yo⟩:=y;have q0:(0:Int)<=(k:Int):=Int.natCast_nonneg _;have AY:IntKind.i64.wrap ((k:Int)+1)=(k:Int)+1:=IntWalk.i64_in _ (by omega);have Wh:IntKind.i64.wrap (x.depth+1)=x.depth+1:=IntWalk.i64_in _ (by omega);have X4:=MH.out.ext hE;have x2:=X4.cell 2;have x3:=X4.cell 3;have xz:=X4.lt;simp only[gA,gB,gC]at x2 x3;have X30:=MH.out;have x2':=X30.cell 2;have x3':=X30.cell 3;have VY:=X30.lt;simp only[gA,gB,gC]at x2' x3';have YS:w3.cell? ⟨ba,o+k*2,none⟩=some (.string (bs yn)):=ea3;have YT:w3.cell? ⟨ba,o+k*2+1,none⟩=some (.int .i64 yo):=eb3;have KS:Hid (∀w',Ext w3 w'->(Ext w3 w'/\w'.cell? ⟨b5,2,none⟩=some (.int .i64 x.no)/\w'.cell? ⟨b5,3,none⟩=some (.int .i64 x.depth)/\w'.cell? ⟨ba,o+k*2,none⟩=some (.string (bs yn))/\w'.cell? ⟨ba,o+k*2+1,none⟩=some (.int .i64 yo))):=fun w' h'=>⟨h',(h'.cell VY).trans x2',(h'.cell VY).trans x3',(h'.cell M8).trans YS,(h'.cell M8).trans YT⟩
   have bL:Ext w3 wr.drew:=hE.drew;have Uv:w3.heap.size<=wr.drew.heap.size:=bL.size;have HOD:=zH (hO.ext ((Ext.refl wr).drew));clear hO hE ea eb X4 hy ea3 eb3 M8 YS YT x2 x3 xz x2' x3' VY X30 wH;go_upto_region 16 with fail;go_region_held3 (fun w'=>Ext w3 w'/\w'.cell? ⟨b5,2,none⟩=some (.int .i64 x.no)/\w'.cell? ⟨b5,3,none⟩=some (.int .i64 x.depth)/\w'.cell? ⟨ba,o+k*2,none⟩=some (.string (bs yn))/\w'.cell? ⟨ba,o+k*2+1,none⟩=some (.int .i64 yo))
    ((first|exact KS.out _ bL|exact KS.out _ (bL.alloc _)|exact KS.out _ Sg))
    ((refine ko _ (by rfl) _ _ 39 (by rfl) _ _ (by rfl) (by rfl) (qI wr.drew HOD.out Uv ⟨x.no,yn,yo,x.depth+1⟩ (by omega)) ?_;rintro v9 w9 ⟨JC,JD,_⟩;have Sg:Ext w3 w9:=(bL.alloc _).grown JD (fun g hv=>(HOD.out.lt hv).1)))
   have XO:=zH JC;clear JC JD;go_wp2_with fail;go_roundw
   case rel=>exact⟨k+1,by go_num,by omega,by rw[ng.out];exact XO.out,Sg⟩
   case measure=>simp[intOf];omega
  ·have Ah:k=L.length:=by have:=HN.out;omega
   have HOW:=zH hO;have xx:=zH hE;have hf:Hid ((L.take k).map (dZ x)=L.map (dZ x)):=by show _=_;rw[Ah,List.take_length]
   clear hO hE Ah;go_wp2_with fail;go_ret2;exact ⟨_,by rw[H5.out.1];rfl,by rw[HIL.out,<-hf.out];exact HOW.out.base hsz,QA.out.trans xx.out⟩
end
end
section
open Go.ChangeShapes Go.WideShapes Go.ChangeAt Go.RowKit
section
variable {c:Nat} {w:World} {B:Nat} {f:cI} {s:av}
theorem RS.UL (h:RS w B f s) (hs:eH c s) (hc:c<=900) (cu cg dir:Int) (nm:List UInt8) (l:List aj) (b0:aj) (e0:Int) (hT:vv s cu cg dir nm l b0 e0) (hlen:l.length<=1000) :
    Calls Tryz.prog 15 #[.pointer (some ⟨f.bF,0,none⟩),.agg #[cu,cg],.int .i64 dir,bs nm] w
      (fun e w'=>∃v,e=.returned (.tuple #[v,.agg (aR b0).toArray,.int .i64 e0])/\dw w' w.heap.size v l/\Ext w w'):=by
  obtain ⟨W0,aH⟩:∃W,W=(w.alloc (.cells #[cu,cg] 27)).alloc (.cells #[.int .i64 0,.string ⟨#[]⟩,.int .i64 0,.int .i64 0] 41):=⟨_,rfl⟩
  obtain ⟨b5,gQ⟩:∃b,b=w.heap.size:=⟨_,rfl⟩
  obtain ⟨b9,DV⟩:∃b,b=w.heap.size+1:=⟨_,rfl⟩
  have E0:Ext w W0:=by rw[aH];exact ((Ext.refl _).alloc _).alloc _
  have C0:Has W0 b5 (.cells #[cu,cg] 27):=by rw[aH,gQ];exact (Has.new w _).alloc _
  have R0:Has W0 b9 (.cells (aR gO).toArray 41):=by rw[aH,DV];have:=Has.new (w.alloc (.cells #[cu,cg] 27)) (.cells #[.int .i64 0,.string ⟨#[]⟩,.int .i64 0,.int .i64 0] 41);rw[World.size_alloc]at this;exact this
  have h0:=h.ext E0
  obtain⟨X,hX⟩:=zE (cO s cu cg dir nm)
  obtain⟨e1,lF⟩:=zE (dp s cu cg dir nm)
  have DQ:X.dir=dir/\X.name=nm/\X.depth=0/\X.no=zK s (ep s.t cu cg dir nm):=by rw[hX];exact⟨rfl,rfl,rfl,rfl⟩
  have KL:Hid (Calls Tryz.prog 43 #[.pointer (some ⟨f.bF,0,none⟩),.agg #[cu,cg],.int .i64 dir,bs nm] W0 (aI W0 (.tuple #[X.no,.int .i64 e1]))):=by
    show Calls _ _ _ _ _
    rw [DQ.2.2.2,lF]
    exact h0.Un hs hc cu cg dir nm
  unfold vv at hT
  rw [<-hX,<-lF]at hT
  have HT:=zH hT
  have MO:=zH DQ
  have HS:=zH hs
  have HR:=zH h0
  have HW:=zH aH
  have lD:=zH E0
  have c0:=C0.cell 0
  have c1:=C0.cell 1
  have cz:=C0.lt
  simp only[gA,gB,gC]at c0 c1
  clear hT hX lF DQ hs h0 h
  go_enter Tryz.func15,Tryz.ntmps15
  go_upto_region 2 with fail
  rw [show (w.alloc _).alloc _=W0 from aH.symm,<-DV,<-gQ]
  have acM:w.heap.size<=b9:=by omega
  clear aH gQ DV
  go_wp2_with fail
  refine KL.out.mono ?_
  rintro e w1 ⟨rfl,b1⟩
  clear c0 c1 cz KL
  go_upto_region 4 with fail
  obtain ⟨W2,cQ⟩:∃V,V=w1.alloc (.cells #[.int .i64 dir,bs nm,X.no,.int .i64 0] 41):=⟨_,rfl⟩
  obtain ⟨br,DR⟩:∃b,b=w1.heap.size:=⟨_,rfl⟩
  have N2:Has W2 br (.cells (aR X).toArray 41):=by
    rw [cQ,DR]
    have e:(aR X).toArray=#[.int .i64 dir,.string (bs nm),.int .i64 X.no,.int .i64 0]:=by
      show #[Value.int .i64 X.dir,bs X.name,X.no,.int .i64 X.depth]=_
      rw [MO.out.1,MO.out.2.1,MO.out.2.2.1]
    rw [e]
    exact Has.new _ _
  have E2:Ext w1 W2:=by rw[cQ];exact (Ext.refl _).alloc _
  have abo:w1.heap.size<=br:=by omega
  have O2:dw W2 w1.heap.size (.slice (some ⟨br,0,none⟩) 1 1) [X]:=⟨rfl,.inr ⟨br,1,_,rfl,abo,N2,Nat.le_refl _,by decide,rfl,rfl⟩⟩
  rw [<-cQ,<-DR]
  have QM:=zH (E0.trans b1)
  have DW:=zH (R0.ext b1)
  have UM:=zH (C0.ext b1)
  have HRS:=zH (HR.out.ext b1)
  clear cQ DR R0 C0 HW lD b1 E0 HR
  go_loopg [11,14] (l.length+1) (fun m vo vt wr=>∃p t,dw wr w1.heap.size vo p/\dw wr w1.heap.size vt t/\(∀g,vo.ownBlock=some g->vt.ownBlock≠some g)/\Ext w1 wr/\t.length<=1+p.length*1000/\(∀y∈t,0<=y.depth/\y.depth<=p.length) /\
    ((e1≠0/\p=[]/\t=[X]/\l=[]/\b0=X/\e0=e1)\/(e1=0/\s.dead=false/\∃l1,fw s.t cu cg t l1 b0 e0/\l=p++l1/\m=l1.length+1)))
  case atStart =>
    refine ⟨[],[X],dw.nil _ _,O2,fun g hg=>(by cases hg),E2,by simp,fun y hy=>?_,?_⟩
    · rw[List.mem_singleton]at hy;subst hy;rw[MO.out.2.2.1];simp
    · rcases HT.out with⟨h1,h2,h3,h4⟩|⟨h1,h2,h3⟩
      · exact .inl ⟨h1,rfl,rfl,h2,h3,h4⟩
      · exact .inr ⟨h1,h2,l,h3,rfl,rfl⟩
  case round =>
    clear O2 N2 E2
    obtain ⟨p,t,hO,hV,hap,hE,rQ,oW,hrest⟩:=hrel
    obtain ⟨A,cap,rfl,_,_,hat,_⟩:=hV.at_
    obtain ⟨A1,DX,rfl,_,_,_,_⟩:=hO.at_
    by_cases he:e1=0
    case neg =>
      obtain ⟨_,hp,ht,hl,ez,wv⟩:e1≠0/\p=[]/\t=[X]/\l=[]/\b0=X/\e0=e1:=by
        rcases hrest with h1|⟨h1,_⟩
        · exact h1
        · exact absurd h1 he
      subst hp
      subst ht
      have t1:(e1 == 0)=false:=by simpa using he
      have t3:(e1 != 0)=true:=by simpa using he
      obtain ⟨gt,rfl⟩:∃gt,A=some ⟨gt,0,none⟩:=by
        rcases hV.cases with⟨h1,h2⟩|⟨g,_,_,h2,_⟩
        · cases h2
        · injection h2 with h2;exact⟨g,h2⟩
      obtain ⟨abp,UN,hcell⟩:w1.heap.size<=gt/\gt<wr.heap.size/\∀j,j<4->wr.cell? ⟨gt,j,none⟩=(aR X)[j]?:=by
        rcases hV.cases with⟨h1,_⟩|⟨g,cap',cur,h1,h2,h3,h4,h5,h6⟩
        · cases h1
        · injection h1 with h1 _ _
          injection h1 with h1
          injection h1 with h1
          subst h1
          exact ⟨h2,h3.lt,fun j hj=>by have:=h6 0 (Nat.succ_pos _) j hj;rw[Nat.zero_mul,Nat.zero_add]at this;exact this⟩
      have QN:b9<w1.heap.size:=DW.out.lt
      have hgb:gt≠b9:=by omega
      have HO:=zH hO
      have UO:=zH (QM.out.trans hE)
      have R4:=DW.out.ext hE
      obtain ⟨Ph,k8⟩:∃Ph:Nat->World->Prop,Ph=fun j w'=>Only [b9] wr w'/\Has w' b9 (.cells (aR (if 1<=j then X else gO)).toArray 41):=⟨_,rfl⟩
      have UQ:Hid (Ph 0 wr.drew):=by
        show Ph 0 _
        rw [k8]
        exact ⟨Only.ax (Ext.refl _).drew,R4.ext (Ext.refl _).drew⟩
      have hne:Nonempty (Hp Ph):=⟨⟨0,_,UQ.out⟩⟩
      have uX:∀u:Hp Ph,∀j,j<4->u.w.cell? ⟨gt,j,none⟩=(aR X)[j]?:=by
        rw [k8]
        exact Hp.all (T:=fun w'=>∀j,j<4->w'.cell? ⟨gt,j,none⟩=(aR X)[j]?) (fun _ _ h j hj=>(jg (h.1.block gt UN (by simpa using hgb)) j).trans (hcell j hj))
      have ux0:∀u:Hp Ph,u.w.cell? ⟨gt,0,none⟩=some (.int .i64 X.dir):=fun u=>uX u 0 (by decide)
      have ux1:∀u:Hp Ph,u.w.cell? ⟨gt,1,none⟩=some (.string (bs X.name)):=fun u=>uX u 1 (by decide)
      have ux2:∀u:Hp Ph,u.w.cell? ⟨gt,2,none⟩=some (.int .i64 X.no):=fun u=>uX u 2 (by decide)
      have ux3:∀u:Hp Ph,u.w.cell? ⟨gt,3,none⟩=some (.int .i64 X.depth):=fun u=>uX u 3 (by decide)
      have S0:Hid (∀u,Ph 0 u->∃cs tt,Has u b9 (.cells cs tt)/\cs.size=(Value.agg (aR X).toArray).cells.size/\Ph 1 (u.setCells b9 0 (Value.agg (aR X).toArray).cells.toList)):=by
        show ∀_,_
        rw [k8]
        rintro u ⟨h1,h2⟩
        exact ⟨_,_,h2,rfl,h1.then (bH (g:=b9) (aR X) 0 u),h2.tQ X⟩
      have KQ:Hid (∀w',Ph 1 w'->Only [b9] wr w'/\Has w' b9 (.cells (aR X).toArray 41)):=by
        show ∀_,_
        rw [k8]
        exact fun _ h=>h
      have HL:=zH hl
      have HB:=zH ez
      have HEZ:=zH wv
      clear k8 uX he hrest hl ez wv hO hV hap hE rQ oW hat hcell
      simp only[List.length_nil,List.length_cons,Nat.zero_add]
      go_upto_region 12 with fail
      refine iM Ph [6] (by kernel_rfl) (by kernel_rfl) (by kernel_rfl) UQ.out ?_
      repeat (first
        | (refine jr (by kernel_rfl) (fun K hK=>?_)
           go_simp
           refine hK _ ?_
           clear hK K)
        | (refine dN 0 (by kernel_rfl) rfl (fun K hK=>?_)
           refine ⟨undef,qK rfl _ _ b9 (.agg (aR X).toArray) rfl rfl l_ (all_oneCell_toArray (cs:=aR X) (l9 X)) S0.out,hK _ ?_⟩
           clear hK K
           try simp only[Act.put]))
      refine mG ?_
      intro w9 YU
      obtain ⟨O9,R9⟩:=KQ.out _ YU
      clear ux0 ux1 ux2 ux3 S0 UQ YU KQ
      iterate 12 (try (first|go_values|go_skip|go_guarded|go_step|go_upon))
      have y0:=R9.cell 0
      have y1:=R9.cell 1
      have y2:=R9.cell 2
      have y3:=R9.cell 3
      have YV:w.heap.size<=w1.heap.size:=QM.out.size
      refine bodyPost_ret (v:=.tuple #[.slice A1 0 DX,.agg (aR X).toArray,.int .i64 e1]) (by simp[results,Tryz.results15,go_sem,y0,y1,y2,y3]) rfl ?_
      exact ⟨_,by rw[HB.out,HEZ.out],by rw[HL.out];exact (HO.out.only O9 (fun g hg hm=>by have:=(HO.out.lt hg).1;rw[List.mem_singleton]at hm;omega)).base YV,O9.after UO.out (fun z hz=>by rw[List.mem_singleton]at hz;omega)⟩
    obtain ⟨_,hd,l1,hD,hL,hm⟩:e1=0/\s.dead=false/\∃l1,fw s.t cu cg t l1 b0 e0/\l=p++l1/\gk=l1.length+1:=by
      rcases hrest with⟨h1,_⟩|h1
      · exact absurd he h1
      · exact h1
    subst he
    cases t with
    | nil =>
      obtain ⟨rfl,rfl,rfl⟩:l1=[]/\b0=gO/\e0=0:=by cases hD;exact⟨rfl,rfl,rfl⟩
      have HL:=zH hL
      have HO:=zH hO
      have xx:=zH hE
      obtain⟨np,wJ⟩:=zE p.length
      rw [<-wJ]at HO|-
      have R5:=DW.out.ext hE
      clear hD hL hO hV hap hE rQ oW hrest hm hat wJ
      simp only[List.length_nil]
      go_wp2_with (refine ln rfl _ _ rfl b9 gO gO rfl rfl R5 ?_;intro w9 R9 O9)
      have y0:=R9.cell 0
      have y1:=R9.cell 1
      have y2:=R9.cell 2
      have y3:=R9.cell 3
      have QN:b9<w1.heap.size:=DW.out.lt
      have YV:w.heap.size<=w1.heap.size:=QM.out.size
      refine bodyPost_ret (v:=.tuple #[.slice A1 np DX,.agg (aR gO).toArray,.int .i64 0]) (by simp[results,Tryz.results15,go_sem,y0,y1,y2,y3]) rfl ?_
      exact ⟨_,rfl,by rw[HL.out,List.append_nil];exact (HO.out.only O9 (fun g hg hm=>by have:=(HO.out.lt hg).1;rw[List.mem_singleton]at hm;omega)).base YV,O9.after (QM.out.trans xx.out) (fun z hz=>by rw[List.mem_singleton]at hz;omega)⟩
    | cons x' t' =>
      have hV0:=hV
      obtain ⟨gt,rfl⟩:∃gt,A=some ⟨gt,0,none⟩:=by
        rcases hV.cases with⟨h1,h2⟩|⟨g,_,_,h2,_⟩
        · cases h2
        · injection h2 with h2;exact⟨g,h2⟩
      obtain ⟨abp,UN,hcell⟩:w1.heap.size<=gt/\gt<wr.heap.size/\∀k,(h:k<(x'::t').length)->∀j,j<4->wr.cell? ⟨gt,k*4+j,none⟩=(aR (x'::t')[k])[j]?:=by
        rcases hV.cases with⟨h1,_⟩|⟨g,cap',cur,h1,h2,h3,h4,h5,h6⟩
        · cases h1
        · injection h1 with h1 _ _
          injection h1 with h1
          injection h1 with h1
          subst h1
          exact ⟨h2,h3.lt,h6⟩
      have q0:wr.cell? ⟨gt,0,none⟩=some (.int .i64 x'.dir):=hcell 0 (Nat.succ_pos _) 0 (by decide)
      have q1:wr.cell? ⟨gt,1,none⟩=some (.string (bs x'.name)):=hcell 0 (Nat.succ_pos _) 1 (by decide)
      have q2:wr.cell? ⟨gt,2,none⟩=some (.int .i64 x'.no):=hcell 0 (Nat.succ_pos _) 2 (by decide)
      have q3:wr.cell? ⟨gt,3,none⟩=some (.int .i64 x'.depth):=hcell 0 (Nat.succ_pos _) 3 (by decide)
      obtain⟨T,hT⟩:=zE t'.length
      obtain⟨np,wJ⟩:=zE p.length
      have e2:(x'::t').length=T+1:=by rw[hT];rfl
      rw [e2]at hV rQ|-
      rw [<-wJ]at hO rQ|-
      have Iz:=oW x' (List.mem_cons_self ..)
      have hpl:np<=1000:=by rw[wJ];have:=congrArg List.length hL;rw[List.length_append]at this;omega
      rw [<-wJ]at Iz
      have HV:=zH hV
      have HO:=zH hO
      have HAP:=zH hap
      have xx:=zH hE
      have Uy:=zH oW
      have HD:=zH hD
      have HL:=zH hL
      have HM:=zH hm
      have HC:=zH hcell
      have HT2:=zH hT
      have Pa:=zH wJ
      have c0:=(UM.out.ext hE).cell 0
      have c1:=(UM.out.ext hE).cell 1
      have cz:=(UM.out.ext hE).lt
      simp only[gA,gB,gC]at c0 c1
      have KI:=zH (fun u (hu:Ext wr u)=>(HRS.out.ext (hE.trans hu)).UK HS.out hc cu cg x' Iz.1 (by omega))
      clear hD hL hO hV hV0 hap hE oW hrest hm hat hcell hT wJ e2
      go_upto_region 6 with fail
      obtain ⟨W5,jJ⟩:∃V,V=wr.alloc (.cells #[.int .i64 x'.dir,bs x'.name,x'.no,.int .i64 x'.depth] 41):=⟨_,rfl⟩
      obtain ⟨bx,tg⟩:∃b,b=wr.heap.size:=⟨_,rfl⟩
      have X5:Has W5 bx (.cells #[.int .i64 x'.dir,bs x'.name,x'.no,.int .i64 x'.depth] 41):=by rw[jJ,tg];exact Has.new _ _
      have E5:Ext wr W5:=by rw[jJ];exact (Ext.refl _).alloc _
      rw [<-jJ,<-tg]
      have acN:wr.heap.size<=bx:=by omega
      clear jJ tg q0 q1 q2 q3
      have d0:=(E5.cell cz).trans c0
      have d1:=(E5.cell cz).trans c1
      have dz:b5<W5.heap.size:=by have:=E5.size;omega
      have x0:=X5.cell 0
      have x1:=X5.cell 1
      have x2:=X5.cell 2
      have x3:=X5.cell 3
      have xz:=X5.lt
      simp only[gA,gB,gC]at x0 x1 x2 x3
      clear c0 c1 cz
      go_upto_region 7 with (go_at_call 44;refine (KI.out _ E5).mono ?_;rintro e w4 ⟨v4,rfl,yA,b4⟩)
      clear d0 d1 dz x0 x1 x2 x3 xz KI
      have kC:=Bz hd cu cg x'
      obtain ⟨e3,pY⟩:∃e,e=jP s cu cg x':=⟨_,rfl⟩
      obtain ⟨l4,sO⟩:∃e,e=nr s cu cg x':=⟨_,rfl⟩
      have abh:l4.length<=900:=by rw[sO];exact Nat.le_trans (zi HS.out cu cg x') hc
      have UJ:Hid (∀z∈l4,z.depth=x'.depth+1):=by show ∀_∈_,_;rw[sO];exact fun z hz=>su hz
      rw [<-pY,<-sO]at kC
      rw [<-sO]at yA
      rw [<-pY]
      have Fw:=zH kC
      have X4:=X5.ext b4
      have x0:=X4.cell 0
      have x1:=X4.cell 1
      have x2:=X4.cell 2
      have x3:=X4.cell 3
      have xz:=X4.lt
      simp only[gA,gB,gC]at x0 x1 x2 x3
      by_cases h3:e3=0
      case neg =>
        have t3:(e3 != 0)=true:=by simpa using h3
        obtain ⟨iE,ez,wv⟩:l1=[]/\b0=x'/\e0=e3:=by
          have hne:dQ s.t cu cg x'≠0:=by rw[<-Fw.out.1];exact h3
          have tk:=HD.out
          cases tk with
          | bad h=>exact⟨rfl,rfl,Fw.out.1.symm⟩
          | step h _=>exact absurd h hne
        have HL1:=zH iE
        have R4:=DW.out.ext (xx.out.trans (E5.trans b4))
        have abq:=zH (HO.out.ext (E5.trans b4))
        have UO:=zH (QM.out.trans (xx.out.trans (E5.trans b4)))
        obtain ⟨Ph,k8⟩:∃Ph:Nat->World->Prop,Ph=fun j w'=>Only [b9] w4 w'/\Has w' b9 (.cells (aR (if 1<=j then x' else gO)).toArray 41):=⟨_,rfl⟩
        have UQ:Hid (Ph 0 w4.drew):=by
          show Ph 0 _
          rw [k8]
          exact ⟨Only.ax (Ext.refl _).drew,R4.ext (Ext.refl _).drew⟩
        have hne:Nonempty (Hp Ph):=⟨⟨0,_,UQ.out⟩⟩
        have abr:bx≠b9:=by have:=DW.out.lt;have:=xx.out.size;omega
        have uX:∀u:Hp Ph,Has u.w bx (.cells #[.int .i64 x'.dir,bs x'.name,x'.no,.int .i64 x'.depth] 41):=by
          rw [k8]
          exact Hp.all (T:=fun w'=>Has w' bx (.cells #[.int .i64 x'.dir,bs x'.name,x'.no,.int .i64 x'.depth] 41)) (fun _ _ h=>h.1.has X4 (by simpa using abr))
        have ux0:∀u:Hp Ph,u.w.cell? ⟨bx,0,none⟩=some (.int .i64 x'.dir):=fun u=>(uX u).cell 0
        have ux1:∀u:Hp Ph,u.w.cell? ⟨bx,1,none⟩=some (.string (bs x'.name)):=fun u=>(uX u).cell 1
        have ux2:∀u:Hp Ph,u.w.cell? ⟨bx,2,none⟩=some (.int .i64 x'.no):=fun u=>(uX u).cell 2
        have ux3:∀u:Hp Ph,u.w.cell? ⟨bx,3,none⟩=some (.int .i64 x'.depth):=fun u=>(uX u).cell 3
        have S0:Hid (∀u,Ph 0 u->∃cs tt,Has u b9 (.cells cs tt)/\cs.size=(Value.agg (aR x').toArray).cells.size/\Ph 1 (u.setCells b9 0 (Value.agg (aR x').toArray).cells.toList)):=by
          show ∀_,_
          rw [k8]
          rintro u ⟨h1,h2⟩
          exact ⟨_,_,h2,rfl,h1.then (bH (g:=b9) (aR x') 0 u),h2.tQ x'⟩
        have KQ:Hid (∀w',Ph 1 w'->Only [b9] w4 w'/\Has w' b9 (.cells (aR x').toArray 41)):=by
          show ∀_,_
          rw [k8]
          exact fun _ h=>h
        clear k8 uX h3 iE x0 x1 x2 x3 xz yA kC
        have ez:=ez.symm
        have wv:=wv.symm
        subst ez wv
        go_upto_region 8 with fail
        refine iM Ph [4] (by kernel_rfl) (by kernel_rfl) (by kernel_rfl) UQ.out ?_
        repeat (first
          | (refine jr (by kernel_rfl) (fun K hK=>?_)
             go_simp
             refine hK _ ?_
             clear hK K)
          | (refine dN 0 (by kernel_rfl) rfl (fun K hK=>?_)
             refine ⟨undef,qK rfl _ _ b9 (.agg (aR x').toArray) rfl rfl l_ (all_oneCell_toArray (cs:=aR x') (l9 x')) S0.out,hK _ ?_⟩
             clear hK K
             try simp only[Act.put]))
        refine mG ?_
        intro w9 YU
        obtain ⟨O9,R9⟩:=KQ.out _ YU
        clear ux0 ux1 ux2 ux3 S0 UQ YU KQ
        iterate 12 (try (first|go_values|go_skip|go_guarded|go_step|go_upon))
        have y0:=R9.cell 0
        have y1:=R9.cell 1
        have y2:=R9.cell 2
        have y3:=R9.cell 3
        have QN:b9<w1.heap.size:=DW.out.lt
        have YV:w.heap.size<=w1.heap.size:=QM.out.size
        refine bodyPost_ret (v:=.tuple #[.slice A1 np DX,.agg (aR x').toArray,.int .i64 (jP s cu cg x')]) (by simp[results,Tryz.results15,go_sem,y0,y1,y2,y3]) rfl ?_
        exact ⟨_,by rw[pY],by rw[HL.out,HL1.out,List.append_nil];exact (abq.out.only O9 (fun g hg hm=>by have:=(HO.out.lt hg).1;rw[List.mem_singleton]at hm;omega)).base YV,O9.after UO.out (fun z hz=>by rw[List.mem_singleton]at hz;omega)⟩
      have t3:(e3 != 0)=false:=by simpa using h3
      obtain ⟨l2,Jz,vZ⟩:∃l2,l1=x'::l2/\fw s.t cu cg (l4++t') l2 b0 e0:=by
        have h0:dQ s.t cu cg x'=0:=by rw[<-Fw.out.1];exact h3
        have tk:=HD.out
        rw [Fw.out.2]
        cases tk with
        | bad h=>exact absurd h0 h
        | step _ hd3=>exact⟨_,rfl,hd3⟩
      have PZ:=zH Jz
      have HD2:=zH vZ
      obtain ⟨A4,c4,Wi,YG,_⟩:=yA.at_
      obtain⟨n4,CH⟩:=zE l4.length
      rw [<-CH]at Wi
      have FR:=zH yA
      subst Wi
      have E4:Ext wr w4:=E5.trans b4
      have YW:w1.heap.size<=w4.heap.size:=(xx.out.trans E4).size
      obtain ⟨v6,w6,hr6,JO,Wo,Ib⟩:=qI w4 (HO.out.ext E4) YW x' (by rw[<-Pa.out];omega)
      have E6:Ext w1 w6:=((xx.out.trans E4).alloc _).grown Wo (fun g hv=>(HO.out.lt hv).1)
      have o6:Only (Value.slice A1 np DX).ownBlock.toList w4 w6:=(Only.jw _ _ _).then (Only.of_grownBy Wo (fun g hv=>Option.mem_toList.2 hv))
      have O46:dw w6 w1.heap.size (.slice A4 n4 c4) l4:=(FR.out.only o6 (fun g hv hm=>by
        have h1:=(FR.out.lt hv).1
        have h2:=(HO.out.lt (Option.mem_toList.1 hm)).2
        have:=E5.size
        omega)).base (by have:=(xx.out.trans E5).size;exact this)
      obtain ⟨o,ho,hso⟩:∃o,(cap=1/\o=0\/cap≠1/\o=4)/\(if cap=1 then some (⟨gt,0,none⟩:Addr) else some ⟨gt,4,none⟩)=some ⟨gt,o,none⟩:=by
        by_cases OC:cap=1
        · exact⟨0,.inl ⟨OC,rfl⟩,by rw[if_pos OC]⟩
        · exact⟨4,.inr ⟨OC,rfl⟩,by rw[if_neg OC]⟩
      have Qa:T+1<=cap:=by
        rcases HV.out.2 with⟨e,_⟩|⟨g,cap',_,e,_,_,hn,_⟩
        · cases e
        · injection e with _ e1 e2
          omega
      have YX:∀j,w6.cell? ⟨gt,j,none⟩=wr.cell? ⟨gt,j,none⟩:=fun j=>jg ((o6.block gt (by have:=E4.size;omega) (fun hm=>by have bU:=Option.mem_toList.1 hm;rw[Pa.out]at bU;exact HAP.out gt bU rfl)).trans (Below.block E4 gt UN)) j
      have hh2:∀k,(h:k<t'.length)->∀j,j<4->w6.cell? ⟨gt,o+k*4+j,none⟩=(aR t'[k])[j]?:=fun k hk j hj=>by
        rcases ho with⟨h1,_⟩|⟨_,rfl⟩
        · have:=HT2.out;omega
        · have h:=HC.out (k+1) (by simpa using hk) j hj
          rw [YX,show 4+k*4+j=(k+1)*4+j by omega,h]
          simp
      have htt:t'.length=T:=HT2.out.symm
      obtain ⟨v8,w8,Wp,Wq,UR,fM⟩:=xJ w6 O46 E6.size t' gt o (cap-1) hh2 (by omega) (by omega)
      rw [htt]at Wp
      have HR6:=zH hr6
      have HR8:=zH Wp
      have E8:Ext w1 w8:=E6.grown UR (fun g hv=>(O46.lt hv).1)
      have UB:∀g,v6.ownBlock=some g->g<W5.heap.size\/w4.heap.size<=g:=fun g hg=>by
        rcases Ib with e|e
        · rw[e]at hg;have:=(HO.out.lt hg).2;have:=E5.size;exact .inl (by omega)
        · rw[e]at hg;injection hg with hg;exact .inr (by omega)
      have O68:dw w8 w1.heap.size v6 (p++[x']):=JO.only (L:=(Value.slice A4 n4 c4).ownBlock.toList) (Only.of_grownBy UR (fun g hv=>Option.mem_toList.2 hv)) (fun g hg hm=>by
        have h2:=FR.out.lt (Option.mem_toList.1 hm)
        rcases UB g hg with h|h<;>omega)
      have YY:∀g,v6.ownBlock=some g->v8.ownBlock≠some g:=fun g hg he=>by
        rcases fM with e|e
        · rw [e]at he
          have h2:=FR.out.lt he
          rcases UB g hg with h|h<;>omega
        · rw [e]at he
          injection he with he
          have:=(JO.lt hg).2
          omega
      have DY:=zH Wq
      have abt:=zH O68
      have abu:=zH YY
      have II:=zH E8
      have HCC:=zH Qa
      clear Jz vZ yA CH E4 YW hr6 JO Wo Ib E6 o6 O46 YX hh2 Wp Wq UR fM E8 UB O68 YY ho pY sO kC X4 X5 E5 b4
      go_wp2_with (first|(at_builtin;refine Lib.wpList_append_run _ rfl _ _ 39 39 rfl _ _ rfl rfl _ _ HR6.out ?_)|(at_builtin;refine Lib.wpList_append_run _ rfl _ _ 39 39 rfl _ _ rfl rfl _ _ HR8.out ?_))
      go_roundg (l2.length+1)
      case measure=>rw[HM.out,PZ.out];simp
      case rel =>
        refine ⟨p++[x'],l4++t',abt.out,DY.out,abu.out,II.out,?_,fun z hz=>?_,.inr ⟨by trivial,hd,l2,HD2.out,by rw[HL.out,PZ.out];simp,rfl⟩⟩
        · have:=HT2.out
          have:=Pa.out
          rw [List.length_append,List.length_append,List.length_singleton]
          omega
        · have:=Pa.out
          rw [List.length_append,List.length_singleton]
          rcases List.mem_append.1 hz with hm|hm
          · have:=UJ.out z hm
            omega
          · have:=Uy.out z (List.mem_cons_of_mem _ hm)
            omega
end
end
end Go.Proofs.YtpibnfdolojpcaaGreat
