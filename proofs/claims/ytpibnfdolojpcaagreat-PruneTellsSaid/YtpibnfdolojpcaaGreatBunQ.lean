import Derived.Test.YtpibnfdolojpcaaGreatBunN
import Derived.Test.YtpibnfdolojpcaaGreatBunM
import Derived.Test.YtpibnfdolojpcaaGreatBunJ
import Derived.Test.YtpibnfdolojpcaaGreatBunP
set_option maxHeartbeats 8000000
set_option maxRecDepth 100000
namespace Go.Proofs.YtpibnfdolojpcaaGreat
open Go.Proofs.Tryz
open Go.ChangeShapes Go.WideShapes Go.ChangeAt Go.RowKit
section
theorem Qi {s:aH} {cu cg no:Int} (h:gY s (cE s.t cu cg no 1 4)≠0):tV s (b_ s.t (bV s.t cu cg no 1 4).ah)=[]:=by
 unfold gY at h;unfold tV;split
 ·rfl
 ·rename_i hd
  rw[ac hd]at h;unfold bV;rw[ac h];rfl
section
variable {c:Nat} {w:World} {B:Nat} {f:cI} {s:aH}
theorem RS.UQ (h:RS w B f s) (hs:d_ c s) (hc:c<=900) (cu cg:Int) (x:au) (aX:0<=x.depth) (ue:x.depth<=1000000) :
  Calls prog 44 #[((),f.bF),.agg #[cu,cg],.agg #[x.dir,bs x.name,x.no,x.depth]] w (Ng w (oY s cu cg x) (ln s cu cg x)):=by
 obtain⟨W0,aJ⟩:=ai ((w.alloc (.cells #[cu,cg] 27)).alloc (.cells #[x.dir,bs x.name,x.no,x.depth] 41));obtain⟨b4,qA⟩:=ai w.heap.size;obtain⟨b5,fu⟩:=ai (w.heap.size+1);have E0:Ext w W0:=by rw[aJ];exact ((Ext.refl _).alloc _).alloc _
 have X0:Has W0 b5 (.cells #[x.dir,bs x.name,x.no,x.depth] 41):=by rw[aJ,fu];have:=Has.new (w.alloc (.cells #[cu,cg] 27)) (.cells #[x.dir,bs x.name,x.no,x.depth] 41);rw[bi]at this;exact this
 have C0:Has W0 b4 (.cells #[cu,cg] 27):=by rw[aJ,qA];exact (Has.new w _).alloc _
 have h0:=h.ext E0;obtain⟨e1,m_⟩:=ai (gY s (dQ s.t x.no));obtain⟨e2,oU⟩:=ai (gY s (dQ s.t x.dir));obtain⟨e3,pX⟩:=ai (gY s (cE s.t cu cg x.no 1 4));obtain⟨m1,ig⟩:=ai (vA s (aa s.t.nodes x.no));obtain⟨m2,cq⟩:=ai (vA s (aa s.t.nodes x.dir));obtain⟨L,hL⟩:=ai (tV s (b_ s.t (bV s.t cu cg x.no 1 4).ah));have X_:L.length<=1000000:=by
  rw[hL];unfold tV;split
  ·simp
  ·rw[iC];have:=(hs.fN.bV cu cg x.no 1 4).2;omega
 have K1:Hid (∀u,Ext W0 u->Calls prog 91 #[((),f.bF),x.no] u (aO u (.tuple #[iU m1,e1]))):=by
  show ∀u,_;intro u hu;rw[ig,m_];exact (h0.ext hu).Li hs hc x.no
 have K2:Hid (∀u,Ext W0 u->Calls prog 91 #[((),f.bF),x.dir] u (aO u (.tuple #[iU m2,e2]))):=by
  show ∀u,_;intro u hu;rw[cq,oU];exact (h0.ext hu).Li hs hc x.dir
 have K3:Hid (∀u,Ext W0 u->Calls prog 92 #[((),f.bF),.agg #[cu,cg],x.no] u (tu u L e3)):=by
  show ∀u,_;intro u hu;rw[hL,pX];exact (h0.ext hu).Um hs hc cu cg x.no
 have N1:Hid (e1≠0->ln s cu cg x=e1):=fun k=>by rw[m_]at k|-;exact Uw k
 have N2:Hid (e1=0->e2≠0->ln s cu cg x=e2):=fun k1 k2=>by rw[m_]at k1;rw[oU]at k2|-;exact Ux k1 k2
 have N3:Hid (e1=0->e2=0->m1.dev≠m2.dev->ln s cu cg x=16):=fun k1 k2 k3=>by rw[m_]at k1;rw[oU]at k2;rw[ig,cq]at k3;exact Uy k1 k2 k3
 have N4:Hid (e1=0->e2=0->m1.dev=m2.dev->m1.kind≠1->ln s cu cg x=0/\oY s cu cg x=[]):=fun k1 k2 k3 k4=>by rw[m_]at k1;rw[oU]at k2;rw[ig,cq]at k3;rw[ig]at k4;exact Ni k1 k2 k3 k4
 have N5:Hid (e1=0->e2=0->m1.dev=m2.dev->¬m1.kind≠1->ln s cu cg x=e3/\(e3=0->oY s cu cg x=L.map (fM x))):=fun k1 k2 k3 k4=>by rw[m_]at k1;rw[oU]at k2;rw[ig,cq]at k3;rw[ig]at k4;rw[pX,hL];exact Nj k1 k2 k3 k4
 have NL:Hid (e3≠0->L=[]):=fun k=>by rw[pX]at k;rw[hL];exact Qi k
 have NE:Hid (ln s cu cg x≠0->oY s cu cg x=[]):=fun k=>Nh k
 obtain⟨IE,ZO⟩:=ai (ln s cu cg x);obtain⟨IL,Ya⟩:=ai (oY s cu cg x);rw[<-ZO]at N1 N2 N3 N4 N5 NE|-;rw[<-Ya]at N4 N5 NE|-;have c0:=C0.cell 0;have c1:=C0.cell 1;have cz:=C0.lt;have x0:=aA X0 0 rfl;have x1:=aA X0 1 rfl;have x2:=aA X0 2 rfl;have x3:=aA X0 3 rfl;have xz:=X0.lt;clear h h0 hs m_ oU pX ig cq hL ZO Ya;go_in;go_upto_region 1 with fail;rw[show (w.alloc _).alloc _=W0 from aJ.symm,<-fu,<-qA];clear aJ qA fu;unfold iU at K1 K2;go_wp2_with fail;refine (K1.o _ (Ext.refl _)).mono ?_;rintro e w1 ⟨rfl,b1⟩;clear c0 c1 cz x0 x1 x2 x3 xz K1;go_upto_region 2 with fail;obtain⟨W1,cA⟩:=ai (w1.alloc (.cells #[m1.no,m1.dev,m1.kind,m1.mode,m1.uid,m1.gid,m1.ar,m1.data.length,m1.mtime,m1.ctime] 95));obtain⟨b8,gH⟩:=ai w1.heap.size;have S1:Has W1 b8 (.cells #[m1.no,m1.dev,m1.kind,m1.mode,m1.uid,m1.gid,m1.ar,m1.data.length,m1.mtime,m1.ctime] 95):=by rw[cA,gH];exact Has.new _ _
 have E1:Ext W0 W1:=by rw[cA];exact b1.alloc _
 rw[<-cA,<-gH];clear cA gH b1;have x0:=(X0.ext E1).cell 0;have xz:=(X0.ext E1).lt;simp only[gA,gB]at x0;go_wp2_with fail;refine (K2.o _ E1).mono ?_;rintro e w2 ⟨rfl,b2⟩;clear x0 xz K2;go_upto_region 3 with fail;obtain⟨W2,dp⟩:=ai (w2.alloc (.cells #[m2.no,m2.dev,m2.kind,m2.mode,m2.uid,m2.gid,m2.ar,m2.data.length,m2.mtime,m2.ctime] 95));obtain⟨CN,lK⟩:=ai w2.heap.size;have S2:Has W2 CN (.cells #[m2.no,m2.dev,m2.kind,m2.mode,m2.uid,m2.gid,m2.ar,m2.data.length,m2.mtime,m2.ctime] 95):=by rw[dp,lK];exact Has.new _ _
 have S1':Has W2 b8 (.cells #[m1.no,m1.dev,m1.kind,m1.mode,m1.uid,m1.gid,m1.ar,m1.data.length,m1.mtime,m1.ctime] 95):=by rw[dp];exact (S1.ext b2).alloc _
 have E2:Ext W0 W2:=by rw[dp];exact (E1.trans b2).alloc _
 rw[<-dp,<-lK];clear dp lK b2 S1 E1
 by_cases k1:e1=0
 case neg =>
  have t1:(e1 != 0)=true:=by simpa using k1
  have HK:=zH k1;have H1:=zH (N1.o k1);clear k1;go_wp2;go_ret2;have hz:IL=[]:=NE.o (by rw[H1.o];exact HK.o);exact⟨.slice none 0 0,by rw[H1.o];rfl,by rw[hz];exact eO.nil _ _,E0.trans E2⟩
 have Rn:=zH k1
 by_cases k2:e2=0
 case neg =>
  have t1:(e1 != 0)=false:=by simpa using k1
  have t2:(e2 != 0)=true:=by simpa using k2
  have HK:=zH k2;have H1:=zH (N2.o k1 k2);clear k1 k2;go_wp2;go_ret2;have hz:IL=[]:=NE.o (by rw[H1.o];exact HK.o);exact⟨.slice none 0 0,by rw[H1.o];rfl,by rw[hz];exact eO.nil _ _,E0.trans E2⟩
 have HK2:=zH k2;have t1:(e1 != 0)=false:=by simpa using k1
 have t2:(e2 != 0)=false:=by simpa using k2
 clear k1 k2;have y1:=S1'.cell 1;have y2:=S1'.cell 2;have yz:=S1'.lt;have z1:=S2.cell 1;have zz:=S2.lt
 by_cases k3:m1.dev=m2.dev
 case neg =>
  have t3:(m1.dev != m2.dev)=true:=by simpa using k3
  have H1:=zH (N3.o Rn.o HK2.o k3);clear k3;go_wp2;go_ret2;have hz:IL=[]:=NE.o (by rw[H1.o];decide);exact⟨.slice none 0 0,by rw[H1.o];rfl,by rw[hz];exact eO.nil _ _,E0.trans E2⟩
 have t3:(m1.dev != m2.dev)=false:=by simpa using k3
 have PR:=zH k3;clear k3
 by_cases k4:m1.kind=1
 case neg =>
  have t4:(m1.kind != 1)=true:=by simpa using k4
  have H1:=zH (N4.o Rn.o HK2.o PR.o k4);clear k4;go_wp2;go_ret2;exact⟨.slice none 0 0,by rw[H1.o.1];rfl,by rw[H1.o.2];exact eO.nil _ _,E0.trans E2⟩
 have t4:(m1.kind != 1)=false:=by simpa using k4
 have H5:=zH (N5.o Rn.o HK2.o PR.o (fun k=>k k4));clear k4;have c0:=(C0.ext E2).cell 0;have c1:=(C0.ext E2).cell 1;have cz:=(C0.ext E2).lt;have x2:=(X0.ext E2).cell 2;have xz:=(X0.ext E2).lt;simp only[gA,gB,gC]at x2;go_wp2_with fail;refine (K3.o _ E2).mono ?_;rintro e w3 ⟨A,cap,rfl,⟨hat,_⟩,b3⟩;clear c0 c1 cz x2 xz K3 t1 t2 t3 t4 y1 y2 yz z1 zz;have HIL:Hid (IL=L.map (fM x)):=by
  show _=_
  by_cases k5:e3=0
  ·exact H5.o.2 k5
  ·rw[NE.o (by rw[H5.o.1];exact k5),NL.o k5];rfl
 obtain⟨n,hn⟩:=ai L.length;rw[<-hn]at X_|-;have HN:=zH hn;have HE3:=zH (E0.trans (E2.trans b3));have X3:=X0.ext (E2.trans b3);have Uz:=zH X3;have hsz:w.heap.size<=w3.heap.size:=HE3.o.size;have Fg:=zH hat;clear hn hat X3;go_wp2_with fail;go_loopw [14,15] (fun vo vi wr=>∃k:Nat,vi=.int .i64 k/\k<=n/\eO wr w3.heap.size vo ((L.take k).map (fM x))/\Ext w3 wr) (fun _ vi _=>n-(intOf vi).toNat)
 case atStart=>exact⟨0,rfl,bC _,eO.nil _ _,Ext.refl _⟩
 case round =>
  obtain⟨k,rfl,hk,hO,hE⟩:=hrel
  by_cases hlt:(k:Int)<n
  ·have dN:k<L.length:=by have:=HN.o;omega
   obtain⟨ba,o,rfl,UR,ea3,eb3⟩:=Fg.o.lt0 dN;have yx:ba<wr.heap.size:=by have:=hE.size;omega
   have ea:=(hE.cell UR).trans ea3;have eb:=(hE.cell UR).trans eb3;have q7:Hid ((L.take (k+1)).map (fM x)=(L.take k).map (fM x)++[fM x L[k]]):=by
    show _=_;rw[mC dN,lG];rfl
   have hlk:((L.take k).map (fM x)).length<=1000000:=by rw[jP,iG];omega
   obtain⟨y,hy⟩:=ai (L[k]);rw[<-hy]at ea eb q7 ea3 eb3;obtain⟨yn,yo⟩:=y;have q0:(0:Int)<=(k:Int):=cO _;have BS:IntKind.i64.wrap ((k:Int)+1)=(k:Int)+1:=cB _ (by omega);have w2w:IntKind.i64.wrap (x.depth+1)=x.depth+1:=cB _ (by omega);have X4:=Uz.o.ext hE;have x2:=aA X4 2 rfl;have x3:=aA X4 3 rfl;have xz:=X4.lt;have X30:=Uz.o;have Xh:=aA X30 2 rfl;have Zq:=aA X30 3 rfl;have xz':=X30.lt;have ea':w3.cell? (ba,o+k*2)=some (.string (bs yn)):=ea3;have eb':w3.cell? (ba,o+k*2+1)=some (.int .i64 yo):=eb3;have KS:Hid (∀w',Ext w3 w'->(Ext w3 w'/\w'.cell? (b5,2)=some (.int .i64 x.no)/\w'.cell? (b5,3)=some (.int .i64 x.depth)/\w'.cell? (ba,o+k*2)=some (.string (bs yn))/\w'.cell? (ba,o+k*2+1)=some (.int .i64 yo))):=fun w' h'=>⟨h',(h'.cell xz').trans Xh,(h'.cell xz').trans Zq,(h'.cell UR).trans ea',(h'.cell UR).trans eb'⟩
   have cA:Ext w3 wr.drew:=hE.drew;have aa7:w3.heap.size<=wr.drew.heap.size:=cA.size;have HOD:=zH (hO.ext ((Ext.refl wr).drew));clear hO hE ea eb X4 hy ea3 eb3 UR ea' eb' x2 x3 xz Xh Zq xz' X30 yx;go_upto_region 16 with fail;go_region_held3 (fun w'=>Ext w3 w'/\w'.cell? (b5,2)=some (.int .i64 x.no)/\w'.cell? (b5,3)=some (.int .i64 x.depth)/\w'.cell? (ba,o+k*2)=some (.string (bs yn))/\w'.cell? (ba,o+k*2+1)=some (.int .i64 yo))
    ((first|exact KS.o _ cA|exact KS.o _ (cA.alloc _)|exact KS.o _ Rf))
    ((refine mz _ (by rfl) _ _ 39 (by rfl) _ _ (by rfl) (by rfl) (vC wr.drew HOD.o aa7 ⟨x.no,yn,yo,x.depth+1⟩ (by omega)) ?_;rintro v9 w9 ⟨Rl,Rm,_⟩;have Rf:Ext w3 w9:=(cA.alloc _).grown Rm (fun g hv=>(HOD.o.lt hv).1)))
   have HO9:=zH Rl;clear Rl Rm;go_wp2_with fail;go_roundw
   case rel=>exact⟨k+1,by go_num,by omega,by rw[q7.o];exact HO9.o,Rf⟩
   case measure=>simp[intOf];omega
  ·have ut:k=L.length:=by have:=HN.o;omega
   have HOW:=zH hO;have Dh:=zH hE;have hf:Hid ((L.take k).map (fM x)=L.map (fM x)):=by show _=_;rw[ut,od]
   clear hO hE ut;go_wp2;go_ret2;exact⟨_,by rw[H5.o.1];rfl,by rw[HIL.o,<-hf.o];exact HOW.o.base hsz,HE3.o.trans Dh.o⟩
end
end
section
section
variable {c:Nat} {w:World} {B:Nat} {f:cI} {s:aH}
theorem RS.abf (h:RS w B f s) (hs:d_ c s) (hc:c<=900) (cu cg dir:Int) (nm:List UInt8) (l:List au) (b0:au) (e0:Int) (hT:Bk s cu cg dir nm l b0 e0) (hlen:l.length<=1000) :
  Calls prog 15 #[((),f.bF),.agg #[cu,cg],dir,bs nm] w
   (fun e w'=>∃v,e=.returned (.tuple #[v,.agg (bt b0).toArray,e0])/\eO w' w.heap.size v l/\Ext w w'):=by
 obtain⟨W0,aJ⟩:=ai ((w.alloc (.cells #[cu,cg] 27)).alloc (.cells #[(),.string ⟨#[]⟩,(),()] 41));obtain⟨b5,fu⟩:=ai w.heap.size;obtain⟨b9,Fu⟩:=ai (w.heap.size+1);have E0:Ext w W0:=by rw[aJ];exact ((Ext.refl _).alloc _).alloc _
 have C0:Has W0 b5 (.cells #[cu,cg] 27):=by rw[aJ,fu];exact (Has.new w _).alloc _
 have R0:Has W0 b9 (.cells (bt mJ).toArray 41):=by rw[aJ,Fu];have:=Has.new (w.alloc (.cells #[cu,cg] 27)) (.cells #[(),.string ⟨#[]⟩,(),()] 41);rw[bi]at this;exact this
 have h0:=h.ext E0;obtain⟨X,hX⟩:=ai (du s cu cg dir nm);obtain⟨e1,m_⟩:=ai (dw s cu cg dir nm);have Ig:X.dir=dir/\X.name=nm/\X.depth=0/\X.no=H_ s (fE s.t cu cg dir nm):=by rw[hX];exact⟨rfl,rfl,rfl,rfl⟩
 have KL:Hid (Calls prog 43 #[((),f.bF),.agg #[cu,cg],dir,bs nm] W0 (aO W0 (.tuple #[X.no,e1]))):=by
  show Calls _ _ _ _ _;rw[Ig.2.2.2,m_];exact h0.Lj hs hc cu cg dir nm
 unfold Bk at hT;rw[<-hX,<-m_]at hT;have HT:=zH hT;have UF:=zH Ig;have HS:=zH hs;have HR:=zH h0;have HW:=zH aJ;have lC:=zH E0;have c0:=aA C0 0 rfl;have c1:=aA C0 1 rfl;have cz:=C0.lt;clear hT hX m_ Ig hs h0 h;go_in;go_upto_region 2 with fail;rw[show (w.alloc _).alloc _=W0 from aJ.symm,<-Fu,<-fu];have af6:w.heap.size<=b9:=by omega
 clear aJ fu Fu;go_wp2_with fail;refine KL.o.mono ?_;rintro e w1 ⟨rfl,b1⟩;clear c0 c1 cz KL;go_upto_region 4 with fail;obtain⟨W2,dp⟩:=ai (w1.alloc (.cells #[dir,bs nm,X.no,()] 41));obtain⟨br,Lo⟩:=ai w1.heap.size;have N2:Has W2 br (.cells (bt X).toArray 41):=by
  rw [dp,Lo];have e:(bt X).toArray=#[.int .i64 dir,.string (bs nm),.int .i64 X.no,.int .i64 0]:=by
   show #[Value.int .i64 X.dir,bs X.name,X.no,X.depth]=_;rw[UF.o.1,UF.o.2.1,UF.o.2.2.1]
  rw[e];exact Has.new _ _
 have E2:Ext w1 W2:=by rw[dp];exact (Ext.refl _).alloc _
 have aeS:w1.heap.size<=br:=by omega
 have O2:eO W2 w1.heap.size (.slice (some br) 1 1) [X]:=⟨rfl,.inr ⟨br,1,_,rfl,aeS,N2,aE _,by decide,rfl,rfl⟩⟩;rw[<-dp,<-Lo];have Yn:=zH (E0.trans b1);have Lu:=zH (R0.ext b1);have abg:=zH (C0.ext b1);have Yo:=zH (HR.o.ext b1);clear dp Lo R0 C0 HW lC b1 E0 HR;go_loopg [11,14] (l.length+1) (fun m vo vt wr=>∃p t,eO wr w1.heap.size vo p/\eO wr w1.heap.size vt t/\(∀g,vo.ownBlock=some g->vt.ownBlock≠some g)/\Ext w1 wr/\t.length<=1+p.length*1000/\(∀y∈t,0<=y.depth/\y.depth<=p.length) /\
  ((e1≠0/\p=[]/\t=[X]/\l=[]/\b0=X/\e0=e1)\/(e1=0/\s.dead=false/\∃l1,lE s.t cu cg t l1 b0 e0/\l=p++l1/\m=l1.length+1)))
 case atStart =>
  refine⟨[],[X],eO.nil _ _,O2,fun g hg=>(by cases hg),E2,by simp,fun y hy=>?_,?_⟩
  ·rw[ax]at hy;subst hy;rw[UF.o.2.2.1];simp
  ·rcases HT.o with⟨h1,h2,h3,h4⟩|⟨h1,h2,h3⟩
   ·exact .inl ⟨h1,rfl,rfl,h2,h3,h4⟩
   ·exact .inr ⟨h1,h2,l,h3,rfl,rfl⟩
 case round =>
  clear O2 N2 E2;obtain⟨p,t,hO,hV,hap,hE,sO,sS,hrest⟩:=hrel;obtain⟨A,cap,rfl,_,_,hat,_⟩:=hV.at_;obtain⟨A1,Lv,rfl,_,_,_,_⟩:=hO.at_
  by_cases he:e1=0
  case neg =>
   obtain ⟨_,hp,ht,hl,eN,Ji⟩:e1≠0/\p=[]/\t=[X]/\l=[]/\b0=X/\e0=e1:=by
    rcases hrest with h1|⟨h1,_⟩
    ·exact h1
    ·exact absurd h1 he
   subst hp;subst ht;have t1:(e1 == 0)=false:=by simpa using he
   have t3:(e1 != 0)=true:=by simpa using he
   obtain ⟨gt,rfl⟩:∃gt,A=some ⟨gt,0,none⟩:=by
    rcases hV.cases with⟨h1,h2⟩|⟨g,_,_,h2,_⟩
    ·cases h2
    ·injection h2 with h2;exact⟨g,h2⟩
   obtain ⟨aeT,abh,hcell⟩:w1.heap.size<=gt/\gt<wr.heap.size/\∀j,j<4->wr.cell? ⟨gt,j,none⟩=(bt X)[j]?:=by
    rcases hV.cases with⟨h1,_⟩|⟨g,cap',cur,h1,h2,h3,h4,h5,h6⟩
    ·cases h1
    ·injection h1 with h1 _ _
     injection h1 with h1;injection h1 with h1;subst h1;exact⟨h2,h3.lt,fun j hj=>by have:=h6 0 (tG _) j hj;rw[zl,eY]at this;exact this⟩
   have Yp:b9<w1.heap.size:=Lu.o.lt;have hgb:gt≠b9:=by omega
   have HO:=zH hO;have abj:=zH (Yn.o.trans hE);have R4:=Lu.o.ext hE;obtain⟨Ph,js⟩:∃Ph:Nat->World->Prop,Ph=fun j w'=>Only [b9] wr w'/\Has w' b9 (.cells (bt (if 1<=j then X else mJ)).toArray 41):=⟨_,rfl⟩
   have US:Hid (Ph 0 wr.drew):=by
    show Ph 0 _;rw[js];exact⟨Only.az (Ext.refl _).drew,R4.ext (Ext.refl _).drew⟩
   have hne:Nonempty (Hp Ph):=⟨⟨0,_,US.o⟩⟩;have uX:∀u:Hp Ph,∀j,j<4->u.w.cell? ⟨gt,j,none⟩=(bt X)[j]?:=by
    rw[js];exact Hp.all (T:=fun w'=>∀j,j<4->w'.cell? ⟨gt,j,none⟩=(bt X)[j]?) (fun _ _ h j hj=>(jE (h.1.block gt abh (by simpa using hgb)) j).trans (hcell j hj))
   have ux0:∀u:Hp Ph,u.w.cell? (gt,0)=some (.int .i64 X.dir):=fun u=>uX u 0 (by decide)
   have ux1:∀u:Hp Ph,u.w.cell? (gt,1)=some (.string (bs X.name)):=fun u=>uX u 1 (by decide)
   have ux2:∀u:Hp Ph,u.w.cell? (gt,2)=some (.int .i64 X.no):=fun u=>uX u 2 (by decide)
   have ux3:∀u:Hp Ph,u.w.cell? (gt,3)=some (.int .i64 X.depth):=fun u=>uX u 3 (by decide)
   have S0:Hid (∀u,Ph 0 u->∃cs tt,Has u b9 (.cells cs tt)/\cs.size=(Value.agg (bt X).toArray).cells.size/\Ph 1 (u.setCells b9 0 (Value.agg (bt X).toArray).cells.toList)):=by
    show ∀_,_;rw[js];rintro u ⟨h1,h2⟩;exact⟨_,_,h2,rfl,h1.then (cr (g:=b9) (bt X) 0 u),h2.yQ X⟩
   have KQ:Hid (∀w',Ph 1 w'->Only [b9] wr w'/\Has w' b9 (.cells (bt X).toArray 41)):=by
    show ∀_,_;rw[js];exact fun _ h=>h
   have HL:=zH hl;have HB:=zH eN;have HEZ:=zH Ji;clear js uX he hrest hl eN Ji hO hV hap hE sO sS hat hcell;simp only[gj,bk,eY];go_upto_region 12 with fail;refine fw Ph [6] (by kernel_rfl) (by kernel_rfl) (by kernel_rfl) US.o ?_
   repeat (first
    | (
      refine fK (by kernel_rfl) (fun K hK=>?_);go_simp;refine hK _ ?_;clear hK K)
    | (
      refine dh 0 (by kernel_rfl) rfl (fun K hK=>?_);refine⟨undef,vF rfl _ _ b9 (.agg (bt X).toArray) rfl rfl pR (rv (cs:=bt X) (pQ X)) S0.o,hK _ ?_⟩;clear hK K
      try simp only[Act.put]))
   refine kq ?_;intro w9 hw9;obtain⟨O9,R9⟩:=KQ.o _ hw9;clear ux0 ux1 ux2 ux3 S0 US hw9 KQ
   iterate 12 (try (first|go_values|go_skip|go_guarded|go_step|go_upon))
   have y0:=R9.cell 0;have y1:=R9.cell 1;have y2:=R9.cell 2;have y3:=R9.cell 3;have hww:w.heap.size<=w1.heap.size:=Yn.o.size;refine aT (v:=.tuple #[.slice A1 0 Lv,.agg (bt X).toArray,e1]) (by simp[results,results15,go_sem,y0,y1,y2,y3]) rfl ?_;exact⟨_,by rw[HB.o,HEZ.o],by rw[HL.o];exact (HO.o.only O9 (fun g hg hm=>by have:=(HO.o.lt hg).1;rw[ax]at hm;omega)).base hww,O9.after abj.o (fun z hz=>by rw[ax]at hz;omega)⟩
  obtain ⟨_,hd,l1,hD,hL,hm⟩:e1=0/\s.dead=false/\∃l1,lE s.t cu cg t l1 b0 e0/\l=p++l1/\gk=l1.length+1:=by
   rcases hrest with⟨h1,_⟩|h1
   ·exact absurd he h1
   ·exact h1
  subst he
  cases t with
  | nil =>
   obtain⟨rfl,rfl,rfl⟩:l1=[]/\b0=mJ/\e0=0:=by cases hD;exact⟨rfl,rfl,rfl⟩
   have HL:=zH hL;have HO:=zH hO;have Dh:=zH hE;obtain⟨np,Cq⟩:=ai p.length;rw[<-Cq]at HO|-;have R5:=Lu.o.ext hE;clear hD hL hO hV hap hE sO sS hrest hm hat Cq;simp only[gj];go_wp2_with (refine oC rfl _ _ rfl b9 mJ mJ rfl rfl R5 ?_;intro w9 R9 O9);have y0:=R9.cell 0;have y1:=R9.cell 1;have y2:=R9.cell 2;have y3:=R9.cell 3;have Yp:b9<w1.heap.size:=Lu.o.lt;have hww:w.heap.size<=w1.heap.size:=Yn.o.size;refine aT (v:=.tuple #[.slice A1 np Lv,.agg (bt mJ).toArray,()]) (by simp[results,results15,go_sem,y0,y1,y2,y3]) rfl ?_;exact⟨_,rfl,by rw[HL.o,iR];exact (HO.o.only O9 (fun g hg hm=>by have:=(HO.o.lt hg).1;rw[ax]at hm;omega)).base hww,O9.after (Yn.o.trans Dh.o) (fun z hz=>by rw[ax]at hz;omega)⟩
  | cons x' t' =>
   have hV0:=hV;obtain⟨gt,rfl⟩:∃gt,A=some ⟨gt,0,none⟩:=by
    rcases hV.cases with⟨h1,h2⟩|⟨g,_,_,h2,_⟩
    ·cases h2
    ·injection h2 with h2;exact⟨g,h2⟩
   obtain ⟨aeT,abh,hcell⟩:w1.heap.size<=gt/\gt<wr.heap.size/\∀k,(h:k<(x'::t').length)->∀j,j<4->wr.cell? ⟨gt,k*4+j,none⟩=(bt (x'::t')[k])[j]?:=by
    rcases hV.cases with⟨h1,_⟩|⟨g,cap',cur,h1,h2,h3,h4,h5,h6⟩
    ·cases h1
    ·injection h1 with h1 _ _
     injection h1 with h1;injection h1 with h1;subst h1;exact⟨h2,h3.lt,h6⟩
   have q0:wr.cell? (gt,0)=some (.int .i64 x'.dir):=hcell 0 (tG _) 0 (by decide);have q1:wr.cell? (gt,1)=some (.string (bs x'.name)):=hcell 0 (tG _) 1 (by decide);have q2:wr.cell? (gt,2)=some (.int .i64 x'.no):=hcell 0 (tG _) 2 (by decide);have q3:wr.cell? (gt,3)=some (.int .i64 x'.depth):=hcell 0 (tG _) 3 (by decide);obtain⟨T,hT⟩:=ai t'.length;obtain⟨np,Cq⟩:=ai p.length;have e2:(x'::t').length=T+1:=by rw[hT];rfl
   rw[e2]at hV sO|-;rw[<-Cq]at hO sO|-;have hdx:=sS x' (bY ..);have hpl:np<=1000:=by rw[Cq];have:=nu List.length hL;rw[aZ]at this;omega
   rw[<-Cq]at hdx;have HV:=zH hV;have HO:=zH hO;have HAP:=zH hap;have Dh:=zH hE;have aa8:=zH sS;have HD:=zH hD;have HL:=zH hL;have HM:=zH hm;have HC:=zH hcell;have HT2:=zH hT;have Ww:=zH Cq;have c0:=(abg.o.ext hE).cell 0;have c1:=(abg.o.ext hE).cell 1;have cz:=(abg.o.ext hE).lt;simp only[gA,gB,gC]at c0 c1;have KI:=zH (fun u (hu:Ext wr u)=>(Yo.o.ext (hE.trans hu)).UQ HS.o hc cu cg x' hdx.1 (by omega));clear hD hL hO hV hV0 hap hE sS hrest hm hat hcell hT Cq e2;go_upto_region 6 with fail;obtain⟨W5,kT⟩:=ai (wr.alloc (.cells #[x'.dir,bs x'.name,x'.no,x'.depth] 41));obtain⟨bx,vT⟩:=ai wr.heap.size;have X5:Has W5 bx (.cells #[x'.dir,bs x'.name,x'.no,x'.depth] 41):=by rw[kT,vT];exact Has.new _ _
   have E5:Ext wr W5:=by rw[kT];exact (Ext.refl _).alloc _
   rw[<-kT,<-vT];have af7:wr.heap.size<=bx:=by omega
   clear kT vT q0 q1 q2 q3;have d0:=(E5.cell cz).trans c0;have d1:=(E5.cell cz).trans c1;have dz:b5<W5.heap.size:=by have:=E5.size;omega
   have x0:=aA X5 0 rfl;have x1:=aA X5 1 rfl;have x2:=aA X5 2 rfl;have x3:=aA X5 3 rfl;have xz:=X5.lt;clear c0 c1 cz;go_upto_region 7 with (go_at_call 44;refine (KI.o _ E5).mono ?_;rintro e w4 ⟨v4,rfl,EC,b4⟩);clear d0 d1 dz x0 x1 x2 x3 xz KI;have lm:=Ie hd cu cg x';obtain⟨e3,pX⟩:=ai (ln s cu cg x');obtain⟨l4,xO⟩:=ai (oY s cu cg x');have aeM:l4.length<=900:=by rw[xO];exact nk (yR HS.o cu cg x') hc
   have abe:Hid (∀z∈l4,z.depth=x'.depth+1):=by show ∀_∈_,_;rw[xO];exact fun z hz=>sG hz
   rw[<-pX,<-xO]at lm;rw[<-xO]at EC;rw[<-pX];have MU:=zH lm;have X4:=X5.ext b4;have x0:=aA X4 0 rfl;have x1:=aA X4 1 rfl;have x2:=aA X4 2 rfl;have x3:=aA X4 3 rfl;have xz:=X4.lt
   by_cases h3:e3=0
   case neg =>
    have t3:(e3 != 0)=true:=by simpa using h3
    obtain ⟨jZ,eN,Ji⟩:l1=[]/\b0=x'/\e0=e3:=by
     have hne:iW s.t cu cg x'≠0:=by rw[<-MU.o.1];exact h3
     have mZ:=HD.o
     cases mZ with
     | bad h=>exact⟨rfl,rfl,MU.o.1.symm⟩
     | step h _=>exact absurd h hne
    have HL1:=zH jZ;have R4:=Lu.o.ext (Dh.o.trans (E5.trans b4));have aeU:=zH (HO.o.ext (E5.trans b4));have abj:=zH (Yn.o.trans (Dh.o.trans (E5.trans b4)));obtain⟨Ph,js⟩:∃Ph:Nat->World->Prop,Ph=fun j w'=>Only [b9] w4 w'/\Has w' b9 (.cells (bt (if 1<=j then x' else mJ)).toArray 41):=⟨_,rfl⟩
    have US:Hid (Ph 0 w4.drew):=by
     show Ph 0 _;rw[js];exact⟨Only.az (Ext.refl _).drew,R4.ext (Ext.refl _).drew⟩
    have hne:Nonempty (Hp Ph):=⟨⟨0,_,US.o⟩⟩;have aeV:bx≠b9:=by have:=Lu.o.lt;have:=Dh.o.size;omega
    have uX:∀u:Hp Ph,Has u.w bx (.cells #[x'.dir,bs x'.name,x'.no,x'.depth] 41):=by
     rw[js];exact Hp.all (T:=fun w'=>Has w' bx (.cells #[x'.dir,bs x'.name,x'.no,x'.depth] 41)) (fun _ _ h=>h.1.has X4 (by simpa using aeV))
    have ux0:∀u:Hp Ph,u.w.cell? (bx,0)=some (.int .i64 x'.dir):=fun u=>(uX u).cell 0
    have ux1:∀u:Hp Ph,u.w.cell? (bx,1)=some (.string (bs x'.name)):=fun u=>(uX u).cell 1
    have ux2:∀u:Hp Ph,u.w.cell? (bx,2)=some (.int .i64 x'.no):=fun u=>(uX u).cell 2
    have ux3:∀u:Hp Ph,u.w.cell? (bx,3)=some (.int .i64 x'.depth):=fun u=>(uX u).cell 3
    have S0:Hid (∀u,Ph 0 u->∃cs tt,Has u b9 (.cells cs tt)/\cs.size=(Value.agg (bt x').toArray).cells.size/\Ph 1 (u.setCells b9 0 (Value.agg (bt x').toArray).cells.toList)):=by
     show ∀_,_;rw[js];rintro u ⟨h1,h2⟩;exact⟨_,_,h2,rfl,h1.then (cr (g:=b9) (bt x') 0 u),h2.yQ x'⟩
    have KQ:Hid (∀w',Ph 1 w'->Only [b9] w4 w'/\Has w' b9 (.cells (bt x').toArray 41)):=by
     show ∀_,_;rw[js];exact fun _ h=>h
    clear js uX h3 jZ x0 x1 x2 x3 xz EC lm;have eN:=eN.symm;have Ji:=Ji.symm;subst eN Ji;go_upto_region 8 with fail;refine fw Ph [4] (by kernel_rfl) (by kernel_rfl) (by kernel_rfl) US.o ?_
    repeat (first
     | (
       refine fK (by kernel_rfl) (fun K hK=>?_);go_simp;refine hK _ ?_;clear hK K)
     | (
       refine dh 0 (by kernel_rfl) rfl (fun K hK=>?_);refine⟨undef,vF rfl _ _ b9 (.agg (bt x').toArray) rfl rfl pR (rv (cs:=bt x') (pQ x')) S0.o,hK _ ?_⟩;clear hK K
       try simp only[Act.put]))
    refine kq ?_;intro w9 hw9;obtain⟨O9,R9⟩:=KQ.o _ hw9;clear ux0 ux1 ux2 ux3 S0 US hw9 KQ
    iterate 12 (try (first|go_values|go_skip|go_guarded|go_step|go_upon))
    have y0:=R9.cell 0;have y1:=R9.cell 1;have y2:=R9.cell 2;have y3:=R9.cell 3;have Yp:b9<w1.heap.size:=Lu.o.lt;have hww:w.heap.size<=w1.heap.size:=Yn.o.size;refine aT (v:=.tuple #[.slice A1 np Lv,.agg (bt x').toArray,.int .i64 (ln s cu cg x')]) (by simp[results,results15,go_sem,y0,y1,y2,y3]) rfl ?_;exact⟨_,by rw[pX],by rw[HL.o,HL1.o,iR];exact (aeU.o.only O9 (fun g hg hm=>by have:=(HO.o.lt hg).1;rw[ax]at hm;omega)).base hww,O9.after abj.o (fun z hz=>by rw[ax]at hz;omega)⟩
   have t3:(e3 != 0)=false:=by simpa using h3
   obtain ⟨l2,J2,ym⟩:∃l2,l1=x'::l2/\lE s.t cu cg (l4++t') l2 b0 e0:=by
    have h0:iW s.t cu cg x'=0:=by rw[<-MU.o.1];exact h3
    have mZ:=HD.o;rw[MU.o.2]
    cases mZ with
    | bad h=>exact absurd h0 h
    | step _ hd3=>exact⟨_,rfl,hd3⟩
   have Xw:=zH J2;have HD2:=zH ym;obtain⟨A4,c4,hv4,acR,_⟩:=EC.at_;obtain⟨n4,Jm⟩:=ai l4.length;rw[<-Jm]at hv4;have Nn:=zH EC;subst hv4;have E4:Ext wr w4:=E5.trans b4;have acZ:w1.heap.size<=w4.heap.size:=(Dh.o.trans E4).size;obtain⟨v6,w6,hr6,Rv,hg6,GL⟩:=vC w4 (HO.o.ext E4) acZ x' (by rw[<-Ww.o];omega);have E6:Ext w1 w6:=((Dh.o.trans E4).alloc _).grown hg6 (fun g hv=>(HO.o.lt hv).1);have o6:Only (Value.slice A1 np Lv).ownBlock.toList w4 w6:=(Only.lh _ _ _).then (Only.of_grownBy hg6 (fun g hv=>cR.2 hv));have O46:eO w6 w1.heap.size (.slice A4 n4 c4) l4:=(Nn.o.only o6 (fun g hv hm=>by
    have h1:=(Nn.o.lt hv).1;have h2:=(HO.o.lt (cR.1 hm)).2;have:=E5.size;omega)).base (by have:=(Dh.o.trans E5).size;exact this)
   obtain ⟨o,ho,hso⟩:∃o,(cap=1/\o=0\/cap≠1/\o=4)/\(if cap=1 then some (⟨gt,0,none⟩:Addr) else some ⟨gt,4,none⟩)=some ⟨gt,o,none⟩:=by
    by_cases V6:cap=1
    ·exact⟨0,.inl ⟨V6,rfl⟩,by rw[af V6]⟩
    ·exact⟨4,.inr ⟨V6,rfl⟩,by rw[ac V6]⟩
   have Xx:T+1<=cap:=by
    rcases HV.o.2 with⟨e,_⟩|⟨g,cap',_,e,_,_,hn,_⟩
    ·cases e
    ·injection e with _ e1 e2
     omega
   have ac0:∀j,w6.cell? ⟨gt,j,none⟩=wr.cell? ⟨gt,j,none⟩:=fun j=>jE ((o6.block gt (by have:=E4.size;omega) (fun hm=>by have cq:=cR.1 hm;rw[Ww.o]at cq;exact HAP.o gt cq rfl)).trans (yX E4 gt abh)) j
   have hh2:∀k,(h:k<t'.length)->∀j,j<4->w6.cell? ⟨gt,o+k*4+j,none⟩=(bt t'[k])[j]?:=fun k hk j hj=>by
    rcases ho with⟨h1,_⟩|⟨_,rfl⟩
    ·have:=HT2.o;omega
    ·have h:=HC.o (k+1) (by simpa using hk) j hj
     rw[ac0,show 4+k*4+j=(k+1)*4+j by omega,h];simp
   have htt:t'.length=T:=HT2.o.symm;obtain⟨v8,w8,hr8,hO8,UT,gH⟩:=Dv w6 O46 E6.size t' gt o (cap-1) hh2 (by omega) (by omega);rw[htt]at hr8;have HR6:=zH hr6;have HR8:=zH hr8;have E8:Ext w1 w8:=E6.grown UT (fun g hv=>(O46.lt hv).1);have hv6:∀g,v6.ownBlock=some g->g<W5.heap.size\/w4.heap.size<=g:=fun g hg=>by
    rcases GL with e|e
    ·rw[e]at hg;have:=(HO.o.lt hg).2;have:=E5.size;exact .inl (by omega)
    ·rw[e]at hg;injection hg with hg;exact .inr (by omega)
   have O68:eO w8 w1.heap.size v6 (p++[x']):=Rv.only (L:=(Value.slice A4 n4 c4).ownBlock.toList) (Only.of_grownBy UT (fun g hv=>cR.2 hv)) (fun g hg hm=>by
    have h2:=Nn.o.lt (cR.1 hm);rcases hv6 g hg with h|h<;>omega)
   have ac1:∀g,v6.ownBlock=some g->v8.ownBlock≠some g:=fun g hg he=>by
    rcases gH with e|e
    ·rw [e]at he
     have h2:=Nn.o.lt he;rcases hv6 g hg with h|h<;>omega
    ·rw [e]at he
     injection he with he;have:=(Rv.lt hg).2;omega
   have Lw:=zH hO8;have aeW:=zH O68;have aeX:=zH ac1;have Qj:=zH E8;have HCC:=zH Xx;clear J2 ym EC Jm E4 acZ hr6 Rv hg6 GL E6 o6 O46 ac0 hh2 hr8 hO8 UT gH E8 hv6 O68 ac1 ho pX xO lm X4 X5 E5 b4;go_wp2_with (first|(at_builtin;refine nj _ rfl _ _ 39 39 rfl _ _ rfl rfl _ _ HR6.o ?_)|(at_builtin;refine nj _ rfl _ _ 39 39 rfl _ _ rfl rfl _ _ HR8.o ?_));go_roundg (l2.length+1)
   case measure=>rw[HM.o,Xw.o];simp
   case rel =>
    refine⟨p++[x'],l4++t',aeW.o,Lw.o,aeX.o,Qj.o,?_,fun z hz=>?_,.inr ⟨by trivial,hd,l2,HD2.o,by rw[HL.o,Xw.o];simp,rfl⟩⟩
    ·have:=HT2.o
     have:=Ww.o;rw[aZ,aZ,lF];omega
    ·have:=Ww.o
     rw[aZ,lF];rcases dn.1 hz with hm|hm
     ·have:=abe.o z hm
      omega
     ·have:=aa8.o z (cf _ hm)
      omega
end
end
end Go.Proofs.YtpibnfdolojpcaaGreat
