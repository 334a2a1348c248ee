import Derived.Test.YtpibnfdolojpcaaGreatBunI
import Derived.Test.YtpibnfdolojpcaaGreatBunD
import Derived.Test.YtpibnfdolojpcaaGreatBunC
import Derived.Test.YtpibnfdolojpcaaGreatBunH
import Derived.Deep.RegionWith
set_option maxHeartbeats 8000000
set_option maxRecDepth 100000
namespace Go.Proofs.YtpibnfdolojpcaaGreat
open Go.Proofs.Tryz
open Go.ChangeShapes Go.WideShapes Go.ChangeAt Go.RowKit
variable {S:ag} {c B:Nat} {nm:List UInt8} {w w':World} {g:cI} {n:ak} {no now dir x:Int} {l:List aK} {X:cY}
section
theorem sC (hne:no≠n.no):aa (aV S n).nodes no=aa S.nodes no:=(nO hne).1
theorem TB (hu:aQ S.nodes S.last) (hkb:iI S n.no=true) (hi:aW S.nodes n.no=true) (hv:n.dev=(aa S.nodes n.no).dev) (hk:n.kind=(aa S.nodes n.no).kind) (hd:n.data=(aa S.nodes n.no).data):gS (aV S n) n.no=gS S n.no:=by
 have hg:=G_ hu hi;have tm:aW (aV S n).nodes n.no=true:=by show aW (cP S.nodes n) n.no=true;rw[kf];exact hi
 have hb:iI (aV S n) n.no=iI S n.no:=by
  unfold iI;rw[hi,tm,hg,hv];rfl
 unfold gS;have hq:Aw (aV S n) (aa (aV S n).nodes n.no)=Aw S (aa S.nodes n.no):=by
  unfold Aw;rw[hg,hv,hk,hd];rfl
 have hn:dO (aV S n).nodes n.no=dO S.nodes n.no:=by
  unfold dO aV cP
  induction S.nodes with
  | nil=>rfl
  | cons m ms ih =>
   simp only[dM,jH]at ih|-;rw[ih]
   by_cases e:m.no=n.no
   ·simp[e]
   ·simp[e]
 rw[hq,hn,hb,af hkb,af hkb];rfl
theorem Ha {k:Int} (h:rO c k S) (hi:aW S.nodes no=true) (ho:aw S.ae no=no) (hr:aI S.ae (aa S.nodes no).dev≠no) (hne:(aa S.nodes no).kind=1->(aa S.nodes no).ah=[]) (rC:k=0\/(k=no/\(aa S.nodes no).kind=1)):eB c (jm S now (aa S.nodes no)):=by
 obtain⟨_,bB,hm⟩:=ap hi;have hb:=h.bits _ hm;unfold jm;split
 ·have hkb:iI S no=true:=by unfold iI;rw[hi];simpa using hr
  have e:gS (aV S (gT now (aa S.nodes no))) (aa S.nodes no).no=gS S no:=by
   have:=TB h.bL (n:=gT now (aa S.nodes no)) (by show iI S (aa S.nodes no).no=true;rw[bB];exact hkb) (by show aW S.nodes (aa S.nodes no).no=true;rw[bB];exact hi) (by show _=(aa S.nodes (aa S.nodes no).no).dev;rw[bB];rfl) (by show _=(aa S.nodes (aa S.nodes no).no).kind;rw[bB];rfl) (by show _=(aa S.nodes (aa S.nodes no).no).data;rw[bB];rfl);have e2:(gT now (aa S.nodes no)).no=no:=bB;rw[e2]at this;rw[bB];exact this
  rw[e];refine Tb h hkb ho ?_ hne
  ·rcases rC with e|e
   ·exact .inr (.inr e)
   ·exact .inr (.inl e.1)
 ·rename_i hl
  have hnk:(aa S.nodes no).kind≠1:=fun hk=>by
   have:=h.qs _ hm hk;rw[this]at hl;omega
  have hk0:k=0:=by
   rcases rC with e|e
   ·exact e
   ·exact absurd e.2 hnk
  subst hk0;have e1:∀{P:ak->Prop},P (aa S.nodes no)->P (aa S.nodes (gT now (aa S.nodes no)).no):=fun hp=>by
   have:(gT now (aa S.nodes no)).no=no:=bB;rw[this];exact hp
  refine uV h (.inl rfl) (by show aW S.nodes (aa S.nodes no).no=true;rw[bB];exact hi) (aE _) (e1 (P:=fun m=>(gT now (aa S.nodes no)).kind=m.kind) rfl) (e1 (P:=fun m=>(gT now (aa S.nodes no)).dev=m.dev) rfl) (e1 (P:=fun m=>(gT now (aa S.nodes no)).up=m.up) rfl) (fun mq=>absurd mq hnk) (h.qO (aa S.nodes no) hm) (h.names (aa S.nodes no) hm) (h.pos (aa S.nodes no) hm) (h.small (aa S.nodes no) hm) (h.on (aa S.nodes no) hm).2
   ⟨hb.1,hb.2.1,by show 1<=(aa S.nodes no).ar-1;omega,by show (aa S.nodes no).ar-1<=1000;omega⟩ (fun x hx=>h.FO (aa S.nodes no) hm x hx) (fun q hq Al _ CT Ab=>?_)
  rcases h.ups q hq Al (by have:=(h.bL.2 q hq).1;omega) with⟨_,u2⟩|⟨_,_,m,cq,u3,u4,_⟩
  ·exact absurd (u2.symm.trans CT) Ab
  ·have:m=aa S.nodes no:=jz h.bL cq hm (by rw[u3,CT];rfl)
   subst this;exact absurd u4 hnk
theorem Pk (hr:jQ l) {x:aK} (hx:x∈l) (he:x.1=nm):aY l nm=x.2:=by
 unfold aY
 cases hf:l.find? (fun x=>x.1 == nm) with
 | none=>have:=sW.1 hf x hx;simp at this;exact absurd he this
 | some y =>
  have h2:=tD (p:=fun x:aK=>x.1 == nm) hf;have mS:y.1=nm:=by simpa using h2
  have hy:=p5 hf;have : y=x:=by
   obtain⟨i,hi,rfl⟩:=mj hy;obtain⟨j,hj,rfl⟩:=mj hx;rcases RE i j with g|g|g
   ·have:=rF (Cu.1 hr i j hi hj g)
    rw[mS,he]at this;exact absurd rfl this
   ·subst g;rfl
   ·have:=rF (Cu.1 hr j i hj hi g)
    rw[mS,he]at this;exact absurd rfl this
  subst this;rfl
theorem vk (h:aY l nm≠0):∃x∈l,x.1=nm/\x.2=aY l nm:=by
 unfold aY at h|-
 cases hf:l.find? (fun x=>x.1 == nm) with
 | none=>rw[hf]at h;exact absurd rfl h
 | some y =>
  have h2:=tD (p:=fun x:aK=>x.1 == nm) hf;exact⟨y,p5 hf,by simpa using h2,rfl⟩
theorem lN {x:aK} (h:x∈eU l nm):x∈l/\x.1≠nm:=by
 unfold eU at h;rw[gz]at h;exact⟨h.1,by simpa using h.2⟩
theorem AQ (h:eB c S) (hi:aW S.nodes dir=true) (Cc:(aa S.nodes dir).kind=1) {k':Int} (hk':∀q∈S.nodes,q.kind=1->q.no≠k'->q.no≠aY (aa S.nodes dir).ah nm):rO c k' (dC S dir now (eU (aa S.nodes dir).ah nm)):=by
 obtain⟨_,bB,hmem⟩:=ap hi;refine CV h (.inl rfl) hi Cc (aE _) (h.qO _ hmem |>.sublist Mo) (fun x hx=>h.names _ hmem x (lN hx).1) (fun x hx=>h.pos _ hmem x (lN hx).1) ?_ (fun x hx=>h.FO _ hmem x (lN hx).1) (fun q hq Al GW CT Ab=>?_)
 ·have h1:(eU (aa S.nodes dir).ah nm).length<=(aa S.nodes dir).ah.length:=sX ..
  have:=h.small _ hmem;omega
 ·rcases h.Ca q hq Al with⟨_,u2⟩|⟨_,_,m,hm,u3,_,_,x,hx,u6⟩
  ·exact absurd (u2.symm.trans CT) Ab
  ·have:m=aa S.nodes dir:=jz h.bL hm hmem (by rw[u3,CT,bB])
   subst this;refine⟨x,?_,u6⟩;unfold eU;rw[gz];refine⟨hx,?_⟩;have:x.1≠nm:=fun e=>by
    have:=Pk (h.qO _ hmem) hx e;exact hk' q hq Al GW (by rw[this,u6])
   simpa using this
theorem TC {k:Int} (h:rO c k S) {y dev:Int} (hK:Kin S no dev y) (d:Int) (hd:ic S.ae d=true):aI S.ae d≠y:=by
 rcases cT h.roots d with⟨_,e2⟩|⟨j,hj,_,_,_,e4,_⟩
 ·rw[e2]at hd;cases hd
 ·rw [e4]
  exact fun e=>hK.2.1 _ (jh hj) e.symm
theorem Hb (h:eB c S) {cu cg:Int} (hl:bJ S cu cg dir nm=0) (hne:(bQ S cu cg dir nm).kind=1->(bQ S cu cg dir nm).ah=[]):eB c (gU S now (cL S cu cg dir nm) (bQ S cu cg dir nm) nm):=by
 obtain ⟨z1,z2,z3,z4,z5⟩:=eu hl;obtain⟨hi,Cc,_⟩:=a_ z1;obtain⟨_,bB,hmem⟩:=ap hi;rw[z5]at hne;obtain⟨no,hn⟩:=ai (aY (aa S.nodes dir).ah nm);rw[<-hn]at z2 z3 z5 hne;have hpos:=(h.bL.2 _ (ap z2).2.2).1;rw[(ap z2).2.1]at hpos;obtain⟨x,hx,ue,xK⟩:=vk (l:=(aa S.nodes dir).ah) (nm:=nm) (by rw[<-hn];omega);have hK:=h.FO _ hmem x hx;rw[xK,<-hn,bB]at hK;have hnd:no≠dir:=hK.1;unfold gU;rw[z4,z5,bB];have Xp:aa (dC S dir now (eU (aa S.nodes dir).ah nm)).nodes no=aa S.nodes no:=sC (by show no≠(aa S.nodes dir).no;rw[bB];exact hnd);have lm:aW (dC S dir now (eU (aa S.nodes dir).ah nm)).nodes no=true:=by
  show aW (cP S.nodes _) no=true;rw[kf];exact z2
 have BQ:=TC h hK (aa S.nodes no).dev (h.on _ (ap z2).2.2).1;rw[<-Xp]at BQ hne|-
 by_cases hk:(aa S.nodes no).kind=1
 ·have hT:=AQ h (now:=now) (nm:=nm) hi Cc (k':=no) (fun q _ _ hq=>by rw[<-hn];exact hq)
  exact Ha hT lm z3 BQ hne (.inr ⟨rfl,by rw[Xp];exact hk⟩)
 ·have hT:=AQ h (now:=now) (nm:=nm) hi Cc (k':=0) (fun q hq Al _ e=>by
   rw[<-hn]at e;have:=(ep h.bL hq).1;rw[e]at this;rw[this]at hk;exact hk Al)
  exact Ha hT lm z3 BQ hne (.inl rfl)
theorem Kw (h:eB c S) (cu cg now dir:Int) (nm:List UInt8):eB c (eQ S cu cg now dir nm):=by
 unfold eQ;split
 ·rename_i h0
  unfold ey at h0;split at h0
  ·rename_i h1;exact absurd h0 h1
  ·rename_i h1
   split at h0
   ·cases h0
   ·rename_i h2
    exact Hb h (bR.1 h1) (fun hk=>absurd hk h2)
 ·exact h
theorem Pm (h:eB c S) (cu cg now dir:Int) (nm:List UInt8):eB c (gJ S cu cg now dir nm):=by
 unfold gJ;split
 ·rename_i h0
  unfold fc at h0;split at h0
  ·rename_i h1;exact absurd h0 h1
  ·rename_i h1
   split at h0
   ·cases h0
   ·split at h0
    ·cases h0
    ·rename_i h3
     refine Hb h (bR.1 h1) (fun _=>?_);exact qD (by omega)
 ·exact h
theorem Po (S:ag) (now no:Int):(G9 S now no).last=S.last/\∀i,aI (G9 S now no).ae i=aI S.ae i:=by
 unfold G9;split
 ·unfold jm
  split
  ·unfold gS
   split
   ·exact⟨rfl,fun i=>by show aI (jb _ _ _) i=_;rw[MM];rfl⟩
   ·exact⟨rfl,fun _=>rfl⟩
  ·exact⟨rfl,fun _=>rfl⟩
 ·exact⟨rfl,fun _=>rfl⟩
theorem Hc (nm:List UInt8) (w:World) (h:nm.length<=1000000):Calls prog 197 #[bs nm] w (aO w (.int .i64 (cU nm))):=by
 have:=JX (bs nm) (by rw[bo];exact h) w;rw[qa]at this;exact this
theorem tT (B:Nat) (g:cI) (S:ag) (X:cY) (cu cg dir:Int) (nm:List UInt8) (w:World) (h:gv w B g S X) (hl:S.nodes.length<=1000000) (hu:aQ S.nodes S.last) (ie:nm.length<=1000000) :
  Calls prog 165 #[((),g.bF),.agg #[cu,cg],dir,bs nm] w (EU w B S cu cg dir nm):=by
 have h0:=h;have E0:Ext w ((w.alloc (.cells #[cu,cg] 27)).alloc (.cells () 66)):=((Ext.refl _).alloc _).alloc _;go_in;go_wp2_with fail;have b1:=Ext.refl ((w.alloc (.cells #[cu,cg] 27)).alloc (.cells () 66));have E1:=E0;have R0:=Has.new (w.alloc (.cells #[cu,cg] 27)) (.cells (aj,()) 66);rw[bi]at R0;have R1:=R0.ext b1;have C1:=((Has.new w (.cells #[cu,cg] 27)).alloc (.cells () 66)).ext b1;refine (eE B g S X dir _ (h.ext E1) hl hu).mono ?_;rintro e w2 ⟨A2,k2,rfl,gG,b2⟩;have R2:=R1.ext b2;have C2:=C1.ext b2;have hm:Hid (bn S cu cg dir nm=if aW S.nodes dir=false then 5 else if ¬(aa S.nodes dir).kind=1 then 9 else if ¬cU nm=0 then cU nm
  else if fh cu cg (aa S.nodes dir).uid (aa S.nodes dir).gid (aa S.nodes dir).mode 3=false then 6 else 0):=by show _=_;rfl
 have cq:Hid (dG S cu cg dir nm=if bn S cu cg dir nm=0 then aa S.nodes dir else aj):=by show _=_;rfl
 have xT:Hid (((aa S.nodes dir).no == 0)=!aW S.nodes dir):=by
  refine zH ?_
  cases hi:aW S.nodes dir
  ·rw[(aP hi).1];rfl
  ·have h1:=(hu.2 _ (ap hi).2.2).1
   simp;omega
 obtain⟨m,hmm⟩:=ai (aa S.nodes dir);rw[<-hmm]at gG hm cq xT|-;obtain⟨W3,cJ⟩:=ai (w2.alloc (.cells (m,A2,k2) 66));have iH:Ext w2 W3:=by rw[cJ];exact (Ext.refl _).alloc _
 have N3:Has W3 w2.heap.size (.cells (m,A2,k2) 66):=by rw[cJ];exact Has.new _ _
 have R3:=R2.ext iH;have C3:=C2.ext iH;have E3:Ext w W3:=(E1.trans b2).trans iH;obtain⟨b8,gH⟩:=ai w2.heap.size;obtain⟨i,hi⟩:=ai (aW S.nodes dir);rw[<-hi]at hm xT;clear hmm hi R1 C1 R2 C2;go_upto_region 2 with fail;rw[<-cJ];rw[<-gH]at N3|-;have mE:=gG.ext iH;clear cJ gH iH;have HS:Hid (∀(w5 w6:World) (x:Int),Ext w w5->Only [w.heap.size+1] w5 w6->bn S cu cg dir nm=x->x≠0->EU w B S cu cg dir nm (.returned (.tuple #[.agg (aj,()),x])) w6):=by
  show ∀(w5 w6:World) (x:Int),_;intro w5 w6 x hE hO hx aX;have hN:dG S cu cg dir nm=aj:=by rw[cq.o,ac (by rw[hx];exact aX)]
  exact⟨none,0,by rw[hx,hN],by rw[hN];exact aD.zero _ _,hO.after hE (by simp)⟩
 have k0':=aA N3 0 rfl;have Kk:=aA N3 2 rfl;have kz:=N3.lt
 cases i
 ·have hE:Hid (bn S cu cg dir nm=5):=by show _=_;rw[hm.o];rfl
  have tn:(m.no == 0)=true:=xT.o;clear hm;go_wp2_with (refine aq rfl _ _ rfl (w.heap.size+1) aj none 0 rfl rfl R3 ?_;intro w9 R9 O9);refine aT (v:=.tuple #[.agg (aj,()),.int .i64 5]) (db results165 _ _ (w.heap.size+1) aj none 0 _ rfl rfl R9) rfl ?_;exact HS.o _ _ _ E3 O9 hE.o (by decide)
 have tn:(m.no == 0)=false:=xT.o
 by_cases c1:m.kind=1
 case neg =>
  have t1:(m.kind == 1)=false:=by simpa using c1
  have qo:(m.kind != 1)=true:=by simpa using c1
  have hE:Hid (bn S cu cg dir nm=9):=by show _=_;rw[hm.o,ac (by decide),af c1]
  clear hm c1;go_wp2_with (refine aq rfl _ _ rfl (w.heap.size+1) aj none 0 rfl rfl R3 ?_;intro w9 R9 O9);refine aT (v:=.tuple #[.agg (aj,()),.int .i64 9]) (db results165 _ _ (w.heap.size+1) aj none 0 _ rfl rfl R9) rfl ?_;exact HS.o _ _ _ E3 O9 hE.o (by decide)
 have t1:(m.kind == 1)=true:=by simpa using c1
 have qo:(m.kind != 1)=false:=by simpa using c1
 have hma:Hid (bn S cu cg dir nm=if ¬cU nm=0 then cU nm else if fh cu cg m.uid m.gid m.mode 3=false then 6 else 0):=by show _=_;rw[hm.o,ac (by decide),ac (by simpa using c1)]
 clear hm c1;go_wp2_with fail;refine (Hc nm _ ie).mono ?_;rintro e w4 ⟨rfl,b4⟩;have R4:=R3.ext b4;have N4:=N3.ext b4;have C4:=C3.ext b4;have E4:=E3.trans b4;have tO:=mE.ext b4;obtain⟨v,hv⟩:=ai (cU nm);rw[<-hv]at hma|-;clear hv k0' Kk kz R3 N3 C3
 by_cases xa:v=0
 case neg =>
  have tv:(v == 0)=false:=by simpa using xa
  have tvb:(v != 0)=true:=by simpa using xa
  have hE:Hid (bn S cu cg dir nm=v):=by show _=_;rw[hma.o,af xa]
  have TD:=zH xa;clear hma xa;go_wp2_with (refine aq rfl _ _ rfl (w.heap.size+1) aj none 0 rfl rfl R4 ?_;intro w9 R9 O9);refine aT (v:=.tuple #[.agg (aj,()),v]) (db results165 _ _ (w.heap.size+1) aj none 0 _ rfl rfl R9) rfl ?_;exact HS.o _ _ _ E4 O9 hE.o TD.o
 have tv:(v == 0)=true:=by simpa using xa
 have tvb:(v != 0)=false:=by simpa using xa
 obtain⟨u,uJ⟩:=ai (fh cu cg m.uid m.gid m.mode 3);have mr:Hid (bn S cu cg dir nm=if u=false then 6 else 0):=by show _=_;rw[hma.o,ac (by simpa using xa),uJ]
 have HU:=zH uJ;have x0:=aA C4 0 rfl;have x1:=aA C4 1 rfl;have xz:=C4.lt;clear hma uJ xa;go_wp2_with (refine aB rfl _ rfl b8 m A2 k2 rfl N4 ?_);refine (pK cu cg _ _ _ m.mode m.uid m.gid _ _ _ _ _ _ 3 _).mono ?_;rw[<-HU.o];rintro e w5 ⟨rfl,b5⟩;have R5:=R4.ext b5;have N5:=N4.ext b5;have E5:=E4.trans b5;clear x0 x1 xz R4 N4
 cases u
 ·have hE:Hid (bn S cu cg dir nm=6):=by show _=_;rw[mr.o];rfl
  clear mr;go_wp2_with (refine aq rfl _ _ rfl (w.heap.size+1) aj none 0 rfl rfl R5 ?_;intro w9 R9 O9);refine aT (v:=.tuple #[.agg (aj,()),.int .i64 6]) (db results165 _ _ (w.heap.size+1) aj none 0 _ rfl rfl R9) rfl ?_;exact HS.o _ _ _ E5 O9 hE.o (by decide)
 ·have hE:Hid (bn S cu cg dir nm=0):=by show _=_;rw[mr.o];rfl
  have hN:Hid (dG S cu cg dir nm=m):=by show _=_;rw[cq.o,hE.o];rfl
  clear mr;go_wp2_with (first|(refine aB rfl _ rfl b8 m A2 k2 rfl N5 ?_)|(refine aq rfl _ _ rfl (w.heap.size+1) m A2 k2 rfl rfl R5 ?_;intro w6 R6 O6));refine aT (v:=.tuple #[.agg (m,A2,k2),()]) (db results165 _ _ (w.heap.size+1) m A2 k2 _ rfl rfl R6) rfl ?_;have uj:aD w6 B m A2 k2:=((tO.ext b5).only O6 (by
   intro b hb;rw[ax]at hb;subst hb;exact⟨by have:=h0.1;have:=h0.lt.1;omega,R5.fV (by decide)⟩))
  exact⟨A2,k2,by rw[hE.o,hN.o],by rw[hN.o];exact uj,O6.after E5 (by simp)⟩
def Kx (w:World) (B:Nat) (g:cI) (T:ag) (X:cY) (a x:Int) (e:Ending) (w':World):Prop:=e=.returned (.tuple #[a,x])/\∃g2,gv w' B g2 T X/\Only g.list w w'/\cI.on g2 g w
theorem TE {cu cg:Int} (h:gv w B g S X) (hE:Ext w w') (hx:dq S cu cg X.now dir nm n=x) (h0:x≠0):Kx w B g (cM S cu cg X.now dir nm n) X (eG S cu cg X.now dir nm n) (dq S cu cg X.now dir nm n) (.returned (.tuple #[(),x])) w':=by
 refine⟨?_,g,?_,Only.az hE,cI.ew _ _⟩
 ·unfold eG;rw[hx,ac h0]
 ·unfold cM;rw[hx,ac h0];exact h.ext hE
theorem xd (B:Nat) (g:cI) (S:ag) (X:cY) (cu cg dir:Int) (nm:List UInt8) (n:ak) (A:Option Addr) (c:Nat) (w:World) (h:gv w B g S X) (O:Ok S) (jZ:S.last<=100000) (hn:aD w B n A c) (mP:n.data.length<=1000000000) (ie:nm.length<=1000000) :
  Calls prog 164 #[((),g.bF),.agg #[cu,cg],dir,bs nm,.agg (n,A,c)] w (Kx w B g (cM S cu cg X.now dir nm n) X (eG S cu cg X.now dir nm n) (dq S cu cg X.now dir nm n)):=by
 obtain⟨W0,aJ⟩:=ai ((w.alloc (.cells #[cu,cg] 27)).alloc (.cells (n,A,c) 66));have E0:Ext w W0:=by rw[aJ];exact ((Ext.refl _).alloc _).alloc _
 obtain⟨b7,uk⟩:=ai w.heap.size;have C0:Has W0 b7 (.cells #[cu,cg] 27):=by rw[aJ,uk];exact (Has.new w _).alloc _
 have N0:Has W0 (b7+1) (.cells (n,A,c) 66):=by
  rw[aJ,uk];have:=Has.new (w.alloc (.cells #[cu,cg] 27)) (.cells (n,A,c) 66)
  rwa [bi]at this
 have aej:w.heap.size+2<=W0.heap.size:=by rw[aJ];simp
 have HO:=zH O;have aes:=O.live.count;have hcl:S.nodes.length<=100000:=by omega
 have Jh:=zH hcl;have hm:Hid (dq S cu cg X.now dir nm n=if ¬bn S cu cg dir nm=0 then bn S cu cg dir nm else if ¬aY (aa S.nodes dir).ah nm=0 then 7 else gp S (cV S cu cg X.now dir n)):=by show _=_;rfl
 have hp:Hid (bn S cu cg dir nm=0->dG S cu cg dir nm=aa S.nodes dir/\aW S.nodes dir=true):=fun h0=>⟨kI h0,(a_ h0).1⟩
 obtain⟨now,sR⟩:=ai X.now;have HS:Hid (∀(w':World) (x:Int),Ext w w'->dq S cu cg now dir nm n=x->x≠0->Kx w B g (cM S cu cg now dir nm n) X (eG S cu cg now dir nm n) (dq S cu cg now dir nm n) (.returned (.tuple #[(),x])) w'):=by
  show ∀(w':World) (x:Int),_;rw[sR];exact fun w' x hE hx h0=>TE h hE hx h0
 rw[<-sR]at hm|-;have TF:=zH sR;have lC:=zH E0;clear O aes hcl sR;go_in;go_upto_region 1 with fail;rw[<-aJ];rw[<-uk];have aek:b7<=w.heap.size:=by omega
 have ace:w.heap.size<=b7:=by omega
 clear aJ uk;have x0:=aA C0 0 rfl;have x1:=aA C0 1 rfl;have xz:=C0.lt;go_wp2_with fail;refine (tT B g S X cu cg dir nm _ (h.ext E0) (by have:=Jh.o;omega) HO.o.live.bL ie).mono ?_;rintro e w2 ⟨A2,k2,rfl,gG,b2⟩;obtain⟨m,hmm⟩:=ai (dG S cu cg dir nm);obtain⟨x,hx⟩:=ai (bn S cu cg dir nm);rw[<-hmm]at gG hp;rw[<-hx]at hm hp;rw[<-hmm,<-hx];obtain⟨W3,cJ⟩:=ai (w2.alloc (.cells (m,A2,k2) 66));obtain⟨OU,w_⟩:=ai w2.heap.size;have iH:Ext w2 W3:=by rw[cJ];exact (Ext.refl _).alloc _
 have M3:Has W3 OU (.cells (m,A2,k2) 66):=by rw[cJ,w_];exact Has.new _ _
 have oR:Ext W0 W3:=b2.trans iH;have C3:=C0.ext oR;have N3:=N0.ext oR;have mE:=gG.ext iH;have Zw:W0.heap.size<=OU:=by rw[w_];exact b2.size
 clear x0 x1 xz hmm hx C0 N0;go_upto_region 2 with fail;rw[<-cJ];rw[<-w_];clear cJ w_
 by_cases aX:x=0
 case neg =>
  have t0:(x == 0)=false:=by simpa using aX
  have nK:(x != 0)=true:=by simpa using aX
  have hE:Hid (dq S cu cg now dir nm n=x):=by show _=_;rw[hm.o,af aX]
  have HX:=zH aX;clear hm aX;go_wp2;go_ret2;exact HS.o _ _ (lC.o.trans oR) hE.o HX.o
 have t0:(x == 0)=true:=by simpa using aX
 have nK:(x != 0)=false:=by simpa using aX
 obtain⟨oX,hid⟩:=hp.o aX;have cq:Hid (dq S cu cg now dir nm n=if ¬aY m.ah nm=0 then 7 else gp S (cV S cu cg now dir n)):=by show _=_;rw[hm.o,ac (by simpa using aX),<-oX]
 have Ag:=zH oX;have HID:=zH hid;have hen:=HO.o.bj dir;rw[<-oX]at hen;have vg:=zH hen;have xR:=aA M3 11 rfl;have kz:=M3.lt;clear hm hp aX oX hid hen;go_wp2_with fail;refine (pD A2 m.ah k2 nm _ mE.ah.ah (by have:=vg.o.2;omega)).mono ?_;rintro e w4 ⟨rfl,b4⟩;obtain⟨v,hv⟩:=ai (aY m.ah nm);rw[<-hv]at cq;rw[<-hv];have C4:=C3.ext b4;have N4:=N3.ext b4;have M4:=M3.ext b4;have tO:=mE.ext b4;have E4:=oR.trans b4;clear hv xR kz C3 N3 M3 mE oR b4
 by_cases xa:v=0
 case neg =>
  have t1:(v == 0)=false:=by simpa using xa
  have qo:(v != 0)=true:=by simpa using xa
  have hE:Hid (dq S cu cg now dir nm n=7):=by show _=_;rw[cq.o,af xa]
  clear cq xa;go_wp2;go_ret2;exact HS.o _ _ (lC.o.trans E4) hE.o (by decide)
 have t1:(v == 0)=true:=by simpa using xa
 have qo:(v != 0)=false:=by simpa using xa
 have mr:Hid (dq S cu cg now dir nm n=gp S (cV S cu cg now dir n)):=by show _=_;rw[cq.o,ac (by simpa using xa)]
 clear cq xa;go_upto_region 6 with fail;obtain⟨dI,fj⟩:=ai (b7+1);rw[<-fj]at N4|-;have acf:dI<=b7+1:=by omega
 have acg:b7+1<=dI:=by omega
 clear fj;have Rj:=h.lt;have s0:=E0.size;have G5:OU≠dI:=by have:=b2.size;omega
 have ww:b7≠dI:=by omega
 have afO:g.bF≠dI:=by omega
 have nbf:(dI=g.bF)=False:=ml (by omega);have Kl:(g.bF=dI)=False:=ml (by omega);have n1:(dI=OU)=False:=ml (dA G5);have n2:(OU=dI)=False:=ml G5;have n3:(dI=b7)=False:=ml (dA ww);have n4:(b7=dI)=False:=ml ww;have Tq:Ext w w4:=lC.o.trans E4;have u1:=aA M4 1 rfl;have u2:=aA C4 0 rfl;have u3:=aA C4 1 rfl;have u4:w4.cell? (g.bF,3)=some (.int .i64 now):=by rw[TF.o];obtain⟨_,_,_,k,_⟩:=h.ext Tq;exact k.cell 3
 have f1:=aA N4 1 rfl;have f4:=aA N4 4 rfl;have f5:=aA N4 5 rfl;have f6:=aA N4 6 rfl;have f7:=aA N4 7 rfl;have f8:=aA N4 8 rfl;have yf:∀i,w4.frozen? ⟨dI,i,none⟩=false:=fun i=>(N4.free i).trans (by simp)
 have z1:=M4.lt;have z2:=C4.lt;have z3:=N4.lt;have z4:=(h.ext Tq).lt.1;go_upto_region 12 with fail;obtain⟨V,hV⟩:=ai ((((((w4.setCell (dI,1) (.int .i64 m.dev)).setCell (dI,4) (.int .i64 cu)).setCell (dI,5) (.int .i64 cg)).setCell (dI,6) (.int .i64 now)).setCell (dI,7) (.int .i64 now)).setCell (dI,8) (.int .i64 1));rw[<-hV];have N5:Has V dI (.cells #[.int .i64 ((cV S cu cg now dir n)).no,.int .i64 ((cV S cu cg now dir n)).dev,.int .i64 ((cV S cu cg now dir n)).kind,.int .i64 ((cV S cu cg now dir n)).mode,.int .i64 ((cV S cu cg now dir n)).uid,.int .i64 ((cV S cu cg now dir n)).gid,.int .i64 ((cV S cu cg now dir n)).mtime,.int .i64 ((cV S cu cg now dir n)).ctime,.int .i64 ((cV S cu cg now dir n)).ar,.int .i64 ((cV S cu cg now dir n)).up,.string (bs ((cV S cu cg now dir n)).data),.slice A ((cV S cu cg now dir n)).ah.length c] 66):=by
  rw[hV];have:=(((((N4.setCell 1 (.int .i64 m.dev)).setCell 4 (.int .i64 cu)).setCell 5 (.int .i64 cg)).setCell 6 (.int .i64 now)).setCell 7 (.int .i64 now)).setCell 8 (.int .i64 1);rw[Ag.o]at this|-;exact this
 have O5:Only [dI] w4 V:=by
  rw[hV];exact (((((Only.setCell _ _ _ _).then (Only.setCell _ _ _ _)).then (Only.setCell _ _ _ _)).then (Only.setCell _ _ _ _)).then (Only.setCell _ _ _ _)).then (Only.setCell _ _ _ _)
 clear hV u1 u2 u3 u4 f1 f4 f5 f6 f7 f8 yf z1 z2 z3 z4 nbf Kl n1 n2 n3 n4;obtain⟨n',hn'⟩:=ai (cV S cu cg now dir n);rw[<-hn']at N5 mr;have Tp:n'.data=n.data:=by rw[hn'];rfl
 have xb:n'.ah=n.ah:=by rw[hn'];rfl
 have Cd:=zH hn';have HDN:=zH Tp;have ha4:dE w4 B [dI]:=by
  intro b hb;rw[ax]at hb;subst hb;exact⟨by have:=h.1;omega,N4.fV (by decide)⟩
 have MF:∀b∈g.list,b∉[dI]:=by
  intro b hb;simp only[cI.list,aR,bg,bh]at hb;rw[ax];rcases hb with rfl|rfl|rfl<;>omega
 have F5:gv V B g S X:=(h.ext Tq).only O5 ha4 MF;have rR:aD V B n' A c:=((hn.ext Tq).only O5 ha4).same xb;have EN:=tO.only O5 ha4;have M5:=O5.has M4 (by simpa using G5);have Ow5:Only g.list w V:=(Only.az Tq).trans O5 (by intro b hb;rw[ax]at hb;right;omega);have E5:Ext w V:=O5.after Tq (by intro b hb;rw[ax]at hb;omega);clear hn' Tp xb;go_wp2_with (refine aB rfl _ rfl dI n' A c rfl N5 ?_);refine (N_ B g S X n' A c _ F5 Jh.o rR HO.o.live.roots HO.o.live.eight HO.o.live.bL (by have:=HO.o.live.last;omega) (by omega) (by rw[HDN.o];exact mP)).mono ?_;rintro e w6 ⟨rfl,bN,F6,O6,hbN⟩;obtain⟨e6,Ts⟩:=ai (gp S n');have bB:gp S n'=0->qI S n'=S.last+1:=fun h0=>by unfold qI;rw[af h0]
 obtain⟨no,wE⟩:=ai (qI S n');rw[<-Ts,<-wE]at bB;rw[<-Ts]at mr;rw[<-Ts,<-wE];have uh:=zH bB;have Km:=zH Ts;have M6:=O6.has M5 (by simp only[cI.list,aR,bg,bh];omega);have uj:=EN.only O6 F5.apart;have Ow6:=Ow5.then O6;have acq:bN=g.bN\/w.heap.size<=bN:=by rcases hbN with h|h;exact .inl h;exact .inr (by have:=E5.size;omega)
 have FP:cI.on ⟨g.bF,bN,g.bE⟩ g w:=⟨rfl,by
  intro b hb;simp only[cI.list,aR,bg,bh]at hb|-;rcases hb with rfl|rfl|rfl
  ·exact .inl (.inl rfl)
  ·rcases acq with h|h
   ·exact .inl (.inr (.inl h))
   ·exact .inr h
  ·exact .inl (.inr (.inr rfl))⟩
 have Wh:=zH FP;clear bB wE Ts hbN acq FP
 by_cases hz:e6=0
 case neg =>
  have t2:(e6 == 0)=false:=by simpa using hz
  have Wb:(e6 != 0)=true:=by simpa using hz
  have HZ:=zH hz;clear hz;go_wp2;go_ret2;have e1:dq S cu cg now dir nm n=e6:=mr.o;have e2:eG S cu cg now dir nm n=0:=by unfold eG;rw[ac (by rw[e1];exact HZ.o)]
  have e3:cM S cu cg now dir nm n=S:=by unfold cM;rw[ac (by rw[e1];exact HZ.o)]
  have e4:cC S n'=S:=by unfold cC;rw[ac (by rw[<-Km.o];exact HZ.o)]
  rw[e4]at F6;exact⟨by rw[e1,e2];rfl,⟨g.bF,bN,g.bE⟩,by rw[e3];exact F6,Ow6,Wh.o⟩
 have t2:(e6 == 0)=true:=by simpa using hz
 have Wb:(e6 != 0)=false:=by simpa using hz
 have HZ:=zH hz;have xR:=aA M6 11 rfl;have kz:=M6.lt;clear hz;go_wp2_with fail;refine (Gu A2 m.ah k2 (nm,no) _ uj.ah.ah (by have:=vg.o.2;omega)).mono ?_;rintro e w7 ⟨v7,rfl,hown,b7'⟩;obtain⟨A7,c7,rfl,q1,q2,q3,q4⟩:=hown.zS (B:=B);obtain⟨T,hT⟩:=ai (cC S n');rw[<-hT]at F6;have hTu:aQ T.nodes T.last:=by rw[hT];exact vc HO.o.live _
 have Xx:T.nodes.length<=1000000:=by
  rw[hT];unfold cC;have:=Jh.o;split
  ·simp;omega
  ·omega
 obtain⟨L7,Wd⟩:=ai (fC m.ah (nm,no));rw[<-Wd]at q1 q3|-;have KTT:Hid (Calls prog 166 #[((),g.bF),dir,.slice A7 L7.length c7] w7 (AG w7 B ⟨g.bF,bN,g.bE⟩ (dC T dir X.now L7) X)):=qx B ⟨g.bF,bN,g.bE⟩ T X dir A7 L7 c7 w7 (F6.ext b7') Xx hTu q3 q1 q2 q4;have HT:=zH hT;have HL7:=zH Wd;clear xR kz hown q1 q2 q3 q4 hT Wd;go_wp2_with fail;refine KTT.o.mono ?_;rintro e w8 ⟨rfl,K8,O8⟩;go_wp2;go_ret2;have e1:dq S cu cg now dir nm n=0:=by rw[mr.o];exact HZ.o
 have e2:eG S cu cg now dir nm n=no:=by unfold eG;rw[af e1];exact (uh.o HZ.o).symm
 have e3:cM S cu cg now dir nm n=dC T dir X.now L7:=by
  unfold cM;rw[af e1,HT.o,HL7.o,<-Cd.o,Ag.o,uh.o HZ.o,TF.o]
 refine⟨by rw[e1,e2];rfl,⟨g.bF,bN,g.bE⟩,by rw[e3];exact K8,(Ow6.ext b7').trans O8 (fun b hb=>Wh.o.2 b hb),Wh.o⟩
theorem cI.Xy {w0:World} {g2:cI} (h:cI.on g2 g w0) (E:Ext w w0):cI.on g2 g w:=⟨h.1,fun b hb=>by rcases h.2 b hb with k|k;exact .inl k;exact .inr (by have:=E.size;omega)⟩
theorem Fb {T:ag} {p a:Int} (h:gv w B g S X) (hE:Ext w w') (hp:p≠0):Kx w B g (gI p S T) X (lg p a) (jS p x) (.returned (.tuple #[(),p])) w':=
 ⟨by unfold lg jS;rw[af hp,af hp],g,by unfold gI;rw[af hp];exact h.ext hE,Only.az hE,cI.ew _ _⟩
theorem Ky {w0:World} {T:ag} {p a:Int} {e:Ending} (E:Ext w w0) (h:Kx w0 B g T X a x e w') (h0:p=0):e=.returned (.tuple #[a,x])/\Kx w B g (gI p S T) X (lg p a) (jS p x) e w':=by
 obtain⟨he,g2,hK,hO,hn⟩:=h;have n0:¬(p≠0):=fun x=>x h0
 exact⟨he,by unfold lg jS;rw[ac n0,ac n0];exact he,g2,by unfold gI;rw[ac n0];exact hK,Only.pre E hO,cI.Xy hn E⟩
theorem TG (B:Nat) (g:cI) (S:ag) (X:cY) (cu cg dir:Int) (nm:List UInt8) (mode:Int) (w:World) (h:gv w B g S X) (O:Ok S) (jZ:S.last<=100000) (ie:nm.length<=1000000) :
  Calls prog 122 #[((),g.bF),.agg #[cu,cg],dir,bs nm,mode] w
   (Kx w B g (gI (qv mode) S (cM S cu cg X.now dir nm (fx mode dir))) X (lg (qv mode) (eG S cu cg X.now dir nm (fx mode dir))) (jS (qv mode) (dq S cu cg X.now dir nm (fx mode dir)))):=by
 obtain⟨W0,aJ⟩:=ai (w.alloc (.cells #[cu,cg] 27));have E0:Ext w W0:=by rw[aJ];exact (Ext.refl _).alloc _
 have C0:Has W0 w.heap.size (.cells #[cu,cg] 27):=by rw[aJ];exact Has.new w _
 have x0:=aA C0 0 rfl;have x1:=aA C0 1 rfl;have xz:=C0.lt;obtain⟨p,hp⟩:=ai (qv mode);obtain⟨T,hT⟩:=ai (cM S cu cg X.now dir nm (fx mode dir));obtain⟨a,ha⟩:=ai (eG S cu cg X.now dir nm (fx mode dir));obtain⟨x,hx⟩:=ai (dq S cu cg X.now dir nm (fx mode dir));have HS:Hid (∀(w':World) (y:Int),Ext w w'->p=y->y≠0->Kx w B g (gI p S T) X (lg p a) (jS p x) (.returned (.tuple #[(),y])) w'):=by
  show ∀(w':World) (y:Int),_;intro w' y hE hy h0;subst hy;exact Fb h hE h0
 have KP:Hid (∀w1,Ext w w1->Calls prog 164 #[((),g.bF),.agg #[cu,cg],dir,bs nm,.agg #[.int .i64 ((fx mode dir)).no,.int .i64 ((fx mode dir)).dev,.int .i64 ((fx mode dir)).kind,.int .i64 ((fx mode dir)).mode,.int .i64 ((fx mode dir)).uid,.int .i64 ((fx mode dir)).gid,.int .i64 ((fx mode dir)).mtime,.int .i64 ((fx mode dir)).ctime,.int .i64 ((fx mode dir)).ar,.int .i64 ((fx mode dir)).up,.string (bs ((fx mode dir)).data),.slice none ((fx mode dir)).ah.length 0]] w1 (Kx w1 B g T X a x)):=by
  show ∀w1,_;intro w1 hE;rw[hT,ha,hx];refine xd B g S X cu cg dir nm (fx mode dir) none 0 w1 (h.ext hE) O jZ ⟨.nil _ _ _,aE _,bC _,fun _=>rfl⟩ ?_ ie;simp[fx,aj]
 rw[<-hp,<-hT,<-ha,<-hx];have HP:=zH hp;have lC:=zH E0;have Rj:=zH h;clear O hp E0 C0 hT ha hx;go_in;go_upto_region 1 with fail;rw[<-aJ];clear aJ
 by_cases c1:mode<0
 ·have t1:decide (mode<0)=true:=cj c1
  have hE:Hid (p=1):=by show _=_;rw[HP.o];unfold qv;rw[af (.inl c1)]
  go_wp2;go_ret2;exact HS.o _ _ lC.o hE.o (by decide)
 have t1:decide (mode<0)=false:=cG c1
 by_cases c2:1023<mode
 ·have t2:decide (1023<mode)=true:=cj c2
  have hE:Hid (p=1):=by show _=_;rw[HP.o];unfold qv;rw[af (.inr c2)]
  go_wp2;go_ret2;exact HS.o _ _ lC.o hE.o (by decide)
 have t2:decide (1023<mode)=false:=cG c2;have hE:Hid (p=0):=by show _=_;rw[HP.o];unfold qv;rw[ac (by omega)]
 go_wp2_with fail;refine (KP.o _ lC.o).mono ?_;rintro e w2 hr;obtain⟨rfl,hD⟩:=Ky (S:=S) lC.o hr hE.o;clear hr;go_wp2;go_ret2;exact hD
theorem Pr (B:Nat) (g:cI) (S:ag) (X:cY) (cu cg dir:Int) (nm:List UInt8) (mode:Int) (data:List UInt8) (w:World) (h:gv w B g S X) (O:Ok S) (jZ:S.last<=100000) (ie:nm.length<=1000000) (hd:data.length<=1000000000) :
  Calls prog 124 #[((),g.bF),.agg #[cu,cg],dir,bs nm,mode,bs data] w
   (Kx w B g (gI (jI mode data.length) S (cM S cu cg X.now dir nm (dy mode data))) X (lg (jI mode data.length) (eG S cu cg X.now dir nm (dy mode data))) (jS (jI mode data.length) (dq S cu cg X.now dir nm (dy mode data)))):=by
 obtain⟨W0,aJ⟩:=ai (w.alloc (.cells #[cu,cg] 27));have E0:Ext w W0:=by rw[aJ];exact (Ext.refl _).alloc _
 have C0:Has W0 w.heap.size (.cells #[cu,cg] 27):=by rw[aJ];exact Has.new w _
 have x0:=aA C0 0 rfl;have x1:=aA C0 1 rfl;have xz:=C0.lt;obtain⟨p,hp⟩:=ai (jI mode data.length);obtain⟨T,hT⟩:=ai (cM S cu cg X.now dir nm (dy mode data));obtain⟨a,ha⟩:=ai (eG S cu cg X.now dir nm (dy mode data));obtain⟨x,hx⟩:=ai (dq S cu cg X.now dir nm (dy mode data));have HS:Hid (∀(w':World) (y:Int),Ext w w'->p=y->y≠0->Kx w B g (gI p S T) X (lg p a) (jS p x) (.returned (.tuple #[(),y])) w'):=by
  show ∀(w':World) (y:Int),_;intro w' y hE hy h0;subst hy;exact Fb h hE h0
 have KP:Hid (∀w1,Ext w w1->Calls prog 164 #[((),g.bF),.agg #[cu,cg],dir,bs nm,.agg #[.int .i64 ((dy mode data)).no,.int .i64 ((dy mode data)).dev,.int .i64 ((dy mode data)).kind,.int .i64 ((dy mode data)).mode,.int .i64 ((dy mode data)).uid,.int .i64 ((dy mode data)).gid,.int .i64 ((dy mode data)).mtime,.int .i64 ((dy mode data)).ctime,.int .i64 ((dy mode data)).ar,.int .i64 ((dy mode data)).up,.string (bs ((dy mode data)).data),.slice none ((dy mode data)).ah.length 0]] w1 (Kx w1 B g T X a x)):=by
  show ∀w1,_;intro w1 hE;rw[hT,ha,hx];refine xd B g S X cu cg dir nm (dy mode data) none 0 w1 (h.ext hE) O jZ ⟨.nil _ _ _,aE _,bC _,fun _=>rfl⟩ ?_ ie;exact hd
 rw[<-hp,<-hT,<-ha,<-hx];have HP:=zH hp;have lC:=zH E0;have Rj:=zH h;clear O hp E0 C0 hT ha hx;go_in;go_upto_region 1 with fail;rw[<-aJ];clear aJ;have hsz:((bs data).size:Int)=data.length:=by rw[bo]
 by_cases c1:mode<0
 ·have t1:decide (mode<0)=true:=cj c1
  have hE:Hid (p=1):=by show _=_;rw[HP.o];unfold jI;rw[af (.inl c1)]
  go_wp2;go_ret2;exact HS.o _ _ lC.o hE.o (by decide)
 have t1:decide (mode<0)=false:=cG c1
 by_cases c2:1023<mode
 ·have t2:decide (1023<mode)=true:=cj c2
  have hE:Hid (p=1):=by show _=_;rw[HP.o];unfold jI;rw[af (.inr c2)]
  go_wp2;go_ret2;exact HS.o _ _ lC.o hE.o (by decide)
 have t2:decide (1023<mode)=false:=cG c2
 by_cases c3:(1048576:Int)<data.length
 ·have t3:decide ((1048576:Int)<(data.length:Int))=true:=cj c3
  have hE:Hid (p=3):=by show _=_;rw[HP.o];unfold jI;rw[ac (by omega),af c3]
  go_wp2;go_ret2;exact HS.o _ _ lC.o hE.o (by decide)
 have t3:decide ((1048576:Int)<(data.length:Int))=false:=cG c3;have hE:Hid (p=0):=by show _=_;rw[HP.o];unfold jI;rw[ac (by omega),ac c3]
 go_wp2_with fail;refine (KP.o _ lC.o).mono ?_;rintro e w2 hr;obtain⟨rfl,hD⟩:=Ky (S:=S) lC.o hr hE.o;clear hr;go_wp2;go_ret2;exact hD
theorem TH (B:Nat) (g:cI) (S:ag) (X:cY) (cu cg dir:Int) (nm:List UInt8) (text:List UInt8) (w:World) (h:gv w B g S X) (O:Ok S) (jZ:S.last<=100000) (ie:nm.length<=1000000) (hd:text.length<=1000000) :
  Calls prog 125 #[((),g.bF),.agg #[cu,cg],dir,bs nm,bs text] w
   (Kx w B g (gI (n_ text) S (cM S cu cg X.now dir nm (fL text))) X (lg (n_ text) (eG S cu cg X.now dir nm (fL text))) (jS (n_ text) (dq S cu cg X.now dir nm (fL text)))):=by
 obtain⟨W0,aJ⟩:=ai (w.alloc (.cells #[cu,cg] 27));have E0:Ext w W0:=by rw[aJ];exact (Ext.refl _).alloc _
 have C0:Has W0 w.heap.size (.cells #[cu,cg] 27):=by rw[aJ];exact Has.new w _
 have x0:=aA C0 0 rfl;have x1:=aA C0 1 rfl;have xz:=C0.lt;obtain⟨p,hp⟩:=ai (n_ text);obtain⟨T,hT⟩:=ai (cM S cu cg X.now dir nm (fL text));obtain⟨a,ha⟩:=ai (eG S cu cg X.now dir nm (fL text));obtain⟨x,hx⟩:=ai (dq S cu cg X.now dir nm (fL text));have HS:Hid (∀(w':World) (y:Int),Ext w w'->p=y->y≠0->Kx w B g (gI p S T) X (lg p a) (jS p x) (.returned (.tuple #[(),y])) w'):=by
  show ∀(w':World) (y:Int),_;intro w' y hE hy h0;subst hy;exact Fb h hE h0
 have KP:Hid (∀w1,Ext w w1->Calls prog 164 #[((),g.bF),.agg #[cu,cg],dir,bs nm,.agg #[.int .i64 ((fL text)).no,.int .i64 ((fL text)).dev,.int .i64 ((fL text)).kind,.int .i64 ((fL text)).mode,.int .i64 ((fL text)).uid,.int .i64 ((fL text)).gid,.int .i64 ((fL text)).mtime,.int .i64 ((fL text)).ctime,.int .i64 ((fL text)).ar,.int .i64 ((fL text)).up,.string (bs ((fL text)).data),.slice none ((fL text)).ah.length 0]] w1 (Kx w1 B g T X a x)):=by
  show ∀w1,_;intro w1 hE;rw[hT,ha,hx];refine xd B g S X cu cg dir nm (fL text) none 0 w1 (h.ext hE) O jZ ⟨.nil _ _ _,aE _,bC _,fun _=>rfl⟩ ?_ ie;show text.length<=_;omega
 rw [<-hp,<-hT,<-ha,<-hx];have HP:=zH hp;have lC:=zH E0;have Rj:=zH h;clear O hp E0 C0 hT ha hx;have hh:Hid (∀w',Calls prog 131 #[bs text,.int .u8 0] w' (aO w' (.bool (hasB text 0)))):=by
  show ∀w',_;intro w';have:=jw (bs text) 0 0 rfl (by rw[bo];exact hd) w';rw[qa]at this;exact this
 by_cases c0:text=[]
 ·have hE:Hid (p=1):=by show _=_;rw[HP.o];unfold n_;rw[af (.inl c0)]
  have hem:(bs text).toList.isEmpty=true:=by rw[bA,c0];rfl
  clear c0;go_in;go_upto_region 1 with fail;rw[<-aJ];clear aJ;go_wp2;go_ret2;exact HS.o _ _ lC.o hE.o (by decide)
 have hem:(bs text).toList.isEmpty=false:=by rw[bA,D_];exact c0
 have hsz:((bs text).size:Int)=text.length:=by rw[bo]
 have CZ:=zH c0;clear c0;go_in;go_upto_region 1 with fail;rw[<-aJ];clear aJ;go_wp2_with fail;refine (hh.o _).mono ?_;rintro e w1 ⟨rfl,b1⟩;obtain⟨hb,hhb⟩:=ai (hasB text 0);rw[<-hhb];have HB:=zH hhb;have E1:=lC.o.trans b1;have x0':w1.cell? (w.heap.size,0)=some (.int .i64 cu):=(b1.cell xz).trans x0;have Za:w1.cell? (w.heap.size,1)=some (.int .i64 cg):=(b1.cell xz).trans x1;have xz':w.heap.size<w1.heap.size:=by have:=b1.size;omega
 clear x0 x1 xz hhb;cases hb
 case true =>
  have hE:Hid (p=1):=by show _=_;rw[HP.o];unfold n_;rw[af (.inr HB.o.symm)]
  go_wp2;go_ret2;exact HS.o _ _ E1 hE.o (by decide)
 by_cases c1:(4096:Int)<text.length
 ·have t1:decide ((4096:Int)<(text.length:Int))=true:=cj c1
  have hE:Hid (p=13):=by show _=_;rw[HP.o];unfold n_;rw[ac (by rintro (h'|h');exact CZ.o h';rw[<-HB.o]at h';cases h'),af (by omega)]
  go_wp2;go_ret2;exact HS.o _ _ E1 hE.o (by decide)
 have t1:decide ((4096:Int)<(text.length:Int))=false:=cG c1;have hE:Hid (p=0):=by show _=_;rw[HP.o];unfold n_;rw[ac (by rintro (h'|h');exact CZ.o h';rw[<-HB.o]at h';cases h'),ac (by omega)]
 go_wp2_with fail;refine (KP.o _ E1).mono ?_;rintro e w2 hr;obtain⟨rfl,hD⟩:=Ky (S:=S) E1 hr hE.o;clear hr;go_wp2;go_ret2;exact hD
def ErF (w:World) (B:Nat) (g:cI) (T:ag) (X:cY) (x:Int) (e:Ending) (w':World):Prop:=e=.returned (.int .i64 x)/\∃g2,gv w' B g2 T X/\Only g.list w w'/\cI.on g2 g w
theorem Ps (B:Nat) (g:cI) (S:ag) (X:cY) (cu cg no dir:Int) (nm:List UInt8) (w:World) (h:gv w B g S X) (O:Ok S) (jZ:S.last<=100000) (ie:nm.length<=1000000) :
  Calls prog 126 #[((),g.bF),.agg #[cu,cg],no,dir,bs nm] w (ErF w B g (jl S cu cg X.now no dir nm) X (h_ S cu cg no dir nm)):=by
 obtain⟨W0,aJ⟩:=ai (w.alloc (.cells #[cu,cg] 27));have E0:Ext w W0:=by rw[aJ];exact (Ext.refl _).alloc _
 have C0:Has W0 w.heap.size (.cells #[cu,cg] 27):=by rw[aJ];exact Has.new w _
 have HO:=zH O;have hcl:S.nodes.length<=100000:=by have:=O.live.count;omega
 have Jh:=zH hcl;obtain⟨now,sR⟩:=ai X.now;have hm:Hid (h_ S cu cg no dir nm=if ¬bn S cu cg dir nm=0 then bn S cu cg dir nm else if aW S.nodes no=false then 5 else if (aa S.nodes no).kind=1 then 4
  else if ¬aY (aa S.nodes dir).ah nm=0 then 7 else if ¬(aa S.nodes no).dev=(aa S.nodes dir).dev then 11 else if 1000<=(aa S.nodes no).ar then 18 else 0):=by show _=_;rfl
 have hp:Hid (bn S cu cg dir nm=0->dG S cu cg dir nm=aa S.nodes dir/\aW S.nodes dir=true):=fun h0=>⟨kI h0,(a_ h0).1⟩
 have HS:Hid (∀(w':World) (x:Int),Ext w w'->h_ S cu cg no dir nm=x->x≠0->ErF w B g (jl S cu cg now no dir nm) X (h_ S cu cg no dir nm) (.returned (.int .i64 x)) w'):=by
  show ∀(w':World) (x:Int),_;intro w' x hE hx h0;rw[hx];refine⟨rfl,g,?_,Only.az hE,cI.ew _ _⟩;unfold jl;rw[ac (by rw[hx];exact h0)];exact h.ext hE
 have xT:Hid (((aa S.nodes no).no == 0)=!aW S.nodes no):=by
  refine zH ?_
  cases hi:aW S.nodes no
  ·rw[(aP hi).1];rfl
  ·have h1:=(O.live.bL.2 _ (ap hi).2.2).1
   simp;omega
 rw[<-sR];have TF:=zH sR;have lC:=zH E0;clear O hcl sR;go_in;go_upto_region 1 with fail;rw[<-aJ];clear aJ;have x0:=aA C0 0 rfl;have x1:=aA C0 1 rfl;have xz:=C0.lt;go_wp2_with fail;refine (tT B g S X cu cg dir nm _ (h.ext E0) (by have:=Jh.o;omega) HO.o.live.bL ie).mono ?_;rintro e w2 ⟨A2,k2,rfl,gG,b2⟩;obtain⟨m,hmm⟩:=ai (dG S cu cg dir nm);obtain⟨x,hx⟩:=ai (bn S cu cg dir nm);rw[<-hmm]at gG hp;rw[<-hx]at hm hp;rw[<-hmm,<-hx];obtain⟨W3,cJ⟩:=ai (w2.alloc (.cells (m,A2,k2) 66));obtain⟨mG,sQ⟩:=ai w2.heap.size;have iH:Ext w2 W3:=by rw[cJ];exact (Ext.refl _).alloc _
 have M3:Has W3 mG (.cells (m,A2,k2) 66):=by rw[cJ,sQ];exact Has.new _ _
 have E3:Ext w W3:=E0.trans (b2.trans iH);have mE:=gG.ext iH;have ach:w.heap.size<=mG:=by rw[sQ];exact (E0.trans b2).size
 clear x0 x1 xz hmm hx C0;go_upto_region 2 with fail;rw[<-cJ];rw[<-sQ];clear cJ sQ;go_wp2_with fail;refine (eE B g S X no _ (h.ext E3) (by have:=Jh.o;omega) HO.o.live.bL).mono ?_;rintro e w4 ⟨A4,k4,rfl,tO,b4⟩;obtain⟨n,hn⟩:=ai (aa S.nodes no);obtain⟨i,hi⟩:=ai (aW S.nodes no);have hlk:aW S.nodes no=true->1<=(aa S.nodes no).ar/\(aa S.nodes no).ar<=1000:=fun hi=>HO.o.ar _ (ap hi).2.2
 rw[<-hn,<-hi]at hlk xT;rw[<-hn]at tO hm|-;rw[<-hi]at hm;have HLK:=zH hlk;obtain⟨W5,kT⟩:=ai (w4.alloc (.cells (n,A4,k4) 66));obtain⟨xS,xc⟩:=ai w4.heap.size;have We:Ext w4 W5:=by rw[kT];exact (Ext.refl _).alloc _
 have N5:Has W5 xS (.cells (n,A4,k4) 66):=by rw[kT,xc];exact Has.new _ _
 have Xv:Ext W3 W5:=b4.trans We;have M5:=M3.ext Xv;have EN:=mE.ext Xv;have rR:=tO.ext We;have E5:=E3.trans Xv;have aci:W3.heap.size<=xS:=by rw[xc];exact b4.size
 have ael:mG<xS:=by have:=M3.lt;omega
 have qP:=zH hn;have HI:=zH hi;clear hn hi M3 mE tO E3 hlk;go_upto_region 3 with fail;rw[<-kT];rw[<-xc];clear kT xc
 by_cases aX:x=0
 case neg =>
  have t0:(x == 0)=false:=by simpa using aX
  have nK:(x != 0)=true:=by simpa using aX
  have hE:Hid (h_ S cu cg no dir nm=x):=by show _=_;rw[hm.o,af aX]
  have HX:=zH aX;clear hm aX;go_wp2;go_ret;exact HS.o _ _ E5 hE.o HX.o
 have t0:(x == 0)=true:=by simpa using aX
 have nK:(x != 0)=false:=by simpa using aX
 obtain ⟨oX,hid⟩:=hp.o aX;have cq:Hid (h_ S cu cg no dir nm=if i=false then 5 else if n.kind=1 then 4 else if ¬aY m.ah nm=0 then 7 else if ¬n.dev=m.dev then 11 else if 1000<=n.ar then 18 else 0):=by
  show _=_;rw[hm.o,ac (by simpa using aX),<-oX]
 have Ag:=zH oX;have hen:=HO.o.bj dir;rw[<-oX]at hen;have vg:=zH hen;have k0':=aA N5 0 rfl;have Kk:=aA N5 2 rfl;have kz:=N5.lt;clear hm hp aX oX hid hen
 cases i
 ·have hE:Hid (h_ S cu cg no dir nm=5):=by show _=_;rw[cq.o];rfl
  have tn:(n.no == 0)=true:=xT.o;clear cq;go_wp2;go_ret;exact HS.o _ _ E5 hE.o (by decide)
 have tn:(n.no == 0)=false:=xT.o
 by_cases c1:n.kind=1
 ·have t1:(n.kind == 1)=true:=by simpa using c1
  have hE:Hid (h_ S cu cg no dir nm=4):=by show _=_;rw[cq.o,ac (by decide),af c1]
  clear cq;go_wp2;go_ret;exact HS.o _ _ E5 hE.o (by decide)
 have t1:(n.kind == 1)=false:=by simpa using c1
 have xR:=aA M5 11 rfl;have kz2:=M5.lt;have Ce:=zH c1;clear c1;go_wp2_with fail;refine (pD A2 m.ah k2 nm _ EN.ah.ah (by have:=vg.o.2;omega)).mono ?_;rintro e w6 ⟨rfl,b6⟩;obtain⟨v,hv⟩:=ai (aY m.ah nm);rw[<-hv]at cq;rw[<-hv];have N6:=N5.ext b6;have M6:=M5.ext b6;have uj:=EN.ext b6;have EY:=rR.ext b6;have E6:=E5.trans b6;clear hv Kk kz xR kz2 N5 M5 EN rR
 by_cases c2:v=0
 case neg =>
  have t2:(v == 0)=false:=by simpa using c2
  have Wb:(v != 0)=true:=by simpa using c2
  have hE:Hid (h_ S cu cg no dir nm=7):=by show _=_;rw[cq.o,ac (by decide),ac Ce.o,af c2]
  clear cq c2;go_wp2;go_ret;exact HS.o _ _ E6 hE.o (by decide)
 have t2:(v == 0)=true:=by simpa using c2
 have Wb:(v != 0)=false:=by simpa using c2
 have y1:=aA N6 1 rfl;have y2:=aA M6 1 rfl;have y3:=aA N6 8 rfl;have yz:=N6.lt;have yz2:=M6.lt;have qw:=zH (show ¬¬v=0 by simpa using c2);clear c2
 by_cases c3:n.dev=m.dev
 case neg =>
  have t3:(n.dev == m.dev)=false:=by simpa using c3
  have t3b:(n.dev != m.dev)=true:=by simpa using c3
  have hE:Hid (h_ S cu cg no dir nm=11):=by show _=_;rw[cq.o,ac (by decide),ac Ce.o,ac qw.o,af c3]
  clear cq c3;go_wp2;go_ret;exact HS.o _ _ E6 hE.o (by decide)
 have t3:(n.dev == m.dev)=true:=by simpa using c3
 have t3b:(n.dev != m.dev)=false:=by simpa using c3
 have HC3:=zH (show ¬¬n.dev=m.dev by simpa using c3);clear c3
 by_cases c4:1000<=n.ar
 ·have t4:decide (1000<=n.ar)=true:=cj c4
  have hE:Hid (h_ S cu cg no dir nm=18):=by show _=_;rw[cq.o,ac (by decide),ac Ce.o,ac qw.o,ac HC3.o,af c4]
  clear cq c4;go_wp2;go_ret;exact HS.o _ _ E6 hE.o (by decide)
 have t4:decide (1000<=n.ar)=false:=cG c4;have hE:Hid (h_ S cu cg no dir nm=0):=by show _=_;rw[cq.o,ac (by decide),ac Ce.o,ac qw.o,ac HC3.o,ac c4]
 have jZ:=(HLK.o (by trivial)).1;have y4:IntKind.i64.wrap (n.ar+1)=n.ar+1:=aU (by omega) (by omega);have yf:∀i,w6.frozen? ⟨xS,i,none⟩=false:=fun i=>(N6.free i).trans (by simp)
 have y7:=aA N6 7 rfl;have nw:w6.cell? (g.bF,3)=some (.int .i64 now):=by rw[TF.o];obtain⟨_,_,_,k,_⟩:=h.ext E6;exact k.cell 3
 have nz:=(h.ext E6).lt.1;have hlt:=h.lt;have hs0:=lC.o.size;have hs1:=Xv.size;have FR:g.bF<xS:=by omega
 have nbf:(xS=g.bF)=False:=ml (by omega);have Kl:(g.bF=xS)=False:=ml (by omega);obtain⟨n',hn'⟩:∃n':ak,n'={n with ar:=n.ar+1,ctime:=now}:=⟨_,rfl⟩;have Cd:=zH hn';clear cq c4 jZ hn';go_upto_region 17 with fail;obtain⟨V,hV⟩:=ai ((w6.setCell (xS,8) (.int .i64 (n.ar+1))).setCell (xS,7) (.int .i64 now));rw[<-hV];have NV:Has V xS (.cells #[.int .i64 (n').no,.int .i64 (n').dev,.int .i64 (n').kind,.int .i64 (n').mode,.int .i64 (n').uid,.int .i64 (n').gid,.int .i64 (n').mtime,.int .i64 (n').ctime,.int .i64 (n').ar,.int .i64 (n').up,.string (bs (n').data),.slice A4 (n').ah.length k4] 66):=by rw[hV,Cd.o];exact (N6.setCell 8 _).setCell 7 _
 have OV:Only [xS] w6 V:=by rw[hV];exact (Only.setCell _ _ _ _).then (Only.setCell _ _ _ _)
 have Kn:dE w6 B [xS]:=by
  intro b hb;rw[ax]at hb;subst hb;exact⟨by have:=h.1;omega,N6.fV (by decide)⟩
 have EV:Ext w V:=OV.after E6 (by intro b hb;rw[ax]at hb;omega);have KV:=h.ext EV;have MV:=OV.has M6 (by rw[ax];omega);have Ah:=uj.only OV Kn;have aay:aD V B n' A4 k4:=(EY.only OV Kn).same (by rw[Cd.o]);clear hV y1 y2 y3 y4 yf y7 yz yz2 nw nz nbf Kl N6 M6 uj EY;go_wp2_with (refine aB rfl _ rfl xS n' A4 k4 rfl NV ?_);refine (pu B g S X n' A4 k4 _ KV (by have:=Jh.o;omega) HO.o.live.bL aay).mono ?_;rintro e w7 ⟨rfl,K7,O7⟩;have Tt:mG∉g.list:=by
  simp only[cI.list,aR,bg,bh];omega
 have M7:=O7.has MV Tt;have wF:=Ah.only O7 KV.apart;have Wf:Only g.list w w7:=Only.pre EV O7;obtain⟨T,hT⟩:=ai (aV S n');rw[<-hT]at K7;have hTu:aQ T.nodes T.last:=by rw[hT];exact HO.o.live.bL.set _
 have Xx:T.nodes.length<=1000000:=by rw[hT];show (cP _ _).length<=_;rw[rG];have:=Jh.o;omega
 have HT:=zH hT;have xR:=aA M7 11 rfl;have kz:=M7.lt;clear hT;go_wp2_with fail;refine (Gu A2 m.ah k2 (nm,no) _ wF.ah.ah (by have:=vg.o.2;omega)).mono ?_;rintro e w8 ⟨v8,rfl,hown,MR⟩;obtain⟨A8,c8,rfl,q1,q2,q3,q4⟩:=hown.zS (B:=B);obtain⟨L8,hL8⟩:=ai (fC m.ah (nm,no));rw[<-hL8]at q1 q3|-;have KTT:Hid (Calls prog 166 #[((),g.bF),dir,.slice A8 L8.length c8] w8 (AG w8 B g (dC T dir X.now L8) X)):=qx B g T X dir A8 L8 c8 w8 (K7.ext MR) Xx hTu q3 q1 q2 q4;have HL8:=zH hL8;clear xR kz hown q1 q2 q3 q4 hL8;go_wp2_with fail;refine KTT.o.mono ?_;rintro e w9 ⟨rfl,K9,O9⟩;go_wp2;go_ret;rw[hE.o];have e3:jl S cu cg now no dir nm=dC T dir X.now L8:=by
  unfold jl eH;rw[af hE.o,HT.o,HL8.o,Cd.o,qP.o,Ag.o,TF.o]
 exact⟨rfl,g,by rw[e3];exact K9,(Wf.ext MR).then O9,cI.ew _ _⟩
attribute [local irreducible] jc wpQuiet
attribute [local go_sem] gW
theorem Dd (A:Option Addr) (l:List aK) (cap:Nat) (nm:List UInt8) (w:World) (h:bU w A l) (hlen:l.length<=1000000):Calls prog 180 #[.slice A l.length cap,bs nm] w (NG w (eU l nm)):=by
 obtain⟨n,hn⟩:=ai l.length;rw[<-hn]at hlen|-;have HN:=zH hn;clear hn;obtain⟨i0,hi,hz0,hz1,hz2⟩:=jj kX;go_in;go_wp2_with fail;go_loopw [5,6] (fun u i wr=>∃k:Nat,k<=n/\i=.int .i64 k/\eD wr w.heap.size u ((l.take k).filter fun x=>!(x.1 == nm))/\Ext w wr) (fun _ i _=>n-(intOf i).toNat)
 case atStart=>exact⟨0,bC _,rfl,⟨rfl,.inl ⟨rfl,rfl⟩⟩,Ext.refl _⟩
 case round =>
  obtain⟨k,hk,rfl,hown,hE⟩:=hrel
  by_cases hlt:(k:Int)<n
  ·have dN:k<l.length:=by have:=HN.o;omega
   have hs:=rD dN fun x=>!(x.1 == nm)
   have BU:=qf l k fun x=>!(x.1 == nm)
   obtain⟨b,o,rfl,qY,ca,cb⟩:=h.at_ hE k dN
   generalize l[k]=x at ca cb hs
   have e1:((bs x.1).toList == (bs nm).toList)=(x.1 == nm):=by rw[bA,bA]
   obtain⟨P,hP⟩:=ai ((l.take k).filter fun x=>!(x.1 == nm))
   rw[<-hP]at hown hs BU
   cases hq:(x.1 == nm)
   ·rw [hq]at e1
    have qN:Hid ((l.take (k+1)).filter (fun x=>!(x.1 == nm))=P++[x]):=by show _=_;rw[hs,hq];rfl
    clear hs hq hP;unfold eD at hown;go_wp2_with (at_builtin;refine rh _ rfl _ _ 64 rfl w.heap.size 153 i0 (.agg #[.string ⟨#[]⟩,()]) 2 24 underlying64 hi hz0 hz1 hz2 rfl (by decide) _ _ _ rfl (hown.alloc _) ⟨wr.heap.size,0,none⟩ 1 1 (ay [x]) rfl rfl (rE wr x) (dZ [x]) (by unfold maxLen;omega) (by omega) (by have:=hE.size;simp;omega) ?_);intro v' w2 gP hgrow _;obtain⟨pj,j0⟩:=yF hown hE gP hgrow;clear gP hgrow;have Sz:=zH pj;clear pj;go_wp2_with fail;go_roundw
    case rel=>exact⟨k+1,by omega,by go_num,by rw[qN.o];exact Sz.o,j0⟩
    case measure=>simp[intOf];omega
   ·rw [hq]at e1
    have qN:Hid ((l.take (k+1)).filter (fun x=>!(x.1 == nm))=P):=by show _=_;rw[hs,hq];simp
    clear hs hq hP;go_wp2_with fail;go_roundw
    case rel=>exact⟨k+1,by omega,by go_num,by rw[qN.o];exact hown,hE⟩
    case measure=>simp[intOf];omega
  ·have ut:k=n:=by omega
   have hf:Hid ((l.take k).filter (fun x=>!(x.1 == nm))=eU l nm):=by show _=_;rw[ut,HN.o,od];rfl
   clear ut;go_wp2;go_ret;exact⟨_,rfl,by rw[<-hf.o];exact hown,hE⟩
theorem AR (B:Nat) (g:cI) (S:ag) (X:cY) (cu cg dir:Int) (nm:List UInt8) (w:World) (h:gv w B g S X) (O:Ok S) (jZ:S.last<=100000) (ie:nm.length<=1000000) :
  Calls prog 179 #[((),g.bF),.agg #[cu,cg],dir,bs nm] w (EZ w B S cu cg dir nm):=by
 obtain⟨W0,aJ⟩:=ai (((w.alloc (.cells #[cu,cg] 27)).alloc (.cells () 66)).alloc (.cells () 66));have E0:Ext w W0:=by rw[aJ];exact (((Ext.refl _).alloc _).alloc _).alloc _
 obtain⟨b5,fu⟩:=ai w.heap.size;have C0:Has W0 b5 (.cells #[cu,cg] 27):=by rw[aJ,fu];exact ((Has.new w _).alloc _).alloc _
 have P0:Has W0 (b5+1) (.cells (aj,()) 66):=by
  rw[aJ,fu];have:=(Has.new (w.alloc (.cells #[cu,cg] 27)) (.cells (aj,()) 66)).alloc (.cells () 66)
  rwa [bi]at this
 have Q0:Has W0 (b5+2) (.cells (aj,()) 66):=by
  rw[aJ,fu];have:=Has.new ((w.alloc (.cells #[cu,cg] 27)).alloc (.cells () 66)) (.cells (aj,()) 66)
  rwa [bi,bi]at this
 have HO:=zH O;have hcl:S.nodes.length<=100000:=by have:=O.live.count;omega
 have Jh:=zH hcl;clear hcl;have hm:Hid (bJ S cu cg dir nm=if ¬bn S cu cg dir nm=0 then bn S cu cg dir nm else if aW S.nodes (aY (aa S.nodes dir).ah nm)=false then 5
  else if ¬aw S.ae (aY (aa S.nodes dir).ah nm)=aY (aa S.nodes dir).ah nm then 16
  else if gR cu (aa S.nodes dir).mode (aa S.nodes dir).uid (aa S.nodes (aY (aa S.nodes dir).ah nm)).uid=false then 4 else 0):=by show _=_;rfl
 have hp:Hid (bn S cu cg dir nm=0->dG S cu cg dir nm=aa S.nodes dir/\aW S.nodes dir=true):=fun h0=>⟨kI h0,(a_ h0).1⟩
 have Rj:=h.lt;have HS:Hid (∀(v w':World) (x:Int),Ext w v->Only [b5+1,b5+2] v w'->bJ S cu cg dir nm=x->x≠0->EZ w B S cu cg dir nm (.returned (.tuple #[.agg (aj,()),.agg (aj,()),x])) w'):=by
  show ∀(v w':World) (x:Int),_;intro v w' x hE hO hx h0;have e1:cL S cu cg dir nm=aj:=by unfold cL;rw[ac (by rw[hx];exact h0)]
  have e2:bQ S cu cg dir nm=aj:=by unfold bQ;rw[ac (by rw[hx];exact h0)]
  exact⟨none,0,none,0,by rw[e1,e2,hx],by rw[e1];exact aD.zero _ _,by rw[e2];exact aD.zero _ _,hO.after hE (by intro b hb;simp only[aR,bg,bh]at hb;omega)⟩
 have aeo:b5<=w.heap.size:=by omega
 have aep:w.heap.size<=b5:=by omega
 clear O;go_in;go_upto_region 1 with fail;rw[<-aJ];rw[<-fu];clear aJ fu;have x0:=aA C0 0 rfl;have x1:=aA C0 1 rfl;have xz:=C0.lt;go_wp2_with fail;refine (tT B g S X cu cg dir nm _ (h.ext E0) (by have:=Jh.o;omega) HO.o.live.bL ie).mono ?_;rintro e w2 ⟨A2,k2,rfl,gG,b2⟩;obtain⟨m,hmm⟩:=ai (dG S cu cg dir nm);obtain⟨x,hx⟩:=ai (bn S cu cg dir nm);rw[<-hmm]at gG hp;rw[<-hx]at hm hp;rw[<-hmm,<-hx];obtain⟨W3,cJ⟩:=ai (w2.alloc (.cells (m,A2,k2) 66));obtain⟨dI,fj⟩:=ai w2.heap.size;have iH:Ext w2 W3:=by rw[cJ];exact (Ext.refl _).alloc _
 have M3:Has W3 dI (.cells (m,A2,k2) 66):=by rw[cJ,fj];exact Has.new _ _
 have oR:Ext W0 W3:=b2.trans iH;have C3:=C0.ext oR;have P3:=P0.ext oR;have Q3:=Q0.ext oR;have mE:=gG.ext iH;have E3:=E0.trans oR;have Da:W0.heap.size<=dI:=by rw[fj];exact b2.size
 have aeq:b5+2<W0.heap.size:=Q0.lt;clear x0 x1 xz hmm hx C0 P0 Q0;go_upto_region 2 with fail;rw[<-cJ];rw[<-fj];clear cJ fj
 by_cases aX:x=0
 case neg =>
  have t0:(x == 0)=false:=by simpa using aX
  have nK:(x != 0)=true:=by simpa using aX
  have hE:Hid (bJ S cu cg dir nm=x):=by show _=_;rw[hm.o,af aX]
  have HX:=zH aX;clear hm aX;go_wp2_with (first|(refine aq rfl _ _ rfl (b5+1) aj none 0 rfl rfl P3 ?_;intro wp Pp Op;have Qp:=Op.has Q3 (by rw[ax];omega))|(refine aq rfl _ _ rfl (b5+2) aj none 0 rfl rfl Qp ?_;intro wq Qq Oq;have Pq:=Oq.has Pp (by rw[ax];omega)));refine aT (v:=.tuple #[.agg (aj,()),.agg (aj,()),x]) (i6 results179 _ _ (b5+1) (b5+2) aj aj none none 0 0 _ rfl rfl rfl Pq Qq) rfl ?_;exact HS.o _ _ _ E3 ((Op.mono (by simp)).then (Oq.mono (by simp))) hE.o HX.o
 have t0:(x == 0)=true:=by simpa using aX
 have nK:(x != 0)=false:=by simpa using aX
 obtain ⟨oX,hid⟩:=hp.o aX;obtain⟨no,bB⟩:=ai (aY m.ah nm);have cq:Hid (bJ S cu cg dir nm=if aW S.nodes no=false then 5 else if ¬aw S.ae no=no then 16 else if gR cu m.mode m.uid (aa S.nodes no).uid=false then 4 else 0):=by
  show _=_;rw[hm.o,ac (by simpa using aX),<-oX,<-bB]
 have Ag:=zH oX;have hen:=HO.o.bj dir;rw[<-oX]at hen;have vg:=zH hen;have xR:=aA M3 11 rfl;have kz:=M3.lt;have xT:((aa S.nodes no).no == 0)=!aW S.nodes no:=by
  cases hi:aW S.nodes no
  ·rw[(aP hi).1];rfl
  ·have h1:=(HO.o.live.bL.2 _ (ap hi).2.2).1
   simp;omega
 have uh:=zH bB;clear hm hp aX oX hid hen;go_wp2_with fail;refine (pD A2 m.ah k2 nm _ mE.ah.ah (by have:=vg.o.2;omega)).mono ?_;rintro e w3a ⟨rfl,b3a⟩;rw[<-bB];clear bB xR kz;go_wp2_with fail;refine (eE B g S X no _ (h.ext (E3.trans b3a)) (by have:=Jh.o;omega) HO.o.live.bL).mono ?_;rintro e w3b ⟨A4,k4,rfl,aaH,b3b⟩;obtain⟨n,hn⟩:=ai (aa S.nodes no);obtain⟨i,hi⟩:=ai (aW S.nodes no);have lm:aW S.nodes no=true->(aa S.nodes no).no=no:=fun h=>(ap h).2.1
 rw[<-hn]at aaH cq lm xT|-;rw[<-hi]at cq lm xT;have MU:=zH lm;have qP:=zH hn;have HI:=zH hi;have HNZ:=zH xT;obtain⟨w4,hw4⟩:=ai (w3b.alloc (.cells (n,A4,k4) 66));obtain⟨mG,MY⟩:=ai w3b.heap.size;have N4:Has w4 mG (.cells (n,A4,k4) 66):=by rw[hw4,MY];exact Has.new _ _
 have E4b:Ext w3b w4:=by rw[hw4];exact (Ext.refl _).alloc _
 have yM:Ext W3 w4:=(b3a.trans b3b).trans E4b;have tO:=aaH.ext E4b;have sQ:W3.heap.size<=mG:=by rw[MY];exact (b3a.trans b3b).size
 clear hn hi lm xT aaH E4b;go_upto_region 5 with fail;rw[<-hw4,<-MY];clear hw4 MY b3a b3b;have C4:=C3.ext yM;have P4:=P3.ext yM;have Q4:=Q3.ext yM;have M4:=M3.ext yM;have Tw:=mE.ext yM;have E_:=tO;have E4:=E3.trans yM;have hM3:=M3.lt;clear C3 P3 Q3 M3 mE E3;have z0:=aA N4 0 rfl;have zz:=N4.lt
 cases i
 ·have hE:Hid (bJ S cu cg dir nm=5):=by show _=_;rw[cq.o];rfl
  have tn:(n.no == 0)=true:=HNZ.o;clear cq;go_wp2_with (first|(refine aq rfl _ _ rfl (b5+1) aj none 0 rfl rfl P4 ?_;intro wp Pp Op;have Qp:=Op.has Q4 (by rw[ax];omega))|(refine aq rfl _ _ rfl (b5+2) aj none 0 rfl rfl Qp ?_;intro wq Qq Oq;have Pq:=Oq.has Pp (by rw[ax];omega)));refine aT (v:=.tuple #[.agg (aj,()),.agg (aj,()),.int .i64 5]) (i6 results179 _ _ (b5+1) (b5+2) aj aj none none 0 0 _ rfl rfl rfl Pq Qq) rfl ?_;exact HS.o _ _ _ E4 ((Op.mono (by simp)).then (Oq.mono (by simp))) hE.o (by decide)
 have Re:=MU.o (by trivial);have tn:(n.no == 0)=false:=HNZ.o;rw[Re]at z0 tn;have KO:Hid (∀u:Gr w4,Calls prog 84 #[((),g.bF),no] u.w (aO u.w (.int .i64 (aw S.ae no)))):=by
  show ∀u:Gr w4,_;exact fun u=>iy B g S X no _ ((h.ext E4).ext u.h) (by have:=HO.o.live.eight;omega)
 have y0:=Gr.cell N4.lt z0;go_upto_region 7 with fail;clear z0 Re tn zz
 by_cases ho:aw S.ae no=no
 case neg =>
  have t1:(aw S.ae no == no)=false:=by simpa using ho
  have qo:(aw S.ae no != no)=true:=by simpa using ho
  have hE:Hid (bJ S cu cg dir nm=16):=by show _=_;rw[cq.o,ac (by decide),af ho]
  clear cq ho;refine Rd w4 ?_
  repeat (quiet_step (((with_reducible refine (KO.o _).mono ?_);rintro e w'' ⟨rfl,mv⟩;exact⟨rfl,⟨w'',Ext.trans (Gr.h _) mv⟩,rfl⟩)))
  refine lH (NX fun w5 ra=>?_);clear y0 KO;have P5:=P4.ext ra;have Q5:=Q4.ext ra;go_wp2_with (first|(refine aq rfl _ _ rfl (b5+1) aj none 0 rfl rfl P5 ?_;intro wp Pp Op;have Qp:=Op.has Q5 (by rw[ax];omega))|(refine aq rfl _ _ rfl (b5+2) aj none 0 rfl rfl Qp ?_;intro wq Qq Oq;have Pq:=Oq.has Pp (by rw[ax];omega)));refine aT (v:=.tuple #[.agg (aj,()),.agg (aj,()),.int .i64 16]) (i6 results179 _ _ (b5+1) (b5+2) aj aj none none 0 0 _ rfl rfl rfl Pq Qq) rfl ?_;exact HS.o _ _ _ (E4.trans ra) ((Op.mono (by simp)).then (Oq.mono (by simp))) hE.o (by decide)
 have t1:(aw S.ae no == no)=true:=by simpa using ho
 have qo:(aw S.ae no != no)=false:=by simpa using ho
 have HOV:=zH (show ¬¬aw S.ae no=no by simpa using ho);clear ho;refine Rd w4 ?_
 repeat (quiet_step (((with_reducible refine (KO.o _).mono ?_);rintro e w'' ⟨rfl,mv⟩;exact⟨rfl,⟨w'',Ext.trans (Gr.h _) mv⟩,rfl⟩)))
 refine lH (NX fun w5 ra=>?_);clear y0 KO;have P5:=P4.ext ra;have Q5:=Q4.ext ra;have C5:=C4.ext ra;have M5:=M4.ext ra;have N5:=N4.ext ra;have aaz:=Tw.ext ra;have rR:=E_.ext ra;have E5:=E4.trans ra;have x0:=aA C5 0 rfl;have x1:=aA C5 1 rfl;have xz:=C5.lt;obtain⟨u,hu⟩:=ai (gR cu m.mode m.uid n.uid);have mr:Hid (bJ S cu cg dir nm=if u=false then 4 else 0):=by show _=_;rw[cq.o,ac (by decide),ac HOV.o,hu]
 have HU:=zH hu;clear cq hu P4 Q4 C4 M4 N4 Tw E_;go_wp2_with (first|(refine aB rfl _ rfl dI m A2 k2 rfl M5 ?_)|(refine aB rfl _ rfl mG n A4 k4 rfl N5 ?_));refine (CS cu cg _ _ _ m.mode m.uid _ _ _ _ _ _ _ _ _ _ _ n.uid _ _ _ _ _ _ _ _).mono ?_;rw[<-HU.o];rintro e w6 ⟨rfl,b6⟩;have P6:=P5.ext b6;have Q6:=Q5.ext b6;have M6:=M5.ext b6;have N6:=N5.ext b6;have aaA:=aaz.ext b6;have EY:=rR.ext b6;have E6:=E5.trans b6;clear x0 x1 xz P5 Q5 M5 N5 C5
 cases u
 ·have hE:Hid (bJ S cu cg dir nm=4):=by show _=_;rw[mr.o];rfl
  clear mr;go_wp2_with (first|(refine aq rfl _ _ rfl (b5+1) aj none 0 rfl rfl P6 ?_;intro wp Pp Op;have Qp:=Op.has Q6 (by rw[ax];omega))|(refine aq rfl _ _ rfl (b5+2) aj none 0 rfl rfl Qp ?_;intro wq Qq Oq;have Pq:=Oq.has Pp (by rw[ax];omega)));refine aT (v:=.tuple #[.agg (aj,()),.agg (aj,()),.int .i64 4]) (i6 results179 _ _ (b5+1) (b5+2) aj aj none none 0 0 _ rfl rfl rfl Pq Qq) rfl ?_;exact HS.o _ _ _ E6 ((Op.mono (by simp)).then (Oq.mono (by simp))) hE.o (by decide)
 have hE:Hid (bJ S cu cg dir nm=0):=by show _=_;rw[mr.o];rfl
 clear mr;go_upto_region 11 with fail;obtain⟨Ph,js⟩:∃Ph:Nat->World->Prop,Ph=ph2 (fun w'=>w'=w6.drew) (fun w'=>Has w' (b5+1) (.cells (m,A2,k2) 66)/\Only [b5+1] w6.drew w') (fun w'=>Has w' (b5+1) (.cells (m,A2,k2) 66)/\Has w' (b5+2) (.cells (n,A4,k4) 66)/\Only [b5+1,b5+2] w6.drew w'):=⟨_,rfl⟩;have ED:Ext w6 w6.drew:=(Ext.refl _).drew;have HV:Hid (Ph 0 w6.drew):=by show Ph 0 _;rw[js];exact rfl
 have hne:Nonempty (Hp Ph):=⟨⟨0,_,HV.o⟩⟩;have uM:∀u:Hp Ph,Has u.w dI (.cells (m,A2,k2) 66):=by
  rw[js];exact sB (T:=fun w'=>Has w' dI (.cells (m,A2,k2) 66)) (fun w' h'=>by rw[h'];exact M6.ext ED) (fun w' h'=>h'.2.has (M6.ext ED) (by rw[ax];omega)) (fun w' h'=>h'.2.2.has (M6.ext ED) (by simp only[aR,bg,bh];omega))
 have uN:∀u:Hp Ph,Has u.w mG (.cells (n,A4,k4) 66):=by
  rw[js];exact sB (T:=fun w'=>Has w' mG (.cells (n,A4,k4) 66)) (fun w' h'=>by rw[h'];exact N6.ext ED) (fun w' h'=>h'.2.has (N6.ext ED) (by rw[ax];omega)) (fun w' h'=>h'.2.2.has (N6.ext ED) (by simp only[aR,bg,bh];omega))
 have my0:∀u:Hp Ph,u.w.cell? (dI,0)=some (.int .i64 m.no):=fun u=>(uM u).cell 0
 have my1:∀u:Hp Ph,u.w.cell? (dI,1)=some (.int .i64 m.dev):=fun u=>(uM u).cell 1
 have my2:∀u:Hp Ph,u.w.cell? (dI,2)=some (.int .i64 m.kind):=fun u=>(uM u).cell 2
 have my3:∀u:Hp Ph,u.w.cell? (dI,3)=some (.int .i64 m.mode):=fun u=>(uM u).cell 3
 have my4:∀u:Hp Ph,u.w.cell? (dI,4)=some (.int .i64 m.uid):=fun u=>(uM u).cell 4
 have my5:∀u:Hp Ph,u.w.cell? (dI,5)=some (.int .i64 m.gid):=fun u=>(uM u).cell 5
 have my6:∀u:Hp Ph,u.w.cell? (dI,6)=some (.int .i64 m.mtime):=fun u=>(uM u).cell 6
 have my7:∀u:Hp Ph,u.w.cell? (dI,7)=some (.int .i64 m.ctime):=fun u=>(uM u).cell 7
 have my8:∀u:Hp Ph,u.w.cell? (dI,8)=some (.int .i64 m.ar):=fun u=>(uM u).cell 8
 have my9:∀u:Hp Ph,u.w.cell? (dI,9)=some (.int .i64 m.up):=fun u=>(uM u).cell 9
 have aaB:∀u:Hp Ph,u.w.cell? (dI,10)=some (.string (bs m.data)):=fun u=>(uM u).cell 10
 have aaC:∀u:Hp Ph,u.w.cell? (dI,11)=some (.slice A2 m.ah.length k2):=fun u=>(uM u).cell 11
 have ny0:∀u:Hp Ph,u.w.cell? (mG,0)=some (.int .i64 n.no):=fun u=>(uN u).cell 0
 have ny1:∀u:Hp Ph,u.w.cell? (mG,1)=some (.int .i64 n.dev):=fun u=>(uN u).cell 1
 have ny2:∀u:Hp Ph,u.w.cell? (mG,2)=some (.int .i64 n.kind):=fun u=>(uN u).cell 2
 have ny3:∀u:Hp Ph,u.w.cell? (mG,3)=some (.int .i64 n.mode):=fun u=>(uN u).cell 3
 have ny4:∀u:Hp Ph,u.w.cell? (mG,4)=some (.int .i64 n.uid):=fun u=>(uN u).cell 4
 have ny5:∀u:Hp Ph,u.w.cell? (mG,5)=some (.int .i64 n.gid):=fun u=>(uN u).cell 5
 have ny6:∀u:Hp Ph,u.w.cell? (mG,6)=some (.int .i64 n.mtime):=fun u=>(uN u).cell 6
 have ny7:∀u:Hp Ph,u.w.cell? (mG,7)=some (.int .i64 n.ctime):=fun u=>(uN u).cell 7
 have ny8:∀u:Hp Ph,u.w.cell? (mG,8)=some (.int .i64 n.ar):=fun u=>(uN u).cell 8
 have ny9:∀u:Hp Ph,u.w.cell? (mG,9)=some (.int .i64 n.up):=fun u=>(uN u).cell 9
 have aaD:∀u:Hp Ph,u.w.cell? (mG,10)=some (.string (bs n.data)):=fun u=>(uN u).cell 10
 have aaE:∀u:Hp Ph,u.w.cell? (mG,11)=some (.slice A4 n.ah.length k4):=fun u=>(uN u).cell 11
 have Pe:Hid (∀u:Wc (Ph 0),∃(m:ak) (A':Option Addr) (c':Nat),Has u.w (b5+1) (.cells (m,A',c') 66)):=by
  show ∀u:Wc (Ph 0),_;rintro ⟨u,hu⟩;rw[js]at hu;exact⟨aj,none,0,by show Has u _ _;rw[show u=w6.drew from hu];exact P6.ext ED⟩
 have Tx:Hid (∀(u:Wc (Ph 0)) (w':World),Has w' (b5+1) (.cells (m,A2,k2) 66)->Only [b5+1] u.w w'->Ph 1 w'):=by
  show ∀(u:Wc (Ph 0)) (w':World),_;rintro ⟨u,hu⟩ w' h1 h2;rw[js]at hu|-;dsimp only at h2;rw[show u=w6.drew from hu]at h2;exact⟨h1,h2⟩
 have zL:Hid (∀u:Wc (Ph 1),∃(m:ak) (A':Option Addr) (c':Nat),Has u.w (b5+2) (.cells (m,A',c') 66)):=by
  show ∀u:Wc (Ph 1),_;rintro ⟨u,hu⟩;rw[js]at hu;exact⟨aj,none,0,hu.2.has (Q6.ext ED) (by rw[ax];omega)⟩
 have BR:Hid (∀(u:Wc (Ph 1)) (w':World),Has w' (b5+2) (.cells (n,A4,k4) 66)->Only [b5+2] u.w w'->Ph 2 w'):=by
  show ∀(u:Wc (Ph 1)) (w':World),_;rintro ⟨u,hu⟩ w' h1 h2;rw[js]at hu|-;dsimp only at h2;exact⟨h2.has hu.1 (by rw[ax];omega),h1,(hu.2.mono (by simp)).then (h2.mono (by simp))⟩
 have KQ:Hid (∀w',Ph 2 w'->Has w' (b5+1) (.cells (m,A2,k2) 66)/\Has w' (b5+2) (.cells (n,A4,k4) 66)/\Only [b5+1,b5+2] w6.drew w'):=by
  show ∀w',_;intro w' hw;rw[js]at hw;exact hw
 clear js uM uN;refine fw Ph [2,3] (by kernel_rfl) (by kernel_rfl) (by kernel_rfl) HV.o ?_
 iterate 2 (refine fK (by kernel_rfl) (fun K hK=>?_);go_simp;refine hK _ ?_;clear hK K)
 refine jn 0 (by kernel_rfl) rfl rfl _ _ rfl (b5+1) m A2 k2 rfl rfl Pe.o Tx.o ?_;refine jn 1 (by kernel_rfl) rfl rfl _ _ rfl (b5+2) n A4 k4 rfl rfl zL.o BR.o ?_;refine fK (by kernel_rfl) (fun K hK=>?_);go_simp;refine hK _ ?_;clear hK K;refine kq ?_;intro w7 Zx;obtain⟨P7,Q7,O7⟩:=KQ.o _ Zx;clear my0 my1 my2 my3 my4 my5 my6 my7 my8 my9 aaB aaC ny0 ny1 ny2 ny3 ny4 ny5 ny6 ny7 ny8 ny9 aaD aaE Pe Tx zL BR KQ Zx;go_wp2_with fail;refine aT (v:=.tuple #[.agg (m,A2,k2),.agg (n,A4,k4),()]) (i6 results179 _ _ (b5+1) (b5+2) m n A2 A4 k2 k4 _ rfl rfl rfl P7 Q7) rfl ?_;have e1:cL S cu cg dir nm=m:=by unfold cL;rw[af hE.o,Ag.o]
 have e2:bQ S cu cg dir nm=n:=by unfold bQ;rw[af hE.o,qP.o,uh.o,Ag.o]
 have Kn:dE w6.drew B [b5+1,b5+2]:=by
  intro b hb;simp only[aR,bg,bh]at hb;have:=h.1;rcases hb with rfl|rfl
  ·exact⟨by omega,(P6.ext ED).fV (by decide)⟩
  ·exact⟨by omega,(Q6.ext ED).fV (by decide)⟩
 refine⟨A2,k2,A4,k4,by rw[e1,e2,hE.o],by rw[e1];exact (aaA.ext ED).only O7 Kn,by rw[e2];exact (EY.ext ED).only O7 Kn,O7.after (E6.trans ED) (by intro b hb;simp only[aR,bg,bh]at hb;omega)⟩
end
section
def bZ (S:ag):Prop:=∀n∈S.nodes,n.kind≠1->n.ah=[]
theorem Hd (B:Nat) (g:cI) (S:ag) (X:cY) (cu cg dir:Int) (nm:List UInt8) (w:World) (h:gv w B g S X) (O:Ok S) (jZ:S.last<=1000) (ie:nm.length<=1000000) :
  Calls prog 152 #[((),g.bF),.agg #[cu,cg],dir,bs nm,.bool true] w (ErF w B g (gJ S cu cg X.now dir nm) X (fc S cu cg dir nm)):=by
 obtain⟨W0,aJ⟩:=ai (w.alloc (.cells #[cu,cg] 27));have E0:Ext w W0:=by rw[aJ];exact (Ext.refl _).alloc _
 have C0:Has W0 w.heap.size (.cells #[cu,cg] 27):=by rw[aJ];exact Has.new w _
 have HO:=zH O;have hcl:S.nodes.length<=100000:=by have:=O.live.count;omega
 have Jh:=zH hcl;obtain⟨now,sR⟩:=ai X.now;have TF:=zH sR;rw[<-sR];have hm:Hid (fc S cu cg dir nm=if ¬bJ S cu cg dir nm=0 then bJ S cu cg dir nm else if ¬(bQ S cu cg dir nm).kind=1 then 9 else if 0<((bQ S cu cg dir nm).ah.length:Int) then 10 else 0):=by show _=_;rfl
 have cq:Hid (gJ S cu cg now dir nm=if fc S cu cg dir nm=0 then gU S now (cL S cu cg dir nm) (bQ S cu cg dir nm) nm else S):=by show _=_;rfl
 have hz:bJ S cu cg dir nm=0->cL S cu cg dir nm=aa S.nodes dir/\(cL S cu cg dir nm).no=dir/\aW S.nodes dir=true/\AK S (bQ S cu cg dir nm):=fun h0=>by
  obtain⟨z1,z2,_,z4,z5⟩:=eu h0;have hi:=(a_ z1).1;exact⟨z4,by rw[z4];exact (ap hi).2.1,hi,by rw[z5];exact O.held z2⟩
 have HS:Hid (∀(w':World) (x:Int),Ext w w'->fc S cu cg dir nm=x->x≠0->ErF w B g (gJ S cu cg now dir nm) X (fc S cu cg dir nm) (.returned (.int .i64 x)) w'):=by
  show ∀(w':World) (x:Int),_;intro w' x hE hx h0;rw[hx];refine⟨rfl,g,?_,Only.az hE,cI.ew _ _⟩;rw[cq.o,ac (by rw[hx];exact h0)];exact h.ext hE
 clear O hcl sR;go_in;go_upto_region 1 with fail;rw[<-aJ];clear aJ;have x0:=aA C0 0 rfl;have x1:=aA C0 1 rfl;have xz:=C0.lt;go_wp2_with fail;refine (AR B g S X cu cg dir nm _ (h.ext E0) HO.o (by omega) ie).mono ?_;rintro e w2 ⟨A2,k2,A3,k3,rfl,gG,Ks,b2⟩;obtain⟨m,hmm⟩:=ai (cL S cu cg dir nm);obtain⟨n,hn⟩:=ai (bQ S cu cg dir nm);obtain⟨x,hx⟩:=ai (bJ S cu cg dir nm);rw[<-hmm]at gG cq hz;rw[<-hn]at Ks hm cq hz;rw[<-hx]at hm hz;rw[<-hmm,<-hn,<-hx];obtain⟨W3,cJ⟩:=ai ((w2.alloc (.cells (m,A2,k2) 66)).alloc (.cells (n,A3,k3) 66));obtain⟨dI,fj⟩:=ai w2.heap.size;have iH:Ext w2 W3:=by rw[cJ];exact ((Ext.refl _).alloc _).alloc _
 have M3:Has W3 dI (.cells (m,A2,k2) 66):=by rw[cJ,fj];exact (Has.new _ _).alloc _
 have N3:Has W3 (dI+1) (.cells (n,A3,k3) 66):=by
  rw[cJ,fj];have:=Has.new (w2.alloc (.cells (m,A2,k2) 66)) (.cells (n,A3,k3) 66)
  rwa [bi]at this
 have E3:Ext w W3:=E0.trans (b2.trans iH);have mE:=gG.ext iH;have AO:=Ks.ext iH;have Da:w.heap.size<=dI:=by rw[fj];exact (E0.trans b2).size
 clear x0 x1 xz hmm hn hx C0;go_upto_region 2 with fail;rw[<-cJ];rw[<-fj];clear cJ fj
 by_cases aX:x=0
 case neg =>
  have t0:(x == 0)=false:=by simpa using aX
  have nK:(x != 0)=true:=by simpa using aX
  have hE:Hid (fc S cu cg dir nm=x):=by show _=_;rw[hm.o,af aX]
  have HX:=zH aX;clear hm aX hz;go_wp2;go_ret;exact HS.o _ _ E3 hE.o HX.o
 have t0:(x == 0)=true:=by simpa using aX
 have nK:(x != 0)=false:=by simpa using aX
 obtain⟨hz1,hz2,hz3,hz4⟩:=hz aX;have Dc:=zH aX;have Ag:=zH hz1;have HMD:=zH hz2;have HDI:=zH hz3;have XA:=zH hz4;have hen:=HO.o.bj dir;rw[<-hz1]at hen;have vg:=zH hen;have y2:=aA N3 2 rfl;obtain⟨lo,hlo⟩:=ai n.ah.length;have nL:W3.cell? ⟨dI+1,11,none⟩=some (.slice A3 lo k3):=by rw[hlo];exact N3.cell 11
 have yz:=N3.lt;have HLO:=zH hlo;clear hz1 hz2 hz3 hz4 hen hlo
 by_cases c1:n.kind=1
 case neg =>
  have t1:(n.kind == 1)=false:=by simpa using c1
  have qo:(n.kind != 1)=true:=by simpa using c1
  have hE:Hid (fc S cu cg dir nm=9):=by show _=_;rw[hm.o,ac (by simpa using aX),af c1]
  clear hm aX c1;go_wp2;go_ret;exact HS.o _ _ E3 hE.o (by decide)
 have t1:(n.kind == 1)=true:=by simpa using c1
 have qo:(n.kind != 1)=false:=by simpa using c1
 by_cases c2:0<lo
 ·have t2:decide ((0:Int)<(lo:Int))=true:=cj (by omega)
  have hE:Hid (fc S cu cg dir nm=10):=by show _=_;rw[hm.o,ac (by simpa using aX),ac (by simpa using c1),af (by rw[<-HLO.o];omega)]
  clear hm aX c1;go_wp2;go_ret;exact HS.o _ _ E3 hE.o (by decide)
 have t2:decide ((0:Int)<(lo:Int))=false:=cG (by omega);have hE:Hid (fc S cu cg dir nm=0):=by show _=_;rw[hm.o,ac (by simpa using aX),ac (by simpa using c1),ac (by rw[<-HLO.o];omega)]
 have t2c:lo<=0:=by omega
 clear hm aX c1 c2;have xR:=aA M3 11 rfl;have kz:=M3.lt;go_wp2_with fail;refine (Dd A2 m.ah k2 nm _ mE.ah.ah (by have:=vg.o.2;omega)).mono ?_;rintro e w4 ⟨v4,rfl,hown,b4⟩;obtain⟨A4,c4,rfl,q1,q2,q3,q4⟩:=hown.zS (B:=B);obtain⟨L4,hL4⟩:=ai (eU m.ah nm);rw[<-hL4]at q1 q3|-;have HL4:=zH hL4;have E4:=E3.trans b4;obtain⟨T,hT⟩:=ai (dC S dir now L4);have HT:=zH hT;have KT:Hid (Calls prog 166 #[((),g.bF),dir,.slice A4 L4.length c4] w4 (AG w4 B g T X)):=by
  show Calls _ _ _ _ _;rw[hT,TF.o];exact qx B g S X dir A4 L4 c4 w4 (h.ext E4) (by have:=Jh.o;omega) HO.o.live.bL q3 q1 q2 q4
 have FP:=HO.o.live.on _ (ap HDI.o).2.2;have Zy:Live T:=by
  rw[hT];exact HO.o.live.set _ FP.1 FP.2 (fun e=>HO.o.live.one (aa S.nodes dir) (ap HDI.o).2.2 e)
 have Zz:AK T n:=⟨XA.o.ar,by rw[hT];exact XA.o.dev,XA.o.data,XA.o.one⟩;have hTl:T.last<=1000:=by rw[hT];exact jZ
 have Ty:=zH Zy;have HHT:=zH Zz;have N4:=N3.ext b4;have E_:=AO.ext b4;clear y2 nL yz xR kz hown q1 q2 q3 q4 hL4 hT Zy Zz FP N3 AO t1 qo t2;go_wp2_with fail;refine KT.o.mono ?_;rintro e w5 ⟨rfl,K5,O5⟩;have hng:dI+1∉g.list:=by
  have Rj:=h.lt;simp only[cI.list,aR,bg,bh];omega
 have N5:=O5.has N4 hng;have rR:=E_.only O5 (h.ext E4).apart;clear KT;go_wp2_with (refine aB rfl _ rfl (dI+1) n A3 k3 rfl N5 ?_);refine (C_ B g T X n A3 k3 _ K5 Ty.o hTl rR HHT.o).mono ?_;rintro e w6 ⟨rfl,g2,K6,O6,TI⟩;go_wp2;go_ret;have e1:gJ S cu cg now dir nm=jm T X.now n:=by rw[cq.o,af hE.o];unfold gU;rw[HMD.o,HT.o,HL4.o,TF.o]
 have O15:Only g.list w w5:=Only.pre E4 O5;refine⟨by rw[hE.o];rfl,g2,by rw[e1];exact K6,O15.then O6,?_⟩;refine⟨TI.1,fun b hb=>?_⟩;rcases TI.2 b hb with k|k
 ·exact .inl k
 ·exact .inr (by have:=O15.size;omega)
theorem Fc (B:Nat) (g:cI) (S:ag) (X:cY) (cu cg dir:Int) (nm:List UInt8) (w:World) (h:gv w B g S X) (O:Ok S) (jZ:S.last<=1000) (ie:nm.length<=1000000) (hne:bZ S) :
  Calls prog 152 #[((),g.bF),.agg #[cu,cg],dir,bs nm,.bool false] w (ErF w B g (eQ S cu cg X.now dir nm) X (ey S cu cg dir nm)):=by
 obtain⟨W0,aJ⟩:=ai (w.alloc (.cells #[cu,cg] 27));have E0:Ext w W0:=by rw[aJ];exact (Ext.refl _).alloc _
 have C0:Has W0 w.heap.size (.cells #[cu,cg] 27):=by rw[aJ];exact Has.new w _
 have HO:=zH O;have hcl:S.nodes.length<=100000:=by have:=O.live.count;omega
 have Jh:=zH hcl;obtain⟨now,sR⟩:=ai X.now;have TF:=zH sR;rw[<-sR];have hm:Hid (ey S cu cg dir nm=if ¬bJ S cu cg dir nm=0 then bJ S cu cg dir nm else if (bQ S cu cg dir nm).kind=1 then 8 else 0):=by show _=_;rfl
 have De:bJ S cu cg dir nm=0->(bQ S cu cg dir nm).kind≠1->(bQ S cu cg dir nm).ah=[]:=fun h0 hk=>by
  obtain⟨_,z2,_,_,z5⟩:=eu h0;rw[z5]at hk|-;exact hne _ (ap z2).2.2 hk
 have cq:Hid (eQ S cu cg now dir nm=if ey S cu cg dir nm=0 then gU S now (cL S cu cg dir nm) (bQ S cu cg dir nm) nm else S):=by show _=_;rfl
 have hz:bJ S cu cg dir nm=0->cL S cu cg dir nm=aa S.nodes dir/\(cL S cu cg dir nm).no=dir/\aW S.nodes dir=true/\AK S (bQ S cu cg dir nm):=fun h0=>by
  obtain⟨z1,z2,_,z4,z5⟩:=eu h0;have hi:=(a_ z1).1;exact⟨z4,by rw[z4];exact (ap hi).2.1,hi,by rw[z5];exact O.held z2⟩
 have HS:Hid (∀(w':World) (x:Int),Ext w w'->ey S cu cg dir nm=x->x≠0->ErF w B g (eQ S cu cg now dir nm) X (ey S cu cg dir nm) (.returned (.int .i64 x)) w'):=by
  show ∀(w':World) (x:Int),_;intro w' x hE hx h0;rw[hx];refine⟨rfl,g,?_,Only.az hE,cI.ew _ _⟩;rw[cq.o,ac (by rw[hx];exact h0)];exact h.ext hE
 clear O hcl sR;go_in;go_upto_region 1 with fail;rw[<-aJ];clear aJ;have x0:=aA C0 0 rfl;have x1:=aA C0 1 rfl;have xz:=C0.lt;go_wp2_with fail;refine (AR B g S X cu cg dir nm _ (h.ext E0) HO.o (by omega) ie).mono ?_;rintro e w2 ⟨A2,k2,A3,k3,rfl,gG,Ks,b2⟩;obtain⟨m,hmm⟩:=ai (cL S cu cg dir nm);obtain⟨n,hn⟩:=ai (bQ S cu cg dir nm);obtain⟨x,hx⟩:=ai (bJ S cu cg dir nm);rw[<-hmm]at gG cq hz;rw[<-hn]at Ks hm cq hz De;rw[<-hx]at hm hz De;rw[<-hmm,<-hn,<-hx];obtain⟨W3,cJ⟩:=ai ((w2.alloc (.cells (m,A2,k2) 66)).alloc (.cells (n,A3,k3) 66));obtain⟨dI,fj⟩:=ai w2.heap.size;have iH:Ext w2 W3:=by rw[cJ];exact ((Ext.refl _).alloc _).alloc _
 have M3:Has W3 dI (.cells (m,A2,k2) 66):=by rw[cJ,fj];exact (Has.new _ _).alloc _
 have N3:Has W3 (dI+1) (.cells (n,A3,k3) 66):=by
  rw[cJ,fj];have:=Has.new (w2.alloc (.cells (m,A2,k2) 66)) (.cells (n,A3,k3) 66)
  rwa [bi]at this
 have E3:Ext w W3:=E0.trans (b2.trans iH);have mE:=gG.ext iH;have AO:=Ks.ext iH;have Da:w.heap.size<=dI:=by rw[fj];exact (E0.trans b2).size
 clear x0 x1 xz hmm hn hx C0;go_upto_region 2 with fail;rw[<-cJ];rw[<-fj];clear cJ fj
 by_cases aX:x=0
 case neg =>
  have t0:(x == 0)=false:=by simpa using aX
  have nK:(x != 0)=true:=by simpa using aX
  have hE:Hid (ey S cu cg dir nm=x):=by show _=_;rw[hm.o,af aX]
  have HX:=zH aX;clear hm aX hz De;go_wp2;go_ret;exact HS.o _ _ E3 hE.o HX.o
 have t0:(x == 0)=true:=by simpa using aX
 have nK:(x != 0)=false:=by simpa using aX
 obtain⟨hz1,hz2,hz3,hz4⟩:=hz aX;have Dc:=zH aX;have Ag:=zH hz1;have HMD:=zH hz2;have HDI:=zH hz3;have XA:=zH hz4;have hen:=HO.o.bj dir;rw[<-hz1]at hen;have vg:=zH hen;have y2:=aA N3 2 rfl;obtain⟨lo,hlo⟩:=ai n.ah.length;have nL:W3.cell? ⟨dI+1,11,none⟩=some (.slice A3 lo k3):=by rw[hlo];exact N3.cell 11
 have yz:=N3.lt;have HLO:=zH hlo
 by_cases c1:n.kind=1
 ·have t1:(n.kind == 1)=true:=by simpa using c1
  have qo:(n.kind != 1)=false:=by simpa using c1
  have hE:Hid (ey S cu cg dir nm=8):=by show _=_;rw[hm.o,ac (by simpa using aX),af c1]
  clear hm aX c1 De hz1 hz2 hz3 hz4 hen hlo;go_wp2;go_ret;exact HS.o _ _ E3 hE.o (by decide)
 have t1:(n.kind == 1)=false:=by simpa using c1
 have qo:(n.kind != 1)=true:=by simpa using c1
 have l8:lo<=0:=by rw[hlo,De aX c1];exact aE _
 have t2:decide ((0:Int)<(lo:Int))=false:=cG (by omega);have hE:Hid (ey S cu cg dir nm=0):=by show _=_;rw[hm.o,ac (by simpa using aX),ac c1]
 clear hm aX c1 De hz1 hz2 hz3 hz4 hen hlo;have xR:=aA M3 11 rfl;have kz:=M3.lt;go_wp2_with fail;refine (Dd A2 m.ah k2 nm _ mE.ah.ah (by have:=vg.o.2;omega)).mono ?_;rintro e w4 ⟨v4,rfl,hown,b4⟩;obtain⟨A4,c4,rfl,q1,q2,q3,q4⟩:=hown.zS (B:=B);obtain⟨L4,hL4⟩:=ai (eU m.ah nm);rw[<-hL4]at q1 q3|-;have HL4:=zH hL4;have E4:=E3.trans b4;obtain⟨T,hT⟩:=ai (dC S dir now L4);have HT:=zH hT;have KT:Hid (Calls prog 166 #[((),g.bF),dir,.slice A4 L4.length c4] w4 (AG w4 B g T X)):=by
  show Calls _ _ _ _ _;rw[hT,TF.o];exact qx B g S X dir A4 L4 c4 w4 (h.ext E4) (by have:=Jh.o;omega) HO.o.live.bL q3 q1 q2 q4
 have FP:=HO.o.live.on _ (ap HDI.o).2.2;have Zy:Live T:=by
  rw[hT];exact HO.o.live.set _ FP.1 FP.2 (fun e=>HO.o.live.one (aa S.nodes dir) (ap HDI.o).2.2 e)
 have Zz:AK T n:=⟨XA.o.ar,by rw[hT];exact XA.o.dev,XA.o.data,XA.o.one⟩;have hTl:T.last<=1000:=by rw[hT];exact jZ
 have Ty:=zH Zy;have HHT:=zH Zz;have N4:=N3.ext b4;have E_:=AO.ext b4;clear y2 nL yz xR kz hown q1 q2 q3 q4 hL4 hT Zy Zz FP N3 AO t1 qo t2;go_wp2_with fail;refine KT.o.mono ?_;rintro e w5 ⟨rfl,K5,O5⟩;have hng:dI+1∉g.list:=by
  have Rj:=h.lt;simp only[cI.list,aR,bg,bh];omega
 have N5:=O5.has N4 hng;have rR:=E_.only O5 (h.ext E4).apart;clear KT;go_wp2_with (refine aB rfl _ rfl (dI+1) n A3 k3 rfl N5 ?_);refine (C_ B g T X n A3 k3 _ K5 Ty.o hTl rR HHT.o).mono ?_;rintro e w6 ⟨rfl,g2,K6,O6,TI⟩;go_wp2;go_ret;have e1:eQ S cu cg now dir nm=jm T X.now n:=by rw[cq.o,af hE.o];unfold gU;rw[HMD.o,HT.o,HL4.o,TF.o]
 have O15:Only g.list w w5:=Only.pre E4 O5;refine⟨by rw[hE.o];rfl,g2,by rw[e1];exact K6,O15.then O6,?_⟩;refine⟨TI.1,fun b hb=>?_⟩;rcases TI.2 b hb with k|k
 ·exact .inl k
 ·exact .inr (by have:=O15.size;omega)
attribute [local irreducible] wpQuiet
end
end Go.Proofs.YtpibnfdolojpcaaGreat
