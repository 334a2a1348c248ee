import Derived.Test.YtblbohcaphcobaaGreatDoorBunI
import Derived.Test.YtblbohcaphcobaaGreatDoorBunD
import Derived.Test.YtblbohcaphcobaaGreatDoorBunC
import Derived.Test.YtblbohcaphcobaaGreatDoorBunH
import Derived.Deep.RegionWith
set_option maxHeartbeats 8000000
set_option maxRecDepth 100000
namespace Go.Proofs.YtblbohcaphcobaaGreatDoor
section
theorem xk {S:ac} {n:ai} {no:Int} (hne:no≠n.no):aa (aK S n).nodes no=aa S.nodes no:=(jH hne).1
theorem KH {S:ac} (hu:aI S.nodes S.last) {n:ai} (hkb:oK S n.no=true) (hi:aQ S.nodes n.no=true) (hv:n.dev=(aa S.nodes n.no).dev) (hk:n.kind=(aa S.nodes n.no).kind) (hd:n.data=(aa S.nodes n.no).data):kO (aK S n) n.no=kO S n.no:=by
 have hg:=A_ hu hi;have pB:aQ (aK S n).nodes n.no=true:=by show aQ (bn S.nodes n) n.no=true;rw[je];exact hi
 have hb:oK (aK S n) n.no=oK S n.no:=by
  unfold oK;rw [hi,pB,hg,hv];rfl
 unfold kO;have hq:AQ (aK S n) (aa (aK S n).nodes n.no)=AQ S (aa S.nodes n.no):=by
  unfold AQ;rw [hg,hv,hk,hd];rfl
 have hn:kJ (aK S n).nodes n.no=kJ S.nodes n.no:=by
  unfold kJ aK bn
  induction S.nodes with
  | nil=>rfl
  | cons m ms ih =>
   simp only[List.map_cons,List.filter_cons]at ih|-;rw [ih]
   by_cases e:m.no=n.no
   ·simp[e]
   ·simp[e]
 rw [hq,hn,hb,if_pos hkb,if_pos hkb];rfl
theorem Bb {c:Nat} {k:Int} {S:ac} (h:mW c k S) {no now:Int} (hi:aQ S.nodes no=true) (ho:ak S.af no=no) (hr:aE S.af (aa S.nodes no).dev≠no) (hne:(aa S.nodes no).kind=1->(aa S.nodes no).ae=[]) (vV:k=0\/(k=no/\(aa S.nodes no).kind=1)):dI c (na S now (aa S.nodes no)):=by
 obtain ⟨_,bc,hm⟩:=aj hi;have hb:=h.bits _ hm;unfold na;split
 ·have hkb:oK S no=true:=by unfold oK;rw[hi];simpa using hr
  have e:kO (aK S (jI now (aa S.nodes no))) (aa S.nodes no).no=kO S no:=by
   have:=KH h.aC (n:=jI now (aa S.nodes no)) (by show oK S (aa S.nodes no).no=true;rw[bc];exact hkb) (by show aQ S.nodes (aa S.nodes no).no=true;rw[bc];exact hi) (by show _=(aa S.nodes (aa S.nodes no).no).dev;rw[bc];rfl) (by show _=(aa S.nodes (aa S.nodes no).no).kind;rw[bc];rfl) (by show _=(aa S.nodes (aa S.nodes no).no).data;rw[bc];rfl);have e2:(jI now (aa S.nodes no)).no=no:=bc;rw [e2]at this;rw [bc];exact this
  rw [e];refine Kg h hkb ho ?_ hne
  ·rcases vV with e|e
   ·exact .inr (.inr e)
   ·exact .inr (.inl e.1)
 ·rename_i hl
  have SR:(aa S.nodes no).kind≠1:=fun hk=>by
   have:=h.mh _ hm hk;rw [this]at hl;omega
  have Cw:k=0:=by
   rcases vV with e|e
   ·exact e
   ·exact absurd e.2 SR
  subst Cw;have e1:∀{P:ai->Prop},P (aa S.nodes no)->P (aa S.nodes (jI now (aa S.nodes no)).no):=fun hp=>by
   have:(jI now (aa S.nodes no)).no=no:=bc;rw [this];exact hp
  refine pT h (.inl rfl) (by show aQ S.nodes (aa S.nodes no).no=true;rw[bc];exact hi) (Nat.le_refl _) (e1 (P:=fun m=>(jI now (aa S.nodes no)).kind=m.kind) rfl) (e1 (P:=fun m=>(jI now (aa S.nodes no)).dev=m.dev) rfl) (e1 (P:=fun m=>(jI now (aa S.nodes no)).up=m.up) rfl) (fun gG=>absurd gG SR) (h.mF (aa S.nodes no) hm) (h.names (aa S.nodes no) hm) (h.pos (aa S.nodes no) hm) (h.small (aa S.nodes no) hm) (h.on (aa S.nodes no) hm).2
   ⟨hb.1,hb.2.1,by show 1<=(aa S.nodes no).ah-1;omega,by show (aa S.nodes no).ah-1<=1000;omega⟩ (fun x hx=>h.zB (aa S.nodes no) hm x hx) (fun q hq ub _ xf tU=>?_)
  rcases h.SP q hq ub (by have:=(h.aC.2 q hq).1;omega) with⟨_,u2⟩|⟨_,_,m,cL,u3,u4,_⟩
  ·exact absurd (u2.symm.trans xf) tU
  ·have:m=aa S.nodes no:=gJ h.aC cL hm (by rw[u3,xf];rfl)
   subst this;exact absurd u4 SR
theorem GS {l:List ax} {nm:List UInt8} (hr:iR l) {x:ax} (hx:x∈l) (he:x.1=nm):aO l nm=x.2:=by
 unfold aO
 cases hf:l.find? (fun x=>x.1 == nm) with
 | none=>have:=List.find?_eq_none.1 hf x hx;simp at this;exact absurd he this
 | some y =>
  have h2:=List.find?_some (p:=fun x:ax=>x.1 == nm) hf;have nP:y.1=nm:=by simpa using h2
  have hy:=List.mem_of_find?_eq_some hf;have : y=x:=by
   obtain ⟨i,hi,rfl⟩:=List.getElem_of_mem hy;obtain ⟨j,hj,rfl⟩:=List.getElem_of_mem hx;rcases Nat.lt_trichotomy i j with g|g|g
   ·have:=wN (List.pairwise_iff_getElem.1 hr i j hi hj g)
    rw [nP,he]at this;exact absurd rfl this
   ·subst g;rfl
   ·have:=wN (List.pairwise_iff_getElem.1 hr j i hj hi g)
    rw [nP,he]at this;exact absurd rfl this
  subst this;rfl
theorem uo {l:List ax} {nm:List UInt8} (h:aO l nm≠0):∃x∈l,x.1=nm/\x.2=aO l nm:=by
 unfold aO at h|-
 cases hf:l.find? (fun x=>x.1 == nm) with
 | none=>rw[hf]at h;exact absurd rfl h
 | some y =>
  have h2:=List.find?_some (p:=fun x:ax=>x.1 == nm) hf;exact ⟨y,List.mem_of_find?_eq_some hf,by simpa using h2,rfl⟩
theorem kE {l:List ax} {nm:List UInt8} {x:ax} (h:x∈iu l nm):x∈l/\x.1≠nm:=by
 unfold iu at h;rw [List.mem_filter]at h;exact ⟨h.1,by simpa using h.2⟩
theorem uq {c:Nat} {S:ac} (h:dI c S) {dir now:Int} {nm:List UInt8} (hi:aQ S.nodes dir=true) (oL:(aa S.nodes dir).kind=1) {k':Int} (hk':∀q∈S.nodes,q.kind=1->q.no≠k'->q.no≠aO (aa S.nodes dir).ae nm):mW c k' (cI S dir now (iu (aa S.nodes dir).ae nm)):=by
 obtain ⟨_,bc,hmem⟩:=aj hi;refine xh h (.inl rfl) hi oL (Nat.le_refl _) (h.mF _ hmem |>.sublist List.filter_sublist) (fun x hx=>h.names _ hmem x (kE hx).1) (fun x hx=>h.pos _ hmem x (kE hx).1) ?_ (fun x hx=>h.zB _ hmem x (kE hx).1) (fun q hq ub AL xf tU=>?_)
 ·have h1:(iu (aa S.nodes dir).ae nm).length<=(aa S.nodes dir).ae.length:=List.length_filter_le ..
  have:=h.small _ hmem;omega
 ·rcases h.wh q hq ub with⟨_,u2⟩|⟨_,_,m,hm,u3,_,_,x,hx,u6⟩
  ·exact absurd (u2.symm.trans xf) tU
  ·have:m=aa S.nodes dir:=gJ h.aC hm hmem (by rw[u3,xf,bc])
   subst this;refine ⟨x,?_,u6⟩;unfold iu;rw [List.mem_filter];refine ⟨hx,?_⟩;have:x.1≠nm:=fun e=>by
    have:=GS (h.mF _ hmem) hx e;exact hk' q hq ub AL (by rw[this,u6])
   simpa using this
theorem KJ {c:Nat} {k:Int} {S:ac} (h:mW c k S) {no y dev:Int} (hK:Vu S no dev y) (d:Int) (hd:fY S.af d=true):aE S.af d≠y:=by
 rcases en h.roots d with⟨_,e2⟩|⟨j,hj,_,_,_,e4,_⟩
 ·rw[e2]at hd;cases hd
 ·rw [e4]
  exact fun e=>hK.2.1 _ (List.getElem_mem hj) e.symm
theorem Bd {c:Nat} {S:ac} (h:dI c S) {cu cg now dir:Int} {nm:List UInt8} (hl:jR S cu cg dir nm=0) (hne:(ij S cu cg dir nm).kind=1->(ij S cu cg dir nm).ae=[]):dI c (mA S now (mm S cu cg dir nm) (ij S cu cg dir nm) nm):=by
 obtain ⟨z1,z2,z3,z4,z5⟩:=gz hl;obtain ⟨hi,oL,_⟩:=aR z1;obtain ⟨_,bc,hmem⟩:=aj hi;rw [z5]at hne;obtain⟨no,hn⟩:=ar (aO (aa S.nodes dir).ae nm);rw [<-hn]at z2 z3 z5 hne;have hpos:=(h.aC.2 _ (aj z2).2.2).1;rw [(aj z2).2.1]at hpos;obtain ⟨x,hx,hx1,hx2⟩:=uo (l:=(aa S.nodes dir).ae) (nm:=nm) (by rw[<-hn];omega);have hK:=h.zB _ hmem x hx;rw [hx2,<-hn,bc]at hK;have hnd:no≠dir:=hK.1;unfold mA;rw [z4,z5,bc];have Pu:aa (cI S dir now (iu (aa S.nodes dir).ae nm)).nodes no=aa S.nodes no:=xk (by show no≠(aa S.nodes dir).no;rw[bc];exact hnd);have sw:aQ (cI S dir now (iu (aa S.nodes dir).ae nm)).nodes no=true:=by
  show aQ (bn S.nodes _) no=true;rw[je];exact z2
 have hrt:=KJ h hK (aa S.nodes no).dev (h.on _ (aj z2).2.2).1;rw [<-Pu]at hrt hne|-
 by_cases hk:(aa S.nodes no).kind=1
 ·have hT:=uq h (now:=now) (nm:=nm) hi oL (k':=no) (fun q _ _ hq=>by rw[<-hn];exact hq)
  exact Bb hT sw z3 hrt hne (.inr ⟨rfl,by rw[Pu];exact hk⟩)
 ·have hT:=uq h (now:=now) (nm:=nm) hi oL (k':=0) (fun q hq ub _ e=>by
   rw [<-hn]at e;have:=(dy h.aC hq).1;rw [e]at this;rw [this]at hk;exact hk ub)
  exact Bb hT sw z3 hrt hne (.inl rfl)
theorem Dp {c:Nat} {S:ac} (h:dI c S) (cu cg now dir:Int) (nm:List UInt8):dI c (jf S cu cg now dir nm):=by
 unfold jf;split
 ·rename_i h0
  unfold nO at h0;split at h0
  ·rename_i h1;exact absurd h0 h1
  ·rename_i h1
   split at h0
   ·cases h0
   ·rename_i h2
    exact Bd h (Decidable.not_not.1 h1) (fun hk=>absurd hk h2)
 ·exact h
theorem GU {c:Nat} {S:ac} (h:dI c S) (cu cg now dir:Int) (nm:List UInt8):dI c (kQ S cu cg now dir nm):=by
 unfold kQ;split
 ·rename_i h0
  unfold rc at h0;split at h0
  ·rename_i h1;exact absurd h0 h1
  ·rename_i h1
   split at h0
   ·cases h0
   ·split at h0
    ·cases h0
    ·rename_i h3
     refine Bd h (Decidable.not_not.1 h1) (fun _=>?_);exact List.eq_nil_of_length_eq_zero (by omega)
 ·exact h
theorem GV (S:ac) (now no:Int):(AZ S now no).last=S.last/\∀i,aE (AZ S now no).af i=aE S.af i:=by
 unfold AZ;split
 ·unfold na
  split
  ·unfold kO
   split
   ·exact⟨rfl,fun i=>by show aE (ja _ _ _) i=_;rw[EX];rfl⟩
   ·exact⟨rfl,fun _=>rfl⟩
  ·exact⟨rfl,fun _=>rfl⟩
 ·exact⟨rfl,fun _=>rfl⟩
open Go.ChangeShapes Go.WideShapes Go.ChangeAt Go.RowKit
theorem Be (nm:List UInt8) (w:World) (h:nm.length<=1000000):Calls Tryz.prog 147 #[bs nm] w (aH w (.int .i64 (cj nm))):=by
 have:=CS (bs nm) (by rw[aU];exact h) w;rw [kV]at this;exact this
theorem ur (B:Nat) (g:cJ) (S:ac) (X:cM) (cu cg dir:Int) (nm:List UInt8) (w:World) (h:gV w B g S X) (hl:S.nodes.length<=1000000) (hu:aI S.nodes S.last) (gY:nm.length<=1000000) :
  Calls Tryz.prog 119 #[.pointer (some ⟨g.bF,0,none⟩),.agg #[cu,cg],.int .i64 dir,bs nm] w (yE w B S cu cg dir nm):=by
 have h0:=h;have E0:Ext w ((w.alloc (.cells #[cu,cg] 27)).alloc (.cells #[.int .i64 0,.int .i64 0,.int .i64 0,.int .i64 0,.int .i64 0,.int .i64 0,.int .i64 0,.int .i64 0,.int .i64 0,.int .i64 0,.string ⟨#[]⟩,.slice none 0 0] 58)):=((Ext.refl _).alloc _).alloc _;go_enter Tryz.func119,Tryz.ntmps119;go_wp2_with fail;have b1:=Ext.refl ((w.alloc (.cells #[cu,cg] 27)).alloc (.cells #[.int .i64 0,.int .i64 0,.int .i64 0,.int .i64 0,.int .i64 0,.int .i64 0,.int .i64 0,.int .i64 0,.int .i64 0,.int .i64 0,.string ⟨#[]⟩,.slice none 0 0] 58));have E1:=E0;have R0:=Has.new (w.alloc (.cells #[cu,cg] 27)) (.cells #[ag.no,ag.dev,ag.kind,ag.mode,ag.uid,ag.gid,ag.mtime,ag.ctime,ag.ah,ag.up,bs ag.data,.slice none ag.ae.length 0] 58);rw [World.size_alloc]at R0;have R1:=R0.ext b1;have C1:=((Has.new w (.cells #[cu,cg] 27)).alloc (.cells #[.int .i64 0,.int .i64 0,.int .i64 0,.int .i64 0,.int .i64 0,.int .i64 0,.int .i64 0,.int .i64 0,.int .i64 0,.int .i64 0,.string ⟨#[]⟩,.slice none 0 0] 58)).ext b1;refine (eZ B g S X dir _ (h.ext E1) hl hu).mono ?_;rintro e w2 ⟨A2,k2,rfl,iC,b2⟩;have R2:=R1.ext b2;have C2:=C1.ext b2;have hm:Hid (aZ S cu cg dir nm=if aQ S.nodes dir=false then 5 else if ¬(aa S.nodes dir).kind=1 then 9 else if ¬cj nm=0 then cj nm
  else if fL cu cg (aa S.nodes dir).uid (aa S.nodes dir).gid (aa S.nodes dir).mode 3=false then 6 else 0):=by show _=_;rfl
 have cL:Hid (cY S cu cg dir nm=if aZ S cu cg dir nm=0 then aa S.nodes dir else ag):=by show _=_;rfl
 have hnz:Hid (((aa S.nodes dir).no == 0)=!aQ S.nodes dir):=by
  refine zH ?_
  cases hi:aQ S.nodes dir
  ·rw[(aV hi).1];rfl
  ·have h1:=(hu.2 _ (aj hi).2.2).1
   simp;omega
 obtain⟨m,hmm⟩:=ar (aa S.nodes dir);rw [<-hmm]at iC hm cL hnz|-;obtain⟨W3,du⟩:=ar (w2.alloc (.cells #[m.no,m.dev,m.kind,m.mode,m.uid,m.gid,m.mtime,m.ctime,m.ah,m.up,bs m.data,.slice A2 m.ae.length k2] 58));have kD:Ext w2 W3:=by rw[du];exact (Ext.refl _).alloc _
 have N3:Has W3 w2.heap.size (.cells #[m.no,m.dev,m.kind,m.mode,m.uid,m.gid,m.mtime,m.ctime,m.ah,m.up,bs m.data,.slice A2 m.ae.length k2] 58):=by rw[du];exact Has.new _ _
 have R3:=R2.ext kD;have C3:=C2.ext kD;have E3:Ext w W3:=(E1.trans b2).trans kD;obtain⟨b8,fZ⟩:=ar w2.heap.size;obtain⟨i,hi⟩:=ar (aQ S.nodes dir);rw [<-hi]at hm hnz;clear hmm hi R1 C1 R2 C2;go_upto_region 2 with fail;rw [<-du];rw [<-fZ]at N3|-;have pA:=iC.ext kD;clear du fZ kD;have HS:Hid (∀(w5 w6:World) (x:Int),Ext w w5->Only [w.heap.size+1] w5 w6->aZ S cu cg dir nm=x->x≠0->yE w B S cu cg dir nm (.returned (.tuple #[.agg #[ag.no,ag.dev,ag.kind,ag.mode,ag.uid,ag.gid,ag.mtime,ag.ctime,ag.ah,ag.up,bs ag.data,.slice none ag.ae.length 0],.int .i64 x])) w6):=by
  show ∀(w5 w6:World) (x:Int),_;intro w5 w6 x hE hO hx hx0;have hN:cY S cu cg dir nm=ag:=by rw[cL.out,if_neg (by rw[hx];exact hx0)]
  exact ⟨none,0,by rw[hx,hN],by rw[hN];exact ay.zero _ _,hO.after hE (by simp)⟩
 have k0':W3.cell? ⟨b8,0,none⟩=some (.int .i64 m.no):=N3.cell 0;have Px:W3.cell? ⟨b8,2,none⟩=some (.int .i64 m.kind):=N3.cell 2;have kz:=N3.lt
 cases i
 ·have hE:Hid (aZ S cu cg dir nm=5):=by show _=_;rw[hm.out];rfl
  have tn:(m.no == 0)=true:=hnz.out;clear hm;go_wp2_with (refine az rfl _ _ rfl (w.heap.size+1) ag none 0 rfl rfl R3 ?_;intro w9 R9 O9);refine bodyPost_ret (v:=.tuple #[.agg #[ag.no,ag.dev,ag.kind,ag.mode,ag.uid,ag.gid,ag.mtime,ag.ctime,ag.ah,ag.up,bs ag.data,.slice none ag.ae.length 0],.int .i64 5]) (dx Tryz.results119 _ _ (w.heap.size+1) ag none 0 _ rfl rfl R9) rfl ?_;exact HS.out _ _ _ E3 O9 hE.out (by decide)
 have tn:(m.no == 0)=false:=hnz.out
 by_cases c1:m.kind=1
 case neg =>
  have t1:(m.kind == 1)=false:=by simpa using c1
  have we:(m.kind != 1)=true:=by simpa using c1
  have hE:Hid (aZ S cu cg dir nm=9):=by show _=_;rw[hm.out,if_neg (by decide),if_pos c1]
  clear hm c1;go_wp2_with (refine az rfl _ _ rfl (w.heap.size+1) ag none 0 rfl rfl R3 ?_;intro w9 R9 O9);refine bodyPost_ret (v:=.tuple #[.agg #[ag.no,ag.dev,ag.kind,ag.mode,ag.uid,ag.gid,ag.mtime,ag.ctime,ag.ah,ag.up,bs ag.data,.slice none ag.ae.length 0],.int .i64 9]) (dx Tryz.results119 _ _ (w.heap.size+1) ag none 0 _ rfl rfl R9) rfl ?_;exact HS.out _ _ _ E3 O9 hE.out (by decide)
 have t1:(m.kind == 1)=true:=by simpa using c1
 have we:(m.kind != 1)=false:=by simpa using c1
 have WZ:Hid (aZ S cu cg dir nm=if ¬cj nm=0 then cj nm else if fL cu cg m.uid m.gid m.mode 3=false then 6 else 0):=by show _=_;rw[hm.out,if_neg (by decide),if_neg (by simpa using c1)]
 clear hm c1;go_wp2_with fail;refine (Be nm _ gY).mono ?_;rintro e w4 ⟨rfl,b4⟩;have R4:=R3.ext b4;have N4:=N3.ext b4;have C4:=C3.ext b4;have E4:=E3.trans b4;have sJ:=pA.ext b4;obtain⟨v,hv⟩:=ar (cj nm);rw [<-hv]at WZ|-;clear hv k0' Px kz R3 N3 C3
 by_cases qZ:v=0
 case neg =>
  have tv:(v == 0)=false:=by simpa using qZ
  have tvb:(v != 0)=true:=by simpa using qZ
  have hE:Hid (aZ S cu cg dir nm=v):=by show _=_;rw[WZ.out,if_pos qZ]
  have KU:=zH qZ;clear WZ qZ;go_wp2_with (refine az rfl _ _ rfl (w.heap.size+1) ag none 0 rfl rfl R4 ?_;intro w9 R9 O9);refine bodyPost_ret (v:=.tuple #[.agg #[ag.no,ag.dev,ag.kind,ag.mode,ag.uid,ag.gid,ag.mtime,ag.ctime,ag.ah,ag.up,bs ag.data,.slice none ag.ae.length 0],.int .i64 v]) (dx Tryz.results119 _ _ (w.heap.size+1) ag none 0 _ rfl rfl R9) rfl ?_;exact HS.out _ _ _ E4 O9 hE.out KU.out
 have tv:(v == 0)=true:=by simpa using qZ
 have tvb:(v != 0)=false:=by simpa using qZ
 obtain⟨u,Ak⟩:=ar (fL cu cg m.uid m.gid m.mode 3);have mM:Hid (aZ S cu cg dir nm=if u=false then 6 else 0):=by show _=_;rw[WZ.out,if_neg (by simpa using qZ),Ak]
 have HU:=zH Ak;have x0:w4.cell? ⟨w.heap.size,0,none⟩=some (.int .i64 cu):=C4.cell 0;have x1:w4.cell? ⟨w.heap.size,1,none⟩=some (.int .i64 cg):=C4.cell 1;have xz:=C4.lt;clear WZ Ak qZ;go_wp2_with (refine aP rfl _ rfl b8 m A2 k2 rfl N4 ?_);refine (xe cu cg _ _ _ m.mode m.uid m.gid _ _ _ _ _ _ 3 _).mono ?_;rw [<-HU.out];rintro e w5 ⟨rfl,b5⟩;have R5:=R4.ext b5;have N5:=N4.ext b5;have E5:=E4.trans b5;clear x0 x1 xz R4 N4
 cases u
 ·have hE:Hid (aZ S cu cg dir nm=6):=by show _=_;rw[mM.out];rfl
  clear mM;go_wp2_with (refine az rfl _ _ rfl (w.heap.size+1) ag none 0 rfl rfl R5 ?_;intro w9 R9 O9);refine bodyPost_ret (v:=.tuple #[.agg #[ag.no,ag.dev,ag.kind,ag.mode,ag.uid,ag.gid,ag.mtime,ag.ctime,ag.ah,ag.up,bs ag.data,.slice none ag.ae.length 0],.int .i64 6]) (dx Tryz.results119 _ _ (w.heap.size+1) ag none 0 _ rfl rfl R9) rfl ?_;exact HS.out _ _ _ E5 O9 hE.out (by decide)
 ·have hE:Hid (aZ S cu cg dir nm=0):=by show _=_;rw[mM.out];rfl
  have hN:Hid (cY S cu cg dir nm=m):=by show _=_;rw[cL.out,hE.out];rfl
  clear mM;go_wp2_with (first|(refine aP rfl _ rfl b8 m A2 k2 rfl N5 ?_)|(refine az rfl _ _ rfl (w.heap.size+1) m A2 k2 rfl rfl R5 ?_;intro w6 R6 O6));refine bodyPost_ret (v:=.tuple #[.agg #[m.no,m.dev,m.kind,m.mode,m.uid,m.gid,m.mtime,m.ctime,m.ah,m.up,bs m.data,.slice A2 m.ae.length k2],.int .i64 0]) (dx Tryz.results119 _ _ (w.heap.size+1) m A2 k2 _ rfl rfl R6) rfl ?_;have sK:ay w6 B m A2 k2:=((sJ.ext b5).only O6 (by
   intro b hb;rw [List.mem_singleton]at hb;subst hb;exact ⟨by have:=h0.1;have:=h0.lt.1;omega,R5.gi (by decide)⟩))
  exact ⟨A2,k2,by rw[hE.out,hN.out],by rw[hN.out];exact sK,O6.after E5 (by simp)⟩
def Dq (w:World) (B:Nat) (g:cJ) (T:ac) (X:cM) (a x:Int) (e:Ending) (w':World):Prop:=e=.returned (.tuple #[.int .i64 a,.int .i64 x])/\∃g2,gV w' B g2 T X/\Only g.list w w'/\cJ.on g2 g w
theorem KX {w w':World} {B:Nat} {g:cJ} {S:ac} {X:cM} {cu cg dir x:Int} {nm:List UInt8} {n:ai} (h:gV w B g S X) (hE:Ext w w') (hx:bL S cu cg X.now dir nm n=x) (h0:x≠0):Dq w B g (aX S cu cg X.now dir nm n) X (dh S cu cg X.now dir nm n) (bL S cu cg X.now dir nm n) (.returned (.tuple #[.int .i64 0,.int .i64 x])) w':=by
 refine ⟨?_,g,?_,Only.aw hE,cJ.fK _ _⟩
 ·unfold dh;rw[hx,if_neg h0]
 ·unfold aX;rw[hx,if_neg h0];exact h.ext hE
theorem rf (B:Nat) (g:cJ) (S:ac) (X:cM) (cu cg dir:Int) (nm:List UInt8) (n:ai) (A:Option Addr) (c:Nat) (w:World) (h:gV w B g S X) (O:Ok S) (g_:S.last<=100000) (hn:ay w B n A c) (kT:n.data.length<=1000000000) (gY:nm.length<=1000000) :
  Calls Tryz.prog 118 #[.pointer (some ⟨g.bF,0,none⟩),.agg #[cu,cg],.int .i64 dir,bs nm,.agg #[n.no,n.dev,n.kind,n.mode,n.uid,n.gid,n.mtime,n.ctime,n.ah,n.up,bs n.data,.slice A n.ae.length c]] w (Dq w B g (aX S cu cg X.now dir nm n) X (dh S cu cg X.now dir nm n) (bL S cu cg X.now dir nm n)):=by
 obtain⟨W0,bg⟩:=ar ((w.alloc (.cells #[cu,cg] 27)).alloc (.cells #[n.no,n.dev,n.kind,n.mode,n.uid,n.gid,n.mtime,n.ctime,n.ah,n.up,bs n.data,.slice A n.ae.length c] 58));have E0:Ext w W0:=by rw[bg];exact ((Ext.refl _).alloc _).alloc _
 obtain ⟨b7,wm⟩:∃b,b=w.heap.size:=⟨_,rfl⟩;have C0:Has W0 b7 (.cells #[cu,cg] 27):=by rw[bg,wm];exact (Has.new w _).alloc _
 have N0:Has W0 (b7+1) (.cells #[n.no,n.dev,n.kind,n.mode,n.uid,n.gid,n.mtime,n.ctime,n.ah,n.up,bs n.data,.slice A n.ae.length c] 58):=by
  rw [bg,wm];have:=Has.new (w.alloc (.cells #[cu,cg] 27)) (.cells #[n.no,n.dev,n.kind,n.mode,n.uid,n.gid,n.mtime,n.ctime,n.ah,n.up,bs n.data,.slice A n.ae.length c] 58)
  rwa [World.size_alloc]at this
 have aaA:w.heap.size+2<=W0.heap.size:=by rw[bg];simp
 have HO:=zH O;have aaF:=O.live.count;have hcl:S.nodes.length<=100000:=by omega
 have Rs:=zH hcl;have hm:Hid (bL S cu cg X.now dir nm n=if ¬aZ S cu cg dir nm=0 then aZ S cu cg dir nm else if ¬aO (aa S.nodes dir).ae nm=0 then 7 else eO S (bA S cu cg X.now dir n)):=by show _=_;rfl
 have hp:Hid (aZ S cu cg dir nm=0->cY S cu cg dir nm=aa S.nodes dir/\aQ S.nodes dir=true):=fun h0=>⟨k8 h0,(aR h0).1⟩
 obtain⟨now,Bf⟩:=ar X.now;have HS:Hid (∀(w':World) (x:Int),Ext w w'->bL S cu cg now dir nm n=x->x≠0->Dq w B g (aX S cu cg now dir nm n) X (dh S cu cg now dir nm n) (bL S cu cg now dir nm n) (.returned (.tuple #[.int .i64 0,.int .i64 x])) w'):=by
  show ∀(w':World) (x:Int),_;rw [Bf];exact fun w' x hE hx h0=>KX h hE hx h0
 rw [<-Bf]at hm|-;have W9:=zH Bf;have jm:=zH E0;clear O aaF hcl Bf;go_enter Tryz.func118,Tryz.ntmps118;go_upto_region 1 with fail;rw [<-bg];rw [<-wm];have aaB:b7<=w.heap.size:=by omega
 have aaC:w.heap.size<=b7:=by omega
 clear bg wm;have x0:W0.cell? ⟨b7,0,none⟩=some (.int .i64 cu):=C0.cell 0;have x1:W0.cell? ⟨b7,1,none⟩=some (.int .i64 cg):=C0.cell 1;have xz:=C0.lt;go_wp2_with fail;refine (ur B g S X cu cg dir nm _ (h.ext E0) (by have:=Rs.out;omega) HO.out.live.aC gY).mono ?_;rintro e w2 ⟨A2,k2,rfl,iC,b2⟩;obtain⟨m,hmm⟩:=ar (cY S cu cg dir nm);obtain⟨x,hx⟩:=ar (aZ S cu cg dir nm);rw [<-hmm]at iC hp;rw [<-hx]at hm hp;rw [<-hmm,<-hx];obtain⟨W3,du⟩:=ar (w2.alloc (.cells #[m.no,m.dev,m.kind,m.mode,m.uid,m.gid,m.mtime,m.ctime,m.ah,m.up,bs m.data,.slice A2 m.ae.length k2] 58));obtain ⟨Dh,yG⟩:∃b,b=w2.heap.size:=⟨_,rfl⟩;have kD:Ext w2 W3:=by rw[du];exact (Ext.refl _).alloc _
 have M3:Has W3 Dh (.cells #[m.no,m.dev,m.kind,m.mode,m.uid,m.gid,m.mtime,m.ctime,m.ah,m.up,bs m.data,.slice A2 m.ae.length k2] 58):=by rw[du,yG];exact Has.new _ _
 have oo:Ext W0 W3:=b2.trans kD;have C3:=C0.ext oo;have N3:=N0.ext oo;have pA:=iC.ext kD;have WI:W0.heap.size<=Dh:=by rw[yG];exact b2.size
 clear x0 x1 xz hmm hx C0 N0;go_upto_region 2 with fail;rw [<-du];rw [<-yG];clear du yG
 by_cases hx0:x=0
 case neg =>
  have t0:(x == 0)=false:=by simpa using hx0
  have oG:(x != 0)=true:=by simpa using hx0
  have hE:Hid (bL S cu cg now dir nm n=x):=by show _=_;rw[hm.out,if_pos hx0]
  have HX:=zH hx0;clear hm hx0;go_wp2_with fail;go_ret2;exact HS.out _ _ (jm.out.trans oo) hE.out HX.out
 have t0:(x == 0)=true:=by simpa using hx0
 have oG:(x != 0)=false:=by simpa using hx0
 obtain ⟨oI,hid⟩:=hp.out hx0;have cL:Hid (bL S cu cg now dir nm n=if ¬aO m.ae nm=0 then 7 else eO S (bA S cu cg now dir n)):=by show _=_;rw[hm.out,if_neg (by simpa using hx0),<-oI]
 have CZ:=zH oI;have HID:=zH hid;have hen:=HO.out.cG dir;rw [<-oI]at hen;have yH:=zH hen;have Di:W3.cell? ⟨Dh,11,none⟩=some (.slice A2 m.ae.length k2):=M3.cell 11;have kz:=M3.lt;clear hm hp hx0 oI hid hen;go_wp2_with fail;refine (lK A2 m.ae k2 nm _ pA.ae.ae (by have:=yH.out.2;omega)).mono ?_;rintro e w4 ⟨rfl,b4⟩;obtain⟨v,hv⟩:=ar (aO m.ae nm);rw [<-hv]at cL;rw [<-hv];have C4:=C3.ext b4;have N4:=N3.ext b4;have M4:=M3.ext b4;have sJ:=pA.ext b4;have E4:=oo.trans b4;clear hv Di kz C3 N3 M3 pA oo b4
 by_cases qZ:v=0
 case neg =>
  have t1:(v == 0)=false:=by simpa using qZ
  have we:(v != 0)=true:=by simpa using qZ
  have hE:Hid (bL S cu cg now dir nm n=7):=by show _=_;rw[cL.out,if_pos qZ]
  clear cL qZ;go_wp2_with fail;go_ret2;exact HS.out _ _ (jm.out.trans E4) hE.out (by decide)
 have t1:(v == 0)=true:=by simpa using qZ
 have we:(v != 0)=false:=by simpa using qZ
 have mM:Hid (bL S cu cg now dir nm n=eO S (bA S cu cg now dir n)):=by show _=_;rw[cL.out,if_neg (by simpa using qZ)]
 clear cL qZ;go_upto_region 6 with fail;obtain ⟨f_,wo⟩:∃b,b=b7+1:=⟨_,rfl⟩;rw [<-wo]at N4|-;have WJ:f_<=b7+1:=by omega
 have WK:b7+1<=f_:=by omega
 clear wo;have WL:=h.lt;have s0:=E0.size;have GJ:Dh≠f_:=by have:=b2.size;omega
 have sx:b7≠f_:=by omega
 have ab6:g.bF≠f_:=by omega
 have WH:(f_=g.bF)=False:=eq_false (by omega);have Kr:(g.bF=f_)=False:=eq_false (by omega);have n1:(f_=Dh)=False:=eq_false (Ne.symm GJ);have n2:(Dh=f_)=False:=eq_false GJ;have n3:(f_=b7)=False:=eq_false (Ne.symm sx);have n4:(b7=f_)=False:=eq_false sx;have Ku:Ext w w4:=jm.out.trans E4;have u1:w4.cell? ⟨Dh,1,none⟩=some (.int .i64 m.dev):=M4.cell 1;have u2:w4.cell? ⟨b7,0,none⟩=some (.int .i64 cu):=C4.cell 0;have u3:w4.cell? ⟨b7,1,none⟩=some (.int .i64 cg):=C4.cell 1;have u4:w4.cell? ⟨g.bF,3,none⟩=some (.int .i64 now):=by rw[W9.out];obtain⟨_,_,_,k,_⟩:=h.ext Ku;exact k.cell 3
 have f1:w4.cell? ⟨f_,1,none⟩=some (.int .i64 n.dev):=N4.cell 1;have f4:w4.cell? ⟨f_,4,none⟩=some (.int .i64 n.uid):=N4.cell 4;have f5:w4.cell? ⟨f_,5,none⟩=some (.int .i64 n.gid):=N4.cell 5;have f6:w4.cell? ⟨f_,6,none⟩=some (.int .i64 n.mtime):=N4.cell 6;have f7:w4.cell? ⟨f_,7,none⟩=some (.int .i64 n.ctime):=N4.cell 7;have f8:w4.cell? ⟨f_,8,none⟩=some (.int .i64 n.ah):=N4.cell 8;have yf:∀i,w4.frozen? ⟨f_,i,none⟩=false:=fun i=>(N4.free i).trans (by simp)
 have z1:=M4.lt;have z2:=C4.lt;have z3:=N4.lt;have z4:=(h.ext Ku).lt.1;go_upto_region 12 with fail;obtain⟨V,hV⟩:=ar ((((((w4.setCell ⟨f_,1,none⟩ (.int .i64 m.dev)).setCell ⟨f_,4,none⟩ (.int .i64 cu)).setCell ⟨f_,5,none⟩ (.int .i64 cg)).setCell ⟨f_,6,none⟩ (.int .i64 now)).setCell ⟨f_,7,none⟩ (.int .i64 now)).setCell ⟨f_,8,none⟩ (.int .i64 1));rw [<-hV];have N5:Has V f_ (.cells #[.int .i64 ((bA S cu cg now dir n)).no,.int .i64 ((bA S cu cg now dir n)).dev,.int .i64 ((bA S cu cg now dir n)).kind,.int .i64 ((bA S cu cg now dir n)).mode,.int .i64 ((bA S cu cg now dir n)).uid,.int .i64 ((bA S cu cg now dir n)).gid,.int .i64 ((bA S cu cg now dir n)).mtime,.int .i64 ((bA S cu cg now dir n)).ctime,.int .i64 ((bA S cu cg now dir n)).ah,.int .i64 ((bA S cu cg now dir n)).up,.string (bs ((bA S cu cg now dir n)).data),.slice A ((bA S cu cg now dir n)).ae.length c] 58):=by
  rw [hV];have:=(((((N4.setCell 1 (.int .i64 m.dev)).setCell 4 (.int .i64 cu)).setCell 5 (.int .i64 cg)).setCell 6 (.int .i64 now)).setCell 7 (.int .i64 now)).setCell 8 (.int .i64 1);rw [CZ.out]at this|-;exact this
 have O5:Only [f_] w4 V:=by
  rw [hV];exact (((((Only.setCell _ _ _ _).then (Only.setCell _ _ _ _)).then (Only.setCell _ _ _ _)).then (Only.setCell _ _ _ _)).then (Only.setCell _ _ _ _)).then (Only.setCell _ _ _ _)
 clear hV u1 u2 u3 u4 f1 f4 f5 f6 f7 f8 yf z1 z2 z3 z4 WH Kr n1 n2 n3 n4;obtain⟨n',hn'⟩:=ar (bA S cu cg now dir n);rw [<-hn']at N5 mM;have WM:n'.data=n.data:=by rw[hn'];rfl
 have Ks:n'.ae=n.ae:=by rw[hn'];rfl
 have Kt:=zH hn';have HDN:=zH WM;have SX:dg w4 B [f_]:=by
  intro b hb;rw [List.mem_singleton]at hb;subst hb;exact ⟨by have:=h.1;omega,N4.gi (by decide)⟩
 have Pb:∀b∈g.list,b∉[f_]:=by
  intro b hb;simp only[cJ.list,List.mem_cons,List.not_mem_nil,or_false]at hb;rw [List.mem_singleton];rcases hb with rfl|rfl|rfl<;>omega
 have F5:gV V B g S X:=(h.ext Ku).only O5 SX Pb;have yI:ay V B n' A c:=((hn.ext Ku).only O5 SX).same Ks;have yw:=sJ.only O5 SX;have M5:=O5.has M4 (by simpa using GJ);have Ow5:Only g.list w V:=(Only.aw Ku).trans O5 (by intro b hb;rw[List.mem_singleton]at hb;right;omega);have E5:Ext w V:=O5.after Ku (by intro b hb;rw[List.mem_singleton]at hb;omega);clear hn' WM Ks;go_wp2_with (refine aP rfl _ rfl f_ n' A c rfl N5 ?_);refine (Gg B g S X n' A c _ F5 Rs.out yI HO.out.live.roots HO.out.live.eight HO.out.live.aC (by have:=HO.out.live.last;omega) (by omega) (by rw[HDN.out];exact kT)).mono ?_;rintro e w6 ⟨rfl,bN,F6,O6,Z1⟩;obtain⟨e6,Kv⟩:=ar (eO S n');have bc:eO S n'=0->mz S n'=S.last+1:=fun h0=>by unfold mz;rw[if_pos h0]
 obtain⟨no,qI⟩:=ar (mz S n');rw [<-Kv,<-qI]at bc;rw [<-Kv]at mM;rw [<-Kv,<-qI];have sC:=zH bc;have NN:=zH Kv;have M6:=O6.has M5 (by simp only[cJ.list,List.mem_cons,List.not_mem_nil,or_false];omega);have sK:=yw.only O6 F5.apart;have WN:=Ow5.then O6;have W_:bN=g.bN\/w.heap.size<=bN:=by rcases Z1 with h|h;exact .inl h;exact .inr (by have:=E5.size;omega)
 have Rl:cJ.on ⟨g.bF,bN,g.bE⟩ g w:=⟨rfl,by
  intro b hb;simp only[cJ.list,List.mem_cons,List.not_mem_nil,or_false]at hb|-;rcases hb with rfl|rfl|rfl
  ·exact .inl (.inl rfl)
  ·rcases W_ with h|h
   ·exact .inl (.inr (.inl h))
   ·exact .inr h
  ·exact .inl (.inr (.inr rfl))⟩
 have NR:=zH Rl;clear bc qI Kv Z1 W_ Rl
 by_cases hz:e6=0
 case neg =>
  have t2:(e6 == 0)=false:=by simpa using hz
  have Py:(e6 != 0)=true:=by simpa using hz
  have HZ:=zH hz;clear hz;go_wp2_with fail;go_ret2;have e1:bL S cu cg now dir nm n=e6:=mM.out;have e2:dh S cu cg now dir nm n=0:=by unfold dh;rw[if_neg (by rw[e1];exact HZ.out)]
  have e3:aX S cu cg now dir nm n=S:=by unfold aX;rw[if_neg (by rw[e1];exact HZ.out)]
  have e4:bj S n'=S:=by unfold bj;rw[if_neg (by rw[<-NN.out];exact HZ.out)]
  rw [e4]at F6;exact ⟨by rw[e1,e2];rfl,⟨g.bF,bN,g.bE⟩,by rw[e3];exact F6,WN,NR.out⟩
 have t2:(e6 == 0)=true:=by simpa using hz
 have Py:(e6 != 0)=false:=by simpa using hz
 have HZ:=zH hz;have Di:w6.cell? ⟨Dh,11,none⟩=some (.slice A2 m.ae.length k2):=M6.cell 11;have kz:=M6.lt;clear hz;go_wp2_with fail;refine (Au A2 m.ae k2 (nm,no) _ sK.ae.ae (by have:=yH.out.2;omega)).mono ?_;rintro e w7 ⟨v7,rfl,hown,WO⟩;obtain ⟨A7,c7,rfl,q1,q2,q3,q4⟩:=hown.EJ (B:=B);obtain⟨T,hT⟩:=ar (bj S n');rw [<-hT]at F6;have SY:aI T.nodes T.last:=by rw[hT];exact pY HO.out.live _
 have Ta:T.nodes.length<=1000000:=by
  rw [hT];unfold bj;have:=Rs.out;split
  ·simp;omega
  ·omega
 obtain ⟨L7,NP⟩:∃L,L=dk m.ae (nm,no):=⟨_,rfl⟩;rw [<-NP]at q1 q3|-;have SZ:Hid (Calls Tryz.prog 120 #[.pointer (some ⟨g.bF,0,none⟩),.int .i64 dir,.slice A7 L7.length c7] w7 (Dg w7 B ⟨g.bF,bN,g.bE⟩ (cI T dir X.now L7) X)):=uk B ⟨g.bF,bN,g.bE⟩ T X dir A7 L7 c7 w7 (F6.ext WO) Ta SY q3 q1 q2 q4;have HT:=zH hT;have WP:=zH NP;clear Di kz hown q1 q2 q3 q4 hT NP;go_wp2_with fail;refine SZ.out.mono ?_;rintro e w8 ⟨rfl,K8,O8⟩;go_wp2_with fail;go_ret2;have e1:bL S cu cg now dir nm n=0:=by rw[mM.out];exact HZ.out
 have e2:dh S cu cg now dir nm n=no:=by unfold dh;rw[if_pos e1];exact (sC.out HZ.out).symm
 have e3:aX S cu cg now dir nm n=cI T dir X.now L7:=by
  unfold aX;rw [if_pos e1,HT.out,WP.out,<-Kt.out,CZ.out,sC.out HZ.out,W9.out]
 refine ⟨by rw[e1,e2];rfl,⟨g.bF,bN,g.bE⟩,by rw[e3];exact K8,(WN.ext WO).trans O8 (fun b hb=>NR.out.2 b hb),NR.out⟩
theorem cJ.PA {w w0:World} {g2 g:cJ} (h:cJ.on g2 g w0) (E:Ext w w0):cJ.on g2 g w:=⟨h.1,fun b hb=>by rcases h.2 b hb with k|k;exact .inl k;exact .inr (by have:=E.size;omega)⟩
theorem yM {w w':World} {B:Nat} {g:cJ} {S T:ac} {X:cM} {p a x:Int} (h:gV w B g S X) (hE:Ext w w') (hp:p≠0):Dq w B g (dM p S T) X (ig p a) (fQ p x) (.returned (.tuple #[.int .i64 0,.int .i64 p])) w':=
 ⟨by unfold ig fQ;rw[if_pos hp,if_pos hp],g,by unfold dM;rw[if_pos hp];exact h.ext hE,Only.aw hE,cJ.fK _ _⟩
theorem Dr {w w0 w':World} {B:Nat} {g:cJ} {S T:ac} {X:cM} {p a x:Int} {e:Ending} (E:Ext w w0) (h:Dq w0 B g T X a x e w') (h0:p=0):e=.returned (.tuple #[.int .i64 a,.int .i64 x])/\Dq w B g (dM p S T) X (ig p a) (fQ p x) e w':=by
 obtain ⟨he,g2,hK,hO,hn⟩:=h;have n0:¬(p≠0):=fun x=>x h0
 exact ⟨he,by unfold ig fQ;rw[if_neg n0,if_neg n0];exact he,g2,by unfold dM;rw[if_neg n0];exact hK,Only.pre E hO,cJ.PA hn E⟩
theorem KY (B:Nat) (g:cJ) (S:ac) (X:cM) (cu cg dir:Int) (nm:List UInt8) (mode:Int) (w:World) (h:gV w B g S X) (O:Ok S) (g_:S.last<=100000) (gY:nm.length<=1000000) :
  Calls Tryz.prog 87 #[.pointer (some ⟨g.bF,0,none⟩),.agg #[cu,cg],.int .i64 dir,bs nm,.int .i64 mode] w
   (Dq w B g (dM (lO mode) S (aX S cu cg X.now dir nm (dV mode dir))) X (ig (lO mode) (dh S cu cg X.now dir nm (dV mode dir))) (fQ (lO mode) (bL S cu cg X.now dir nm (dV mode dir)))):=by
 obtain⟨W0,bg⟩:=ar (w.alloc (.cells #[cu,cg] 27));have E0:Ext w W0:=by rw[bg];exact (Ext.refl _).alloc _
 have C0:Has W0 w.heap.size (.cells #[cu,cg] 27):=by rw[bg];exact Has.new w _
 have x0:W0.cell? ⟨w.heap.size,0,none⟩=some (.int .i64 cu):=C0.cell 0;have x1:W0.cell? ⟨w.heap.size,1,none⟩=some (.int .i64 cg):=C0.cell 1;have xz:=C0.lt;obtain⟨p,hp⟩:=ar (lO mode);obtain⟨T,hT⟩:=ar (aX S cu cg X.now dir nm (dV mode dir));obtain⟨a,ha⟩:=ar (dh S cu cg X.now dir nm (dV mode dir));obtain⟨x,hx⟩:=ar (bL S cu cg X.now dir nm (dV mode dir));have HS:Hid (∀(w':World) (y:Int),Ext w w'->p=y->y≠0->Dq w B g (dM p S T) X (ig p a) (fQ p x) (.returned (.tuple #[.int .i64 0,.int .i64 y])) w'):=by
  show ∀(w':World) (y:Int),_;intro w' y hE hy h0;subst hy;exact yM h hE h0
 have KP:Hid (∀w1,Ext w w1->Calls Tryz.prog 118 #[.pointer (some ⟨g.bF,0,none⟩),.agg #[cu,cg],.int .i64 dir,bs nm,.agg #[.int .i64 ((dV mode dir)).no,.int .i64 ((dV mode dir)).dev,.int .i64 ((dV mode dir)).kind,.int .i64 ((dV mode dir)).mode,.int .i64 ((dV mode dir)).uid,.int .i64 ((dV mode dir)).gid,.int .i64 ((dV mode dir)).mtime,.int .i64 ((dV mode dir)).ctime,.int .i64 ((dV mode dir)).ah,.int .i64 ((dV mode dir)).up,.string (bs ((dV mode dir)).data),.slice none ((dV mode dir)).ae.length 0]] w1 (Dq w1 B g T X a x)):=by
  show ∀w1,_;intro w1 hE;rw [hT,ha,hx];refine rf B g S X cu cg dir nm (dV mode dir) none 0 w1 (h.ext hE) O g_ ⟨.nil _ _ _,Nat.le_refl _,Nat.zero_le _,fun _=>rfl⟩ ?_ gY;simp [dV,ag]
 rw [<-hp,<-hT,<-ha,<-hx];have HP:=zH hp;have jm:=zH E0;have WL:=zH h;clear O hp E0 C0 hT ha hx;go_enter Tryz.func87,Tryz.ntmps87;go_upto_region 1 with fail;rw [<-bg];clear bg
 by_cases c1:mode<0
 ·have t1:decide (mode<0)=true:=decide_eq_true c1
  have hE:Hid (p=1):=by show _=_;rw[HP.out];unfold lO;rw[if_pos (.inl c1)]
  go_wp2_with fail;go_ret2;exact HS.out _ _ jm.out hE.out (by decide)
 have t1:decide (mode<0)=false:=decide_eq_false c1
 by_cases c2:1023<mode
 ·have t2:decide (1023<mode)=true:=decide_eq_true c2
  have hE:Hid (p=1):=by show _=_;rw[HP.out];unfold lO;rw[if_pos (.inr c2)]
  go_wp2_with fail;go_ret2;exact HS.out _ _ jm.out hE.out (by decide)
 have t2:decide (1023<mode)=false:=decide_eq_false c2;have hE:Hid (p=0):=by show _=_;rw[HP.out];unfold lO;rw[if_neg (by omega)]
 go_wp2_with fail;refine (KP.out _ jm.out).mono ?_;rintro e w2 hr;obtain ⟨rfl,hD⟩:=Dr (S:=S) jm.out hr hE.out;clear hr;go_wp2_with fail;go_ret2;exact hD
theorem GW (B:Nat) (g:cJ) (S:ac) (X:cM) (cu cg dir:Int) (nm:List UInt8) (mode:Int) (data:List UInt8) (w:World) (h:gV w B g S X) (O:Ok S) (g_:S.last<=100000) (gY:nm.length<=1000000) (hd:data.length<=1000000000) :
  Calls Tryz.prog 89 #[.pointer (some ⟨g.bF,0,none⟩),.agg #[cu,cg],.int .i64 dir,bs nm,.int .i64 mode,bs data] w
   (Dq w B g (dM (gw mode data.length) S (aX S cu cg X.now dir nm (cx mode data))) X (ig (gw mode data.length) (dh S cu cg X.now dir nm (cx mode data))) (fQ (gw mode data.length) (bL S cu cg X.now dir nm (cx mode data)))):=by
 obtain⟨W0,bg⟩:=ar (w.alloc (.cells #[cu,cg] 27));have E0:Ext w W0:=by rw[bg];exact (Ext.refl _).alloc _
 have C0:Has W0 w.heap.size (.cells #[cu,cg] 27):=by rw[bg];exact Has.new w _
 have x0:W0.cell? ⟨w.heap.size,0,none⟩=some (.int .i64 cu):=C0.cell 0;have x1:W0.cell? ⟨w.heap.size,1,none⟩=some (.int .i64 cg):=C0.cell 1;have xz:=C0.lt;obtain⟨p,hp⟩:=ar (gw mode data.length);obtain⟨T,hT⟩:=ar (aX S cu cg X.now dir nm (cx mode data));obtain⟨a,ha⟩:=ar (dh S cu cg X.now dir nm (cx mode data));obtain⟨x,hx⟩:=ar (bL S cu cg X.now dir nm (cx mode data));have HS:Hid (∀(w':World) (y:Int),Ext w w'->p=y->y≠0->Dq w B g (dM p S T) X (ig p a) (fQ p x) (.returned (.tuple #[.int .i64 0,.int .i64 y])) w'):=by
  show ∀(w':World) (y:Int),_;intro w' y hE hy h0;subst hy;exact yM h hE h0
 have KP:Hid (∀w1,Ext w w1->Calls Tryz.prog 118 #[.pointer (some ⟨g.bF,0,none⟩),.agg #[cu,cg],.int .i64 dir,bs nm,.agg #[.int .i64 ((cx mode data)).no,.int .i64 ((cx mode data)).dev,.int .i64 ((cx mode data)).kind,.int .i64 ((cx mode data)).mode,.int .i64 ((cx mode data)).uid,.int .i64 ((cx mode data)).gid,.int .i64 ((cx mode data)).mtime,.int .i64 ((cx mode data)).ctime,.int .i64 ((cx mode data)).ah,.int .i64 ((cx mode data)).up,.string (bs ((cx mode data)).data),.slice none ((cx mode data)).ae.length 0]] w1 (Dq w1 B g T X a x)):=by
  show ∀w1,_;intro w1 hE;rw [hT,ha,hx];refine rf B g S X cu cg dir nm (cx mode data) none 0 w1 (h.ext hE) O g_ ⟨.nil _ _ _,Nat.le_refl _,Nat.zero_le _,fun _=>rfl⟩ ?_ gY;exact hd
 rw [<-hp,<-hT,<-ha,<-hx];have HP:=zH hp;have jm:=zH E0;have WL:=zH h;clear O hp E0 C0 hT ha hx;go_enter Tryz.func89,Tryz.ntmps89;go_upto_region 1 with fail;rw [<-bg];clear bg;have hsz:((bs data).size:Int)=data.length:=by rw[aU]
 by_cases c1:mode<0
 ·have t1:decide (mode<0)=true:=decide_eq_true c1
  have hE:Hid (p=1):=by show _=_;rw[HP.out];unfold gw;rw[if_pos (.inl c1)]
  go_wp2_with fail;go_ret2;exact HS.out _ _ jm.out hE.out (by decide)
 have t1:decide (mode<0)=false:=decide_eq_false c1
 by_cases c2:1023<mode
 ·have t2:decide (1023<mode)=true:=decide_eq_true c2
  have hE:Hid (p=1):=by show _=_;rw[HP.out];unfold gw;rw[if_pos (.inr c2)]
  go_wp2_with fail;go_ret2;exact HS.out _ _ jm.out hE.out (by decide)
 have t2:decide (1023<mode)=false:=decide_eq_false c2
 by_cases c3:(1048576:Int)<data.length
 ·have t3:decide ((1048576:Int)<(data.length:Int))=true:=decide_eq_true c3
  have hE:Hid (p=3):=by show _=_;rw[HP.out];unfold gw;rw[if_neg (by omega),if_pos c3]
  go_wp2_with fail;go_ret2;exact HS.out _ _ jm.out hE.out (by decide)
 have t3:decide ((1048576:Int)<(data.length:Int))=false:=decide_eq_false c3;have hE:Hid (p=0):=by show _=_;rw[HP.out];unfold gw;rw[if_neg (by omega),if_neg c3]
 go_wp2_with fail;refine (KP.out _ jm.out).mono ?_;rintro e w2 hr;obtain ⟨rfl,hD⟩:=Dr (S:=S) jm.out hr hE.out;clear hr;go_wp2_with fail;go_ret2;exact hD
theorem KZ (B:Nat) (g:cJ) (S:ac) (X:cM) (cu cg dir:Int) (nm:List UInt8) (text:List UInt8) (w:World) (h:gV w B g S X) (O:Ok S) (g_:S.last<=100000) (gY:nm.length<=1000000) (hd:text.length<=1000000) :
  Calls Tryz.prog 90 #[.pointer (some ⟨g.bF,0,none⟩),.agg #[cu,cg],.int .i64 dir,bs nm,bs text] w
   (Dq w B g (dM (kP text) S (aX S cu cg X.now dir nm (ep text))) X (ig (kP text) (dh S cu cg X.now dir nm (ep text))) (fQ (kP text) (bL S cu cg X.now dir nm (ep text)))):=by
 obtain⟨W0,bg⟩:=ar (w.alloc (.cells #[cu,cg] 27));have E0:Ext w W0:=by rw[bg];exact (Ext.refl _).alloc _
 have C0:Has W0 w.heap.size (.cells #[cu,cg] 27):=by rw[bg];exact Has.new w _
 have x0:W0.cell? ⟨w.heap.size,0,none⟩=some (.int .i64 cu):=C0.cell 0;have x1:W0.cell? ⟨w.heap.size,1,none⟩=some (.int .i64 cg):=C0.cell 1;have xz:=C0.lt;obtain⟨p,hp⟩:=ar (kP text);obtain⟨T,hT⟩:=ar (aX S cu cg X.now dir nm (ep text));obtain⟨a,ha⟩:=ar (dh S cu cg X.now dir nm (ep text));obtain⟨x,hx⟩:=ar (bL S cu cg X.now dir nm (ep text));have HS:Hid (∀(w':World) (y:Int),Ext w w'->p=y->y≠0->Dq w B g (dM p S T) X (ig p a) (fQ p x) (.returned (.tuple #[.int .i64 0,.int .i64 y])) w'):=by
  show ∀(w':World) (y:Int),_;intro w' y hE hy h0;subst hy;exact yM h hE h0
 have KP:Hid (∀w1,Ext w w1->Calls Tryz.prog 118 #[.pointer (some ⟨g.bF,0,none⟩),.agg #[cu,cg],.int .i64 dir,bs nm,.agg #[.int .i64 ((ep text)).no,.int .i64 ((ep text)).dev,.int .i64 ((ep text)).kind,.int .i64 ((ep text)).mode,.int .i64 ((ep text)).uid,.int .i64 ((ep text)).gid,.int .i64 ((ep text)).mtime,.int .i64 ((ep text)).ctime,.int .i64 ((ep text)).ah,.int .i64 ((ep text)).up,.string (bs ((ep text)).data),.slice none ((ep text)).ae.length 0]] w1 (Dq w1 B g T X a x)):=by
  show ∀w1,_;intro w1 hE;rw [hT,ha,hx];refine rf B g S X cu cg dir nm (ep text) none 0 w1 (h.ext hE) O g_ ⟨.nil _ _ _,Nat.le_refl _,Nat.zero_le _,fun _=>rfl⟩ ?_ gY;show text.length<=_;omega
 rw [<-hp,<-hT,<-ha,<-hx];have HP:=zH hp;have jm:=zH E0;have WL:=zH h;clear O hp E0 C0 hT ha hx;have hh:Hid (∀w',Calls Tryz.prog 95 #[bs text,.int .u8 0] w' (aH w' (.bool (hasB text 0)))):=by
  show ∀w',_;intro w';have:=gj (bs text) 0 0 rfl (by rw[aU];exact hd) w';rw [kV]at this;exact this
 by_cases c0:text=[]
 ·have hE:Hid (p=1):=by show _=_;rw[HP.out];unfold kP;rw[if_pos (.inl c0)]
  have hem:(bs text).toList.isEmpty=true:=by rw[bk,c0];rfl
  clear c0;go_enter Tryz.func90,Tryz.ntmps90;go_upto_region 1 with fail;rw [<-bg];clear bg;go_wp2_with fail;go_ret2;exact HS.out _ _ jm.out hE.out (by decide)
 have hem:(bs text).toList.isEmpty=false:=by rw[bk,List.isEmpty_eq_false_iff];exact c0
 have hsz:((bs text).size:Int)=text.length:=by rw[aU]
 have WU:=zH c0;clear c0;go_enter Tryz.func90,Tryz.ntmps90;go_upto_region 1 with fail;rw [<-bg];clear bg;go_wp2_with fail;refine (hh.out _).mono ?_;rintro e w1 ⟨rfl,b1⟩;obtain⟨hb,S8⟩:=ar (hasB text 0);rw [<-S8];have HB:=zH S8;have E1:=jm.out.trans b1;have x0':w1.cell? ⟨w.heap.size,0,none⟩=some (.int .i64 cu):=(b1.cell xz).trans x0;have x1':w1.cell? ⟨w.heap.size,1,none⟩=some (.int .i64 cg):=(b1.cell xz).trans x1;have xz':w.heap.size<w1.heap.size:=by have:=b1.size;omega
 clear x0 x1 xz S8;cases hb
 case true =>
  have hE:Hid (p=1):=by show _=_;rw[HP.out];unfold kP;rw[if_pos (.inr HB.out.symm)]
  go_wp2_with fail;go_ret2;exact HS.out _ _ E1 hE.out (by decide)
 by_cases c1:(4096:Int)<text.length
 ·have t1:decide ((4096:Int)<(text.length:Int))=true:=decide_eq_true c1
  have hE:Hid (p=13):=by show _=_;rw[HP.out];unfold kP;rw[if_neg (by rintro (h'|h');exact WU.out h';rw[<-HB.out]at h';cases h'),if_pos (by omega)]
  go_wp2_with fail;go_ret2;exact HS.out _ _ E1 hE.out (by decide)
 have t1:decide ((4096:Int)<(text.length:Int))=false:=decide_eq_false c1;have hE:Hid (p=0):=by show _=_;rw[HP.out];unfold kP;rw[if_neg (by rintro (h'|h');exact WU.out h';rw[<-HB.out]at h';cases h'),if_neg (by omega)]
 go_wp2_with fail;refine (KP.out _ E1).mono ?_;rintro e w2 hr;obtain ⟨rfl,hD⟩:=Dr (S:=S) E1 hr hE.out;clear hr;go_wp2_with fail;go_ret2;exact hD
def ErF (w:World) (B:Nat) (g:cJ) (T:ac) (X:cM) (x:Int) (e:Ending) (w':World):Prop:=e=.returned (.int .i64 x)/\∃g2,gV w' B g2 T X/\Only g.list w w'/\cJ.on g2 g w
theorem GX (B:Nat) (g:cJ) (S:ac) (X:cM) (cu cg no dir:Int) (nm:List UInt8) (w:World) (h:gV w B g S X) (O:Ok S) (g_:S.last<=100000) (gY:nm.length<=1000000) :
  Calls Tryz.prog 91 #[.pointer (some ⟨g.bF,0,none⟩),.agg #[cu,cg],.int .i64 no,.int .i64 dir,bs nm] w (ErF w B g (dW S cu cg X.now no dir nm) X (eP S cu cg no dir nm)):=by
 obtain⟨W0,bg⟩:=ar (w.alloc (.cells #[cu,cg] 27));have E0:Ext w W0:=by rw[bg];exact (Ext.refl _).alloc _
 have C0:Has W0 w.heap.size (.cells #[cu,cg] 27):=by rw[bg];exact Has.new w _
 have HO:=zH O;have hcl:S.nodes.length<=100000:=by have:=O.live.count;omega
 have Rs:=zH hcl;obtain⟨now,Bf⟩:=ar X.now;have hm:Hid (eP S cu cg no dir nm=if ¬aZ S cu cg dir nm=0 then aZ S cu cg dir nm else if aQ S.nodes no=false then 5 else if (aa S.nodes no).kind=1 then 4
  else if ¬aO (aa S.nodes dir).ae nm=0 then 7 else if ¬(aa S.nodes no).dev=(aa S.nodes dir).dev then 11 else if 1000<=(aa S.nodes no).ah then 18 else 0):=by show _=_;rfl
 have hp:Hid (aZ S cu cg dir nm=0->cY S cu cg dir nm=aa S.nodes dir/\aQ S.nodes dir=true):=fun h0=>⟨k8 h0,(aR h0).1⟩
 have HS:Hid (∀(w':World) (x:Int),Ext w w'->eP S cu cg no dir nm=x->x≠0->ErF w B g (dW S cu cg now no dir nm) X (eP S cu cg no dir nm) (.returned (.int .i64 x)) w'):=by
  show ∀(w':World) (x:Int),_;intro w' x hE hx h0;rw [hx];refine ⟨rfl,g,?_,Only.aw hE,cJ.fK _ _⟩;unfold dW;rw [if_neg (by rw[hx];exact h0)];exact h.ext hE
 have hnz:Hid (((aa S.nodes no).no == 0)=!aQ S.nodes no):=by
  refine zH ?_
  cases hi:aQ S.nodes no
  ·rw[(aV hi).1];rfl
  ·have h1:=(O.live.aC.2 _ (aj hi).2.2).1
   simp;omega
 rw [<-Bf];have W9:=zH Bf;have jm:=zH E0;clear O hcl Bf;go_enter Tryz.func91,Tryz.ntmps91;go_upto_region 1 with fail;rw [<-bg];clear bg;have x0:W0.cell? ⟨w.heap.size,0,none⟩=some (.int .i64 cu):=C0.cell 0;have x1:W0.cell? ⟨w.heap.size,1,none⟩=some (.int .i64 cg):=C0.cell 1;have xz:=C0.lt;go_wp2_with fail;refine (ur B g S X cu cg dir nm _ (h.ext E0) (by have:=Rs.out;omega) HO.out.live.aC gY).mono ?_;rintro e w2 ⟨A2,k2,rfl,iC,b2⟩;obtain⟨m,hmm⟩:=ar (cY S cu cg dir nm);obtain⟨x,hx⟩:=ar (aZ S cu cg dir nm);rw [<-hmm]at iC hp;rw [<-hx]at hm hp;rw [<-hmm,<-hx];obtain⟨W3,du⟩:=ar (w2.alloc (.cells #[m.no,m.dev,m.kind,m.mode,m.uid,m.gid,m.mtime,m.ctime,m.ah,m.up,bs m.data,.slice A2 m.ae.length k2] 58));obtain ⟨yJ,yK⟩:∃b,b=w2.heap.size:=⟨_,rfl⟩;have kD:Ext w2 W3:=by rw[du];exact (Ext.refl _).alloc _
 have M3:Has W3 yJ (.cells #[m.no,m.dev,m.kind,m.mode,m.uid,m.gid,m.mtime,m.ctime,m.ah,m.up,bs m.data,.slice A2 m.ae.length k2] 58):=by rw[du,yK];exact Has.new _ _
 have E3:Ext w W3:=E0.trans (b2.trans kD);have pA:=iC.ext kD;have WQ:w.heap.size<=yJ:=by rw[yK];exact (E0.trans b2).size
 clear x0 x1 xz hmm hx C0;go_upto_region 2 with fail;rw [<-du];rw [<-yK];clear du yK;go_wp2_with fail;refine (eZ B g S X no _ (h.ext E3) (by have:=Rs.out;omega) HO.out.live.aC).mono ?_;rintro e w4 ⟨A4,k4,rfl,sJ,b4⟩;obtain⟨n,hn⟩:=ar (aa S.nodes no);obtain⟨i,hi⟩:=ar (aQ S.nodes no);have hlk:aQ S.nodes no=true->1<=(aa S.nodes no).ah/\(aa S.nodes no).ah<=1000:=fun hi=>HO.out.ah _ (aj hi).2.2
 rw [<-hn,<-hi]at hlk hnz;rw [<-hn]at sJ hm|-;rw [<-hi]at hm;have HLK:=zH hlk;obtain⟨W5,kL⟩:=ar (w4.alloc (.cells #[n.no,n.dev,n.kind,n.mode,n.uid,n.gid,n.mtime,n.ctime,n.ah,n.up,bs n.data,.slice A4 n.ae.length k4] 58));obtain ⟨m_,q_⟩:∃b,b=w4.heap.size:=⟨_,rfl⟩;have NQ:Ext w4 W5:=by rw[kL];exact (Ext.refl _).alloc _
 have N5:Has W5 m_ (.cells #[n.no,n.dev,n.kind,n.mode,n.uid,n.gid,n.mtime,n.ctime,n.ah,n.up,bs n.data,.slice A4 n.ae.length k4] 58):=by rw[kL,q_];exact Has.new _ _
 have Pz:Ext W3 W5:=b4.trans NQ;have M5:=M3.ext Pz;have yw:=pA.ext Pz;have yI:=sJ.ext NQ;have E5:=E3.trans Pz;have WR:W3.heap.size<=m_:=by rw[q_];exact b4.size
 have aaD:yJ<m_:=by have:=M3.lt;omega
 have vS:=zH hn;have HI:=zH hi;clear hn hi M3 pA sJ E3 hlk;go_upto_region 3 with fail;rw [<-kL];rw [<-q_];clear kL q_
 by_cases hx0:x=0
 case neg =>
  have t0:(x == 0)=false:=by simpa using hx0
  have oG:(x != 0)=true:=by simpa using hx0
  have hE:Hid (eP S cu cg no dir nm=x):=by show _=_;rw[hm.out,if_pos hx0]
  have HX:=zH hx0;clear hm hx0;go_wp2_with fail;go_ret;exact HS.out _ _ E5 hE.out HX.out
 have t0:(x == 0)=true:=by simpa using hx0
 have oG:(x != 0)=false:=by simpa using hx0
 obtain ⟨oI,hid⟩:=hp.out hx0;have cL:Hid (eP S cu cg no dir nm=if i=false then 5 else if n.kind=1 then 4 else if ¬aO m.ae nm=0 then 7 else if ¬n.dev=m.dev then 11 else if 1000<=n.ah then 18 else 0):=by
  show _=_;rw[hm.out,if_neg (by simpa using hx0),<-oI]
 have CZ:=zH oI;have hen:=HO.out.cG dir;rw [<-oI]at hen;have yH:=zH hen;have k0':W5.cell? ⟨m_,0,none⟩=some (.int .i64 n.no):=N5.cell 0;have Px:W5.cell? ⟨m_,2,none⟩=some (.int .i64 n.kind):=N5.cell 2;have kz:=N5.lt;clear hm hp hx0 oI hid hen
 cases i
 ·have hE:Hid (eP S cu cg no dir nm=5):=by show _=_;rw[cL.out];rfl
  have tn:(n.no == 0)=true:=hnz.out;clear cL;go_wp2_with fail;go_ret;exact HS.out _ _ E5 hE.out (by decide)
 have tn:(n.no == 0)=false:=hnz.out
 by_cases c1:n.kind=1
 ·have t1:(n.kind == 1)=true:=by simpa using c1
  have hE:Hid (eP S cu cg no dir nm=4):=by show _=_;rw[cL.out,if_neg (by decide),if_pos c1]
  clear cL;go_wp2_with fail;go_ret;exact HS.out _ _ E5 hE.out (by decide)
 have t1:(n.kind == 1)=false:=by simpa using c1
 have Di:W5.cell? ⟨yJ,11,none⟩=some (.slice A2 m.ae.length k2):=M5.cell 11;have kz2:=M5.lt;have IY:=zH c1;clear c1;go_wp2_with fail;refine (lK A2 m.ae k2 nm _ yw.ae.ae (by have:=yH.out.2;omega)).mono ?_;rintro e w6 ⟨rfl,b6⟩;obtain⟨v,hv⟩:=ar (aO m.ae nm);rw [<-hv]at cL;rw [<-hv];have N6:=N5.ext b6;have M6:=M5.ext b6;have sK:=yw.ext b6;have Kw:=yI.ext b6;have E6:=E5.trans b6;clear hv Px kz Di kz2 N5 M5 yw yI
 by_cases c2:v=0
 case neg =>
  have t2:(v == 0)=false:=by simpa using c2
  have Py:(v != 0)=true:=by simpa using c2
  have hE:Hid (eP S cu cg no dir nm=7):=by show _=_;rw[cL.out,if_neg (by decide),if_neg IY.out,if_pos c2]
  clear cL c2;go_wp2_with fail;go_ret;exact HS.out _ _ E6 hE.out (by decide)
 have t2:(v == 0)=true:=by simpa using c2
 have Py:(v != 0)=false:=by simpa using c2
 have y1:w6.cell? ⟨m_,1,none⟩=some (.int .i64 n.dev):=N6.cell 1;have y2:w6.cell? ⟨yJ,1,none⟩=some (.int .i64 m.dev):=M6.cell 1;have y3:w6.cell? ⟨m_,8,none⟩=some (.int .i64 n.ah):=N6.cell 8;have yz:=N6.lt;have Z7:=M6.lt;have qY:=zH (show ¬¬v=0 by simpa using c2);clear c2
 by_cases c3:n.dev=m.dev
 case neg =>
  have t3:(n.dev == m.dev)=false:=by simpa using c3
  have t3b:(n.dev != m.dev)=true:=by simpa using c3
  have hE:Hid (eP S cu cg no dir nm=11):=by show _=_;rw[cL.out,if_neg (by decide),if_neg IY.out,if_neg qY.out,if_pos c3]
  clear cL c3;go_wp2_with fail;go_ret;exact HS.out _ _ E6 hE.out (by decide)
 have t3:(n.dev == m.dev)=true:=by simpa using c3
 have t3b:(n.dev != m.dev)=false:=by simpa using c3
 have WS:=zH (show ¬¬n.dev=m.dev by simpa using c3);clear c3
 by_cases c4:1000<=n.ah
 ·have t4:decide (1000<=n.ah)=true:=decide_eq_true c4
  have hE:Hid (eP S cu cg no dir nm=18):=by show _=_;rw[cL.out,if_neg (by decide),if_neg IY.out,if_neg qY.out,if_neg WS.out,if_pos c4]
  clear cL c4;go_wp2_with fail;go_ret;exact HS.out _ _ E6 hE.out (by decide)
 have t4:decide (1000<=n.ah)=false:=decide_eq_false c4;have hE:Hid (eP S cu cg no dir nm=0):=by show _=_;rw[cL.out,if_neg (by decide),if_neg IY.out,if_neg qY.out,if_neg WS.out,if_neg c4]
 have g_:=(HLK.out (by trivial)).1;have y4:IntKind.i64.wrap (n.ah+1)=n.ah+1:=bV (by omega) (by omega);have yf:∀i,w6.frozen? ⟨m_,i,none⟩=false:=fun i=>(N6.free i).trans (by simp)
 have y7:w6.cell? ⟨m_,7,none⟩=some (.int .i64 n.ctime):=N6.cell 7;have nw:w6.cell? ⟨g.bF,3,none⟩=some (.int .i64 now):=by rw[W9.out];obtain⟨_,_,_,k,_⟩:=h.ext E6;exact k.cell 3
 have nz:=(h.ext E6).lt.1;have hlt:=h.lt;have hs0:=jm.out.size;have hs1:=Pz.size;have Tb:g.bF<m_:=by omega
 have WH:(m_=g.bF)=False:=eq_false (by omega);have Kr:(g.bF=m_)=False:=eq_false (by omega);obtain ⟨n',hn'⟩:∃n':ai,n'={n with ah:=n.ah+1,ctime:=now}:=⟨_,rfl⟩;have Kt:=zH hn';clear cL c4 g_ hn';go_upto_region 17 with fail;obtain⟨V,hV⟩:=ar ((w6.setCell ⟨m_,8,none⟩ (.int .i64 (n.ah+1))).setCell ⟨m_,7,none⟩ (.int .i64 now));rw [<-hV];have NV:Has V m_ (.cells #[.int .i64 (n').no,.int .i64 (n').dev,.int .i64 (n').kind,.int .i64 (n').mode,.int .i64 (n').uid,.int .i64 (n').gid,.int .i64 (n').mtime,.int .i64 (n').ctime,.int .i64 (n').ah,.int .i64 (n').up,.string (bs (n').data),.slice A4 (n').ae.length k4] 58):=by rw[hV,Kt.out];exact (N6.setCell 8 _).setCell 7 _
 have OV:Only [m_] w6 V:=by rw[hV];exact (Only.setCell _ _ _ _).then (Only.setCell _ _ _ _)
 have WT:dg w6 B [m_]:=by
  intro b hb;rw [List.mem_singleton]at hb;subst hb;exact ⟨by have:=h.1;omega,N6.gi (by decide)⟩
 have EV:Ext w V:=OV.after E6 (by intro b hb;rw[List.mem_singleton]at hb;omega);have KV:=h.ext EV;have MV:=OV.has M6 (by rw[List.mem_singleton];omega);have yx:=sK.only OV WT;have S4:ay V B n' A4 k4:=(Kw.only OV WT).same (by rw[Kt.out]);clear hV y1 y2 y3 y4 yf y7 yz Z7 nw nz WH Kr N6 M6 sK Kw;go_wp2_with (refine aP rfl _ rfl m_ n' A4 k4 rfl NV ?_);refine (mR B g S X n' A4 k4 _ KV (by have:=Rs.out;omega) HO.out.live.aC S4).mono ?_;rintro e w7 ⟨rfl,K7,O7⟩;have Kx:yJ∉g.list:=by
  simp only[cJ.list,List.mem_cons,List.not_mem_nil,or_false];omega
 have M7:=O7.has MV Kx;have tK:=yx.only O7 KV.apart;have Ow7:Only g.list w w7:=Only.pre EV O7;obtain⟨T,hT⟩:=ar (aK S n');rw [<-hT]at K7;have SY:aI T.nodes T.last:=by rw[hT];exact HO.out.live.aC.set _
 have Ta:T.nodes.length<=1000000:=by rw[hT];show (bn _ _).length<=_;rw[pK];have:=Rs.out;omega
 have HT:=zH hT;have Di:w7.cell? ⟨yJ,11,none⟩=some (.slice A2 m.ae.length k2):=M7.cell 11;have kz:=M7.lt;clear hT;go_wp2_with fail;refine (Au A2 m.ae k2 (nm,no) _ tK.ae.ae (by have:=yH.out.2;omega)).mono ?_;rintro e w8 ⟨v8,rfl,hown,Fa⟩;obtain ⟨A8,c8,rfl,q1,q2,q3,q4⟩:=hown.EJ (B:=B);obtain ⟨L8,S6⟩:∃L,L=dk m.ae (nm,no):=⟨_,rfl⟩;rw [<-S6]at q1 q3|-;have SZ:Hid (Calls Tryz.prog 120 #[.pointer (some ⟨g.bF,0,none⟩),.int .i64 dir,.slice A8 L8.length c8] w8 (Dg w8 B g (cI T dir X.now L8) X)):=uk B g T X dir A8 L8 c8 w8 (K7.ext Fa) Ta SY q3 q1 q2 q4;have HL8:=zH S6;clear Di kz hown q1 q2 q3 q4 S6;go_wp2_with fail;refine SZ.out.mono ?_;rintro e w9 ⟨rfl,K9,O9⟩;go_wp2_with fail;go_ret;rw [hE.out];have e3:dW S cu cg now no dir nm=cI T dir X.now L8:=by
  unfold dW bH;rw [if_pos hE.out,HT.out,HL8.out,Kt.out,vS.out,CZ.out,W9.out]
 exact ⟨rfl,g,by rw[e3];exact K9,(Ow7.ext Fa).then O9,cJ.fK _ _⟩
attribute [local irreducible] gv wpQuiet
attribute [local go_sem] fh
end
section
open Go.ChangeShapes Go.WideShapes Go.ChangeAt Go.RowKit
def bi (S:ac):Prop:=∀n∈S.nodes,n.kind≠1->n.ae=[]
attribute [local irreducible] wpQuiet
end
end Go.Proofs.YtblbohcaphcobaaGreatDoor
