import Derived.Test.YtblbohcaphcobaaGreatDoorBunI
import Derived.Test.YtblbohcaphcobaaGreatDoorBunD
import Derived.Test.YtblbohcaphcobaaGreatDoorBunC
import Derived.Test.YtblbohcaphcobaaGreatDoorBunH
import Derived.Deep.RegionWith
set_option maxHeartbeats 8000000
set_option maxRecDepth 100000
namespace Go.Proofs.YtblbohcaphcobaaGreatDoor
section
theorem wL {S:aa} {n:ai} {no:Int} (hne:no≠n.no):ac (aJ S n).nodes no=ac S.nodes no:=(fZ hne).1
theorem JE {S:aa} (hu:aD S.nodes S.last) {n:ai} (hkb:ol S n.no=true) (hi:aK S.nodes n.no=true) (hv:n.dev=(ac S.nodes n.no).dev) (hk:n.kind=(ac S.nodes n.no).kind) (hd:n.data=(ac S.nodes n.no).data):kG (aJ S n) n.no=kG S n.no:=by
 have hg:=tK hu hi;have oh:aK (aJ S n).nodes n.no=true:=by show aK (cA S.nodes n) n.no=true;rw[gW];exact hi
 have hb:ol (aJ S n) n.no=ol S n.no:=by
  unfold ol;rw [hi,oh,hg,hv];rfl
 unfold kG;have hq:zR (aJ S n) (ac (aJ S n).nodes n.no)=zR S (ac S.nodes n.no):=by
  unfold zR;rw [hg,hv,hk,hd];rfl
 have hn:kA (aJ S n).nodes n.no=kA S.nodes n.no:=by
  unfold kA aJ cA
  induction S.nodes with
  | nil=>rfl
  | cons m ms ih =>
   simp only[List.map_cons,List.filter_cons]at ih|-;rw [ih]
   by_cases e:m.no=n.no
   ·simp[e]
   ·simp[e]
 rw [hq,hn,hb,if_pos hkb,if_pos hkb];rfl
theorem zZ {c:Nat} {k:Int} {S:aa} (h:mM c k S) {no now:Int} (hi:aK S.nodes no=true) (ho:ar S.ag no=no) (hr:aB S.ag (ac S.nodes no).dev≠no) (hne:(ac S.nodes no).kind=1->(ac S.nodes no).af=[]) (u_:k=0\/(k=no/\(ac S.nodes no).kind=1)):dC c (mQ S now (ac S.nodes no)):=by
 obtain ⟨_,aU,hm⟩:=aj hi;have hb:=h.bits _ hm;unfold mQ;split
 ·have hkb:ol S no=true:=by unfold ol;rw[hi];simpa using hr
  have e:kG (aJ S (jy now (ac S.nodes no))) (ac S.nodes no).no=kG S no:=by
   have:=JE h.aC (n:=jy now (ac S.nodes no)) (by show ol S (ac S.nodes no).no=true;rw[aU];exact hkb) (by show aK S.nodes (ac S.nodes no).no=true;rw[aU];exact hi) (by show _=(ac S.nodes (ac S.nodes no).no).dev;rw[aU];rfl) (by show _=(ac S.nodes (ac S.nodes no).no).kind;rw[aU];rfl) (by show _=(ac S.nodes (ac S.nodes no).no).data;rw[aU];rfl);have e2:(jy now (ac S.nodes no)).no=no:=aU;rw [e2]at this;rw [aU];exact this
  rw [e];refine Ji h hkb ho ?_ hne
  ·rcases u_ with e|e
   ·exact .inr (.inr e)
   ·exact .inr (.inl e.1)
 ·rename_i hl
  have Rb:(ac S.nodes no).kind≠1:=fun hk=>by
   have:=h.lS _ hm hk;rw [this]at hl;omega
  have Ep:k=0:=by
   rcases u_ with e|e
   ·exact e
   ·exact absurd e.2 Rb
  subst Ep;have e1:∀{P:ai->Prop},P (ac S.nodes no)->P (ac S.nodes (jy now (ac S.nodes no)).no):=fun hp=>by
   have:(jy now (ac S.nodes no)).no=no:=aU;rw [this];exact hp
  refine pG h (.inl rfl) (by show aK S.nodes (ac S.nodes no).no=true;rw[aU];exact hi) (Nat.le_refl _) (e1 (P:=fun m=>(jy now (ac S.nodes no)).kind=m.kind) rfl) (e1 (P:=fun m=>(jy now (ac S.nodes no)).dev=m.dev) rfl) (e1 (P:=fun m=>(jy now (ac S.nodes no)).up=m.up) rfl) (fun jI=>absurd jI Rb) (h.mq (ac S.nodes no) hm) (h.names (ac S.nodes no) hm) (h.pos (ac S.nodes no) hm) (h.small (ac S.nodes no) hm) (h.on (ac S.nodes no) hm).2
   ⟨hb.1,hb.2.1,by show 1<=(ac S.nodes no).ah-1;omega,by show (ac S.nodes no).ah-1<=1000;omega⟩ (fun x hx=>h.xR (ac S.nodes no) hm x hx) (fun q hq tr _ wG sY=>?_)
  rcases h.Q_ q hq tr (by have:=(h.aC.2 q hq).1;omega) with⟨_,u2⟩|⟨_,_,m,cF,u3,u4,_⟩
  ·exact absurd (u2.symm.trans wG) sY
  ·have:m=ac S.nodes no:=gw h.aC cF hm (by rw[u3,wG];rfl)
   subst this;exact absurd u4 Rb
theorem FY {l:List aw} {nm:List UInt8} (hr:iH l) {x:aw} (hx:x∈l) (he:x.1=nm):bk l nm=x.2:=by
 unfold bk
 cases hf:l.find? (fun x=>x.1 == nm) with
 | none=>have:=List.find?_eq_none.1 hf x hx;simp at this;exact absurd he this
 | some y =>
  have h2:=List.find?_some (p:=fun x:aw=>x.1 == nm) hf;have nu:y.1=nm:=by simpa using h2
  have hy:=List.mem_of_find?_eq_some hf;have : y=x:=by
   obtain ⟨i,hi,rfl⟩:=List.getElem_of_mem hy;obtain ⟨j,hj,rfl⟩:=List.getElem_of_mem hx;rcases Nat.lt_trichotomy i j with g|g|g
   ·have:=vW (List.pairwise_iff_getElem.1 hr i j hi hj g)
    rw [nu,he]at this;exact absurd rfl this
   ·subst g;rfl
   ·have:=vW (List.pairwise_iff_getElem.1 hr j i hj hi g)
    rw [nu,he]at this;exact absurd rfl this
  subst this;rfl
theorem z_ {l:List aw} {nm:List UInt8} (h:bk l nm≠0):∃x∈l,x.1=nm/\x.2=bk l nm:=by
 unfold bk at h|-
 cases hf:l.find? (fun x=>x.1 == nm) with
 | none=>rw[hf]at h;exact absurd rfl h
 | some y =>
  have h2:=List.find?_some (p:=fun x:aw=>x.1 == nm) hf;exact ⟨y,List.mem_of_find?_eq_some hf,by simpa using h2,rfl⟩
theorem kn {l:List aw} {nm:List UInt8} {x:aw} (h:x∈ij l nm):x∈l/\x.1≠nm:=by
 unfold ij at h;rw [List.mem_filter]at h;exact ⟨h.1,by simpa using h.2⟩
theorem tL {c:Nat} {S:aa} (h:dC c S) {dir now:Int} {nm:List UInt8} (hi:aK S.nodes dir=true) (qD:(ac S.nodes dir).kind=1) {k':Int} (hk':∀q∈S.nodes,q.kind=1->q.no≠k'->q.no≠bk (ac S.nodes dir).af nm):mM c k' (cI S dir now (ij (ac S.nodes dir).af nm)):=by
 obtain ⟨_,aU,hmem⟩:=aj hi;refine wI h (.inl rfl) hi qD (Nat.le_refl _) (h.mq _ hmem |>.sublist List.filter_sublist) (fun x hx=>h.names _ hmem x (kn hx).1) (fun x hx=>h.pos _ hmem x (kn hx).1) ?_ (fun x hx=>h.xR _ hmem x (kn hx).1) (fun q hq tr zP wG sY=>?_)
 ·have h1:(ij (ac S.nodes dir).af nm).length<=(ac S.nodes dir).af.length:=List.length_filter_le ..
  have:=h.small _ hmem;omega
 ·rcases h.vv q hq tr with⟨_,u2⟩|⟨_,_,m,hm,u3,_,_,x,hx,u6⟩
  ·exact absurd (u2.symm.trans wG) sY
  ·have:m=ac S.nodes dir:=gw h.aC hm hmem (by rw[u3,wG,aU])
   subst this;refine ⟨x,?_,u6⟩;unfold ij;rw [List.mem_filter];refine ⟨hx,?_⟩;have:x.1≠nm:=fun e=>by
    have:=FY (h.mq _ hmem) hx e;exact hk' q hq tr zP (by rw[this,u6])
   simpa using this
theorem JF {c:Nat} {k:Int} {S:aa} (h:mM c k S) {no y dev:Int} (hK:TH S no dev y) (d:Int) (hd:fN S.ag d=true):aB S.ag d≠y:=by
 rcases dQ h.roots d with⟨_,e2⟩|⟨j,hj,_,_,_,e4,_⟩
 ·rw[e2]at hd;cases hd
 ·rw [e4]
  exact fun e=>hK.2.1 _ (List.getElem_mem hj) e.symm
theorem Aa {c:Nat} {S:aa} (h:dC c S) {cu cg now dir:Int} {nm:List UInt8} (hl:jK S cu cg dir nm=0) (hne:(h_ S cu cg dir nm).kind=1->(h_ S cu cg dir nm).af=[]):dC c (mg S now (lY S cu cg dir nm) (h_ S cu cg dir nm) nm):=by
 obtain ⟨z1,z2,z3,z4,z5⟩:=f_ hl;obtain ⟨hi,qD,_⟩:=aE z1;obtain ⟨_,aU,hmem⟩:=aj hi;rw [z5]at hne;obtain⟨no,hn⟩:=aq (bk (ac S.nodes dir).af nm);rw [<-hn]at z2 z3 z5 hne;have hpos:=(h.aC.2 _ (aj z2).2.2).1;rw [(aj z2).2.1]at hpos;obtain ⟨x,hx,hx1,hx2⟩:=z_ (l:=(ac S.nodes dir).af) (nm:=nm) (by rw[<-hn];omega);have hK:=h.xR _ hmem x hx;rw [hx2,<-hn,aU]at hK;have hnd:no≠dir:=hK.1;unfold mg;rw [z4,z5,aU];have NM:ac (cI S dir now (ij (ac S.nodes dir).af nm)).nodes no=ac S.nodes no:=wL (by show no≠(ac S.nodes dir).no;rw[aU];exact hnd);have oF:aK (cI S dir now (ij (ac S.nodes dir).af nm)).nodes no=true:=by
  show aK (cA S.nodes _) no=true;rw[gW];exact z2
 have hrt:=JF h hK (ac S.nodes no).dev (h.on _ (aj z2).2.2).1;rw [<-NM]at hrt hne|-
 by_cases hk:(ac S.nodes no).kind=1
 ·have hT:=tL h (now:=now) (nm:=nm) hi qD (k':=no) (fun q _ _ hq=>by rw[<-hn];exact hq)
  exact zZ hT oF z3 hrt hne (.inr ⟨rfl,by rw[NM];exact hk⟩)
 ·have hT:=tL h (now:=now) (nm:=nm) hi qD (k':=0) (fun q hq tr _ e=>by
   rw [<-hn]at e;have:=(dy h.aC hq).1;rw [e]at this;rw [this]at hk;exact hk tr)
  exact zZ hT oF z3 hrt hne (.inl rfl)
theorem CL {c:Nat} {S:aa} (h:dC c S) (cu cg now dir:Int) (nm:List UInt8):dC c (iU S cu cg now dir nm):=by
 unfold iU;split
 ·rename_i h0
  unfold nt at h0;split at h0
  ·rename_i h1;exact absurd h0 h1
  ·rename_i h1
   split at h0
   ·cases h0
   ·rename_i h2
    exact Aa h (Decidable.not_not.1 h1) (fun hk=>absurd hk h2)
 ·exact h
theorem FZ {c:Nat} {S:aa} (h:dC c S) (cu cg now dir:Int) (nm:List UInt8):dC c (kI S cu cg now dir nm):=by
 unfold kI;split
 ·rename_i h0
  unfold qH at h0;split at h0
  ·rename_i h1;exact absurd h0 h1
  ·rename_i h1
   split at h0
   ·cases h0
   ·split at h0
    ·cases h0
    ·rename_i h3
     refine Aa h (Decidable.not_not.1 h1) (fun _=>?_);exact List.eq_nil_of_length_eq_zero (by omega)
 ·exact h
theorem F9 (S:aa) (now no:Int):(zY S now no).last=S.last/\∀i,aB (zY S now no).ag i=aB S.ag i:=by
 unfold zY;split
 ·unfold mQ
  split
  ·unfold kG
   split
   ·exact⟨rfl,fun i=>by show aB (iI _ _ _) i=_;rw[Ei];rfl⟩
   ·exact⟨rfl,fun _=>rfl⟩
  ·exact⟨rfl,fun _=>rfl⟩
 ·exact⟨rfl,fun _=>rfl⟩
theorem JG (l:List aw) (x:aw):x∈dq l x:=by
 unfold dq;exact List.mem_append_left _ (List.mem_append_right _ (List.mem_singleton.2 rfl))
open Go.ChangeShapes Go.WideShapes Go.ChangeAt Go.RowKit
theorem Ab (nm:List UInt8) (w:World) (h:nm.length<=1000000):Calls Tryz.prog 147 #[bs nm] w (aH w (.int .i64 (bX nm))):=by
 have:=Ch (bs nm) (by rw[aR];exact h) w;rw [kP]at this;exact this
theorem tM (B:Nat) (g:cE) (S:aa) (X:cQ) (cu cg dir:Int) (nm:List UInt8) (w:World) (h:gU w B g S X) (hl:S.nodes.length<=1000000) (hu:aD S.nodes S.last) (gP:nm.length<=1000000) :
  Calls Tryz.prog 119 #[.pointer (some ⟨g.bF,0,none⟩),.agg #[cu,cg],.int .i64 dir,bs nm] w (xV w B S cu cg dir nm):=by
 have h0:=h;have E0:Ext w ((w.alloc (.cells #[cu,cg] 27)).alloc (.cells #[.int .i64 0,.int .i64 0,.int .i64 0,.int .i64 0,.int .i64 0,.int .i64 0,.int .i64 0,.int .i64 0,.int .i64 0,.int .i64 0,.string ⟨#[]⟩,.slice none 0 0] 58)):=((Ext.refl _).alloc _).alloc _;go_enter Tryz.func119,Tryz.ntmps119;go_wp2_with fail;have b1:=Ext.refl ((w.alloc (.cells #[cu,cg] 27)).alloc (.cells #[.int .i64 0,.int .i64 0,.int .i64 0,.int .i64 0,.int .i64 0,.int .i64 0,.int .i64 0,.int .i64 0,.int .i64 0,.int .i64 0,.string ⟨#[]⟩,.slice none 0 0] 58));have E1:=E0;have R0:=Has.new (w.alloc (.cells #[cu,cg] 27)) (.cells #[ae.no,ae.dev,ae.kind,ae.mode,ae.uid,ae.gid,ae.mtime,ae.ctime,ae.ah,ae.up,bs ae.data,.slice none ae.af.length 0] 58);rw [World.size_alloc]at R0;have R1:=R0.ext b1;have C1:=((Has.new w (.cells #[cu,cg] 27)).alloc (.cells #[.int .i64 0,.int .i64 0,.int .i64 0,.int .i64 0,.int .i64 0,.int .i64 0,.int .i64 0,.int .i64 0,.int .i64 0,.int .i64 0,.string ⟨#[]⟩,.slice none 0 0] 58)).ext b1;refine (fc B g S X dir _ (h.ext E1) hl hu).mono ?_;rintro e w2 ⟨A2,k2,rfl,ir,b2⟩;have R2:=R1.ext b2;have C2:=C1.ext b2;have hm:Hid (aV S cu cg dir nm=if aK S.nodes dir=false then 5 else if ¬(ac S.nodes dir).kind=1 then 9 else if ¬bX nm=0 then bX nm
  else if fy cu cg (ac S.nodes dir).uid (ac S.nodes dir).gid (ac S.nodes dir).mode 3=false then 6 else 0):=by show _=_;rfl
 have cF:Hid (cU S cu cg dir nm=if aV S cu cg dir nm=0 then ac S.nodes dir else ae):=by show _=_;rfl
 have hnz:Hid (((ac S.nodes dir).no == 0)=!aK S.nodes dir):=by
  refine zH ?_
  cases hi:aK S.nodes dir
  ·rw[(aZ hi).1];rfl
  ·have h1:=(hu.2 _ (aj hi).2.2).1
   simp;omega
 obtain⟨m,hmm⟩:=aq (ac S.nodes dir);rw [<-hmm]at ir hm cF hnz|-;obtain⟨W3,dg⟩:=aq (w2.alloc (.cells #[m.no,m.dev,m.kind,m.mode,m.uid,m.gid,m.mtime,m.ctime,m.ah,m.up,bs m.data,.slice A2 m.af.length k2] 58));have km:Ext w2 W3:=by rw[dg];exact (Ext.refl _).alloc _
 have N3:Has W3 w2.heap.size (.cells #[m.no,m.dev,m.kind,m.mode,m.uid,m.gid,m.mtime,m.ctime,m.ah,m.up,bs m.data,.slice A2 m.af.length k2] 58):=by rw[dg];exact Has.new _ _
 have R3:=R2.ext km;have C3:=C2.ext km;have E3:Ext w W3:=(E1.trans b2).trans km;obtain⟨b8,fP⟩:=aq w2.heap.size;obtain⟨i,hi⟩:=aq (aK S.nodes dir);rw [<-hi]at hm hnz;clear hmm hi R1 C1 R2 C2;go_upto_region 2 with fail;rw [<-dg];rw [<-fP]at N3|-;have pg:=ir.ext km;clear dg fP km;have HS:Hid (∀(w5 w6:World) (x:Int),Ext w w5->Only [w.heap.size+1] w5 w6->aV S cu cg dir nm=x->x≠0->xV w B S cu cg dir nm (.returned (.tuple #[.agg #[ae.no,ae.dev,ae.kind,ae.mode,ae.uid,ae.gid,ae.mtime,ae.ctime,ae.ah,ae.up,bs ae.data,.slice none ae.af.length 0],.int .i64 x])) w6):=by
  show ∀(w5 w6:World) (x:Int),_;intro w5 w6 x hE hO hx hx0;have hN:cU S cu cg dir nm=ae:=by rw[cF.out,if_neg (by rw[hx];exact hx0)]
  exact ⟨none,0,by rw[hx,hN],by rw[hN];exact ax.zero _ _,hO.after hE (by simp)⟩
 have k0':W3.cell? ⟨b8,0,none⟩=some (.int .i64 m.no):=N3.cell 0;have NQ:W3.cell? ⟨b8,2,none⟩=some (.int .i64 m.kind):=N3.cell 2;have kz:=N3.lt
 cases i
 ·have hE:Hid (aV S cu cg dir nm=5):=by show _=_;rw[hm.out];rfl
  have tn:(m.no == 0)=true:=hnz.out;clear hm;go_wp2_with (refine ay rfl _ _ rfl (w.heap.size+1) ae none 0 rfl rfl R3 ?_;intro w9 R9 O9);refine bodyPost_ret (v:=.tuple #[.agg #[ae.no,ae.dev,ae.kind,ae.mode,ae.uid,ae.gid,ae.mtime,ae.ctime,ae.ah,ae.up,bs ae.data,.slice none ae.af.length 0],.int .i64 5]) (dm Tryz.results119 _ _ (w.heap.size+1) ae none 0 _ rfl rfl R9) rfl ?_;exact HS.out _ _ _ E3 O9 hE.out (by decide)
 have tn:(m.no == 0)=false:=hnz.out
 by_cases c1:m.kind=1
 case neg =>
  have t1:(m.kind == 1)=false:=by simpa using c1
  have vr:(m.kind != 1)=true:=by simpa using c1
  have hE:Hid (aV S cu cg dir nm=9):=by show _=_;rw[hm.out,if_neg (by decide),if_pos c1]
  clear hm c1;go_wp2_with (refine ay rfl _ _ rfl (w.heap.size+1) ae none 0 rfl rfl R3 ?_;intro w9 R9 O9);refine bodyPost_ret (v:=.tuple #[.agg #[ae.no,ae.dev,ae.kind,ae.mode,ae.uid,ae.gid,ae.mtime,ae.ctime,ae.ah,ae.up,bs ae.data,.slice none ae.af.length 0],.int .i64 9]) (dm Tryz.results119 _ _ (w.heap.size+1) ae none 0 _ rfl rfl R9) rfl ?_;exact HS.out _ _ _ E3 O9 hE.out (by decide)
 have t1:(m.kind == 1)=true:=by simpa using c1
 have vr:(m.kind != 1)=false:=by simpa using c1
 have Vb:Hid (aV S cu cg dir nm=if ¬bX nm=0 then bX nm else if fy cu cg m.uid m.gid m.mode 3=false then 6 else 0):=by show _=_;rw[hm.out,if_neg (by decide),if_neg (by simpa using c1)]
 clear hm c1;go_wp2_with fail;refine (Ab nm _ gP).mono ?_;rintro e w4 ⟨rfl,b4⟩;have R4:=R3.ext b4;have N4:=N3.ext b4;have C4:=C3.ext b4;have E4:=E3.trans b4;have rY:=pg.ext b4;obtain⟨v,hv⟩:=aq (bX nm);rw [<-hv]at Vb|-;clear hv k0' NQ kz R3 N3 C3
 by_cases qF:v=0
 case neg =>
  have tv:(v == 0)=false:=by simpa using qF
  have tvb:(v != 0)=true:=by simpa using qF
  have hE:Hid (aV S cu cg dir nm=v):=by show _=_;rw[Vb.out,if_pos qF]
  have JH:=zH qF;clear Vb qF;go_wp2_with (refine ay rfl _ _ rfl (w.heap.size+1) ae none 0 rfl rfl R4 ?_;intro w9 R9 O9);refine bodyPost_ret (v:=.tuple #[.agg #[ae.no,ae.dev,ae.kind,ae.mode,ae.uid,ae.gid,ae.mtime,ae.ctime,ae.ah,ae.up,bs ae.data,.slice none ae.af.length 0],.int .i64 v]) (dm Tryz.results119 _ _ (w.heap.size+1) ae none 0 _ rfl rfl R9) rfl ?_;exact HS.out _ _ _ E4 O9 hE.out JH.out
 have tv:(v == 0)=true:=by simpa using qF
 have tvb:(v != 0)=false:=by simpa using qF
 obtain⟨u,zx⟩:=aq (fy cu cg m.uid m.gid m.mode 3);have mC:Hid (aV S cu cg dir nm=if u=false then 6 else 0):=by show _=_;rw[Vb.out,if_neg (by simpa using qF),zx]
 have HU:=zH zx;have x0:w4.cell? ⟨w.heap.size,0,none⟩=some (.int .i64 cu):=C4.cell 0;have x1:w4.cell? ⟨w.heap.size,1,none⟩=some (.int .i64 cg):=C4.cell 1;have xz:=C4.lt;clear Vb zx qF;go_wp2_with (refine aO rfl _ rfl b8 m A2 k2 rfl N4 ?_);refine (wF cu cg _ _ _ m.mode m.uid m.gid _ _ _ _ _ _ 3 _).mono ?_;rw [<-HU.out];rintro e w5 ⟨rfl,b5⟩;have R5:=R4.ext b5;have N5:=N4.ext b5;have E5:=E4.trans b5;clear x0 x1 xz R4 N4
 cases u
 ·have hE:Hid (aV S cu cg dir nm=6):=by show _=_;rw[mC.out];rfl
  clear mC;go_wp2_with (refine ay rfl _ _ rfl (w.heap.size+1) ae none 0 rfl rfl R5 ?_;intro w9 R9 O9);refine bodyPost_ret (v:=.tuple #[.agg #[ae.no,ae.dev,ae.kind,ae.mode,ae.uid,ae.gid,ae.mtime,ae.ctime,ae.ah,ae.up,bs ae.data,.slice none ae.af.length 0],.int .i64 6]) (dm Tryz.results119 _ _ (w.heap.size+1) ae none 0 _ rfl rfl R9) rfl ?_;exact HS.out _ _ _ E5 O9 hE.out (by decide)
 ·have hE:Hid (aV S cu cg dir nm=0):=by show _=_;rw[mC.out];rfl
  have hN:Hid (cU S cu cg dir nm=m):=by show _=_;rw[cF.out,hE.out];rfl
  clear mC;go_wp2_with (first|(refine aO rfl _ rfl b8 m A2 k2 rfl N5 ?_)|(refine ay rfl _ _ rfl (w.heap.size+1) m A2 k2 rfl rfl R5 ?_;intro w6 R6 O6));refine bodyPost_ret (v:=.tuple #[.agg #[m.no,m.dev,m.kind,m.mode,m.uid,m.gid,m.mtime,m.ctime,m.ah,m.up,bs m.data,.slice A2 m.af.length k2],.int .i64 0]) (dm Tryz.results119 _ _ (w.heap.size+1) m A2 k2 _ rfl rfl R6) rfl ?_;have rZ:ax w6 B m A2 k2:=((rY.ext b5).only O6 (by
   intro b hb;rw [List.mem_singleton]at hb;subst hb;exact ⟨by have:=h0.1;have:=h0.lt.1;omega,R5.fT (by decide)⟩))
  exact ⟨A2,k2,by rw[hE.out,hN.out],by rw[hN.out];exact rZ,O6.after E5 (by simp)⟩
def CM (w:World) (B:Nat) (g:cE) (T:aa) (X:cQ) (a x:Int) (e:Ending) (w':World):Prop:=e=.returned (.tuple #[.int .i64 a,.int .i64 x])/\∃g2,gU w' B g2 T X/\Only g.list w w'/\cE.on g2 g w
theorem JI {w w':World} {B:Nat} {g:cE} {S:aa} {X:cQ} {cu cg dir x:Int} {nm:List UInt8} {n:ai} (h:gU w B g S X) (hE:Ext w w') (hx:bC S cu cg X.now dir nm n=x) (h0:x≠0):CM w B g (aW S cu cg X.now dir nm n) X (cZ S cu cg X.now dir nm n) (bC S cu cg X.now dir nm n) (.returned (.tuple #[.int .i64 0,.int .i64 x])) w':=by
 refine ⟨?_,g,?_,Only.av hE,cE.fx _ _⟩
 ·unfold cZ;rw[hx,if_neg h0]
 ·unfold aW;rw[hx,if_neg h0];exact h.ext hE
theorem qI (B:Nat) (g:cE) (S:aa) (X:cQ) (cu cg dir:Int) (nm:List UInt8) (n:ai) (A:Option Addr) (c:Nat) (w:World) (h:gU w B g S X) (O:Ok S) (i_:S.last<=100000) (hn:ax w B n A c) (kM:n.data.length<=1000000000) (gP:nm.length<=1000000) :
  Calls Tryz.prog 118 #[.pointer (some ⟨g.bF,0,none⟩),.agg #[cu,cg],.int .i64 dir,bs nm,.agg #[n.no,n.dev,n.kind,n.mode,n.uid,n.gid,n.mtime,n.ctime,n.ah,n.up,bs n.data,.slice A n.af.length c]] w (CM w B g (aW S cu cg X.now dir nm n) X (cZ S cu cg X.now dir nm n) (bC S cu cg X.now dir nm n)):=by
 obtain⟨W0,aY⟩:=aq ((w.alloc (.cells #[cu,cg] 27)).alloc (.cells #[n.no,n.dev,n.kind,n.mode,n.uid,n.gid,n.mtime,n.ctime,n.ah,n.up,bs n.data,.slice A n.af.length c] 58));have E0:Ext w W0:=by rw[aY];exact ((Ext.refl _).alloc _).alloc _
 obtain ⟨b7,vB⟩:∃b,b=w.heap.size:=⟨_,rfl⟩;have C0:Has W0 b7 (.cells #[cu,cg] 27):=by rw[aY,vB];exact (Has.new w _).alloc _
 have N0:Has W0 (b7+1) (.cells #[n.no,n.dev,n.kind,n.mode,n.uid,n.gid,n.mtime,n.ctime,n.ah,n.up,bs n.data,.slice A n.af.length c] 58):=by
  rw [aY,vB];have:=Has.new (w.alloc (.cells #[cu,cg] 27)) (.cells #[n.no,n.dev,n.kind,n.mode,n.uid,n.gid,n.mtime,n.ctime,n.ah,n.up,bs n.data,.slice A n.af.length c] 58)
  rwa [World.size_alloc]at this
 have ZZ:w.heap.size+2<=W0.heap.size:=by rw[aY];simp
 have HO:=zH O;have aab:=O.live.count;have hcl:S.nodes.length<=100000:=by omega
 have PZ:=zH hcl;have hm:Hid (bC S cu cg X.now dir nm n=if ¬aV S cu cg dir nm=0 then aV S cu cg dir nm else if ¬bk (ac S.nodes dir).af nm=0 then 7 else ey S (bi S cu cg X.now dir n)):=by show _=_;rfl
 have hp:Hid (aV S cu cg dir nm=0->cU S cu cg dir nm=ac S.nodes dir/\aK S.nodes dir=true):=fun h0=>⟨kS h0,(aE h0).1⟩
 obtain⟨now,Ac⟩:=aq X.now;have HS:Hid (∀(w':World) (x:Int),Ext w w'->bC S cu cg now dir nm n=x->x≠0->CM w B g (aW S cu cg now dir nm n) X (cZ S cu cg now dir nm n) (bC S cu cg now dir nm n) (.returned (.tuple #[.int .i64 0,.int .i64 x])) w'):=by
  show ∀(w':World) (x:Int),_;rw [Ac];exact fun w' x hE hx h0=>JI h hE hx h0
 rw [<-Ac]at hm|-;have Vc:=zH Ac;have ja:=zH E0;clear O aab hcl Ac;go_enter Tryz.func118,Tryz.ntmps118;go_upto_region 1 with fail;rw [<-aY];rw [<-vB];have Z0:b7<=w.heap.size:=by omega
 have Z1:w.heap.size<=b7:=by omega
 clear aY vB;have x0:W0.cell? ⟨b7,0,none⟩=some (.int .i64 cu):=C0.cell 0;have x1:W0.cell? ⟨b7,1,none⟩=some (.int .i64 cg):=C0.cell 1;have xz:=C0.lt;go_wp2_with fail;refine (tM B g S X cu cg dir nm _ (h.ext E0) (by have:=PZ.out;omega) HO.out.live.aC gP).mono ?_;rintro e w2 ⟨A2,k2,rfl,ir,b2⟩;obtain⟨m,hmm⟩:=aq (cU S cu cg dir nm);obtain⟨x,hx⟩:=aq (aV S cu cg dir nm);rw [<-hmm]at ir hp;rw [<-hx]at hm hp;rw [<-hmm,<-hx];obtain⟨W3,dg⟩:=aq (w2.alloc (.cells #[m.no,m.dev,m.kind,m.mode,m.uid,m.gid,m.mtime,m.ctime,m.ah,m.up,bs m.data,.slice A2 m.af.length k2] 58));obtain ⟨CB,xX⟩:∃b,b=w2.heap.size:=⟨_,rfl⟩;have km:Ext w2 W3:=by rw[dg];exact (Ext.refl _).alloc _
 have M3:Has W3 CB (.cells #[m.no,m.dev,m.kind,m.mode,m.uid,m.gid,m.mtime,m.ctime,m.ah,m.up,bs m.data,.slice A2 m.af.length k2] 58):=by rw[dg,xX];exact Has.new _ _
 have nN:Ext W0 W3:=b2.trans km;have C3:=C0.ext nN;have N3:=N0.ext nN;have pg:=ir.ext km;have UV:W0.heap.size<=CB:=by rw[xX];exact b2.size
 clear x0 x1 xz hmm hx C0 N0;go_upto_region 2 with fail;rw [<-dg];rw [<-xX];clear dg xX
 by_cases hx0:x=0
 case neg =>
  have t0:(x == 0)=false:=by simpa using hx0
  have oN:(x != 0)=true:=by simpa using hx0
  have hE:Hid (bC S cu cg now dir nm n=x):=by show _=_;rw[hm.out,if_pos hx0]
  have HX:=zH hx0;clear hm hx0;go_wp2_with fail;go_ret2;exact HS.out _ _ (ja.out.trans nN) hE.out HX.out
 have t0:(x == 0)=true:=by simpa using hx0
 have oN:(x != 0)=false:=by simpa using hx0
 obtain ⟨oc,hid⟩:=hp.out hx0;have cF:Hid (bC S cu cg now dir nm n=if ¬bk m.af nm=0 then 7 else ey S (bi S cu cg now dir n)):=by show _=_;rw[hm.out,if_neg (by simpa using hx0),<-oc]
 have Cq:=zH oc;have HID:=zH hid;have hen:=HO.out.bH dir;rw [<-oc]at hen;have xY:=zH hen;have CC:W3.cell? ⟨CB,11,none⟩=some (.slice A2 m.af.length k2):=M3.cell 11;have kz:=M3.lt;clear hm hp hx0 oc hid hen;go_wp2_with fail;refine (qs A2 m.af k2 nm _ pg.af.af (by have:=xY.out.2;omega)).mono ?_;rintro e w4 ⟨rfl,b4⟩;obtain⟨v,hv⟩:=aq (bk m.af nm);rw [<-hv]at cF;rw [<-hv];have C4:=C3.ext b4;have N4:=N3.ext b4;have M4:=M3.ext b4;have rY:=pg.ext b4;have E4:=nN.trans b4;clear hv CC kz C3 N3 M3 pg nN b4
 by_cases qF:v=0
 case neg =>
  have t1:(v == 0)=false:=by simpa using qF
  have vr:(v != 0)=true:=by simpa using qF
  have hE:Hid (bC S cu cg now dir nm n=7):=by show _=_;rw[cF.out,if_pos qF]
  clear cF qF;go_wp2_with fail;go_ret2;exact HS.out _ _ (ja.out.trans E4) hE.out (by decide)
 have t1:(v == 0)=true:=by simpa using qF
 have vr:(v != 0)=false:=by simpa using qF
 have mC:Hid (bC S cu cg now dir nm n=ey S (bi S cu cg now dir n)):=by show _=_;rw[cF.out,if_neg (by simpa using qF)]
 clear cF qF;go_upto_region 6 with fail;obtain ⟨fR,vC⟩:∃b,b=b7+1:=⟨_,rfl⟩;rw [<-vC]at N4|-;have UW:fR<=b7+1:=by omega
 have UX:b7+1<=fR:=by omega
 clear vC;have UY:=h.lt;have s0:=E0.size;have FP:CB≠fR:=by have:=b2.size;omega
 have oG:b7≠fR:=by omega
 have ab0:g.bF≠fR:=by omega
 have UU:(fR=g.bF)=False:=eq_false (by omega);have Jt:(g.bF=fR)=False:=eq_false (by omega);have n1:(fR=CB)=False:=eq_false (Ne.symm FP);have n2:(CB=fR)=False:=eq_false FP;have n3:(fR=b7)=False:=eq_false (Ne.symm oG);have n4:(b7=fR)=False:=eq_false oG;have Jw:Ext w w4:=ja.out.trans E4;have u1:w4.cell? ⟨CB,1,none⟩=some (.int .i64 m.dev):=M4.cell 1;have u2:w4.cell? ⟨b7,0,none⟩=some (.int .i64 cu):=C4.cell 0;have u3:w4.cell? ⟨b7,1,none⟩=some (.int .i64 cg):=C4.cell 1;have u4:w4.cell? ⟨g.bF,3,none⟩=some (.int .i64 now):=by rw[Vc.out];obtain⟨_,_,_,k,_⟩:=h.ext Jw;exact k.cell 3
 have f1:w4.cell? ⟨fR,1,none⟩=some (.int .i64 n.dev):=N4.cell 1;have f4:w4.cell? ⟨fR,4,none⟩=some (.int .i64 n.uid):=N4.cell 4;have f5:w4.cell? ⟨fR,5,none⟩=some (.int .i64 n.gid):=N4.cell 5;have f6:w4.cell? ⟨fR,6,none⟩=some (.int .i64 n.mtime):=N4.cell 6;have f7:w4.cell? ⟨fR,7,none⟩=some (.int .i64 n.ctime):=N4.cell 7;have f8:w4.cell? ⟨fR,8,none⟩=some (.int .i64 n.ah):=N4.cell 8;have yf:∀i,w4.frozen? ⟨fR,i,none⟩=false:=fun i=>(N4.free i).trans (by simp)
 have z1:=M4.lt;have z2:=C4.lt;have z3:=N4.lt;have z4:=(h.ext Jw).lt.1;go_upto_region 12 with fail;obtain⟨V,hV⟩:=aq ((((((w4.setCell ⟨fR,1,none⟩ (.int .i64 m.dev)).setCell ⟨fR,4,none⟩ (.int .i64 cu)).setCell ⟨fR,5,none⟩ (.int .i64 cg)).setCell ⟨fR,6,none⟩ (.int .i64 now)).setCell ⟨fR,7,none⟩ (.int .i64 now)).setCell ⟨fR,8,none⟩ (.int .i64 1));rw [<-hV];have N5:Has V fR (.cells #[.int .i64 ((bi S cu cg now dir n)).no,.int .i64 ((bi S cu cg now dir n)).dev,.int .i64 ((bi S cu cg now dir n)).kind,.int .i64 ((bi S cu cg now dir n)).mode,.int .i64 ((bi S cu cg now dir n)).uid,.int .i64 ((bi S cu cg now dir n)).gid,.int .i64 ((bi S cu cg now dir n)).mtime,.int .i64 ((bi S cu cg now dir n)).ctime,.int .i64 ((bi S cu cg now dir n)).ah,.int .i64 ((bi S cu cg now dir n)).up,.string (bs ((bi S cu cg now dir n)).data),.slice A ((bi S cu cg now dir n)).af.length c] 58):=by
  rw [hV];have:=(((((N4.setCell 1 (.int .i64 m.dev)).setCell 4 (.int .i64 cu)).setCell 5 (.int .i64 cg)).setCell 6 (.int .i64 now)).setCell 7 (.int .i64 now)).setCell 8 (.int .i64 1);rw [Cq.out]at this|-;exact this
 have O5:Only [fR] w4 V:=by
  rw [hV];exact (((((Only.setCell _ _ _ _).then (Only.setCell _ _ _ _)).then (Only.setCell _ _ _ _)).then (Only.setCell _ _ _ _)).then (Only.setCell _ _ _ _)).then (Only.setCell _ _ _ _)
 clear hV u1 u2 u3 u4 f1 f4 f5 f6 f7 f8 yf z1 z2 z3 z4 UU Jt n1 n2 n3 n4;obtain⟨n',hn'⟩:=aq (bi S cu cg now dir n);rw [<-hn']at N5 mC;have UZ:n'.data=n.data:=by rw[hn'];rfl
 have Ju:n'.af=n.af:=by rw[hn'];rfl
 have Jv:=zH hn';have Z2:=zH UZ;have Rh:cY w4 B [fR]:=by
  intro b hb;rw [List.mem_singleton]at hb;subst hb;exact ⟨by have:=h.1;omega,N4.fT (by decide)⟩
 have Nu:∀b∈g.list,b∉[fR]:=by
  intro b hb;simp only[cE.list,List.mem_cons,List.not_mem_nil,or_false]at hb;rw [List.mem_singleton];rcases hb with rfl|rfl|rfl<;>omega
 have F5:gU V B g S X:=(h.ext Jw).only O5 Rh Nu;have xZ:ax V B n' A c:=((hn.ext Jw).only O5 Rh).same Ju;have xN:=rY.only O5 Rh;have M5:=O5.has M4 (by simpa using FP);have Z4:Only g.list w V:=(Only.av Jw).trans O5 (by intro b hb;rw[List.mem_singleton]at hb;right;omega);have E5:Ext w V:=O5.after Jw (by intro b hb;rw[List.mem_singleton]at hb;omega);clear hn' UZ Ju;go_wp2_with (refine aO rfl _ rfl fR n' A c rfl N5 ?_);refine (Fs B g S X n' A c _ F5 PZ.out xZ HO.out.live.roots HO.out.live.eight HO.out.live.aC (by have:=HO.out.live.last;omega) (by omega) (by rw[Z2.out];exact kM)).mono ?_;rintro e w6 ⟨rfl,bN,F6,O6,Yg⟩;obtain⟨e6,Jy⟩:=aq (ey S n');have aU:ey S n'=0->mf S n'=S.last+1:=fun h0=>by unfold mf;rw[if_pos h0]
 obtain⟨no,ql⟩:=aq (mf S n');rw [<-Jy,<-ql]at aU;rw [<-Jy]at mC;rw [<-Jy,<-ql];have rR:=zH aU;have Mt:=zH Jy;have M6:=O6.has M5 (by simp only[cE.list,List.mem_cons,List.not_mem_nil,or_false];omega);have rZ:=xN.only O6 F5.apart;have U0:=Z4.then O6;have Vd:bN=g.bN\/w.heap.size<=bN:=by rcases Yg with h|h;exact .inl h;exact .inr (by have:=E5.size;omega)
 have UR:cE.on ⟨g.bF,bN,g.bE⟩ g w:=⟨rfl,by
  intro b hb;simp only[cE.list,List.mem_cons,List.not_mem_nil,or_false]at hb|-;rcases hb with rfl|rfl|rfl
  ·exact .inl (.inl rfl)
  ·rcases Vd with h|h
   ·exact .inl (.inr (.inl h))
   ·exact .inr h
  ·exact .inl (.inr (.inr rfl))⟩
 have Mw:=zH UR;clear aU ql Jy Yg Vd UR
 by_cases hz:e6=0
 case neg =>
  have t2:(e6 == 0)=false:=by simpa using hz
  have NR:(e6 != 0)=true:=by simpa using hz
  have HZ:=zH hz;clear hz;go_wp2_with fail;go_ret2;have e1:bC S cu cg now dir nm n=e6:=mC.out;have e2:cZ S cu cg now dir nm n=0:=by unfold cZ;rw[if_neg (by rw[e1];exact HZ.out)]
  have e3:aW S cu cg now dir nm n=S:=by unfold aW;rw[if_neg (by rw[e1];exact HZ.out)]
  have e4:aQ S n'=S:=by unfold aQ;rw[if_neg (by rw[<-Mt.out];exact HZ.out)]
  rw [e4]at F6;exact ⟨by rw[e1,e2];rfl,⟨g.bF,bN,g.bE⟩,by rw[e3];exact F6,U0,Mw.out⟩
 have t2:(e6 == 0)=true:=by simpa using hz
 have NR:(e6 != 0)=false:=by simpa using hz
 have HZ:=zH hz;have CC:w6.cell? ⟨CB,11,none⟩=some (.slice A2 m.af.length k2):=M6.cell 11;have kz:=M6.lt;clear hz;go_wp2_with fail;refine (zC A2 m.af k2 (nm,no) _ rZ.af.af (by have:=xY.out.2;omega)).mono ?_;rintro e w7 ⟨v7,rfl,hown,U1⟩;obtain ⟨A7,c7,rfl,q1,q2,q3,q4⟩:=hown.D2 (B:=B);obtain⟨T,hT⟩:=aq (aQ S n');rw [<-hT]at F6;have Ri:aD T.nodes T.last:=by rw[hT];exact pL HO.out.live _
 have Rp:T.nodes.length<=1000000:=by
  rw [hT];unfold aQ;have:=PZ.out;split
  ·simp;omega
  ·omega
 obtain ⟨L7,Mu⟩:∃L,L=dq m.af (nm,no):=⟨_,rfl⟩;rw [<-Mu]at q1 q3|-;have Rj:Hid (Calls Tryz.prog 120 #[.pointer (some ⟨g.bF,0,none⟩),.int .i64 dir,.slice A7 L7.length c7] w7 (CA w7 B ⟨g.bF,bN,g.bE⟩ (cI T dir X.now L7) X)):=tG B ⟨g.bF,bN,g.bE⟩ T X dir A7 L7 c7 w7 (F6.ext U1) Rp Ri q3 q1 q2 q4;have HT:=zH hT;have U2:=zH Mu;clear CC kz hown q1 q2 q3 q4 hT Mu;go_wp2_with fail;refine Rj.out.mono ?_;rintro e w8 ⟨rfl,K8,O8⟩;go_wp2_with fail;go_ret2;have e1:bC S cu cg now dir nm n=0:=by rw[mC.out];exact HZ.out
 have e2:cZ S cu cg now dir nm n=no:=by unfold cZ;rw[if_pos e1];exact (rR.out HZ.out).symm
 have e3:aW S cu cg now dir nm n=cI T dir X.now L7:=by
  unfold aW;rw [if_pos e1,HT.out,U2.out,<-Jv.out,Cq.out,rR.out HZ.out,Vc.out]
 refine ⟨by rw[e1,e2];rfl,⟨g.bF,bN,g.bE⟩,by rw[e3];exact K8,(U0.ext U1).trans O8 (fun b hb=>Mw.out.2 b hb),Mw.out⟩
theorem cE.NT {w w0:World} {g2 g:cE} (h:cE.on g2 g w0) (E:Ext w w0):cE.on g2 g w:=⟨h.1,fun b hb=>by rcases h.2 b hb with k|k;exact .inl k;exact .inr (by have:=E.size;omega)⟩
theorem yd {w w':World} {B:Nat} {g:cE} {S T:aa} {X:cQ} {p a x:Int} (h:gU w B g S X) (hE:Ext w w') (hp:p≠0):CM w B g (dR p S T) X (gZ p a) (fQ p x) (.returned (.tuple #[.int .i64 0,.int .i64 p])) w':=
 ⟨by unfold gZ fQ;rw[if_pos hp,if_pos hp],g,by unfold dR;rw[if_pos hp];exact h.ext hE,Only.av hE,cE.fx _ _⟩
theorem CN {w w0 w':World} {B:Nat} {g:cE} {S T:aa} {X:cQ} {p a x:Int} {e:Ending} (E:Ext w w0) (h:CM w0 B g T X a x e w') (h0:p=0):e=.returned (.tuple #[.int .i64 a,.int .i64 x])/\CM w B g (dR p S T) X (gZ p a) (fQ p x) e w':=by
 obtain ⟨he,g2,hK,hO,hn⟩:=h;have n0:¬(p≠0):=fun x=>x h0
 exact ⟨he,by unfold gZ fQ;rw[if_neg n0,if_neg n0];exact he,g2,by unfold dR;rw[if_neg n0];exact hK,Only.pre E hO,cE.NT hn E⟩
theorem JJ (B:Nat) (g:cE) (S:aa) (X:cQ) (cu cg dir:Int) (nm:List UInt8) (mode:Int) (w:World) (h:gU w B g S X) (O:Ok S) (i_:S.last<=100000) (gP:nm.length<=1000000) :
  Calls Tryz.prog 87 #[.pointer (some ⟨g.bF,0,none⟩),.agg #[cu,cg],.int .i64 dir,bs nm,.int .i64 mode] w
   (CM w B g (dR (lX mode) S (aW S cu cg X.now dir nm (dM mode dir))) X (gZ (lX mode) (cZ S cu cg X.now dir nm (dM mode dir))) (fQ (lX mode) (bC S cu cg X.now dir nm (dM mode dir)))):=by
 obtain⟨W0,aY⟩:=aq (w.alloc (.cells #[cu,cg] 27));have E0:Ext w W0:=by rw[aY];exact (Ext.refl _).alloc _
 have C0:Has W0 w.heap.size (.cells #[cu,cg] 27):=by rw[aY];exact Has.new w _
 have x0:W0.cell? ⟨w.heap.size,0,none⟩=some (.int .i64 cu):=C0.cell 0;have x1:W0.cell? ⟨w.heap.size,1,none⟩=some (.int .i64 cg):=C0.cell 1;have xz:=C0.lt;obtain⟨p,hp⟩:=aq (lX mode);obtain⟨T,hT⟩:=aq (aW S cu cg X.now dir nm (dM mode dir));obtain⟨a,ha⟩:=aq (cZ S cu cg X.now dir nm (dM mode dir));obtain⟨x,hx⟩:=aq (bC S cu cg X.now dir nm (dM mode dir));have HS:Hid (∀(w':World) (y:Int),Ext w w'->p=y->y≠0->CM w B g (dR p S T) X (gZ p a) (fQ p x) (.returned (.tuple #[.int .i64 0,.int .i64 y])) w'):=by
  show ∀(w':World) (y:Int),_;intro w' y hE hy h0;subst hy;exact yd h hE h0
 have KP:Hid (∀w1,Ext w w1->Calls Tryz.prog 118 #[.pointer (some ⟨g.bF,0,none⟩),.agg #[cu,cg],.int .i64 dir,bs nm,.agg #[.int .i64 ((dM mode dir)).no,.int .i64 ((dM mode dir)).dev,.int .i64 ((dM mode dir)).kind,.int .i64 ((dM mode dir)).mode,.int .i64 ((dM mode dir)).uid,.int .i64 ((dM mode dir)).gid,.int .i64 ((dM mode dir)).mtime,.int .i64 ((dM mode dir)).ctime,.int .i64 ((dM mode dir)).ah,.int .i64 ((dM mode dir)).up,.string (bs ((dM mode dir)).data),.slice none ((dM mode dir)).af.length 0]] w1 (CM w1 B g T X a x)):=by
  show ∀w1,_;intro w1 hE;rw [hT,ha,hx];refine qI B g S X cu cg dir nm (dM mode dir) none 0 w1 (h.ext hE) O i_ ⟨.nil _ _ _,Nat.le_refl _,Nat.zero_le _,fun _=>rfl⟩ ?_ gP;simp [dM,ae]
 rw [<-hp,<-hT,<-ha,<-hx];have HP:=zH hp;have ja:=zH E0;have UY:=zH h;clear O hp E0 C0 hT ha hx;go_enter Tryz.func87,Tryz.ntmps87;go_upto_region 1 with fail;rw [<-aY];clear aY
 by_cases c1:mode<0
 ·have t1:decide (mode<0)=true:=decide_eq_true c1
  have hE:Hid (p=1):=by show _=_;rw[HP.out];unfold lX;rw[if_pos (.inl c1)]
  go_wp2_with fail;go_ret2;exact HS.out _ _ ja.out hE.out (by decide)
 have t1:decide (mode<0)=false:=decide_eq_false c1
 by_cases c2:1023<mode
 ·have t2:decide (1023<mode)=true:=decide_eq_true c2
  have hE:Hid (p=1):=by show _=_;rw[HP.out];unfold lX;rw[if_pos (.inr c2)]
  go_wp2_with fail;go_ret2;exact HS.out _ _ ja.out hE.out (by decide)
 have t2:decide (1023<mode)=false:=decide_eq_false c2;have hE:Hid (p=0):=by show _=_;rw[HP.out];unfold lX;rw[if_neg (by omega)]
 go_wp2_with fail;refine (KP.out _ ja.out).mono ?_;rintro e w2 hr;obtain ⟨rfl,hD⟩:=CN (S:=S) ja.out hr hE.out;clear hr;go_wp2_with fail;go_ret2;exact hD
theorem F_ (B:Nat) (g:cE) (S:aa) (X:cQ) (cu cg dir:Int) (nm:List UInt8) (mode:Int) (data:List UInt8) (w:World) (h:gU w B g S X) (O:Ok S) (i_:S.last<=100000) (gP:nm.length<=1000000) (hd:data.length<=1000000000) :
  Calls Tryz.prog 89 #[.pointer (some ⟨g.bF,0,none⟩),.agg #[cu,cg],.int .i64 dir,bs nm,.int .i64 mode,bs data] w
   (CM w B g (dR (gH mode data.length) S (aW S cu cg X.now dir nm (ct mode data))) X (gZ (gH mode data.length) (cZ S cu cg X.now dir nm (ct mode data))) (fQ (gH mode data.length) (bC S cu cg X.now dir nm (ct mode data)))):=by
 obtain⟨W0,aY⟩:=aq (w.alloc (.cells #[cu,cg] 27));have E0:Ext w W0:=by rw[aY];exact (Ext.refl _).alloc _
 have C0:Has W0 w.heap.size (.cells #[cu,cg] 27):=by rw[aY];exact Has.new w _
 have x0:W0.cell? ⟨w.heap.size,0,none⟩=some (.int .i64 cu):=C0.cell 0;have x1:W0.cell? ⟨w.heap.size,1,none⟩=some (.int .i64 cg):=C0.cell 1;have xz:=C0.lt;obtain⟨p,hp⟩:=aq (gH mode data.length);obtain⟨T,hT⟩:=aq (aW S cu cg X.now dir nm (ct mode data));obtain⟨a,ha⟩:=aq (cZ S cu cg X.now dir nm (ct mode data));obtain⟨x,hx⟩:=aq (bC S cu cg X.now dir nm (ct mode data));have HS:Hid (∀(w':World) (y:Int),Ext w w'->p=y->y≠0->CM w B g (dR p S T) X (gZ p a) (fQ p x) (.returned (.tuple #[.int .i64 0,.int .i64 y])) w'):=by
  show ∀(w':World) (y:Int),_;intro w' y hE hy h0;subst hy;exact yd h hE h0
 have KP:Hid (∀w1,Ext w w1->Calls Tryz.prog 118 #[.pointer (some ⟨g.bF,0,none⟩),.agg #[cu,cg],.int .i64 dir,bs nm,.agg #[.int .i64 ((ct mode data)).no,.int .i64 ((ct mode data)).dev,.int .i64 ((ct mode data)).kind,.int .i64 ((ct mode data)).mode,.int .i64 ((ct mode data)).uid,.int .i64 ((ct mode data)).gid,.int .i64 ((ct mode data)).mtime,.int .i64 ((ct mode data)).ctime,.int .i64 ((ct mode data)).ah,.int .i64 ((ct mode data)).up,.string (bs ((ct mode data)).data),.slice none ((ct mode data)).af.length 0]] w1 (CM w1 B g T X a x)):=by
  show ∀w1,_;intro w1 hE;rw [hT,ha,hx];refine qI B g S X cu cg dir nm (ct mode data) none 0 w1 (h.ext hE) O i_ ⟨.nil _ _ _,Nat.le_refl _,Nat.zero_le _,fun _=>rfl⟩ ?_ gP;exact hd
 rw [<-hp,<-hT,<-ha,<-hx];have HP:=zH hp;have ja:=zH E0;have UY:=zH h;clear O hp E0 C0 hT ha hx;go_enter Tryz.func89,Tryz.ntmps89;go_upto_region 1 with fail;rw [<-aY];clear aY;have hsz:((bs data).size:Int)=data.length:=by rw[aR]
 by_cases c1:mode<0
 ·have t1:decide (mode<0)=true:=decide_eq_true c1
  have hE:Hid (p=1):=by show _=_;rw[HP.out];unfold gH;rw[if_pos (.inl c1)]
  go_wp2_with fail;go_ret2;exact HS.out _ _ ja.out hE.out (by decide)
 have t1:decide (mode<0)=false:=decide_eq_false c1
 by_cases c2:1023<mode
 ·have t2:decide (1023<mode)=true:=decide_eq_true c2
  have hE:Hid (p=1):=by show _=_;rw[HP.out];unfold gH;rw[if_pos (.inr c2)]
  go_wp2_with fail;go_ret2;exact HS.out _ _ ja.out hE.out (by decide)
 have t2:decide (1023<mode)=false:=decide_eq_false c2
 by_cases c3:(1048576:Int)<data.length
 ·have t3:decide ((1048576:Int)<(data.length:Int))=true:=decide_eq_true c3
  have hE:Hid (p=3):=by show _=_;rw[HP.out];unfold gH;rw[if_neg (by omega),if_pos c3]
  go_wp2_with fail;go_ret2;exact HS.out _ _ ja.out hE.out (by decide)
 have t3:decide ((1048576:Int)<(data.length:Int))=false:=decide_eq_false c3;have hE:Hid (p=0):=by show _=_;rw[HP.out];unfold gH;rw[if_neg (by omega),if_neg c3]
 go_wp2_with fail;refine (KP.out _ ja.out).mono ?_;rintro e w2 hr;obtain ⟨rfl,hD⟩:=CN (S:=S) ja.out hr hE.out;clear hr;go_wp2_with fail;go_ret2;exact hD
theorem JK (B:Nat) (g:cE) (S:aa) (X:cQ) (cu cg dir:Int) (nm:List UInt8) (text:List UInt8) (w:World) (h:gU w B g S X) (O:Ok S) (i_:S.last<=100000) (gP:nm.length<=1000000) (hd:text.length<=1000000) :
  Calls Tryz.prog 90 #[.pointer (some ⟨g.bF,0,none⟩),.agg #[cu,cg],.int .i64 dir,bs nm,bs text] w
   (CM w B g (dR (kN text) S (aW S cu cg X.now dir nm (dY text))) X (gZ (kN text) (cZ S cu cg X.now dir nm (dY text))) (fQ (kN text) (bC S cu cg X.now dir nm (dY text)))):=by
 obtain⟨W0,aY⟩:=aq (w.alloc (.cells #[cu,cg] 27));have E0:Ext w W0:=by rw[aY];exact (Ext.refl _).alloc _
 have C0:Has W0 w.heap.size (.cells #[cu,cg] 27):=by rw[aY];exact Has.new w _
 have x0:W0.cell? ⟨w.heap.size,0,none⟩=some (.int .i64 cu):=C0.cell 0;have x1:W0.cell? ⟨w.heap.size,1,none⟩=some (.int .i64 cg):=C0.cell 1;have xz:=C0.lt;obtain⟨p,hp⟩:=aq (kN text);obtain⟨T,hT⟩:=aq (aW S cu cg X.now dir nm (dY text));obtain⟨a,ha⟩:=aq (cZ S cu cg X.now dir nm (dY text));obtain⟨x,hx⟩:=aq (bC S cu cg X.now dir nm (dY text));have HS:Hid (∀(w':World) (y:Int),Ext w w'->p=y->y≠0->CM w B g (dR p S T) X (gZ p a) (fQ p x) (.returned (.tuple #[.int .i64 0,.int .i64 y])) w'):=by
  show ∀(w':World) (y:Int),_;intro w' y hE hy h0;subst hy;exact yd h hE h0
 have KP:Hid (∀w1,Ext w w1->Calls Tryz.prog 118 #[.pointer (some ⟨g.bF,0,none⟩),.agg #[cu,cg],.int .i64 dir,bs nm,.agg #[.int .i64 ((dY text)).no,.int .i64 ((dY text)).dev,.int .i64 ((dY text)).kind,.int .i64 ((dY text)).mode,.int .i64 ((dY text)).uid,.int .i64 ((dY text)).gid,.int .i64 ((dY text)).mtime,.int .i64 ((dY text)).ctime,.int .i64 ((dY text)).ah,.int .i64 ((dY text)).up,.string (bs ((dY text)).data),.slice none ((dY text)).af.length 0]] w1 (CM w1 B g T X a x)):=by
  show ∀w1,_;intro w1 hE;rw [hT,ha,hx];refine qI B g S X cu cg dir nm (dY text) none 0 w1 (h.ext hE) O i_ ⟨.nil _ _ _,Nat.le_refl _,Nat.zero_le _,fun _=>rfl⟩ ?_ gP;show text.length<=_;omega
 rw [<-hp,<-hT,<-ha,<-hx];have HP:=zH hp;have ja:=zH E0;have UY:=zH h;clear O hp E0 C0 hT ha hx;have hh:Hid (∀w',Calls Tryz.prog 95 #[bs text,.int .u8 0] w' (aH w' (.bool (hasB text 0)))):=by
  show ∀w',_;intro w';have:=fV (bs text) 0 0 rfl (by rw[aR];exact hd) w';rw [kP]at this;exact this
 by_cases c0:text=[]
 ·have hE:Hid (p=1):=by show _=_;rw[HP.out];unfold kN;rw[if_pos (.inl c0)]
  have hem:(bs text).toList.isEmpty=true:=by rw[bh,c0];rfl
  clear c0;go_enter Tryz.func90,Tryz.ntmps90;go_upto_region 1 with fail;rw [<-aY];clear aY;go_wp2_with fail;go_ret2;exact HS.out _ _ ja.out hE.out (by decide)
 have hem:(bs text).toList.isEmpty=false:=by rw[bh,List.isEmpty_eq_false_iff];exact c0
 have hsz:((bs text).size:Int)=text.length:=by rw[aR]
 have U7:=zH c0;clear c0;go_enter Tryz.func90,Tryz.ntmps90;go_upto_region 1 with fail;rw [<-aY];clear aY;go_wp2_with fail;refine (hh.out _).mono ?_;rintro e w1 ⟨rfl,b1⟩;obtain⟨hb,Rn⟩:=aq (hasB text 0);rw [<-Rn];have HB:=zH Rn;have E1:=ja.out.trans b1;have x0':w1.cell? ⟨w.heap.size,0,none⟩=some (.int .i64 cu):=(b1.cell xz).trans x0;have x1':w1.cell? ⟨w.heap.size,1,none⟩=some (.int .i64 cg):=(b1.cell xz).trans x1;have xz':w.heap.size<w1.heap.size:=by have:=b1.size;omega
 clear x0 x1 xz Rn;cases hb
 case true =>
  have hE:Hid (p=1):=by show _=_;rw[HP.out];unfold kN;rw[if_pos (.inr HB.out.symm)]
  go_wp2_with fail;go_ret2;exact HS.out _ _ E1 hE.out (by decide)
 by_cases c1:(4096:Int)<text.length
 ·have t1:decide ((4096:Int)<(text.length:Int))=true:=decide_eq_true c1
  have hE:Hid (p=13):=by show _=_;rw[HP.out];unfold kN;rw[if_neg (by rintro (h'|h');exact U7.out h';rw[<-HB.out]at h';cases h'),if_pos (by omega)]
  go_wp2_with fail;go_ret2;exact HS.out _ _ E1 hE.out (by decide)
 have t1:decide ((4096:Int)<(text.length:Int))=false:=decide_eq_false c1;have hE:Hid (p=0):=by show _=_;rw[HP.out];unfold kN;rw[if_neg (by rintro (h'|h');exact U7.out h';rw[<-HB.out]at h';cases h'),if_neg (by omega)]
 go_wp2_with fail;refine (KP.out _ E1).mono ?_;rintro e w2 hr;obtain ⟨rfl,hD⟩:=CN (S:=S) E1 hr hE.out;clear hr;go_wp2_with fail;go_ret2;exact hD
def ErF (w:World) (B:Nat) (g:cE) (T:aa) (X:cQ) (x:Int) (e:Ending) (w':World):Prop:=e=.returned (.int .i64 x)/\∃g2,gU w' B g2 T X/\Only g.list w w'/\cE.on g2 g w
theorem Ga (B:Nat) (g:cE) (S:aa) (X:cQ) (cu cg no dir:Int) (nm:List UInt8) (w:World) (h:gU w B g S X) (O:Ok S) (i_:S.last<=100000) (gP:nm.length<=1000000) :
  Calls Tryz.prog 91 #[.pointer (some ⟨g.bF,0,none⟩),.agg #[cu,cg],.int .i64 no,.int .i64 dir,bs nm] w (ErF w B g (eW S cu cg X.now no dir nm) X (eV S cu cg no dir nm)):=by
 obtain⟨W0,aY⟩:=aq (w.alloc (.cells #[cu,cg] 27));have E0:Ext w W0:=by rw[aY];exact (Ext.refl _).alloc _
 have C0:Has W0 w.heap.size (.cells #[cu,cg] 27):=by rw[aY];exact Has.new w _
 have HO:=zH O;have hcl:S.nodes.length<=100000:=by have:=O.live.count;omega
 have PZ:=zH hcl;obtain⟨now,Ac⟩:=aq X.now;have hm:Hid (eV S cu cg no dir nm=if ¬aV S cu cg dir nm=0 then aV S cu cg dir nm else if aK S.nodes no=false then 5 else if (ac S.nodes no).kind=1 then 4
  else if ¬bk (ac S.nodes dir).af nm=0 then 7 else if ¬(ac S.nodes no).dev=(ac S.nodes dir).dev then 11 else if 1000<=(ac S.nodes no).ah then 18 else 0):=by show _=_;rfl
 have hp:Hid (aV S cu cg dir nm=0->cU S cu cg dir nm=ac S.nodes dir/\aK S.nodes dir=true):=fun h0=>⟨kS h0,(aE h0).1⟩
 have HS:Hid (∀(w':World) (x:Int),Ext w w'->eV S cu cg no dir nm=x->x≠0->ErF w B g (eW S cu cg now no dir nm) X (eV S cu cg no dir nm) (.returned (.int .i64 x)) w'):=by
  show ∀(w':World) (x:Int),_;intro w' x hE hx h0;rw [hx];refine ⟨rfl,g,?_,Only.av hE,cE.fx _ _⟩;unfold eW;rw [if_neg (by rw[hx];exact h0)];exact h.ext hE
 have hnz:Hid (((ac S.nodes no).no == 0)=!aK S.nodes no):=by
  refine zH ?_
  cases hi:aK S.nodes no
  ·rw[(aZ hi).1];rfl
  ·have h1:=(O.live.aC.2 _ (aj hi).2.2).1
   simp;omega
 rw [<-Ac];have Vc:=zH Ac;have ja:=zH E0;clear O hcl Ac;go_enter Tryz.func91,Tryz.ntmps91;go_upto_region 1 with fail;rw [<-aY];clear aY;have x0:W0.cell? ⟨w.heap.size,0,none⟩=some (.int .i64 cu):=C0.cell 0;have x1:W0.cell? ⟨w.heap.size,1,none⟩=some (.int .i64 cg):=C0.cell 1;have xz:=C0.lt;go_wp2_with fail;refine (tM B g S X cu cg dir nm _ (h.ext E0) (by have:=PZ.out;omega) HO.out.live.aC gP).mono ?_;rintro e w2 ⟨A2,k2,rfl,ir,b2⟩;obtain⟨m,hmm⟩:=aq (cU S cu cg dir nm);obtain⟨x,hx⟩:=aq (aV S cu cg dir nm);rw [<-hmm]at ir hp;rw [<-hx]at hm hp;rw [<-hmm,<-hx];obtain⟨W3,dg⟩:=aq (w2.alloc (.cells #[m.no,m.dev,m.kind,m.mode,m.uid,m.gid,m.mtime,m.ctime,m.ah,m.up,bs m.data,.slice A2 m.af.length k2] 58));obtain ⟨x_,yb⟩:∃b,b=w2.heap.size:=⟨_,rfl⟩;have km:Ext w2 W3:=by rw[dg];exact (Ext.refl _).alloc _
 have M3:Has W3 x_ (.cells #[m.no,m.dev,m.kind,m.mode,m.uid,m.gid,m.mtime,m.ctime,m.ah,m.up,bs m.data,.slice A2 m.af.length k2] 58):=by rw[dg,yb];exact Has.new _ _
 have E3:Ext w W3:=E0.trans (b2.trans km);have pg:=ir.ext km;have U3:w.heap.size<=x_:=by rw[yb];exact (E0.trans b2).size
 clear x0 x1 xz hmm hx C0;go_upto_region 2 with fail;rw [<-dg];rw [<-yb];clear dg yb;go_wp2_with fail;refine (fc B g S X no _ (h.ext E3) (by have:=PZ.out;omega) HO.out.live.aC).mono ?_;rintro e w4 ⟨A4,k4,rfl,rY,b4⟩;obtain⟨n,hn⟩:=aq (ac S.nodes no);obtain⟨i,hi⟩:=aq (aK S.nodes no);have hlk:aK S.nodes no=true->1<=(ac S.nodes no).ah/\(ac S.nodes no).ah<=1000:=fun hi=>HO.out.ah _ (aj hi).2.2
 rw [<-hn,<-hi]at hlk hnz;rw [<-hn]at rY hm|-;rw [<-hi]at hm;have Z5:=zH hlk;obtain⟨W5,lj⟩:=aq (w4.alloc (.cells #[n.no,n.dev,n.kind,n.mode,n.uid,n.gid,n.mtime,n.ctime,n.ah,n.up,bs n.data,.slice A4 n.af.length k4] 58));obtain ⟨mP,qG⟩:∃b,b=w4.heap.size:=⟨_,rfl⟩;have Mv:Ext w4 W5:=by rw[lj];exact (Ext.refl _).alloc _
 have N5:Has W5 mP (.cells #[n.no,n.dev,n.kind,n.mode,n.uid,n.gid,n.mtime,n.ctime,n.ah,n.up,bs n.data,.slice A4 n.af.length k4] 58):=by rw[lj,qG];exact Has.new _ _
 have NS:Ext W3 W5:=b4.trans Mv;have M5:=M3.ext NS;have xN:=pg.ext NS;have xZ:=rY.ext Mv;have E5:=E3.trans NS;have U4:W3.heap.size<=mP:=by rw[qG];exact b4.size
 have Z6:x_<mP:=by have:=M3.lt;omega
 have u9:=zH hn;have HI:=zH hi;clear hn hi M3 pg rY E3 hlk;go_upto_region 3 with fail;rw [<-lj];rw [<-qG];clear lj qG
 by_cases hx0:x=0
 case neg =>
  have t0:(x == 0)=false:=by simpa using hx0
  have oN:(x != 0)=true:=by simpa using hx0
  have hE:Hid (eV S cu cg no dir nm=x):=by show _=_;rw[hm.out,if_pos hx0]
  have HX:=zH hx0;clear hm hx0;go_wp2_with fail;go_ret;exact HS.out _ _ E5 hE.out HX.out
 have t0:(x == 0)=true:=by simpa using hx0
 have oN:(x != 0)=false:=by simpa using hx0
 obtain ⟨oc,hid⟩:=hp.out hx0;have cF:Hid (eV S cu cg no dir nm=if i=false then 5 else if n.kind=1 then 4 else if ¬bk m.af nm=0 then 7 else if ¬n.dev=m.dev then 11 else if 1000<=n.ah then 18 else 0):=by
  show _=_;rw[hm.out,if_neg (by simpa using hx0),<-oc]
 have Cq:=zH oc;have hen:=HO.out.bH dir;rw [<-oc]at hen;have xY:=zH hen;have k0':W5.cell? ⟨mP,0,none⟩=some (.int .i64 n.no):=N5.cell 0;have NQ:W5.cell? ⟨mP,2,none⟩=some (.int .i64 n.kind):=N5.cell 2;have kz:=N5.lt;clear hm hp hx0 oc hid hen
 cases i
 ·have hE:Hid (eV S cu cg no dir nm=5):=by show _=_;rw[cF.out];rfl
  have tn:(n.no == 0)=true:=hnz.out;clear cF;go_wp2_with fail;go_ret;exact HS.out _ _ E5 hE.out (by decide)
 have tn:(n.no == 0)=false:=hnz.out
 by_cases c1:n.kind=1
 ·have t1:(n.kind == 1)=true:=by simpa using c1
  have hE:Hid (eV S cu cg no dir nm=4):=by show _=_;rw[cF.out,if_neg (by decide),if_pos c1]
  clear cF;go_wp2_with fail;go_ret;exact HS.out _ _ E5 hE.out (by decide)
 have t1:(n.kind == 1)=false:=by simpa using c1
 have CC:W5.cell? ⟨x_,11,none⟩=some (.slice A2 m.af.length k2):=M5.cell 11;have Z7:=M5.lt;have Hk:=zH c1;clear c1;go_wp2_with fail;refine (qs A2 m.af k2 nm _ xN.af.af (by have:=xY.out.2;omega)).mono ?_;rintro e w6 ⟨rfl,b6⟩;obtain⟨v,hv⟩:=aq (bk m.af nm);rw [<-hv]at cF;rw [<-hv];have N6:=N5.ext b6;have M6:=M5.ext b6;have rZ:=xN.ext b6;have Jz:=xZ.ext b6;have E6:=E5.trans b6;clear hv NQ kz CC Z7 N5 M5 xN xZ
 by_cases c2:v=0
 case neg =>
  have t2:(v == 0)=false:=by simpa using c2
  have NR:(v != 0)=true:=by simpa using c2
  have hE:Hid (eV S cu cg no dir nm=7):=by show _=_;rw[cF.out,if_neg (by decide),if_neg Hk.out,if_pos c2]
  clear cF c2;go_wp2_with fail;go_ret;exact HS.out _ _ E6 hE.out (by decide)
 have t2:(v == 0)=true:=by simpa using c2
 have NR:(v != 0)=false:=by simpa using c2
 have y1:w6.cell? ⟨mP,1,none⟩=some (.int .i64 n.dev):=N6.cell 1;have y2:w6.cell? ⟨x_,1,none⟩=some (.int .i64 m.dev):=M6.cell 1;have y3:w6.cell? ⟨mP,8,none⟩=some (.int .i64 n.ah):=N6.cell 8;have yz:=N6.lt;have Yk:=M6.lt;have qE:=zH (show ¬¬v=0 by simpa using c2);clear c2
 by_cases c3:n.dev=m.dev
 case neg =>
  have t3:(n.dev == m.dev)=false:=by simpa using c3
  have Z8:(n.dev != m.dev)=true:=by simpa using c3
  have hE:Hid (eV S cu cg no dir nm=11):=by show _=_;rw[cF.out,if_neg (by decide),if_neg Hk.out,if_neg qE.out,if_pos c3]
  clear cF c3;go_wp2_with fail;go_ret;exact HS.out _ _ E6 hE.out (by decide)
 have t3:(n.dev == m.dev)=true:=by simpa using c3
 have Z8:(n.dev != m.dev)=false:=by simpa using c3
 have U5:=zH (show ¬¬n.dev=m.dev by simpa using c3);clear c3
 by_cases c4:1000<=n.ah
 ·have t4:decide (1000<=n.ah)=true:=decide_eq_true c4
  have hE:Hid (eV S cu cg no dir nm=18):=by show _=_;rw[cF.out,if_neg (by decide),if_neg Hk.out,if_neg qE.out,if_neg U5.out,if_pos c4]
  clear cF c4;go_wp2_with fail;go_ret;exact HS.out _ _ E6 hE.out (by decide)
 have t4:decide (1000<=n.ah)=false:=decide_eq_false c4;have hE:Hid (eV S cu cg no dir nm=0):=by show _=_;rw[cF.out,if_neg (by decide),if_neg Hk.out,if_neg qE.out,if_neg U5.out,if_neg c4]
 have i_:=(Z5.out (by trivial)).1;have y4:IntKind.i64.wrap (n.ah+1)=n.ah+1:=bQ (by omega) (by omega);have yf:∀i,w6.frozen? ⟨mP,i,none⟩=false:=fun i=>(N6.free i).trans (by simp)
 have y7:w6.cell? ⟨mP,7,none⟩=some (.int .i64 n.ctime):=N6.cell 7;have nw:w6.cell? ⟨g.bF,3,none⟩=some (.int .i64 now):=by rw[Vc.out];obtain⟨_,_,_,k,_⟩:=h.ext E6;exact k.cell 3
 have nz:=(h.ext E6).lt.1;have hlt:=h.lt;have hs0:=ja.out.size;have hs1:=NS.size;have Rq:g.bF<mP:=by omega
 have UU:(mP=g.bF)=False:=eq_false (by omega);have Jt:(g.bF=mP)=False:=eq_false (by omega);obtain ⟨n',hn'⟩:∃n':ai,n'={n with ah:=n.ah+1,ctime:=now}:=⟨_,rfl⟩;have Jv:=zH hn';clear cF c4 i_ hn';go_upto_region 17 with fail;obtain⟨V,hV⟩:=aq ((w6.setCell ⟨mP,8,none⟩ (.int .i64 (n.ah+1))).setCell ⟨mP,7,none⟩ (.int .i64 now));rw [<-hV];have NV:Has V mP (.cells #[.int .i64 (n').no,.int .i64 (n').dev,.int .i64 (n').kind,.int .i64 (n').mode,.int .i64 (n').uid,.int .i64 (n').gid,.int .i64 (n').mtime,.int .i64 (n').ctime,.int .i64 (n').ah,.int .i64 (n').up,.string (bs (n').data),.slice A4 (n').af.length k4] 58):=by rw[hV,Jv.out];exact (N6.setCell 8 _).setCell 7 _
 have OV:Only [mP] w6 V:=by rw[hV];exact (Only.setCell _ _ _ _).then (Only.setCell _ _ _ _)
 have U6:cY w6 B [mP]:=by
  intro b hb;rw [List.mem_singleton]at hb;subst hb;exact ⟨by have:=h.1;omega,N6.fT (by decide)⟩
 have EV:Ext w V:=OV.after E6 (by intro b hb;rw[List.mem_singleton]at hb;omega);have KV:=h.ext EV;have MV:=OV.has M6 (by rw[List.mem_singleton];omega);have xO:=rZ.only OV U6;have Rk:ax V B n' A4 k4:=(Jz.only OV U6).same (by rw[Jv.out]);clear hV y1 y2 y3 y4 yf y7 yz Yk nw nz UU Jt N6 M6 rZ Jz;go_wp2_with (refine aO rfl _ rfl mP n' A4 k4 rfl NV ?_);refine (mH B g S X n' A4 k4 _ KV (by have:=PZ.out;omega) HO.out.live.aC Rk).mono ?_;rintro e w7 ⟨rfl,K7,O7⟩;have JA:x_∉g.list:=by
  simp only[cE.list,List.mem_cons,List.not_mem_nil,or_false];omega
 have M7:=O7.has MV JA;have xH:=xO.only O7 KV.apart;have Z9:Only g.list w w7:=Only.pre EV O7;obtain⟨T,hT⟩:=aq (aJ S n');rw [<-hT]at K7;have Ri:aD T.nodes T.last:=by rw[hT];exact HO.out.live.aC.set _
 have Rp:T.nodes.length<=1000000:=by rw[hT];show (cA _ _).length<=_;rw[pz];have:=PZ.out;omega
 have HT:=zH hT;have CC:w7.cell? ⟨x_,11,none⟩=some (.slice A2 m.af.length k2):=M7.cell 11;have kz:=M7.lt;clear hT;go_wp2_with fail;refine (zC A2 m.af k2 (nm,no) _ xH.af.af (by have:=xY.out.2;omega)).mono ?_;rintro e w8 ⟨v8,rfl,hown,Em⟩;obtain ⟨A8,c8,rfl,q1,q2,q3,q4⟩:=hown.D2 (B:=B);obtain ⟨L8,Rl⟩:∃L,L=dq m.af (nm,no):=⟨_,rfl⟩;rw [<-Rl]at q1 q3|-;have Rj:Hid (Calls Tryz.prog 120 #[.pointer (some ⟨g.bF,0,none⟩),.int .i64 dir,.slice A8 L8.length c8] w8 (CA w8 B g (cI T dir X.now L8) X)):=tG B g T X dir A8 L8 c8 w8 (K7.ext Em) Rp Ri q3 q1 q2 q4;have Z_:=zH Rl;clear CC kz hown q1 q2 q3 q4 Rl;go_wp2_with fail;refine Rj.out.mono ?_;rintro e w9 ⟨rfl,K9,O9⟩;go_wp2_with fail;go_ret;rw [hE.out];have e3:eW S cu cg now no dir nm=cI T dir X.now L8:=by
  unfold eW cy;rw [if_pos hE.out,HT.out,Z_.out,Jv.out,u9.out,Cq.out,Vc.out]
 exact ⟨rfl,g,by rw[e3];exact K9,(Z9.ext Em).then O9,cE.fx _ _⟩
attribute [local irreducible] fY wpQuiet
attribute [local go_sem] eP
end
section
open Go.ChangeShapes Go.WideShapes Go.ChangeAt Go.RowKit
def bg (S:aa):Prop:=∀n∈S.nodes,n.kind≠1->n.af=[]
attribute [local irreducible] wpQuiet
end
end Go.Proofs.YtblbohcaphcobaaGreatDoor
