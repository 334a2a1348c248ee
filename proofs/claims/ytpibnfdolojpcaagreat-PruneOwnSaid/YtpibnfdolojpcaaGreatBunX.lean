import Derived.Test.YtpibnfdolojpcaaGreatBunI
import Derived.Test.YtpibnfdolojpcaaGreatBunD
import Derived.Test.YtpibnfdolojpcaaGreatBunC
import Derived.Test.YtpibnfdolojpcaaGreatBunH
import Derived.Deep.RegionWith
set_option maxHeartbeats 8000000
set_option maxRecDepth 100000
namespace Go.Proofs.YtpibnfdolojpcaaGreat
section
theorem oL {S:ae} {n:ai} {no:Int} (hne:no≠n.no):ac (aE S n).nodes no=ac S.nodes no:=(jt hne).1
theorem LP {S:ae} (hu:aD S.nodes S.last) {n:ai} (hkb:kr S n.no=true) (hi:aJ S.nodes n.no=true) (hv:n.dev=(ac S.nodes n.no).dev) (hk:n.kind=(ac S.nodes n.no).kind) (hd:n.data=(ac S.nodes n.no).data):gK (aE S n) n.no=gK S n.no:=by
 have hg:=AO hu hi;have po:aJ (aE S n).nodes n.no=true:=by show aJ (bQ S.nodes n) n.no=true;rw[iL];exact hi
 have hb:kr (aE S n) n.no=kr S n.no:=by
  unfold kr;rw [hi,po,hg,hv];rfl
 unfold gK;have hq:xk (aE S n) (ac (aE S n).nodes n.no)=xk S (ac S.nodes n.no):=by
  unfold xk;rw [hg,hv,hk,hd];rfl
 have hn:fl (aE S n).nodes n.no=fl S.nodes n.no:=by
  unfold fl aE bQ
  induction S.nodes with
  | nil=>rfl
  | cons m ms ih =>
   simp only[List.map_cons,List.filter_cons]at ih|-;rw [ih]
   by_cases e:m.no=n.no
   ·simp[e]
   ·simp[e]
 rw [hq,hn,hb,if_pos hkb,if_pos hkb];rfl
theorem AQ {c:Nat} {k:Int} {S:ae} (h:nP c k S) {no now:Int} (hi:aJ S.nodes no=true) (ho:ar S.ah no=no) (hr:aC S.ah (ac S.nodes no).dev≠no) (hne:(ac S.nodes no).kind=1->(ac S.nodes no).af=[]) (rn:k=0\/(k=no/\(ac S.nodes no).kind=1)):dy c (ju S now (ac S.nodes no)):=by
 obtain ⟨_,aW,hm⟩:=ak hi;have hb:=h.bits _ hm;unfold ju;split
 ·have hkb:kr S no=true:=by unfold kr;rw[hi];simpa using hr
  have e:gK (aE S (fu now (ac S.nodes no))) (ac S.nodes no).no=gK S no:=by
   have:=LP h.bc (n:=fu now (ac S.nodes no)) (by show kr S (ac S.nodes no).no=true;rw[aW];exact hkb) (by show aJ S.nodes (ac S.nodes no).no=true;rw[aW];exact hi) (by show _=(ac S.nodes (ac S.nodes no).no).dev;rw[aW];rfl) (by show _=(ac S.nodes (ac S.nodes no).no).kind;rw[aW];rfl) (by show _=(ac S.nodes (ac S.nodes no).no).data;rw[aW];rfl);have e2:(fu now (ac S.nodes no)).no=no:=aW;rw [e2]at this;rw [aW];exact this
  rw [e];refine Ln h hkb ho ?_ hne
  ·rcases rn with e|e
   ·exact .inr (.inr e)
   ·exact .inr (.inl e.1)
 ·rename_i hl
  have Ts:(ac S.nodes no).kind≠1:=fun hk=>by
   have:=h.mC _ hm hk;rw [this]at hl;omega
  have TF:k=0:=by
   rcases rn with e|e
   ·exact e
   ·exact absurd e.2 Ts
  subst TF;have e1:∀{P:ai->Prop},P (ac S.nodes no)->P (ac S.nodes (fu now (ac S.nodes no)).no):=fun hp=>by
   have:(fu now (ac S.nodes no)).no=no:=aW;rw [this];exact hp
  refine qu h (.inl rfl) (by show aJ S.nodes (ac S.nodes no).no=true;rw[aW];exact hi) (Nat.le_refl _) (e1 (P:=fun m=>(fu now (ac S.nodes no)).kind=m.kind) rfl) (e1 (P:=fun m=>(fu now (ac S.nodes no)).dev=m.dev) rfl) (e1 (P:=fun m=>(fu now (ac S.nodes no)).up=m.up) rfl) (fun jK=>absurd jK Ts) (h.lP (ac S.nodes no) hm) (h.names (ac S.nodes no) hm) (h.pos (ac S.nodes no) hm) (h.small (ac S.nodes no) hm) (h.on (ac S.nodes no) hm).2
   ⟨hb.1,hb.2.1,by show 1<=(ac S.nodes no).ag-1;omega,by show (ac S.nodes no).ag-1<=1000;omega⟩ (fun x hx=>h.yJ (ac S.nodes no) hm x hx) (fun q hq ut _ xj uj=>?_)
  rcases h.Tp q hq ut (by have:=(h.bc.2 q hq).1;omega) with⟨_,u2⟩|⟨_,_,m,bU,u3,u4,_⟩
  ·exact absurd (u2.symm.trans xj) uj
  ·have:m=ac S.nodes no:=ib h.bc bU hm (by rw[u3,xj];rfl)
   subst this;exact absurd u4 Ts
theorem xu {l:List ay} {nm:List UInt8} (hr:iq l) {x:ay} (hx:x∈l) (he:x.1=nm):aK l nm=x.2:=by
 unfold aK
 cases hf:l.find? (fun x=>x.1 == nm) with
 | none=>have:=List.find?_eq_none.1 hf x hx;simp at this;exact absurd he this
 | some y =>
  have h2:=List.find?_some (p:=fun x:ay=>x.1 == nm) hf;have kK:y.1=nm:=by simpa using h2
  have hy:=List.mem_of_find?_eq_some hf;have : y=x:=by
   obtain ⟨i,hi,rfl⟩:=List.getElem_of_mem hy;obtain ⟨j,hj,rfl⟩:=List.getElem_of_mem hx;rcases Nat.lt_trichotomy i j with g|g|g
   ·have:=nA (List.pairwise_iff_getElem.1 hr i j hi hj g)
    rw [kK,he]at this;exact absurd rfl this
   ·subst g;rfl
   ·have:=nA (List.pairwise_iff_getElem.1 hr j i hj hi g)
    rw [kK,he]at this;exact absurd rfl this
  subst this;rfl
theorem nY {l:List ay} {nm:List UInt8} (h:aK l nm≠0):∃x∈l,x.1=nm/\x.2=aK l nm:=by
 unfold aK at h|-
 cases hf:l.find? (fun x=>x.1 == nm) with
 | none=>rw[hf]at h;exact absurd rfl h
 | some y =>
  have h2:=List.find?_some (p:=fun x:ay=>x.1 == nm) hf;exact ⟨y,List.mem_of_find?_eq_some hf,by simpa using h2,rfl⟩
theorem jO {l:List ay} {nm:List UInt8} {x:ay} (h:x∈cX l nm):x∈l/\x.1≠nm:=by
 unfold cX at h;rw [List.mem_filter]at h;exact ⟨h.1,by simpa using h.2⟩
theorem uP {c:Nat} {S:ae} (h:dy c S) {dir now:Int} {nm:List UInt8} (hi:aJ S.nodes dir=true) (wo:(ac S.nodes dir).kind=1) {k':Int} (hk':∀q∈S.nodes,q.kind=1->q.no≠k'->q.no≠aK (ac S.nodes dir).af nm):nP c k' (bR S dir now (cX (ac S.nodes dir).af nm)):=by
 obtain ⟨_,aW,hmem⟩:=ak hi;refine xn h (.inl rfl) hi wo (Nat.le_refl _) (h.lP _ hmem |>.sublist List.filter_sublist) (fun x hx=>h.names _ hmem x (jO hx).1) (fun x hx=>h.pos _ hmem x (jO hx).1) ?_ (fun x hx=>h.yJ _ hmem x (jO hx).1) (fun q hq ut Ay xj uj=>?_)
 ·have h1:(cX (ac S.nodes dir).af nm).length<=(ac S.nodes dir).af.length:=List.length_filter_le ..
  have:=h.small _ hmem;omega
 ·rcases h.wl q hq ut with⟨_,u2⟩|⟨_,_,m,hm,u3,_,_,x,hx,u6⟩
  ·exact absurd (u2.symm.trans xj) uj
  ·have:m=ac S.nodes dir:=ib h.bc hm hmem (by rw[u3,xj,aW])
   subst this;refine ⟨x,?_,u6⟩;unfold cX;rw [List.mem_filter];refine ⟨hx,?_⟩;have:x.1≠nm:=fun e=>by
    have:=xu (h.lP _ hmem) hx e;exact hk' q hq ut Ay (by rw[this,u6])
   simpa using this
theorem LQ {c:Nat} {k:Int} {S:ae} (h:nP c k S) {no y dev:Int} (hK:VT S no dev y) (d:Int) (hd:fU S.ah d=true):aC S.ah d≠y:=by
 rcases dC h.roots d with⟨_,e2⟩|⟨j,hj,_,_,_,e4,_⟩
 ·rw[e2]at hd;cases hd
 ·rw [e4]
  exact fun e=>hK.2.1 _ (List.getElem_mem hj) e.symm
theorem AR {c:Nat} {S:ae} (h:dy c S) {cu cg now dir:Int} {nm:List UInt8} (hl:ct S cu cg dir nm=0) (hne:(cv S cu cg dir nm).kind=1->(cv S cu cg dir nm).af=[]):dy c (eN S now (dF S cu cg dir nm) (cv S cu cg dir nm) nm):=by
 obtain ⟨z1,z2,z3,z4,z5⟩:=eD hl;obtain ⟨hi,wo,_⟩:=aT z1;obtain ⟨_,aW,hmem⟩:=ak hi;rw [z5]at hne;obtain⟨no,hn⟩:=zE (aK (ac S.nodes dir).af nm);rw [<-hn]at z2 z3 z5 hne;have hpos:=(h.bc.2 _ (ak z2).2.2).1;rw [(ak z2).2.1]at hpos;obtain ⟨x,hx,sI,tI⟩:=nY (l:=(ac S.nodes dir).af) (nm:=nm) (by rw[<-hn];omega);have hK:=h.yJ _ hmem x hx;rw [tI,<-hn,aW]at hK;have hnd:no≠dir:=hK.1;unfold eN;rw [z4,z5,aW];have PU:ac (bR S dir now (cX (ac S.nodes dir).af nm)).nodes no=ac S.nodes no:=oL (by show no≠(ac S.nodes dir).no;rw[aW];exact hnd);have kC:aJ (bR S dir now (cX (ac S.nodes dir).af nm)).nodes no=true:=by
  show aJ (bQ S.nodes _) no=true;rw[iL];exact z2
 have R7:=LQ h hK (ac S.nodes no).dev (h.on _ (ak z2).2.2).1;rw [<-PU]at R7 hne|-
 by_cases hk:(ac S.nodes no).kind=1
 ·have hT:=uP h (now:=now) (nm:=nm) hi wo (k':=no) (fun q _ _ hq=>by rw[<-hn];exact hq)
  exact AQ hT kC z3 R7 hne (.inr ⟨rfl,by rw[PU];exact hk⟩)
 ·have hT:=uP h (now:=now) (nm:=nm) hi wo (k':=0) (fun q hq ut _ e=>by
   rw [<-hn]at e;have:=(cR h.bc hq).1;rw [e]at this;rw [this]at hk;exact hk ut)
  exact AQ hT kC z3 R7 hne (.inl rfl)
theorem Du {c:Nat} {S:ae} (h:dy c S) (cu cg now dir:Int) (nm:List UInt8):dy c (eS S cu cg now dir nm):=by
 unfold eS;split
 ·rename_i h0
  unfold eR at h0;split at h0
  ·rename_i h1;exact absurd h0 h1
  ·rename_i h1
   split at h0
   ·cases h0
   ·rename_i h2
    exact AR h (Decidable.not_not.1 h1) (fun hk=>absurd hk h2)
 ·exact h
theorem Hb {c:Nat} {S:ae} (h:dy c S) (cu cg now dir:Int) (nm:List UInt8):dy c (gI S cu cg now dir nm):=by
 unfold gI;split
 ·rename_i h0
  unfold gi at h0;split at h0
  ·rename_i h1;exact absurd h0 h1
  ·rename_i h1
   split at h0
   ·cases h0
   ·split at h0
    ·cases h0
    ·rename_i h3
     refine AR h (Decidable.not_not.1 h1) (fun _=>?_);exact List.eq_nil_of_length_eq_zero (by omega)
 ·exact h
theorem Hc (S:ae) (now no:Int):(AL S now no).last=S.last/\∀i,aC (AL S now no).ah i=aC S.ah i:=by
 unfold AL;split
 ·unfold ju
  split
  ·unfold gK
   split
   ·exact⟨rfl,fun i=>by show aC (ir _ _ _) i=_;rw[Fm];rfl⟩
   ·exact⟨rfl,fun _=>rfl⟩
  ·exact⟨rfl,fun _=>rfl⟩
 ·exact⟨rfl,fun _=>rfl⟩
open Go.ChangeShapes Go.WideShapes Go.ChangeAt Go.RowKit
theorem AU (nm:List UInt8) (w:World) (h:nm.length<=1000000):Calls Tryz.prog 197 #[bs nm] w (aI w (.int .i64 (bX nm))):=by
 have:=CX (bs nm) (by rw[bi];exact h) w;rw [mj]at this;exact this
theorem uQ (B:Nat) (g:cI) (S:ae) (X:cP) (cu cg dir:Int) (nm:List UInt8) (w:World) (h:gR w B g S X) (hl:S.nodes.length<=1000000) (hu:aD S.nodes S.last) (jA:nm.length<=1000000) :
  Calls Tryz.prog 165 #[.pointer (some ⟨g.bF,0,none⟩),.agg #[cu,cg],.int .i64 dir,bs nm] w (yO w B S cu cg dir nm):=by
 have h0:=h;have E0:Ext w ((w.alloc (.cells #[cu,cg] 27)).alloc (.cells #[.int .i64 0,.int .i64 0,.int .i64 0,.int .i64 0,.int .i64 0,.int .i64 0,.int .i64 0,.int .i64 0,.int .i64 0,.int .i64 0,.string ⟨#[]⟩,.slice none 0 0] 66)):=((Ext.refl _).alloc _).alloc _;go_enter Tryz.func165,Tryz.ntmps165;go_wp2_with fail;have b1:=Ext.refl ((w.alloc (.cells #[cu,cg] 27)).alloc (.cells #[.int .i64 0,.int .i64 0,.int .i64 0,.int .i64 0,.int .i64 0,.int .i64 0,.int .i64 0,.int .i64 0,.int .i64 0,.int .i64 0,.string ⟨#[]⟩,.slice none 0 0] 66));have E1:=E0;have R0:=Has.new (w.alloc (.cells #[cu,cg] 27)) (.cells #[aa.no,aa.dev,aa.kind,aa.mode,aa.uid,aa.gid,aa.mtime,aa.ctime,aa.ag,aa.up,bs aa.data,.slice none aa.af.length 0] 66);rw [World.size_alloc]at R0;have R1:=R0.ext b1;have C1:=((Has.new w (.cells #[cu,cg] 27)).alloc (.cells #[.int .i64 0,.int .i64 0,.int .i64 0,.int .i64 0,.int .i64 0,.int .i64 0,.int .i64 0,.int .i64 0,.int .i64 0,.int .i64 0,.string ⟨#[]⟩,.slice none 0 0] 66)).ext b1;refine (eK B g S X dir _ (h.ext E1) hl hu).mono ?_;rintro e w2 ⟨A2,k2,rfl,gv,b2⟩;have R2:=R1.ext b2;have C2:=C1.ext b2;have hm:Hid (aS S cu cg dir nm=if aJ S.nodes dir=false then 5 else if ¬(ac S.nodes dir).kind=1 then 9 else if ¬bX nm=0 then bX nm
  else if dX cu cg (ac S.nodes dir).uid (ac S.nodes dir).gid (ac S.nodes dir).mode 3=false then 6 else 0):=by show _=_;rfl
 have bU:Hid (cV S cu cg dir nm=if aS S cu cg dir nm=0 then ac S.nodes dir else aa):=by show _=_;rfl
 have wu:Hid (((ac S.nodes dir).no == 0)=!aJ S.nodes dir):=by
  refine zH ?_
  cases hi:aJ S.nodes dir
  ·rw[(aU hi).1];rfl
  ·have h1:=(hu.2 _ (ak hi).2.2).1
   simp;omega
 obtain⟨m,hmm⟩:=zE (ac S.nodes dir);rw [<-hmm]at gv hm bU wu|-;obtain⟨W3,cj⟩:=zE (w2.alloc (.cells #[m.no,m.dev,m.kind,m.mode,m.uid,m.gid,m.mtime,m.ctime,m.ag,m.up,bs m.data,.slice A2 m.af.length k2] 66));have h_:Ext w2 W3:=by rw[cj];exact (Ext.refl _).alloc _
 have N3:Has W3 w2.heap.size (.cells #[m.no,m.dev,m.kind,m.mode,m.uid,m.gid,m.mtime,m.ctime,m.ag,m.up,bs m.data,.slice A2 m.af.length k2] 66):=by rw[cj];exact Has.new _ _
 have R3:=R2.ext h_;have C3:=C2.ext h_;have E3:Ext w W3:=(E1.trans b2).trans h_;obtain⟨b8,fM⟩:=zE w2.heap.size;obtain⟨i,hi⟩:=zE (aJ S.nodes dir);rw [<-hi]at hm wu;clear hmm hi R1 C1 R2 C2;go_upto_region 2 with fail;rw [<-cj];rw [<-fM]at N3|-;have nj:=gv.ext h_;clear cj fM h_;have HS:Hid (∀(w5 w6:World) (x:Int),Ext w w5->Only [w.heap.size+1] w5 w6->aS S cu cg dir nm=x->x≠0->yO w B S cu cg dir nm (.returned (.tuple #[.agg #[aa.no,aa.dev,aa.kind,aa.mode,aa.uid,aa.gid,aa.mtime,aa.ctime,aa.ag,aa.up,bs aa.data,.slice none aa.af.length 0],.int .i64 x])) w6):=by
  show ∀(w5 w6:World) (x:Int),_;intro w5 w6 x hE hO hx aV;have hN:cV S cu cg dir nm=aa:=by rw[bU.out,if_neg (by rw[hx];exact aV)]
  exact ⟨none,0,by rw[hx,hN],by rw[hN];exact az.zero _ _,hO.after hE (by simp)⟩
 have k0':W3.cell? ⟨b8,0,none⟩=some (.int .i64 m.no):=N3.cell 0;have Dk:W3.cell? ⟨b8,2,none⟩=some (.int .i64 m.kind):=N3.cell 2;have kz:=N3.lt
 cases i
 ·have hE:Hid (aS S cu cg dir nm=5):=by show _=_;rw[hm.out];rfl
  have tn:(m.no == 0)=true:=wu.out;clear hm;go_wp2_with (refine ap rfl _ _ rfl (w.heap.size+1) aa none 0 rfl rfl R3 ?_;intro w9 R9 O9);refine bodyPost_ret (v:=.tuple #[.agg #[aa.no,aa.dev,aa.kind,aa.mode,aa.uid,aa.gid,aa.mtime,aa.ctime,aa.ag,aa.up,bs aa.data,.slice none aa.af.length 0],.int .i64 5]) (cr Tryz.results165 _ _ (w.heap.size+1) aa none 0 _ rfl rfl R9) rfl ?_;exact HS.out _ _ _ E3 O9 hE.out (by decide)
 have tn:(m.no == 0)=false:=wu.out
 by_cases c1:m.kind=1
 case neg =>
  have t1:(m.kind == 1)=false:=by simpa using c1
  have rH:(m.kind != 1)=true:=by simpa using c1
  have hE:Hid (aS S cu cg dir nm=9):=by show _=_;rw[hm.out,if_neg (by decide),if_pos c1]
  clear hm c1;go_wp2_with (refine ap rfl _ _ rfl (w.heap.size+1) aa none 0 rfl rfl R3 ?_;intro w9 R9 O9);refine bodyPost_ret (v:=.tuple #[.agg #[aa.no,aa.dev,aa.kind,aa.mode,aa.uid,aa.gid,aa.mtime,aa.ctime,aa.ag,aa.up,bs aa.data,.slice none aa.af.length 0],.int .i64 9]) (cr Tryz.results165 _ _ (w.heap.size+1) aa none 0 _ rfl rfl R9) rfl ?_;exact HS.out _ _ _ E3 O9 hE.out (by decide)
 have t1:(m.kind == 1)=true:=by simpa using c1
 have rH:(m.kind != 1)=false:=by simpa using c1
 have XF:Hid (aS S cu cg dir nm=if ¬bX nm=0 then bX nm else if dX cu cg m.uid m.gid m.mode 3=false then 6 else 0):=by show _=_;rw[hm.out,if_neg (by decide),if_neg (by simpa using c1)]
 clear hm c1;go_wp2_with fail;refine (AU nm _ jA).mono ?_;rintro e w4 ⟨rfl,b4⟩;have R4:=R3.ext b4;have N4:=N3.ext b4;have C4:=C3.ext b4;have E4:=E3.trans b4;have qy:=nj.ext b4;obtain⟨v,hv⟩:=zE (bX nm);rw [<-hv]at XF|-;clear hv k0' Dk kz R3 N3 C3
 by_cases pL:v=0
 case neg =>
  have tv:(v == 0)=false:=by simpa using pL
  have tvb:(v != 0)=true:=by simpa using pL
  have hE:Hid (aS S cu cg dir nm=v):=by show _=_;rw[XF.out,if_pos pL]
  have LR:=zH pL;clear XF pL;go_wp2_with (refine ap rfl _ _ rfl (w.heap.size+1) aa none 0 rfl rfl R4 ?_;intro w9 R9 O9);refine bodyPost_ret (v:=.tuple #[.agg #[aa.no,aa.dev,aa.kind,aa.mode,aa.uid,aa.gid,aa.mtime,aa.ctime,aa.ag,aa.up,bs aa.data,.slice none aa.af.length 0],.int .i64 v]) (cr Tryz.results165 _ _ (w.heap.size+1) aa none 0 _ rfl rfl R9) rfl ?_;exact HS.out _ _ _ E4 O9 hE.out LR.out
 have tv:(v == 0)=true:=by simpa using pL
 have tvb:(v != 0)=false:=by simpa using pL
 obtain⟨u,wg⟩:=zE (dX cu cg m.uid m.gid m.mode 3);have k7:Hid (aS S cu cg dir nm=if u=false then 6 else 0):=by show _=_;rw[XF.out,if_neg (by simpa using pL),wg]
 have HU:=zH wg;have x0:w4.cell? ⟨w.heap.size,0,none⟩=some (.int .i64 cu):=C4.cell 0;have x1:w4.cell? ⟨w.heap.size,1,none⟩=some (.int .i64 cg):=C4.cell 1;have xz:=C4.lt;clear XF wg pL;go_wp2_with (refine aw rfl _ rfl b8 m A2 k2 rfl N4 ?_);refine (rN cu cg _ _ _ m.mode m.uid m.gid _ _ _ _ _ _ 3 _).mono ?_;rw [<-HU.out];rintro e w5 ⟨rfl,b5⟩;have R5:=R4.ext b5;have N5:=N4.ext b5;have E5:=E4.trans b5;clear x0 x1 xz R4 N4
 cases u
 ·have hE:Hid (aS S cu cg dir nm=6):=by show _=_;rw[k7.out];rfl
  clear k7;go_wp2_with (refine ap rfl _ _ rfl (w.heap.size+1) aa none 0 rfl rfl R5 ?_;intro w9 R9 O9);refine bodyPost_ret (v:=.tuple #[.agg #[aa.no,aa.dev,aa.kind,aa.mode,aa.uid,aa.gid,aa.mtime,aa.ctime,aa.ag,aa.up,bs aa.data,.slice none aa.af.length 0],.int .i64 6]) (cr Tryz.results165 _ _ (w.heap.size+1) aa none 0 _ rfl rfl R9) rfl ?_;exact HS.out _ _ _ E5 O9 hE.out (by decide)
 ·have hE:Hid (aS S cu cg dir nm=0):=by show _=_;rw[k7.out];rfl
  have hN:Hid (cV S cu cg dir nm=m):=by show _=_;rw[bU.out,hE.out];rfl
  clear k7;go_wp2_with (first|(refine aw rfl _ rfl b8 m A2 k2 rfl N5 ?_)|(refine ap rfl _ _ rfl (w.heap.size+1) m A2 k2 rfl rfl R5 ?_;intro w6 R6 O6));refine bodyPost_ret (v:=.tuple #[.agg #[m.no,m.dev,m.kind,m.mode,m.uid,m.gid,m.mtime,m.ctime,m.ag,m.up,bs m.data,.slice A2 m.af.length k2],.int .i64 0]) (cr Tryz.results165 _ _ (w.heap.size+1) m A2 k2 _ rfl rfl R6) rfl ?_;have rT:az w6 B m A2 k2:=((qy.ext b5).only O6 (by
   intro b hb;rw [List.mem_singleton]at hb;subst hb;exact ⟨by have:=h0.1;have:=h0.lt.1;omega,R5.fJ (by decide)⟩))
  exact ⟨A2,k2,by rw[hE.out,hN.out],by rw[hN.out];exact rT,O6.after E5 (by simp)⟩
def Dv (w:World) (B:Nat) (g:cI) (T:ae) (X:cP) (a x:Int) (e:Ending) (w':World):Prop:=e=.returned (.tuple #[.int .i64 a,.int .i64 x])/\∃g2,gR w' B g2 T X/\Only g.list w w'/\cI.on g2 g w
theorem LS {w w':World} {B:Nat} {g:cI} {S:ae} {X:cP} {cu cg dir x:Int} {nm:List UInt8} {n:ai} (h:gR w B g S X) (hE:Ext w w') (hx:cC S cu cg X.now dir nm n=x) (h0:x≠0):Dv w B g (bV S cu cg X.now dir nm n) X (dD S cu cg X.now dir nm n) (cC S cu cg X.now dir nm n) (.returned (.tuple #[.int .i64 0,.int .i64 x])) w':=by
 refine ⟨?_,g,?_,Only.ax hE,cI.fq _ _⟩
 ·unfold dD;rw[hx,if_neg h0]
 ·unfold bV;rw[hx,if_neg h0];exact h.ext hE
theorem rX (B:Nat) (g:cI) (S:ae) (X:cP) (cu cg dir:Int) (nm:List UInt8) (n:ai) (A:Option Addr) (c:Nat) (w:World) (h:gR w B g S X) (O:Ok S) (iE:S.last<=100000) (hn:az w B n A c) (lr:n.data.length<=1000000000) (jA:nm.length<=1000000) :
  Calls Tryz.prog 164 #[.pointer (some ⟨g.bF,0,none⟩),.agg #[cu,cg],.int .i64 dir,bs nm,.agg #[n.no,n.dev,n.kind,n.mode,n.uid,n.gid,n.mtime,n.ctime,n.ag,n.up,bs n.data,.slice A n.af.length c]] w (Dv w B g (bV S cu cg X.now dir nm n) X (dD S cu cg X.now dir nm n) (cC S cu cg X.now dir nm n)):=by
 obtain⟨W0,aH⟩:=zE ((w.alloc (.cells #[cu,cg] 27)).alloc (.cells #[n.no,n.dev,n.kind,n.mode,n.uid,n.gid,n.mtime,n.ctime,n.ag,n.up,bs n.data,.slice A n.af.length c] 66));have E0:Ext w W0:=by rw[aH];exact ((Ext.refl _).alloc _).alloc _
 obtain ⟨b7,sP⟩:∃b,b=w.heap.size:=⟨_,rfl⟩;have C0:Has W0 b7 (.cells #[cu,cg] 27):=by rw[aH,sP];exact (Has.new w _).alloc _
 have N0:Has W0 (b7+1) (.cells #[n.no,n.dev,n.kind,n.mode,n.uid,n.gid,n.mtime,n.ctime,n.ag,n.up,bs n.data,.slice A n.af.length c] 66):=by
  rw [aH,sP];have:=Has.new (w.alloc (.cells #[cu,cg] 27)) (.cells #[n.no,n.dev,n.kind,n.mode,n.uid,n.gid,n.mtime,n.ctime,n.ag,n.up,bs n.data,.slice A n.af.length c] 66)
  rwa [World.size_alloc]at this
 have aaG:w.heap.size+2<=W0.heap.size:=by rw[aH];simp
 have HO:=zH O;have aaT:=O.live.count;have hcl:S.nodes.length<=100000:=by omega
 have P_:=zH hcl;have hm:Hid (cC S cu cg X.now dir nm n=if ¬aS S cu cg dir nm=0 then aS S cu cg dir nm else if ¬aK (ac S.nodes dir).af nm=0 then 7 else eY S (bZ S cu cg X.now dir n)):=by show _=_;rfl
 have hp:Hid (aS S cu cg dir nm=0->cV S cu cg dir nm=ac S.nodes dir/\aJ S.nodes dir=true):=fun h0=>⟨jZ h0,(aT h0).1⟩
 obtain⟨now,AV⟩:=zE X.now;have HS:Hid (∀(w':World) (x:Int),Ext w w'->cC S cu cg now dir nm n=x->x≠0->Dv w B g (bV S cu cg now dir nm n) X (dD S cu cg now dir nm n) (cC S cu cg now dir nm n) (.returned (.tuple #[.int .i64 0,.int .i64 x])) w'):=by
  show ∀(w':World) (x:Int),_;rw [AV];exact fun w' x hE hx h0=>LS h hE hx h0
 rw [<-AV]at hm|-;have XG:=zH AV;have lD:=zH E0;clear O aaT hcl AV;go_enter Tryz.func164,Tryz.ntmps164;go_upto_region 1 with fail;rw [<-aH];rw [<-sP];have aaH:b7<=w.heap.size:=by omega
 have Xj:w.heap.size<=b7:=by omega
 clear aH sP;have x0:W0.cell? ⟨b7,0,none⟩=some (.int .i64 cu):=C0.cell 0;have x1:W0.cell? ⟨b7,1,none⟩=some (.int .i64 cg):=C0.cell 1;have xz:=C0.lt;go_wp2_with fail;refine (uQ B g S X cu cg dir nm _ (h.ext E0) (by have:=P_.out;omega) HO.out.live.bc jA).mono ?_;rintro e w2 ⟨A2,k2,rfl,gv,b2⟩;obtain⟨m,hmm⟩:=zE (cV S cu cg dir nm);obtain⟨x,hx⟩:=zE (aS S cu cg dir nm);rw [<-hmm]at gv hp;rw [<-hx]at hm hp;rw [<-hmm,<-hx];obtain⟨W3,cj⟩:=zE (w2.alloc (.cells #[m.no,m.dev,m.kind,m.mode,m.uid,m.gid,m.mtime,m.ctime,m.ag,m.up,bs m.data,.slice A2 m.af.length k2] 66));obtain ⟨lW,nU⟩:∃b,b=w2.heap.size:=⟨_,rfl⟩;have h_:Ext w2 W3:=by rw[cj];exact (Ext.refl _).alloc _
 have M3:Has W3 lW (.cells #[m.no,m.dev,m.kind,m.mode,m.uid,m.gid,m.mtime,m.ctime,m.ag,m.up,bs m.data,.slice A2 m.af.length k2] 66):=by rw[cj,nU];exact Has.new _ _
 have mR:Ext W0 W3:=b2.trans h_;have C3:=C0.ext mR;have N3:=N0.ext mR;have nj:=gv.ext h_;have Sa:W0.heap.size<=lW:=by rw[nU];exact b2.size
 clear x0 x1 xz hmm hx C0 N0;go_upto_region 2 with fail;rw [<-cj];rw [<-nU];clear cj nU
 by_cases aV:x=0
 case neg =>
  have t0:(x == 0)=false:=by simpa using aV
  have mB:(x != 0)=true:=by simpa using aV
  have hE:Hid (cC S cu cg now dir nm n=x):=by show _=_;rw[hm.out,if_pos aV]
  have HX:=zH aV;clear hm aV;go_wp2_with fail;go_ret2;exact HS.out _ _ (lD.out.trans mR) hE.out HX.out
 have t0:(x == 0)=true:=by simpa using aV
 have mB:(x != 0)=false:=by simpa using aV
 obtain ⟨mW,hid⟩:=hp.out aV;have bU:Hid (cC S cu cg now dir nm n=if ¬aK m.af nm=0 then 7 else eY S (bZ S cu cg now dir n)):=by show _=_;rw[hm.out,if_neg (by simpa using aV),<-mW]
 have zC:=zH mW;have HID:=zH hid;have hen:=HO.out.aY dir;rw [<-mW]at hen;have sQ:=zH hen;have zG:W3.cell? ⟨lW,11,none⟩=some (.slice A2 m.af.length k2):=M3.cell 11;have kz:=M3.lt;clear hm hp aV mW hid hen;go_wp2_with fail;refine (oJ A2 m.af k2 nm _ nj.af.af (by have:=sQ.out.2;omega)).mono ?_;rintro e w4 ⟨rfl,b4⟩;obtain⟨v,hv⟩:=zE (aK m.af nm);rw [<-hv]at bU;rw [<-hv];have C4:=C3.ext b4;have N4:=N3.ext b4;have M4:=M3.ext b4;have qy:=nj.ext b4;have E4:=mR.trans b4;clear hv zG kz C3 N3 M3 nj mR b4
 by_cases pL:v=0
 case neg =>
  have t1:(v == 0)=false:=by simpa using pL
  have rH:(v != 0)=true:=by simpa using pL
  have hE:Hid (cC S cu cg now dir nm n=7):=by show _=_;rw[bU.out,if_pos pL]
  clear bU pL;go_wp2_with fail;go_ret2;exact HS.out _ _ (lD.out.trans E4) hE.out (by decide)
 have t1:(v == 0)=true:=by simpa using pL
 have rH:(v != 0)=false:=by simpa using pL
 have k7:Hid (cC S cu cg now dir nm n=eY S (bZ S cu cg now dir n)):=by show _=_;rw[bU.out,if_neg (by simpa using pL)]
 clear bU pL;go_upto_region 6 with fail;obtain ⟨dK,iQ⟩:∃b,b=b7+1:=⟨_,rfl⟩;rw [<-iQ]at N4|-;have Xk:dK<=b7+1:=by omega
 have Xl:b7+1<=dK:=by omega
 clear iQ;have Sb:=h.lt;have s0:=E0.size;have GX:lW≠dK:=by have:=b2.size;omega
 have tf:b7≠dK:=by omega
 have acs:g.bF≠dK:=by omega
 have Xi:(dK=g.bF)=False:=eq_false (by omega);have LA:(g.bF=dK)=False:=eq_false (by omega);have n1:(dK=lW)=False:=eq_false (Ne.symm GX);have n2:(lW=dK)=False:=eq_false GX;have n3:(dK=b7)=False:=eq_false (Ne.symm tf);have n4:(b7=dK)=False:=eq_false tf;have LB:Ext w w4:=lD.out.trans E4;have u1:w4.cell? ⟨lW,1,none⟩=some (.int .i64 m.dev):=M4.cell 1;have u2:w4.cell? ⟨b7,0,none⟩=some (.int .i64 cu):=C4.cell 0;have u3:w4.cell? ⟨b7,1,none⟩=some (.int .i64 cg):=C4.cell 1;have u4:w4.cell? ⟨g.bF,3,none⟩=some (.int .i64 now):=by rw[XG.out];obtain⟨_,_,_,k,_⟩:=h.ext LB;exact k.cell 3
 have f1:w4.cell? ⟨dK,1,none⟩=some (.int .i64 n.dev):=N4.cell 1;have f4:w4.cell? ⟨dK,4,none⟩=some (.int .i64 n.uid):=N4.cell 4;have f5:w4.cell? ⟨dK,5,none⟩=some (.int .i64 n.gid):=N4.cell 5;have f6:w4.cell? ⟨dK,6,none⟩=some (.int .i64 n.mtime):=N4.cell 6;have f7:w4.cell? ⟨dK,7,none⟩=some (.int .i64 n.ctime):=N4.cell 7;have f8:w4.cell? ⟨dK,8,none⟩=some (.int .i64 n.ag):=N4.cell 8;have yf:∀i,w4.frozen? ⟨dK,i,none⟩=false:=fun i=>(N4.free i).trans (by simp)
 have z1:=M4.lt;have z2:=C4.lt;have z3:=N4.lt;have z4:=(h.ext LB).lt.1;go_upto_region 12 with fail;obtain⟨V,hV⟩:=zE ((((((w4.setCell ⟨dK,1,none⟩ (.int .i64 m.dev)).setCell ⟨dK,4,none⟩ (.int .i64 cu)).setCell ⟨dK,5,none⟩ (.int .i64 cg)).setCell ⟨dK,6,none⟩ (.int .i64 now)).setCell ⟨dK,7,none⟩ (.int .i64 now)).setCell ⟨dK,8,none⟩ (.int .i64 1));rw [<-hV];have N5:Has V dK (.cells #[.int .i64 ((bZ S cu cg now dir n)).no,.int .i64 ((bZ S cu cg now dir n)).dev,.int .i64 ((bZ S cu cg now dir n)).kind,.int .i64 ((bZ S cu cg now dir n)).mode,.int .i64 ((bZ S cu cg now dir n)).uid,.int .i64 ((bZ S cu cg now dir n)).gid,.int .i64 ((bZ S cu cg now dir n)).mtime,.int .i64 ((bZ S cu cg now dir n)).ctime,.int .i64 ((bZ S cu cg now dir n)).ag,.int .i64 ((bZ S cu cg now dir n)).up,.string (bs ((bZ S cu cg now dir n)).data),.slice A ((bZ S cu cg now dir n)).af.length c] 66):=by
  rw [hV];have:=(((((N4.setCell 1 (.int .i64 m.dev)).setCell 4 (.int .i64 cu)).setCell 5 (.int .i64 cg)).setCell 6 (.int .i64 now)).setCell 7 (.int .i64 now)).setCell 8 (.int .i64 1);rw [zC.out]at this|-;exact this
 have O5:Only [dK] w4 V:=by
  rw [hV];exact (((((Only.setCell _ _ _ _).then (Only.setCell _ _ _ _)).then (Only.setCell _ _ _ _)).then (Only.setCell _ _ _ _)).then (Only.setCell _ _ _ _)).then (Only.setCell _ _ _ _)
 clear hV u1 u2 u3 u4 f1 f4 f5 f6 f7 f8 yf z1 z2 z3 z4 Xi LA n1 n2 n3 n4;obtain⟨n',hn'⟩:=zE (bZ S cu cg now dir n);rw [<-hn']at N5 k7;have AF:n'.data=n.data:=by rw[hn'];rfl
 have rV:n'.af=n.af:=by rw[hn'];rfl
 have CB:=zH hn';have HDN:=zH AF;have Tu:db w4 B [dK]:=by
  intro b hb;rw [List.mem_singleton]at hb;subst hb;exact ⟨by have:=h.1;omega,N4.fJ (by decide)⟩
 have Gs:∀b∈g.list,b∉[dK]:=by
  intro b hb;simp only[cI.list,List.mem_cons,List.not_mem_nil,or_false]at hb;rw [List.mem_singleton];rcases hb with rfl|rfl|rfl<;>omega
 have F5:gR V B g S X:=(h.ext LB).only O5 Tu Gs;have uI:az V B n' A c:=((hn.ext LB).only O5 Tu).same rV;have yH:=qy.only O5 Tu;have M5:=O5.has M4 (by simpa using GX);have Ow5:Only g.list w V:=(Only.ax LB).trans O5 (by intro b hb;rw[List.mem_singleton]at hb;right;omega);have E5:Ext w V:=O5.after LB (by intro b hb;rw[List.mem_singleton]at hb;omega);clear hn' AF rV;go_wp2_with (refine aw rfl _ rfl dK n' A c rfl N5 ?_);refine (Gu B g S X n' A c _ F5 P_.out uI HO.out.live.roots HO.out.live.eight HO.out.live.bc (by have:=HO.out.live.last;omega) (by omega) (by rw[HDN.out];exact lr)).mono ?_;rintro e w6 ⟨rfl,bN,F6,O6,hbN⟩;obtain⟨e6,LC⟩:=zE (eY S n');have aW:eY S n'=0->mP S n'=S.last+1:=fun h0=>by unfold mP;rw[if_pos h0]
 obtain⟨no,ry⟩:=zE (mP S n');rw [<-LC,<-ry]at aW;rw [<-LC]at k7;rw [<-LC,<-ry];have w_:=zH aW;have OH:=zH LC;have M6:=O6.has M5 (by simp only[cI.list,List.mem_cons,List.not_mem_nil,or_false];omega);have rT:=yH.only O6 F5.apart;have Xm:=Ow5.then O6;have XH:bN=g.bN\/w.heap.size<=bN:=by rcases hbN with h|h;exact .inl h;exact .inr (by have:=E5.size;omega)
 have Xf:cI.on ⟨g.bF,bN,g.bE⟩ g w:=⟨rfl,by
  intro b hb;simp only[cI.list,List.mem_cons,List.not_mem_nil,or_false]at hb|-;rcases hb with rfl|rfl|rfl
  ·exact .inl (.inl rfl)
  ·rcases XH with h|h
   ·exact .inl (.inr (.inl h))
   ·exact .inr h
  ·exact .inl (.inr (.inr rfl))⟩
 have OO:=zH Xf;clear aW ry LC hbN XH Xf
 by_cases hz:e6=0
 case neg =>
  have t2:(e6 == 0)=false:=by simpa using hz
  have OG:(e6 != 0)=true:=by simpa using hz
  have HZ:=zH hz;clear hz;go_wp2_with fail;go_ret2;have e1:cC S cu cg now dir nm n=e6:=k7.out;have e2:dD S cu cg now dir nm n=0:=by unfold dD;rw[if_neg (by rw[e1];exact HZ.out)]
  have e3:bV S cu cg now dir nm n=S:=by unfold bV;rw[if_neg (by rw[e1];exact HZ.out)]
  have e4:bB S n'=S:=by unfold bB;rw[if_neg (by rw[<-OH.out];exact HZ.out)]
  rw [e4]at F6;exact ⟨by rw[e1,e2];rfl,⟨g.bF,bN,g.bE⟩,by rw[e3];exact F6,Xm,OO.out⟩
 have t2:(e6 == 0)=true:=by simpa using hz
 have OG:(e6 != 0)=false:=by simpa using hz
 have HZ:=zH hz;have zG:w6.cell? ⟨lW,11,none⟩=some (.slice A2 m.af.length k2):=M6.cell 11;have kz:=M6.lt;clear hz;go_wp2_with fail;refine (Ag A2 m.af k2 (nm,no) _ rT.af.af (by have:=sQ.out.2;omega)).mono ?_;rintro e w7 ⟨v7,rfl,hown,Xn⟩;obtain ⟨A7,c7,rfl,q1,q2,q3,q4⟩:=hown.zY (B:=B);obtain⟨T,hT⟩:=zE (bB S n');rw [<-hT]at F6;have Tv:aD T.nodes T.last:=by rw[hT];exact qA HO.out.live _
 have Qa:T.nodes.length<=1000000:=by
  rw [hT];unfold bB;have:=P_.out;split
  ·simp;omega
  ·omega
 obtain ⟨L7,OI⟩:∃L,L=en m.af (nm,no):=⟨_,rfl⟩;rw [<-OI]at q1 q3|-;have Tw:Hid (Calls Tryz.prog 166 #[.pointer (some ⟨g.bF,0,none⟩),.int .i64 dir,.slice A7 L7.length c7] w7 (Dl w7 B ⟨g.bF,bN,g.bE⟩ (bR T dir X.now L7) X)):=uG B ⟨g.bF,bN,g.bE⟩ T X dir A7 L7 c7 w7 (F6.ext Xn) Qa Tv q3 q1 q2 q4;have HT:=zH hT;have Xo:=zH OI;clear zG kz hown q1 q2 q3 q4 hT OI;go_wp2_with fail;refine Tw.out.mono ?_;rintro e w8 ⟨rfl,K8,O8⟩;go_wp2_with fail;go_ret2;have e1:cC S cu cg now dir nm n=0:=by rw[k7.out];exact HZ.out
 have e2:dD S cu cg now dir nm n=no:=by unfold dD;rw[if_pos e1];exact (w_.out HZ.out).symm
 have e3:bV S cu cg now dir nm n=bR T dir X.now L7:=by
  unfold bV;rw [if_pos e1,HT.out,Xo.out,<-CB.out,zC.out,w_.out HZ.out,XG.out]
 refine ⟨by rw[e1,e2];rfl,⟨g.bF,bN,g.bE⟩,by rw[e3];exact K8,(Xm.ext Xn).trans O8 (fun b hb=>OO.out.2 b hb),OO.out⟩
theorem cI.Qb {w w0:World} {g2 g:cI} (h:cI.on g2 g w0) (E:Ext w w0):cI.on g2 g w:=⟨h.1,fun b hb=>by rcases h.2 b hb with k|k;exact .inl k;exact .inr (by have:=E.size;omega)⟩
theorem yR {w w':World} {B:Nat} {g:cI} {S T:ae} {X:cP} {p a x:Int} (h:gR w B g S X) (hE:Ext w w') (hp:p≠0):Dv w B g (fc p S T) X (js p a) (iw p x) (.returned (.tuple #[.int .i64 0,.int .i64 p])) w':=
 ⟨by unfold js iw;rw[if_pos hp,if_pos hp],g,by unfold fc;rw[if_pos hp];exact h.ext hE,Only.ax hE,cI.fq _ _⟩
theorem Dw {w w0 w':World} {B:Nat} {g:cI} {S T:ae} {X:cP} {p a x:Int} {e:Ending} (E:Ext w w0) (h:Dv w0 B g T X a x e w') (h0:p=0):e=.returned (.tuple #[.int .i64 a,.int .i64 x])/\Dv w B g (fc p S T) X (js p a) (iw p x) e w':=by
 obtain ⟨he,g2,hK,hO,hn⟩:=h;have n0:¬(p≠0):=fun x=>x h0
 exact ⟨he,by unfold js iw;rw[if_neg n0,if_neg n0];exact he,g2,by unfold fc;rw[if_neg n0];exact hK,Only.pre E hO,cI.Qb hn E⟩
theorem LU (B:Nat) (g:cI) (S:ae) (X:cP) (cu cg dir:Int) (nm:List UInt8) (mode:Int) (w:World) (h:gR w B g S X) (O:Ok S) (iE:S.last<=100000) (jA:nm.length<=1000000) :
  Calls Tryz.prog 122 #[.pointer (some ⟨g.bF,0,none⟩),.agg #[cu,cg],.int .i64 dir,bs nm,.int .i64 mode] w
   (Dv w B g (fc (mH mode) S (bV S cu cg X.now dir nm (dY mode dir))) X (js (mH mode) (dD S cu cg X.now dir nm (dY mode dir))) (iw (mH mode) (cC S cu cg X.now dir nm (dY mode dir)))):=by
 obtain⟨W0,aH⟩:=zE (w.alloc (.cells #[cu,cg] 27));have E0:Ext w W0:=by rw[aH];exact (Ext.refl _).alloc _
 have C0:Has W0 w.heap.size (.cells #[cu,cg] 27):=by rw[aH];exact Has.new w _
 have x0:W0.cell? ⟨w.heap.size,0,none⟩=some (.int .i64 cu):=C0.cell 0;have x1:W0.cell? ⟨w.heap.size,1,none⟩=some (.int .i64 cg):=C0.cell 1;have xz:=C0.lt;obtain⟨p,hp⟩:=zE (mH mode);obtain⟨T,hT⟩:=zE (bV S cu cg X.now dir nm (dY mode dir));obtain⟨a,ha⟩:=zE (dD S cu cg X.now dir nm (dY mode dir));obtain⟨x,hx⟩:=zE (cC S cu cg X.now dir nm (dY mode dir));have HS:Hid (∀(w':World) (y:Int),Ext w w'->p=y->y≠0->Dv w B g (fc p S T) X (js p a) (iw p x) (.returned (.tuple #[.int .i64 0,.int .i64 y])) w'):=by
  show ∀(w':World) (y:Int),_;intro w' y hE hy h0;subst hy;exact yR h hE h0
 have KP:Hid (∀w1,Ext w w1->Calls Tryz.prog 164 #[.pointer (some ⟨g.bF,0,none⟩),.agg #[cu,cg],.int .i64 dir,bs nm,.agg #[.int .i64 ((dY mode dir)).no,.int .i64 ((dY mode dir)).dev,.int .i64 ((dY mode dir)).kind,.int .i64 ((dY mode dir)).mode,.int .i64 ((dY mode dir)).uid,.int .i64 ((dY mode dir)).gid,.int .i64 ((dY mode dir)).mtime,.int .i64 ((dY mode dir)).ctime,.int .i64 ((dY mode dir)).ag,.int .i64 ((dY mode dir)).up,.string (bs ((dY mode dir)).data),.slice none ((dY mode dir)).af.length 0]] w1 (Dv w1 B g T X a x)):=by
  show ∀w1,_;intro w1 hE;rw [hT,ha,hx];refine rX B g S X cu cg dir nm (dY mode dir) none 0 w1 (h.ext hE) O iE ⟨.nil _ _ _,Nat.le_refl _,Nat.zero_le _,fun _=>rfl⟩ ?_ jA;simp [dY,aa]
 rw [<-hp,<-hT,<-ha,<-hx];have HP:=zH hp;have lD:=zH E0;have Sb:=zH h;clear O hp E0 C0 hT ha hx;go_enter Tryz.func122,Tryz.ntmps122;go_upto_region 1 with fail;rw [<-aH];clear aH
 by_cases c1:mode<0
 ·have t1:decide (mode<0)=true:=decide_eq_true c1
  have hE:Hid (p=1):=by show _=_;rw[HP.out];unfold mH;rw[if_pos (.inl c1)]
  go_wp2_with fail;go_ret2;exact HS.out _ _ lD.out hE.out (by decide)
 have t1:decide (mode<0)=false:=decide_eq_false c1
 by_cases c2:1023<mode
 ·have t2:decide (1023<mode)=true:=decide_eq_true c2
  have hE:Hid (p=1):=by show _=_;rw[HP.out];unfold mH;rw[if_pos (.inr c2)]
  go_wp2_with fail;go_ret2;exact HS.out _ _ lD.out hE.out (by decide)
 have t2:decide (1023<mode)=false:=decide_eq_false c2;have hE:Hid (p=0):=by show _=_;rw[HP.out];unfold mH;rw[if_neg (by omega)]
 go_wp2_with fail;refine (KP.out _ lD.out).mono ?_;rintro e w2 hr;obtain ⟨rfl,hD⟩:=Dw (S:=S) lD.out hr hE.out;clear hr;go_wp2_with fail;go_ret2;exact hD
theorem Hd (B:Nat) (g:cI) (S:ae) (X:cP) (cu cg dir:Int) (nm:List UInt8) (mode:Int) (data:List UInt8) (w:World) (h:gR w B g S X) (O:Ok S) (iE:S.last<=100000) (jA:nm.length<=1000000) (hd:data.length<=1000000000) :
  Calls Tryz.prog 124 #[.pointer (some ⟨g.bF,0,none⟩),.agg #[cu,cg],.int .i64 dir,bs nm,.int .i64 mode,bs data] w
   (Dv w B g (fc (ik mode data.length) S (bV S cu cg X.now dir nm (cG mode data))) X (js (ik mode data.length) (dD S cu cg X.now dir nm (cG mode data))) (iw (ik mode data.length) (cC S cu cg X.now dir nm (cG mode data)))):=by
 obtain⟨W0,aH⟩:=zE (w.alloc (.cells #[cu,cg] 27));have E0:Ext w W0:=by rw[aH];exact (Ext.refl _).alloc _
 have C0:Has W0 w.heap.size (.cells #[cu,cg] 27):=by rw[aH];exact Has.new w _
 have x0:W0.cell? ⟨w.heap.size,0,none⟩=some (.int .i64 cu):=C0.cell 0;have x1:W0.cell? ⟨w.heap.size,1,none⟩=some (.int .i64 cg):=C0.cell 1;have xz:=C0.lt;obtain⟨p,hp⟩:=zE (ik mode data.length);obtain⟨T,hT⟩:=zE (bV S cu cg X.now dir nm (cG mode data));obtain⟨a,ha⟩:=zE (dD S cu cg X.now dir nm (cG mode data));obtain⟨x,hx⟩:=zE (cC S cu cg X.now dir nm (cG mode data));have HS:Hid (∀(w':World) (y:Int),Ext w w'->p=y->y≠0->Dv w B g (fc p S T) X (js p a) (iw p x) (.returned (.tuple #[.int .i64 0,.int .i64 y])) w'):=by
  show ∀(w':World) (y:Int),_;intro w' y hE hy h0;subst hy;exact yR h hE h0
 have KP:Hid (∀w1,Ext w w1->Calls Tryz.prog 164 #[.pointer (some ⟨g.bF,0,none⟩),.agg #[cu,cg],.int .i64 dir,bs nm,.agg #[.int .i64 ((cG mode data)).no,.int .i64 ((cG mode data)).dev,.int .i64 ((cG mode data)).kind,.int .i64 ((cG mode data)).mode,.int .i64 ((cG mode data)).uid,.int .i64 ((cG mode data)).gid,.int .i64 ((cG mode data)).mtime,.int .i64 ((cG mode data)).ctime,.int .i64 ((cG mode data)).ag,.int .i64 ((cG mode data)).up,.string (bs ((cG mode data)).data),.slice none ((cG mode data)).af.length 0]] w1 (Dv w1 B g T X a x)):=by
  show ∀w1,_;intro w1 hE;rw [hT,ha,hx];refine rX B g S X cu cg dir nm (cG mode data) none 0 w1 (h.ext hE) O iE ⟨.nil _ _ _,Nat.le_refl _,Nat.zero_le _,fun _=>rfl⟩ ?_ jA;exact hd
 rw [<-hp,<-hT,<-ha,<-hx];have HP:=zH hp;have lD:=zH E0;have Sb:=zH h;clear O hp E0 C0 hT ha hx;go_enter Tryz.func124,Tryz.ntmps124;go_upto_region 1 with fail;rw [<-aH];clear aH;have hsz:((bs data).size:Int)=data.length:=by rw[bi]
 by_cases c1:mode<0
 ·have t1:decide (mode<0)=true:=decide_eq_true c1
  have hE:Hid (p=1):=by show _=_;rw[HP.out];unfold ik;rw[if_pos (.inl c1)]
  go_wp2_with fail;go_ret2;exact HS.out _ _ lD.out hE.out (by decide)
 have t1:decide (mode<0)=false:=decide_eq_false c1
 by_cases c2:1023<mode
 ·have t2:decide (1023<mode)=true:=decide_eq_true c2
  have hE:Hid (p=1):=by show _=_;rw[HP.out];unfold ik;rw[if_pos (.inr c2)]
  go_wp2_with fail;go_ret2;exact HS.out _ _ lD.out hE.out (by decide)
 have t2:decide (1023<mode)=false:=decide_eq_false c2
 by_cases c3:(1048576:Int)<data.length
 ·have t3:decide ((1048576:Int)<(data.length:Int))=true:=decide_eq_true c3
  have hE:Hid (p=3):=by show _=_;rw[HP.out];unfold ik;rw[if_neg (by omega),if_pos c3]
  go_wp2_with fail;go_ret2;exact HS.out _ _ lD.out hE.out (by decide)
 have t3:decide ((1048576:Int)<(data.length:Int))=false:=decide_eq_false c3;have hE:Hid (p=0):=by show _=_;rw[HP.out];unfold ik;rw[if_neg (by omega),if_neg c3]
 go_wp2_with fail;refine (KP.out _ lD.out).mono ?_;rintro e w2 hr;obtain ⟨rfl,hD⟩:=Dw (S:=S) lD.out hr hE.out;clear hr;go_wp2_with fail;go_ret2;exact hD
theorem LV (B:Nat) (g:cI) (S:ae) (X:cP) (cu cg dir:Int) (nm:List UInt8) (text:List UInt8) (w:World) (h:gR w B g S X) (O:Ok S) (iE:S.last<=100000) (jA:nm.length<=1000000) (hd:text.length<=1000000) :
  Calls Tryz.prog 125 #[.pointer (some ⟨g.bF,0,none⟩),.agg #[cu,cg],.int .i64 dir,bs nm,bs text] w
   (Dv w B g (fc (k_ text) S (bV S cu cg X.now dir nm (eC text))) X (js (k_ text) (dD S cu cg X.now dir nm (eC text))) (iw (k_ text) (cC S cu cg X.now dir nm (eC text)))):=by
 obtain⟨W0,aH⟩:=zE (w.alloc (.cells #[cu,cg] 27));have E0:Ext w W0:=by rw[aH];exact (Ext.refl _).alloc _
 have C0:Has W0 w.heap.size (.cells #[cu,cg] 27):=by rw[aH];exact Has.new w _
 have x0:W0.cell? ⟨w.heap.size,0,none⟩=some (.int .i64 cu):=C0.cell 0;have x1:W0.cell? ⟨w.heap.size,1,none⟩=some (.int .i64 cg):=C0.cell 1;have xz:=C0.lt;obtain⟨p,hp⟩:=zE (k_ text);obtain⟨T,hT⟩:=zE (bV S cu cg X.now dir nm (eC text));obtain⟨a,ha⟩:=zE (dD S cu cg X.now dir nm (eC text));obtain⟨x,hx⟩:=zE (cC S cu cg X.now dir nm (eC text));have HS:Hid (∀(w':World) (y:Int),Ext w w'->p=y->y≠0->Dv w B g (fc p S T) X (js p a) (iw p x) (.returned (.tuple #[.int .i64 0,.int .i64 y])) w'):=by
  show ∀(w':World) (y:Int),_;intro w' y hE hy h0;subst hy;exact yR h hE h0
 have KP:Hid (∀w1,Ext w w1->Calls Tryz.prog 164 #[.pointer (some ⟨g.bF,0,none⟩),.agg #[cu,cg],.int .i64 dir,bs nm,.agg #[.int .i64 ((eC text)).no,.int .i64 ((eC text)).dev,.int .i64 ((eC text)).kind,.int .i64 ((eC text)).mode,.int .i64 ((eC text)).uid,.int .i64 ((eC text)).gid,.int .i64 ((eC text)).mtime,.int .i64 ((eC text)).ctime,.int .i64 ((eC text)).ag,.int .i64 ((eC text)).up,.string (bs ((eC text)).data),.slice none ((eC text)).af.length 0]] w1 (Dv w1 B g T X a x)):=by
  show ∀w1,_;intro w1 hE;rw [hT,ha,hx];refine rX B g S X cu cg dir nm (eC text) none 0 w1 (h.ext hE) O iE ⟨.nil _ _ _,Nat.le_refl _,Nat.zero_le _,fun _=>rfl⟩ ?_ jA;show text.length<=_;omega
 rw [<-hp,<-hT,<-ha,<-hx];have HP:=zH hp;have lD:=zH E0;have Sb:=zH h;clear O hp E0 C0 hT ha hx;have hh:Hid (∀w',Calls Tryz.prog 131 #[bs text,.int .u8 0] w' (aI w' (.bool (hasB text 0)))):=by
  show ∀w',_;intro w';have:=gT (bs text) 0 0 rfl (by rw[bi];exact hd) w';rw [mj]at this;exact this
 by_cases c0:text=[]
 ·have hE:Hid (p=1):=by show _=_;rw[HP.out];unfold k_;rw[if_pos (.inl c0)]
  have VX:(bs text).toList.isEmpty=true:=by rw[bk,c0];rfl
  clear c0;go_enter Tryz.func125,Tryz.ntmps125;go_upto_region 1 with fail;rw [<-aH];clear aH;go_wp2_with fail;go_ret2;exact HS.out _ _ lD.out hE.out (by decide)
 have VX:(bs text).toList.isEmpty=false:=by rw[bk,List.isEmpty_eq_false_iff];exact c0
 have hsz:((bs text).size:Int)=text.length:=by rw[bi]
 have Xu:=zH c0;clear c0;go_enter Tryz.func125,Tryz.ntmps125;go_upto_region 1 with fail;rw [<-aH];clear aH;go_wp2_with fail;refine (hh.out _).mono ?_;rintro e w1 ⟨rfl,b1⟩;obtain⟨hb,TB⟩:=zE (hasB text 0);rw [<-TB];have HB:=zH TB;have E1:=lD.out.trans b1;have x0':w1.cell? ⟨w.heap.size,0,none⟩=some (.int .i64 cu):=(b1.cell xz).trans x0;have x1':w1.cell? ⟨w.heap.size,1,none⟩=some (.int .i64 cg):=(b1.cell xz).trans x1;have VY:w.heap.size<w1.heap.size:=by have:=b1.size;omega
 clear x0 x1 xz TB;cases hb
 case true =>
  have hE:Hid (p=1):=by show _=_;rw[HP.out];unfold k_;rw[if_pos (.inr HB.out.symm)]
  go_wp2_with fail;go_ret2;exact HS.out _ _ E1 hE.out (by decide)
 by_cases c1:(4096:Int)<text.length
 ·have t1:decide ((4096:Int)<(text.length:Int))=true:=decide_eq_true c1
  have hE:Hid (p=13):=by show _=_;rw[HP.out];unfold k_;rw[if_neg (by rintro (h'|h');exact Xu.out h';rw[<-HB.out]at h';cases h'),if_pos (by omega)]
  go_wp2_with fail;go_ret2;exact HS.out _ _ E1 hE.out (by decide)
 have t1:decide ((4096:Int)<(text.length:Int))=false:=decide_eq_false c1;have hE:Hid (p=0):=by show _=_;rw[HP.out];unfold k_;rw[if_neg (by rintro (h'|h');exact Xu.out h';rw[<-HB.out]at h';cases h'),if_neg (by omega)]
 go_wp2_with fail;refine (KP.out _ E1).mono ?_;rintro e w2 hr;obtain ⟨rfl,hD⟩:=Dw (S:=S) E1 hr hE.out;clear hr;go_wp2_with fail;go_ret2;exact hD
def ErF (w:World) (B:Nat) (g:cI) (T:ae) (X:cP) (x:Int) (e:Ending) (w':World):Prop:=e=.returned (.int .i64 x)/\∃g2,gR w' B g2 T X/\Only g.list w w'/\cI.on g2 g w
theorem He (B:Nat) (g:cI) (S:ae) (X:cP) (cu cg no dir:Int) (nm:List UInt8) (w:World) (h:gR w B g S X) (O:Ok S) (iE:S.last<=100000) (jA:nm.length<=1000000) :
  Calls Tryz.prog 126 #[.pointer (some ⟨g.bF,0,none⟩),.agg #[cu,cg],.int .i64 no,.int .i64 dir,bs nm] w (ErF w B g (gM S cu cg X.now no dir nm) X (fD S cu cg no dir nm)):=by
 obtain⟨W0,aH⟩:=zE (w.alloc (.cells #[cu,cg] 27));have E0:Ext w W0:=by rw[aH];exact (Ext.refl _).alloc _
 have C0:Has W0 w.heap.size (.cells #[cu,cg] 27):=by rw[aH];exact Has.new w _
 have HO:=zH O;have hcl:S.nodes.length<=100000:=by have:=O.live.count;omega
 have P_:=zH hcl;obtain⟨now,AV⟩:=zE X.now;have hm:Hid (fD S cu cg no dir nm=if ¬aS S cu cg dir nm=0 then aS S cu cg dir nm else if aJ S.nodes no=false then 5 else if (ac S.nodes no).kind=1 then 4
  else if ¬aK (ac S.nodes dir).af nm=0 then 7 else if ¬(ac S.nodes no).dev=(ac S.nodes dir).dev then 11 else if 1000<=(ac S.nodes no).ag then 18 else 0):=by show _=_;rfl
 have hp:Hid (aS S cu cg dir nm=0->cV S cu cg dir nm=ac S.nodes dir/\aJ S.nodes dir=true):=fun h0=>⟨jZ h0,(aT h0).1⟩
 have HS:Hid (∀(w':World) (x:Int),Ext w w'->fD S cu cg no dir nm=x->x≠0->ErF w B g (gM S cu cg now no dir nm) X (fD S cu cg no dir nm) (.returned (.int .i64 x)) w'):=by
  show ∀(w':World) (x:Int),_;intro w' x hE hx h0;rw [hx];refine ⟨rfl,g,?_,Only.ax hE,cI.fq _ _⟩;unfold gM;rw [if_neg (by rw[hx];exact h0)];exact h.ext hE
 have wu:Hid (((ac S.nodes no).no == 0)=!aJ S.nodes no):=by
  refine zH ?_
  cases hi:aJ S.nodes no
  ·rw[(aU hi).1];rfl
  ·have h1:=(O.live.bc.2 _ (ak hi).2.2).1
   simp;omega
 rw [<-AV];have XG:=zH AV;have lD:=zH E0;clear O hcl AV;go_enter Tryz.func126,Tryz.ntmps126;go_upto_region 1 with fail;rw [<-aH];clear aH;have x0:W0.cell? ⟨w.heap.size,0,none⟩=some (.int .i64 cu):=C0.cell 0;have x1:W0.cell? ⟨w.heap.size,1,none⟩=some (.int .i64 cg):=C0.cell 1;have xz:=C0.lt;go_wp2_with fail;refine (uQ B g S X cu cg dir nm _ (h.ext E0) (by have:=P_.out;omega) HO.out.live.bc jA).mono ?_;rintro e w2 ⟨A2,k2,rfl,gv,b2⟩;obtain⟨m,hmm⟩:=zE (cV S cu cg dir nm);obtain⟨x,hx⟩:=zE (aS S cu cg dir nm);rw [<-hmm]at gv hp;rw [<-hx]at hm hp;rw [<-hmm,<-hx];obtain⟨W3,cj⟩:=zE (w2.alloc (.cells #[m.no,m.dev,m.kind,m.mode,m.uid,m.gid,m.mtime,m.ctime,m.ag,m.up,bs m.data,.slice A2 m.af.length k2] 66));obtain ⟨mY,uJ⟩:∃b,b=w2.heap.size:=⟨_,rfl⟩;have h_:Ext w2 W3:=by rw[cj];exact (Ext.refl _).alloc _
 have M3:Has W3 mY (.cells #[m.no,m.dev,m.kind,m.mode,m.uid,m.gid,m.mtime,m.ctime,m.ag,m.up,bs m.data,.slice A2 m.af.length k2] 66):=by rw[cj,uJ];exact Has.new _ _
 have E3:Ext w W3:=E0.trans (b2.trans h_);have nj:=gv.ext h_;have Xp:w.heap.size<=mY:=by rw[uJ];exact (E0.trans b2).size
 clear x0 x1 xz hmm hx C0;go_upto_region 2 with fail;rw [<-cj];rw [<-uJ];clear cj uJ;go_wp2_with fail;refine (eK B g S X no _ (h.ext E3) (by have:=P_.out;omega) HO.out.live.bc).mono ?_;rintro e w4 ⟨A4,k4,rfl,qy,b4⟩;obtain⟨n,hn⟩:=zE (ac S.nodes no);obtain⟨i,hi⟩:=zE (aJ S.nodes no);have hlk:aJ S.nodes no=true->1<=(ac S.nodes no).ag/\(ac S.nodes no).ag<=1000:=fun hi=>HO.out.ag _ (ak hi).2.2
 rw [<-hn,<-hi]at hlk wu;rw [<-hn]at qy hm|-;rw [<-hi]at hm;have HLK:=zH hlk;obtain⟨W5,jJ⟩:=zE (w4.alloc (.cells #[n.no,n.dev,n.kind,n.mode,n.uid,n.gid,n.mtime,n.ctime,n.ag,n.up,bs n.data,.slice A4 n.af.length k4] 66));obtain ⟨nV,rW⟩:∃b,b=w4.heap.size:=⟨_,rfl⟩;have OJ:Ext w4 W5:=by rw[jJ];exact (Ext.refl _).alloc _
 have N5:Has W5 nV (.cells #[n.no,n.dev,n.kind,n.mode,n.uid,n.gid,n.mtime,n.ctime,n.ag,n.up,bs n.data,.slice A4 n.af.length k4] 66):=by rw[jJ,rW];exact Has.new _ _
 have PY:Ext W3 W5:=b4.trans OJ;have M5:=M3.ext PY;have yH:=nj.ext PY;have uI:=qy.ext OJ;have E5:=E3.trans PY;have Xq:W3.heap.size<=nV:=by rw[rW];exact b4.size
 have aaI:mY<nV:=by have:=M3.lt;omega
 have nL:=zH hn;have HI:=zH hi;clear hn hi M3 nj qy E3 hlk;go_upto_region 3 with fail;rw [<-jJ];rw [<-rW];clear jJ rW
 by_cases aV:x=0
 case neg =>
  have t0:(x == 0)=false:=by simpa using aV
  have mB:(x != 0)=true:=by simpa using aV
  have hE:Hid (fD S cu cg no dir nm=x):=by show _=_;rw[hm.out,if_pos aV]
  have HX:=zH aV;clear hm aV;go_wp2_with fail;go_ret;exact HS.out _ _ E5 hE.out HX.out
 have t0:(x == 0)=true:=by simpa using aV
 have mB:(x != 0)=false:=by simpa using aV
 obtain ⟨mW,hid⟩:=hp.out aV;have bU:Hid (fD S cu cg no dir nm=if i=false then 5 else if n.kind=1 then 4 else if ¬aK m.af nm=0 then 7 else if ¬n.dev=m.dev then 11 else if 1000<=n.ag then 18 else 0):=by
  show _=_;rw[hm.out,if_neg (by simpa using aV),<-mW]
 have zC:=zH mW;have hen:=HO.out.aY dir;rw [<-mW]at hen;have sQ:=zH hen;have k0':W5.cell? ⟨nV,0,none⟩=some (.int .i64 n.no):=N5.cell 0;have Dk:W5.cell? ⟨nV,2,none⟩=some (.int .i64 n.kind):=N5.cell 2;have kz:=N5.lt;clear hm hp aV mW hid hen
 cases i
 ·have hE:Hid (fD S cu cg no dir nm=5):=by show _=_;rw[bU.out];rfl
  have tn:(n.no == 0)=true:=wu.out;clear bU;go_wp2_with fail;go_ret;exact HS.out _ _ E5 hE.out (by decide)
 have tn:(n.no == 0)=false:=wu.out
 by_cases c1:n.kind=1
 ·have t1:(n.kind == 1)=true:=by simpa using c1
  have hE:Hid (fD S cu cg no dir nm=4):=by show _=_;rw[bU.out,if_neg (by decide),if_pos c1]
  clear bU;go_wp2_with fail;go_ret;exact HS.out _ _ E5 hE.out (by decide)
 have t1:(n.kind == 1)=false:=by simpa using c1
 have zG:W5.cell? ⟨mY,11,none⟩=some (.slice A2 m.af.length k2):=M5.cell 11;have kz2:=M5.lt;have AG:=zH c1;clear c1;go_wp2_with fail;refine (oJ A2 m.af k2 nm _ yH.af.af (by have:=sQ.out.2;omega)).mono ?_;rintro e w6 ⟨rfl,b6⟩;obtain⟨v,hv⟩:=zE (aK m.af nm);rw [<-hv]at bU;rw [<-hv];have N6:=N5.ext b6;have M6:=M5.ext b6;have rT:=yH.ext b6;have Dm:=uI.ext b6;have E6:=E5.trans b6;clear hv Dk kz zG kz2 N5 M5 yH uI
 by_cases c2:v=0
 case neg =>
  have t2:(v == 0)=false:=by simpa using c2
  have OG:(v != 0)=true:=by simpa using c2
  have hE:Hid (fD S cu cg no dir nm=7):=by show _=_;rw[bU.out,if_neg (by decide),if_neg AG.out,if_pos c2]
  clear bU c2;go_wp2_with fail;go_ret;exact HS.out _ _ E6 hE.out (by decide)
 have t2:(v == 0)=true:=by simpa using c2
 have OG:(v != 0)=false:=by simpa using c2
 have y1:w6.cell? ⟨nV,1,none⟩=some (.int .i64 n.dev):=N6.cell 1;have y2:w6.cell? ⟨mY,1,none⟩=some (.int .i64 m.dev):=M6.cell 1;have y3:w6.cell? ⟨nV,8,none⟩=some (.int .i64 n.ag):=N6.cell 8;have yz:=N6.lt;have yz2:=M6.lt;have rU:=zH (show ¬¬v=0 by simpa using c2);clear c2
 by_cases c3:n.dev=m.dev
 case neg =>
  have t3:(n.dev == m.dev)=false:=by simpa using c3
  have t3b:(n.dev != m.dev)=true:=by simpa using c3
  have hE:Hid (fD S cu cg no dir nm=11):=by show _=_;rw[bU.out,if_neg (by decide),if_neg AG.out,if_neg rU.out,if_pos c3]
  clear bU c3;go_wp2_with fail;go_ret;exact HS.out _ _ E6 hE.out (by decide)
 have t3:(n.dev == m.dev)=true:=by simpa using c3
 have t3b:(n.dev != m.dev)=false:=by simpa using c3
 have Xr:=zH (show ¬¬n.dev=m.dev by simpa using c3);clear c3
 by_cases c4:1000<=n.ag
 ·have t4:decide (1000<=n.ag)=true:=decide_eq_true c4
  have hE:Hid (fD S cu cg no dir nm=18):=by show _=_;rw[bU.out,if_neg (by decide),if_neg AG.out,if_neg rU.out,if_neg Xr.out,if_pos c4]
  clear bU c4;go_wp2_with fail;go_ret;exact HS.out _ _ E6 hE.out (by decide)
 have t4:decide (1000<=n.ag)=false:=decide_eq_false c4;have hE:Hid (fD S cu cg no dir nm=0):=by show _=_;rw[bU.out,if_neg (by decide),if_neg AG.out,if_neg rU.out,if_neg Xr.out,if_neg c4]
 have iE:=(HLK.out (by trivial)).1;have y4:IntKind.i64.wrap (n.ag+1)=n.ag+1:=a_ (by omega) (by omega);have yf:∀i,w6.frozen? ⟨nV,i,none⟩=false:=fun i=>(N6.free i).trans (by simp)
 have y7:w6.cell? ⟨nV,7,none⟩=some (.int .i64 n.ctime):=N6.cell 7;have nw:w6.cell? ⟨g.bF,3,none⟩=some (.int .i64 now):=by rw[XG.out];obtain⟨_,_,_,k,_⟩:=h.ext E6;exact k.cell 3
 have nz:=(h.ext E6).lt.1;have hlt:=h.lt;have hs0:=lD.out.size;have hs1:=PY.size;have TG:g.bF<nV:=by omega
 have Xi:(nV=g.bF)=False:=eq_false (by omega);have LA:(g.bF=nV)=False:=eq_false (by omega);obtain ⟨n',hn'⟩:∃n':ai,n'={n with ag:=n.ag+1,ctime:=now}:=⟨_,rfl⟩;have CB:=zH hn';clear bU c4 iE hn';go_upto_region 17 with fail;obtain⟨V,hV⟩:=zE ((w6.setCell ⟨nV,8,none⟩ (.int .i64 (n.ag+1))).setCell ⟨nV,7,none⟩ (.int .i64 now));rw [<-hV];have NV:Has V nV (.cells #[.int .i64 (n').no,.int .i64 (n').dev,.int .i64 (n').kind,.int .i64 (n').mode,.int .i64 (n').uid,.int .i64 (n').gid,.int .i64 (n').mtime,.int .i64 (n').ctime,.int .i64 (n').ag,.int .i64 (n').up,.string (bs (n').data),.slice A4 (n').af.length k4] 66):=by rw[hV,CB.out];exact (N6.setCell 8 _).setCell 7 _
 have OV:Only [nV] w6 V:=by rw[hV];exact (Only.setCell _ _ _ _).then (Only.setCell _ _ _ _)
 have OK:db w6 B [nV]:=by
  intro b hb;rw [List.mem_singleton]at hb;subst hb;exact ⟨by have:=h.1;omega,N6.fJ (by decide)⟩
 have EV:Ext w V:=OV.after E6 (by intro b hb;rw[List.mem_singleton]at hb;omega);have KV:=h.ext EV;have MV:=OV.has M6 (by rw[List.mem_singleton];omega);have wj:=rT.only OV OK;have Tx:az V B n' A4 k4:=(Dm.only OV OK).same (by rw[CB.out]);clear hV y1 y2 y3 y4 yf y7 yz yz2 nw nz Xi LA N6 M6 rT Dm;go_wp2_with (refine aw rfl _ rfl nV n' A4 k4 rfl NV ?_);refine (nC B g S X n' A4 k4 _ KV (by have:=P_.out;omega) HO.out.live.bc Tx).mono ?_;rintro e w7 ⟨rfl,K7,O7⟩;have LF:mY∉g.list:=by
  simp only[cI.list,List.mem_cons,List.not_mem_nil,or_false];omega
 have M7:=O7.has MV LF;have yw:=wj.only O7 KV.apart;have VW:Only g.list w w7:=Only.pre EV O7;obtain⟨T,hT⟩:=zE (aE S n');rw [<-hT]at K7;have Tv:aD T.nodes T.last:=by rw[hT];exact HO.out.live.bc.set _
 have Qa:T.nodes.length<=1000000:=by rw[hT];show (bQ _ _).length<=_;rw[nB];have:=P_.out;omega
 have HT:=zH hT;have zG:w7.cell? ⟨mY,11,none⟩=some (.slice A2 m.af.length k2):=M7.cell 11;have kz:=M7.lt;clear hT;go_wp2_with fail;refine (Ag A2 m.af k2 (nm,no) _ yw.af.af (by have:=sQ.out.2;omega)).mono ?_;rintro e w8 ⟨v8,rfl,hown,Ft⟩;obtain ⟨A8,c8,rfl,q1,q2,q3,q4⟩:=hown.zY (B:=B);obtain ⟨L8,Ty⟩:∃L,L=en m.af (nm,no):=⟨_,rfl⟩;rw [<-Ty]at q1 q3|-;have Tw:Hid (Calls Tryz.prog 166 #[.pointer (some ⟨g.bF,0,none⟩),.int .i64 dir,.slice A8 L8.length c8] w8 (Dl w8 B g (bR T dir X.now L8) X)):=uG B g T X dir A8 L8 c8 w8 (K7.ext Ft) Qa Tv q3 q1 q2 q4;have HL8:=zH Ty;clear zG kz hown q1 q2 q3 q4 Ty;go_wp2_with fail;refine Tw.out.mono ?_;rintro e w9 ⟨rfl,K9,O9⟩;go_wp2_with fail;go_ret;rw [hE.out];have e3:gM S cu cg now no dir nm=bR T dir X.now L8:=by
  unfold gM dE;rw [if_pos hE.out,HT.out,HL8.out,CB.out,nL.out,zC.out,XG.out]
 exact ⟨rfl,g,by rw[e3];exact K9,(VW.ext Ft).then O9,cI.fq _ _⟩
attribute [local irreducible] gH wpQuiet
attribute [local go_sem] fx
end
section
open Go.ChangeShapes Go.WideShapes Go.ChangeAt Go.RowKit
def bj (S:ae):Prop:=∀n∈S.nodes,n.kind≠1->n.af=[]
attribute [local irreducible] wpQuiet
end
end Go.Proofs.YtpibnfdolojpcaaGreat
