import Derived.Test.YtpibnfdolojpcaaGreatBunE
import Derived.Test.YtpibnfdolojpcaaGreatBunD
import Derived.Test.YtpibnfdolojpcaaGreatBunC
set_option maxHeartbeats 8000000
set_option maxRecDepth 100000
namespace Go.Proofs.YtpibnfdolojpcaaGreat
open Go.Proofs.Tryz
variable {S:ag} {c B:Nat} {no k b k':Int} {ns:List ak} {n m:ak} {ds:List fP} {w:World}
section
theorem Aj {es:List fP} (h:es.length=ds.length) (d:Int):ic es d=ic ds d:=by unfold ic;rw[h]
theorem uT (hh:ic ds k=true):1<=k/\(k-1).toNat<ds.length:=by
 unfold ic at hh;simp only[fl,lZ]at hh;omega
theorem MM (ds:List fP) (d:Int) (q:dW) (k:Int):aI (jb ds d q) k=aI ds k:=by
 unfold aI;rw[Aj (gQ ds d q)]
 by_cases hh:ic ds k=true
 ·rw [af hh,af hh]
  have h1:=(uT hh).2;have h2:(k-1).toNat<(jb ds d q).length:=by rw[gQ];exact h1
  unfold jq;rw[rl,rl,iq h1,iq h2];exact (EO h2 h1).1
 ·rw[ac hh,ac hh]
theorem MN {d:fP} {i:Int} (h:ic ds i=true):aI (ds++[d]) i=aI ds i:=by
 have h2:ic (ds++[d]) i=true:=by
  unfold ic at h|-;rw[aZ];simp at h|-;omega
 unfold aI;rw[af h,af h2];unfold jq;rw[rl,rl,vY (uT h).2]
theorem aau {d:fP} {i:Int} (h:ic ds i=true):ic (ds++[d]) i=true:=by
 unfold ic at h|-;rw[aZ];simp at h|-;omega
theorem SW {k:Nat} (hk:k<ds.length):aI ds ((k:Int)+1)=ds[k].root:=by
 unfold aI ic jq;rw[af (by simp;omega),show ((k:Int)+1-1).toNat=k by omega,rl,iq hk];rfl
def GS (S:ag) (n:ak):Prop:=
 (aI S.ae n.dev=n.no/\n.up=n.no)\/(aI S.ae n.dev≠n.no/\n.up≠n.no/\∃m∈S.nodes,m.no=n.up/\m.kind=1/\m.dev=n.dev/\∃x∈m.ah,x.2=n.no)
def Kin (S:ag) (no dev y:Int):Prop:=y≠no/\(∀d∈S.ae,y≠d.root)/\∀q∈S.nodes,q.no=y->q.dev=dev
structure rO (c:Nat) (k:Int) (S:ag):Prop where
 bL:aQ S.nodes S.last
 last:1<=S.last
 ae:0<S.ae.length
 eight:S.ae.length<=8
 roots:eV S.ae
 count:S.nodes.length<=S.last
 small:∀n∈S.nodes,n.ah.length<=c
 qO:∀n∈S.nodes,jQ n.ah
 names:uR S
 pos:∀n∈S.nodes,∀x∈n.ah,1<=x.2/\x.2<=S.last
 on:GP S
 first:∃m∈S.nodes,m.no=1
 one:∀n∈S.nodes,n.no=1->n.kind=1/\n.dev=1/\n.up=1
 pM:aI S.ae 1=1
 qs:∀n∈S.nodes,n.kind=1->n.ar=1
 ups:∀n∈S.nodes,n.kind=1->n.no≠k->GS S n
 bits:∀n∈S.nodes,0<=n.mode/\n.mode<=1023/\1<=n.ar/\n.ar<=1000
 FO:∀m∈S.nodes,∀x∈m.ah,Kin S m.no m.dev x.2
 uU:∀h:0<S.ae.length,S.ae[0].over=0
 qK:∀k,(h:k+1<S.ae.length)->∃m∈S.nodes,m.no=S.ae[k+1].over/\m.kind=1/\m.dev<=(k:Int)+1/\aI S.ae m.dev≠m.no
 ii:∀k,(h:k<S.ae.length)->∃m∈S.nodes,m.no=S.ae[k].root/\m.kind=1/\m.dev=(k:Int)+1
 deep:∃d:Int->Nat,∀n∈S.nodes,n.kind=1->n.up≠n.no->d n.up<d n.no
abbrev eB (c:Nat) (S:ag):Prop:=rO c 0 S
theorem eB.Ca (h:eB c S):∀n∈S.nodes,n.kind=1->GS S n:=fun n hn hk=>h.ups n hn hk (by have:=(h.bL.2 n hn).1;omega)
theorem eB.base (h:eB c S) (hc:c<=1000000):ab1 S:=⟨h.bL,h.last,h.ae,h.eight,h.roots,h.count,fun n hn=>by have:=h.small n hn;omega⟩
theorem eB.aa (h:eB c S) (no:Int):jQ (aa S.nodes no).ah/\(aa S.nodes no).ah.length<=c:=by
 cases hi:aW S.nodes no
 ·rw [(aP hi).1]
  exact⟨List.Pairwise.nil,bC _⟩
 ·have:=(ap hi).2.2
  exact⟨h.qO _ this,h.small _ this⟩
theorem SX {f:Int->Nat} {a:Int} (hab:f a<f b) (h:∃m∈ns,m.no=a):(ns.filter fun m=>decide (f m.no<f a)).length<(ns.filter fun m=>decide (f m.no<f b)).length:=by
 have mono:∀l:List ak,(l.filter fun m=>decide (f m.no<f a)).length<=(l.filter fun m=>decide (f m.no<f b)).length:=by
  intro l
  induction l with
  | nil=>exact aE _
  | cons x l ih =>
   simp only[jH]
   by_cases h1:f x.no<f a
   ·rw[af (by simpa using h1),af (by simp;omega)];simp only[bk];omega
   ·rw [ac (by simpa using h1)]
    split
    ·simp only[bk];omega
    ·exact ih
 induction ns with
 | nil=>obtain⟨m,hm,_⟩:=h;cases hm
 | cons x l ih =>
  obtain⟨m,hm,he⟩:=h;simp only[jH];rcases aR.1 hm with rfl|hm
  ·have:=mono l
   rw[he,ac (by simp),af (by simpa using hab)];simp only[bk];omega
  ·have:=ih ⟨m,hm,he⟩
   by_cases h1:f x.no<f a
   ·rw[af (by simpa using h1),af (by simp;omega)];simp only[bk];omega
   ·rw [ac (by simpa using h1)]
    split
    ·simp only[bk];omega
    ·exact this
theorem Xk {f:Int->Nat} (h:∀no,no≠0->aC S no≠0->aC S no≠no->f (aC S no)<f no/\∃m∈S.nodes,m.no=aC S no):∃r,pG S r:=
 ⟨fun no=>(S.nodes.filter fun m=>decide (f m.no<f no)).length,fun no h0 h1 h2=>SX (h no h0 h1 h2).1 (h no h0 h1 h2).2,fun _=>sX ..⟩
theorem eB.up (h:eB c S) (hk:(Proofs.YtpibnfdolojpcaaGreat.aa S.nodes no).kind=1):GS S (Proofs.YtpibnfdolojpcaaGreat.aa S.nodes no):=h.Ca _ (bP hk).2.2 hk
theorem eB.above (h:eB c S) (no:Int) (h0:aC S no≠0) (hs:aC S no≠no) :
  ∃ n∈S.nodes,∃m∈S.nodes,n.no=no/\n.kind=1/\m.no=aC S no/\m.kind=1/\(m.dev<n.dev\/(m.dev=n.dev/\m.no=n.up/\n.up≠n.no)):=by
 unfold aC at h0 hs|-
 by_cases hk:(Proofs.YtpibnfdolojpcaaGreat.aa S.nodes no).kind=1
 ·obtain ⟨_,hn,hm⟩:=bP hk
  rw[af hk]at h0 hs|-
  by_cases hr:aI S.ae (Proofs.YtpibnfdolojpcaaGreat.aa S.nodes no).dev=no/\1<(Proofs.YtpibnfdolojpcaaGreat.aa S.nodes no).dev
  ·rw [af hr]at h0 hs|-
   rcases cT h.roots (Proofs.YtpibnfdolojpcaaGreat.aa S.nodes no).dev with⟨e1,_⟩|⟨k,dN,e1,_,e3,e4,e5,_⟩
   ·obtain ⟨h1,h2⟩:=hr
    rw[e1]at h1;rw[<-h1]at hm hn;have:=h.bL.2 _ hm;omega
   ·obtain ⟨j,rfl⟩:∃j,k=j+1:=⟨k-1,by omega⟩
    rw[e3]at h0 hs|-;obtain⟨m,cq,o1,o2,o3,o4⟩:=h.qK j dN;have hg:=(ep h.bL cq).1;rw[o1]at hg;rw[hg]at h0 hs|-;rcases h.Ca m cq o2 with⟨u1,_⟩|⟨_,u2,m2,mr,u3,u4,u5,_⟩
    ·exact absurd u1 o4
    ·exact⟨_,hm,m2,mr,hn,hk,u3,u4,.inl (by omega)⟩
  ·rw [ac hr]at h0 hs|-
   rcases h.up hk with⟨_,u2⟩|⟨_,u2,m2,mr,u3,u4,u5,_⟩
   ·exact absurd (u2.trans hn) hs
   ·exact⟨_,hm,m2,mr,hn,hk,u3,u4,.inr ⟨u5,u3,u2⟩⟩
 ·rw[ac hk]at h0;exact absurd rfl h0
theorem eB.GK (h:eB c S):∃r,pG S r:=by
 obtain⟨d,hd⟩:=h.deep;obtain⟨N,hN⟩:=ai (S.nodes.length+1);obtain⟨e,he⟩:∃e:Int->Nat,e=fun no=>(S.nodes.filter fun m=>decide (d m.no<d no)).length:=⟨_,rfl⟩
 have hb:∀no,e no<N:=fun no=>by rw[he,hN];exact Nat.lt_succ_of_le (sX ..)
 refine Xk (f:=fun no=>(Proofs.YtpibnfdolojpcaaGreat.aa S.nodes no).dev.toNat*N+e no) fun no h0 h1 h2=>?_
 obtain⟨n,hn,m,hm,a1,a2,a3,a4,a5⟩:=h.above no h1 h2;have g1:=(ep h.bL hn).1;have g2:=(ep h.bL hm).1;rw[a1]at g1;rw[a3]at g2;refine⟨?_,m,hm,a3⟩;show (Proofs.YtpibnfdolojpcaaGreat.aa S.nodes (aC S no)).dev.toNat*N+e (aC S no)<(Proofs.YtpibnfdolojpcaaGreat.aa S.nodes no).dev.toNat*N+e no;rw[g1,g2];have p1:=(uT (h.on _ hn).1).1;have p2:=(uT (h.on _ hm).1).1;rcases a5 with a5|⟨a5,a6,a7⟩
 ·have q1:m.dev.toNat+1<=n.dev.toNat:=by omega
  have q2:=hb (aC S no);have q3:=zA N q1;rw[Nat.add_mul]at q3;omega
 ·rw [a5]
  have:e (aC S no)<e no:=by
   rw[he];refine SX ?_ ⟨m,hm,a3⟩;have:=hd n hn a2 a7;rw[<-a6,a3,a1]at this;exact this
  omega
theorem eB.GU (h:eB c S):aC S 1=1:=by
 obtain⟨m,hm,he⟩:=h.first;have hg:=(ep h.bL hm).1;rw[he]at hg;obtain⟨a1,a2,a3⟩:=h.one m hm he;unfold aC;rw[hg,af a1,ac (by rw[a2];omega),a3]
theorem eB.fit (h:eB c S) (hc:c<=1000000) (hl:S.last<=1000):Fit S:=by
 refine⟨h.base hc,h.names,?_,h.GU,h.GK,hl⟩;intro no h0 h1 h2;rcases cT h.roots (Proofs.YtpibnfdolojpcaaGreat.aa S.nodes no).dev with⟨e1,_⟩|⟨k,dN,e1,_,e3,e4,e5,_⟩
 ·rw[e1]at h1;exact absurd h1.symm h0
 ·have:(Proofs.YtpibnfdolojpcaaGreat.aa S.nodes no).dev=1:=by omega
  rw[this,h.pM]at h1;rw[<-h1];exact h.GU
theorem Ak (h:m∈S.nodes) (hne:m.no≠n.no):m∈(aV S n).nodes:=by
 have:=yN (n:=n) h;rw[ac hne]at this;exact this
theorem qt (h:m∈S.nodes) (he:m.no=n.no):n∈(aV S n).nodes:=by
 have:=yN (n:=n) h;rw[af he]at this;exact this
theorem bq (h:m∈(aV S n).nodes):(m∈S.nodes/\m.no≠n.no)\/m=n:=by
 unfold aV cP at h;obtain⟨x,hx,e⟩:=fH.1 h;split at e
 ·exact .inr e.symm
 ·rename_i hne
  rw[<-e];exact .inl ⟨hx,by simpa using hne⟩
theorem uV {c':Nat} (h:rO c k S) (rC:k=0\/k=k') (hi:aW S.nodes n.no=true) (NK:c<=c') (hk:n.kind=(aa S.nodes n.no).kind) (hv:n.dev=(aa S.nodes n.no).dev) (hu:n.up=(aa S.nodes n.no).up)
  (hl:n.kind=1->n.ar=1) (hr:jQ n.ah) (hn:∀x∈n.ah,x.1≠[]/\x.1.length<=255) (hp:∀x∈n.ah,1<=x.2/\x.2<=S.last) (hs:n.ah.length<=c') (hd:n.data.length<=1048576)
  (hb:0<=n.mode/\n.mode<=1023/\1<=n.ar/\n.ar<=1000) (hx:∀x∈n.ah,Kin S n.no n.dev x.2)
  (keep:∀q∈S.nodes,q.kind=1->q.no≠k'->q.up=n.no->q.no≠n.no->∃x∈n.ah,x.2=q.no):rO c' k' (aV S n):=by
 have hm0:=(ap hi).2;obtain⟨m0,GV⟩:=ai (Proofs.YtpibnfdolojpcaaGreat.aa S.nodes n.no);rw[<-GV]at hk hv hu hm0;have same:∀m∈S.nodes,m.no=n.no->m=m0:=fun m hm e=>by
  have:=(ep h.bL hm).1;rw[e]at this;rw[GV,this]
 have move:∀m∈S.nodes,∃m'∈(aV S n).nodes,m'.no=m.no/\m'.kind=m.kind/\m'.dev=m.dev:=by
  intro m hm
  by_cases e:m.no=n.no
  ·have:=same m hm e
   subst this;exact⟨n,qt hm e,e.symm,hk,hv⟩
  ·exact⟨m,Ak hm e,rfl,rfl,rfl⟩
 have upk:∀q∈S.nodes,q.kind=1->q.no≠k'->(q.no≠n.no\/q=m0)->∀q',q'.no=q.no->q'.dev=q.dev->q'.up=q.up->GS (aV S n) q':=by
  intro q hq Al GW Ab q' e1 e2 e3;unfold GS;rw[e1,e2,e3];have yq:q.no≠k:=by
   rcases rC with e|e
   ·have:=(h.bL.2 q hq).1;omega
   ·rw[e];exact GW
  rcases h.ups q hq Al yq with⟨u1,u2⟩|⟨u1,u2,m,hm,u3,u4,u5,x,hx,u6⟩
  ·exact .inl ⟨u1,u2⟩
  ·refine .inr ⟨u1,u2,?_⟩
   by_cases e:m.no=n.no
   ·have aed:q.no≠n.no:=fun e'=>u2 (by rw[<-u3,e,e'])
    obtain⟨y,hy,hy2⟩:=keep q hq Al GW (by rw[<-u3,e]) aed;have:=same m hm e;subst this;exact⟨n,qt hm e,by rw[<-u3,e],by rw[hk];exact u4,by rw[hv];exact u5,y,hy,hy2⟩
   ·exact⟨m,Ak hm e,u3,u4,u5,x,hx,u6⟩
 refine⟨h.bL.set n,h.last,h.ae,h.eight,h.roots,?_,?_,?_,?_,?_,?_,?_,?_,h.pM,?_,?_,?_,?_,h.uU,?_,?_,?_⟩
 ·show ((cP S.nodes n).length:Int)<=S.last;rw[rG];exact h.count
 ·intro m hm
  rcases bq hm with⟨hm,_⟩|rfl
  ·have:=h.small m hm;omega
  ·exact hs
 ·intro m hm
  rcases bq hm with⟨hm,_⟩|rfl
  ·exact h.qO m hm
  ·exact hr
 ·intro m hm
  rcases bq hm with⟨hm,_⟩|rfl
  ·exact h.names m hm
  ·exact hn
 ·intro m hm
  rcases bq hm with⟨hm,_⟩|rfl
  ·exact h.pos m hm
  ·exact hp
 ·intro m hm
  rcases bq hm with⟨hm,_⟩|rfl
  ·exact h.on m hm
  ·exact⟨by rw[hv];exact (h.on _ hm0.2).1,hd⟩
 ·obtain ⟨m,hm,e⟩:=h.first
  obtain⟨m',hm',e',_⟩:=move m hm;exact⟨m',hm',e'.trans e⟩
 ·intro m hm e
  rcases bq hm with⟨hm,_⟩|rfl
  ·exact h.one m hm e
  ·have:=h.one _ hm0.2 (hm0.1.trans e)
   rw[hk,hv,hu];exact this
 ·intro m hm q_
  rcases bq hm with⟨hm,_⟩|rfl
  ·exact h.qs m hm q_
  ·exact hl q_
 ·intro m hm q_ ab4
  rcases bq hm with⟨hm,hne⟩|rfl
  ·exact upk m hm q_ ab4 (.inl hne) m rfl rfl rfl
  ·exact upk m0 hm0.2 (hk.symm.trans q_) (by rw[hm0.1];exact ab4) (.inr rfl) m hm0.1.symm hv hu
 ·intro m hm
  rcases bq hm with⟨hm,_⟩|rfl
  ·exact h.bits m hm
  ·exact hb
 ·have ab5:∀{no dev y:Int},Kin S no dev y->Kin (aV S n) no dev y:=fun hK=>⟨hK.1,hK.2.1,fun q hq e=>by
   rcases bq hq with⟨hq,_⟩|rfl
   ·exact hK.2.2 q hq e
   ·rw[hv];exact hK.2.2 m0 hm0.2 (hm0.1.trans e)⟩
  intro m hm x hxm;rcases bq hm with⟨hm,_⟩|rfl
  ·exact ab5 (h.FO m hm x hxm)
  ·exact ab5 (hx x hxm)
 ·intro j hj
  obtain⟨m,hm,o1,o2,o3,o4⟩:=h.qK j hj;obtain⟨m',hm',e1,e2,e3⟩:=move m hm;exact⟨m',hm',e1.trans o1,e2.trans o2,by rw[e3];exact o3,by rw[e3,e1];exact o4⟩
 ·intro j hj
  obtain⟨m,hm,o1,o2,o3⟩:=h.ii j hj;obtain⟨m',hm',e1,e2,e3⟩:=move m hm;exact⟨m',hm',e1.trans o1,e2.trans o2,e3.trans o3⟩
 ·obtain ⟨d,MH⟩:=h.deep
  refine⟨d,fun m hm q_ BZ=>?_⟩;rcases bq hm with⟨hm,_⟩|rfl
  ·exact MH m hm q_ BZ
  ·have:=MH m0 hm0.2 (hk.symm.trans q_) (by rw[<-hu,hm0.1];exact BZ)
   rw[<-hu,hm0.1]at this;exact this
theorem Aq (h:rO c k S) (d:Int) (q:dW) (hq:qi q) (l:Int) (hl:S.last<=l):rO c k ⟨S.nodes,jb S.ae d q,l⟩:=by
 have hro:eV (jb S.ae d q):=JY h.roots _ _ hq;obtain⟨Q,hQ⟩:=ai (jb S.ae d q);have hlen:Q.length=S.ae.length:=by rw[hQ,gQ]
 have hat:∀k,(hk:k<Q.length)->(hk2:k<S.ae.length)->Q[k].root=S.ae[k].root/\Q[k].over=S.ae[k].over:=by
  intro k hk hk2;subst hQ;exact EO hk hk2
 have V_:∀i,aI Q i=aI S.ae i:=fun i=>by rw[hQ];exact MM _ _ _ _
 have hh:∀i,ic Q i=ic S.ae i:=fun i=>Aj hlen i
 rw [<-hQ]at hro|-;refine⟨⟨h.bL.1,fun n hn=>⟨(h.bL.2 n hn).1,by have:=(h.bL.2 n hn).2;show n.no<=l;omega⟩⟩,by have:=h.last;show 1<=l;omega,by show 0<Q.length;rw[hlen];exact h.ae,by show Q.length<=8;rw[hlen];exact h.eight,hro,
  by have:=h.count;show (S.nodes.length:Int)<=l;omega,h.small,h.qO,h.names,fun n hn x hx=>⟨(h.pos n hn x hx).1,by have:=(h.pos n hn x hx).2;show x.2<=l;omega⟩,fun n hn=>⟨(hh _).trans (h.on n hn).1,(h.on n hn).2⟩,h.first,h.one,(V_ 1).trans h.pM,h.qs,?_,h.bits,?_,?_,?_,?_,h.deep⟩
 ·intro n hn hk hnk
  unfold GS;show (aI Q n.dev=n.no/\_)\/(aI Q n.dev≠n.no/\_);rw[V_];exact h.ups n hn hk hnk
 ·intro m hm x hx
  have hK:=h.FO m hm x hx;refine⟨hK.1,fun d hd=>?_,hK.2.2⟩;obtain⟨i,hi,rfl⟩:=mj hd;have tm:i<S.ae.length:=by have:i<Q.length:=hi;omega
  show x.2≠Q[i].root;rw[(hat i hi tm).1];exact hK.2.1 _ (jh tm)
 ·intro h0
  exact ((hat 0 h0 h.ae).2).trans (h.uU h.ae)
 ·intro k hk
  have hk2:k+1<S.ae.length:=by have:k+1<Q.length:=hk;omega
  obtain⟨m,hm,o1,o2,o3,o4⟩:=h.qK k hk2;exact⟨m,hm,o1.trans (hat (k+1) hk hk2).2.symm,o2,o3,by show aI Q m.dev≠m.no;rw[V_];exact o4⟩
 ·intro k hk
  have hk2:k<S.ae.length:=by have:k<Q.length:=hk;omega
  obtain⟨m,hm,o1,o2⟩:=h.ii k hk2;exact⟨m,hm,o1.trans (hat k hk hk2).1.symm,o2⟩
theorem Xl (h:eB c S) (bB:n.no=S.last) (hlt:∀m∈S.nodes,m.no<S.last) (hc:(S.nodes.length:Int)+1<=S.last) (he:n.ah=[]) (hd:n.data.length<=1048576) (hh:ic S.ae n.dev=true) (hb:0<=n.mode/\n.mode<=1023/\1<=n.ar/\n.ar<=1000) (aee:∀m∈S.nodes,∀x∈m.ah,x.2=n.no->n.dev=m.dev)
  (hk:n.kind=1->n.ar=1/\aI S.ae n.dev≠n.no/\∃m∈S.nodes,m.no=n.up/\m.kind=1/\m.dev=n.dev/\∃x∈m.ah,x.2=n.no):eB c ⟨S.nodes++[n],S.ae,S.last⟩:=by
 have sub:∀m∈S.nodes,m∈S.nodes++[n]:=fun m hm=>kj _ hm
 have h1:=h.last;have new:∀{m:ak},m∈S.nodes++[n]->m∈S.nodes\/m=n:=fun hm=>by
  rcases dn.1 hm with hm|hm
  ·exact .inl hm
  ·exact .inr (ax.1 hm)
 have aef:n.kind=1->n.up<n.no:=fun rC=>by
  obtain⟨_,_,m,hm,e,_⟩:=hk rC;have:=hlt m hm;omega
 refine⟨⟨?_,?_⟩,h.last,h.ae,h.eight,h.roots,?_,?_,?_,?_,?_,?_,?_,?_,h.pM,?_,?_,?_,?_,h.uU,?_,?_,?_⟩
 ·rw [zh]
  refine⟨h.bL.1,DT ..,fun a ha b hb=>?_⟩;rw[ax]at hb;subst hb;rw[bB];exact hlt a ha
 ·intro m hm
  rcases new hm with hm|rfl
  ·exact h.bL.2 m hm
  ·rw[bB];exact⟨h1,gE _⟩
 ·show ((S.nodes++[n]).length:Int)<=S.last
  simp;exact hc
 ·intro m hm
  rcases new hm with hm|rfl
  ·exact h.small m hm
  ·rw[he];exact bC _
 ·intro m hm
  rcases new hm with hm|rfl
  ·exact h.qO m hm
  ·rw[he];exact List.Pairwise.nil
 ·intro m hm
  rcases new hm with hm|rfl
  ·exact h.names m hm
  ·intro x hx;rw[he]at hx;cases hx
 ·intro m hm
  rcases new hm with hm|rfl
  ·exact h.pos m hm
  ·intro x hx;rw[he]at hx;cases hx
 ·intro m hm
  rcases new hm with hm|rfl
  ·exact h.on m hm
  ·exact⟨hh,hd⟩
 ·obtain ⟨m,hm,e⟩:=h.first
  exact⟨m,sub m hm,e⟩
 ·intro m hm e
  rcases new hm with hm|rfl
  ·exact h.one m hm e
  ·obtain ⟨m,hm,e2⟩:=h.first
   have:=hlt m hm;omega
 ·intro m hm q_
  rcases new hm with hm|rfl
  ·exact h.qs m hm q_
  ·exact (hk q_).1
 ·intro m hm q_ _
  rcases new hm with hm|rfl
  ·rcases h.Ca m hm q_ with u|⟨u1,u2,q,hq,u3⟩
   ·exact .inl u
   ·exact .inr ⟨u1,u2,q,sub q hq,u3⟩
  ·obtain ⟨_,k2,q,hq,k3⟩:=hk q_
   exact .inr ⟨k2,by have:=aef q_;omega,q,sub q hq,k3⟩
 ·intro m hm
  rcases new hm with hm|rfl
  ·exact h.bits m hm
  ·exact hb
 ·intro m hm x hx
  rcases new hm with ig|rfl
  ·have hK:=h.FO m ig x hx
   have rC:=aee m ig x hx;refine⟨hK.1,hK.2.1,fun q hq e=>?_⟩;rcases new hq with hq|e2
   ·exact hK.2.2 q hq e
   ·rw [e2]at e|-
    exact rC e.symm
  ·rw[he]at hx;cases hx
 ·intro k rC
  obtain⟨m,hm,o⟩:=h.qK k rC;exact⟨m,sub m hm,o⟩
 ·intro k rC
  obtain⟨m,hm,o⟩:=h.ii k rC;exact⟨m,sub m hm,o⟩
 ·obtain ⟨d,MH⟩:=h.deep
  refine⟨fun k=>if k=n.no then d n.up+1 else d k,fun m hm q_ BZ=>?_⟩;rcases new hm with hm|rfl
  ·have e1:m.no≠n.no:=by have:=hlt m hm;omega
   have e2:m.up≠n.no:=by
    rcases h.Ca m hm q_ with⟨_,u⟩|⟨_,_,q,hq,u,_⟩
    ·rw[u];exact e1
    ·have:=hlt q hq;omega
   show (if m.up=n.no then _ else _)<(if m.no=n.no then _ else _);rw[ac e1,ac e2];exact MH m hm q_ BZ
  ·show (if m.up=m.no then _ else _)<(if m.no=m.no then _ else _)
   rw[af rfl,ac BZ];omega
theorem SY (h:eB c S) {d:ak} {nm:List UInt8} (hi:aW S.nodes d.no=true) (hdk:(aa S.nodes d.no).kind=1) (hk:d.kind=1) (hv:d.dev=(aa S.nodes d.no).dev) (hu:d.up=(aa S.nodes d.no).up)
  (hl:d.ar=1) (aeg:d.data.length<=1048576) (hen:d.ah=fC (aa S.nodes d.no).ah (nm,S.last+1)) (pA:aY (aa S.nodes d.no).ah nm=0) (ie:nm≠[]/\nm.length<=255)
  (hne:n.ah=[]) (hnd:n.data.length<=1048576) (Ar:n.dev=d.dev) (hnk:n.kind=1->n.ar=1/\n.up=d.no) (hdm:d.mode=(aa S.nodes d.no).mode) (MF:0<=n.mode/\n.mode<=1023/\n.ar=1) (h0:gp S n=0):eB (c+1) (aV (cC S n) d):=by
 have hm0:=(ap hi).2;obtain⟨m0,GV⟩:=ai (Proofs.YtpibnfdolojpcaaGreat.aa S.nodes d.no);rw[<-GV]at hv hu hen hm0 hdk pA hdm;have Ov:ic S.ae n.dev=true:=by rw[Ar,hv];exact (h.on _ hm0.2).1
 have SZ:qi (bf (jq S.ae n.dev).q (cx n.kind n.data.length) 1):=by
  rcases cT h.roots n.dev with⟨_,e2⟩|⟨k,hk,_,_,e3,_,_,e6⟩
  ·rw[e2]at Ov;cases Ov
  ·rw[e3];exact tH e6
 have hA:=Aq h n.dev _ SZ (S.last+1) (by omega);have lf:∀m∈S.nodes,m.no<S.last+1:=fun m hm=>by have:=(h.bL.2 m hm).2;omega
 have aeh:d.no≠S.last+1:=by have:=lf _ hm0.2;omega
 have hput:∀x∈m0.ah,x.1≠nm:=by
  intro x hx e;unfold aY at pA
  cases hf:m0.ah.find? (fun x=>x.1 == nm) with
  | none=>have:=sW.1 hf x hx;simp at this;exact this e
  | some y =>
   rw[hf]at pA;have:=(h.pos _ hm0.2 y (p5 hf)).1;simp only at pA;omega
 have ab6:∀x∈m0.ah,x∈d.ah:=by
  intro x hx;rw[hen];unfold fC kZ lB;simp only[dn,gz,ax];rcases oJ x.1 nm with g|g|g
  ·exact .inl (.inl ⟨hx,g⟩)
  ·exact absurd g (hput x hx)
  ·exact .inr ⟨hx,g⟩
 have wW:(nm,S.last+1)∈d.ah:=by rw[hen];unfold fC;simp
 obtain⟨S1,Kc⟩:∃S1:ag,S1=⟨S.nodes,jb S.ae n.dev (bf (jq S.ae n.dev).q (cx n.kind n.data.length) 1),S.last+1⟩:=⟨_,rfl⟩;rw[<-Kc]at hA;have BR:S1.nodes=S.nodes:=by rw[Kc]
 have hD1:∀i,aI S1.ae i=aI S.ae i:=fun i=>by rw[Kc];exact MM _ _ _ _
 have hB : eB (c+1) (aV S1 d):=by
  refine uV hA (.inl rfl) (by rw[BR];exact hi) (by omega) (by rw[BR,<-GV,hdk];exact hk) (by rw[BR,<-GV];exact hv) (by rw[BR,<-GV];exact hu) (fun _=>hl) ?_ ?_ ?_ ?_ aeg (by have:=h.bits _ hm0.2;rw[hdm,hl];omega) ?_ ?_
  ·rw[hen];exact CB _ (h.qO _ hm0.2)
  ·intro x hx
   rw[hen]at hx;rcases j6 hx with hx|rfl
   ·exact h.names _ hm0.2 x hx
   ·exact ie
  ·intro x hx
   rw[hen]at hx;rw[Kc];have:=h.last;rcases j6 hx with hx|rfl
   ·have:=h.pos _ hm0.2 x hx
    exact⟨this.1,by show x.2<=S.last+1;omega⟩
   ·exact⟨by show 1<=S.last+1;omega,gE _⟩
  ·rw [hen]
   have:=uA m0.ah (nm,S.last+1);have:=h.small _ hm0.2;omega
  ·intro x hx
   rw[hen]at hx;rw[<-hm0.1,hv];rcases j6 hx with hx|rfl
   ·have hK:=hA.FO m0 (by rw[BR];exact hm0.2) x hx
    exact hK
   ·have hlm:=lf _ hm0.2
    refine⟨by show S.last+1≠m0.no;omega,fun q hq=>?_,fun q hq e=>?_⟩
    ·obtain ⟨i,hi,rfl⟩:=mj hq
     obtain⟨m,hm,o1,_⟩:=hA.ii i hi;rw[BR]at hm;have:=lf m hm;show S.last+1≠_;omega
    ·rw [BR]at hq
     have:=lf q hq;have:q.no=S.last+1:=e;omega
  ·intro q hq Al _ CT Ab
   rw[BR]at hq;rcases h.Ca q hq Al with⟨_,u2⟩|⟨_,_,m,hm,u3,_,_,x,hx,u6⟩
   ·exact absurd (u2.symm.trans CT) Ab
   ·have:m=m0:=by
     have:=(ep h.bL hm).1;rw[u3,CT]at this;rw[GV,this]
    subst this;exact⟨x,ab6 x hx,u6⟩
 have Ez:aV (cC S n) d=⟨(aV S1 d).nodes++[{n with no:=S.last+1}],(aV S1 d).ae,(aV S1 d).last⟩:=by
  unfold cC aV cP;rw[af h0,Kc];simp only[lG,dM,Ml];rw[ac (by simpa using (dA aeh))]
 rw[Ez];have hlS:(aV S1 d).last=S.last+1:=by rw[Kc];rfl
 have hdS:(aV S1 d).ae=S1.ae:=rfl;refine Xl hB (by rw[hlS]) ?_ ?_ hne hnd ?_ (by show 0<=n.mode/\n.mode<=1023/\1<=n.ar/\n.ar<=1000;omega) ?_ ?_
 ·intro m hm
  rw[hlS];rcases bq hm with⟨hm,_⟩|rfl
  ·rw[BR]at hm;exact lf m hm
  ·have:=lf _ hm0.2;omega
 ·show ((cP S1.nodes d).length:Int)+1<=_
  rw[rG,BR,hlS];have:=h.count;omega
 ·rw [hdS]
  show ic S1.ae n.dev=true;rw[Kc];exact (Aj (gQ _ _ _) _).trans Ov
 ·intro m hm x hx e
  have e':x.2=S.last+1:=e;show n.dev=m.dev;rcases bq hm with⟨hm,_⟩|rfl
  ·rw [BR]at hm
   have:=(h.pos m hm x hx).2;omega
  ·exact Ar
 ·intro rC
  obtain⟨k1,k2⟩:=hnk rC;refine⟨k1,?_,d,?_,k2.symm,hk,Ar.symm,_,wW,rfl⟩
  ·rw [hdS,hD1]
   show aI S.ae n.dev≠S.last+1;rcases cT h.roots n.dev with⟨e1,_⟩|⟨k,dN,e1,_,e3,e4,e5,_⟩
   ·have:=h.last;omega
   ·obtain ⟨m,hm,o1,_⟩:=h.ii k dN
    have:=lf m hm;omega
  ·exact qt (S:=S1) (by rw[BR];exact hm0.2) hm0.1
theorem S6 (h:eB c S) {over n:Int} (h8:S.ae.length<8) (hl:dg b n=true) (ho:∃m∈S.nodes,m.no=over/\m.kind=1/\aI S.ae m.dev≠m.no):eB c (cZ S over b n):=by
 have sub:∀m∈S.nodes,m∈(cZ S over b n).nodes:=fun m hm=>kj _ hm
 have ab7:ct S∈(cZ S over b n).nodes:=jO _ (ax.2 rfl);have new:∀{m:ak},m∈(cZ S over b n).nodes->m∈S.nodes\/m=ct S:=fun hm=>by
  rcases dn.1 hm with hm|hm
  ·exact .inl hm
  ·exact .inr (ax.1 hm)
 have jZ:=h.last;have hlen:(cZ S over b n).ae.length=S.ae.length+1:=by simp[cZ]
 have V_:∀x∈S.nodes,aI (cZ S over b n).ae x.dev=aI S.ae x.dev:=fun x hx=>MN (h.on x hx).1
 have hold:∀k,(hk:k<S.ae.length)->(hk':k<(cZ S over b n).ae.length)->(cZ S over b n).ae[k]'hk'=S.ae[k]:=fun k hk hk'=>SV S.ae _ k hk hk'
 have wW:∀k,(hk:k=S.ae.length)->(hk':k<(cZ S over b n).ae.length)->(cZ S over b n).ae[k]'hk'=⟨S.last+1,over,⟨1,1,b,n⟩⟩:=fun k hk hk'=>Ou S.ae _ k hk hk'
 have hrn:aI (cZ S over b n).ae (ct S).dev=(ct S).no:=by
  show aI (cZ S over b n).ae ((S.ae.length:Int)+1)=S.last+1;rw[SW (by rw[hlen];omega:S.ae.length<(cZ S over b n).ae.length),wW _ rfl]
 refine⟨h.bL.add (ct S) rfl (by omega),by show 1<=S.last+1;omega,by rw[hlen];omega,by rw[hlen];omega,?_,?_,?_,?_,?_,?_,?_,?_,?_,?_,?_,?_,?_,?_,?_,?_,?_,?_⟩
 ·intro d hd
  rcases dn.1 hd with hd|hd
  ·exact h.roots d hd
  ·rw [ax]at hd
   subst hd;refine⟨by show 0<S.last+1;omega,?_⟩;rcases iK b n with⟨h1,h2,h3,h4,_⟩|⟨h0,_⟩
   ·exact⟨show (0:Int)<=1 by decide,show (0:Int)<=1 by decide,h1,h3,h2,h4⟩
   ·rw[h0]at hl;cases hl
 ·have:=h.count;show ((S.nodes++[ct S]).length:Int)<=S.last+1;simp;exact this
 ·intro m hm
  rcases new hm with hm|rfl
  ·exact h.small m hm
  ·exact bC _
 ·intro m hm
  rcases new hm with hm|rfl
  ·exact h.qO m hm
  ·exact List.Pairwise.nil
 ·intro m hm
  rcases new hm with hm|rfl
  ·exact h.names m hm
  ·intro x hx;simp[ct,aj]at hx
 ·intro m hm
  rcases new hm with hm|rfl
  ·exact fun x hx=>⟨(h.pos m hm x hx).1,by have:=(h.pos m hm x hx).2;show x.2<=S.last+1;omega⟩
  ·intro x hx;simp[ct,aj]at hx
 ·intro m hm
  rcases new hm with hm|rfl
  ·exact⟨aau (h.on m hm).1,(h.on m hm).2⟩
  ·refine ⟨?_,by simp[ct,aj]⟩
   unfold ic;rw[hlen];show (decide ((1:Int)<=(S.ae.length:Int)+1)&&decide ((S.ae.length:Int)+1<=((S.ae.length+1:Nat):Int)))=true;rw[fl,lZ,lZ];omega
 ·obtain ⟨m,hm,e⟩:=h.first
  exact⟨m,sub m hm,e⟩
 ·intro m hm e
  rcases new hm with hm|rfl
  ·exact h.one m hm e
  ·have:S.last+1=1:=e
   omega
 ·show aI (S.ae++_) 1=1
  rw[MN (by have:=h.ae;unfold ic;simp;omega)];exact h.pM
 ·intro m hm hk
  rcases new hm with hm|rfl
  ·exact h.qs m hm hk
  ·rfl
 ·intro m hm hk _
  rcases new hm with hm|rfl
  ·unfold GS
   rw[V_ m hm];rcases h.Ca m hm hk with u|⟨u1,u2,q,hq,u3⟩
   ·exact .inl u
   ·exact .inr ⟨u1,u2,q,sub q hq,u3⟩
  ·exact .inl ⟨hrn,rfl⟩
 ·intro m hm
  rcases new hm with hm|rfl
  ·exact h.bits m hm
  ·exact⟨by show (0:Int)<=493;decide,by show (493:Int)<=1023;decide,by show (1:Int)<=1;decide,by show (1:Int)<=1000;decide⟩
 ·intro m hm x hx
  rcases new hm with hm|rfl
  ·have hK:=h.FO m hm x hx
   have hp:=(h.pos m hm x hx).2;refine⟨hK.1,fun d hd=>?_,fun q hq e=>?_⟩
   ·rcases dn.1 hd with hd|hd
    ·exact hK.2.1 d hd
    ·rw [ax]at hd
     subst hd;show x.2≠S.last+1;omega
   ·rcases new hq with hq|rfl
    ·exact hK.2.2 q hq e
    ·have:S.last+1=x.2:=e
     omega
  ·simp[ct,aj]at hx
 ·intro h0
  exact (nu fP.over (hold 0 h.ae h0)).trans (h.uU h.ae)
 ·intro k hk
  rw[hlen]at hk
  by_cases hk2:k+1<S.ae.length
  ·obtain ⟨m,hm,o1,o2,o3,o4⟩:=h.qK k hk2
   rw[hold (k+1) hk2];exact⟨m,sub m hm,o1,o2,o3,by rw[V_ m hm];exact o4⟩
  ·obtain ⟨m,hm,o1,o2,o3⟩:=ho
   rw[wW (k+1) (by omega)];refine⟨m,sub m hm,o1,o2,?_,by rw[V_ m hm];exact o3⟩;have:=(uT (h.on m hm).1).2;omega
 ·intro k hk
  rw[hlen]at hk
  by_cases hk2:k<S.ae.length
  ·obtain ⟨m,hm,o⟩:=h.ii k hk2
   rw[hold k hk2];exact⟨m,sub m hm,o⟩
  ·rw [wW k (by omega)]
   refine⟨ct S,ab7,rfl,rfl,?_⟩;show (S.ae.length:Int)+1=k+1;omega
 ·obtain ⟨d,hd⟩:=h.deep
  refine⟨d,fun m hm hk BZ=>?_⟩;rcases new hm with hm|rfl
  ·exact hd m hm hk BZ
  ·exact absurd rfl BZ
theorem Ow (h:eB c S) (a b n:Int):eB c (dB S a b n):=by
 unfold dB;split
 ·rename_i h0
  refine S6 h (xN h0).1 (xN h0).2 ?_;unfold ef at h0;split at h0
  ·cases h0
  ·rename_i hi
   split at h0
   ·cases h0
   ·rename_i hk
    split at h0
    ·cases h0
    ·rename_i ho
     rw[not_or]at ho;have tm:aW S.nodes a=true:=by simpa using hi
     have hm:=ap tm;exact⟨_,hm.2.2,hm.2.1,bR.1 hk,by rw[hm.2.1];exact ho.2⟩
 ·exact h
theorem Ox {n:Int} (hl:dg b n=true):eB 0 (cZ dF 0 b n):=by
 have hg:=GR hl;have one:∀{m:ak},m∈(cZ dF 0 b n).nodes->m=ct dF:=fun hm=>by simpa [cZ,dF]using hm
 refine⟨hg.fJ.bL,hg.fJ.last,hg.fJ.ae,hg.fJ.eight,hg.fJ.roots,hg.fJ.count,?_,hg.fJ.qO,hg.names,?_,hg.on,hg.first,hg.one,hg.aec,?_,?_,?_,?_,fun _=>rfl,?_,?_,⟨fun _=>0,?_⟩⟩
 ·intro m hm;rw[one hm];exact aE _
 ·intro m hm x hx;rw[one hm]at hx;simp[ct,aj]at hx
 ·intro m hm _;rw[one hm];rfl
 ·intro m hm _ _;rw[one hm];exact .inl ⟨rfl,rfl⟩
 ·intro m hm;rw[one hm];exact⟨by show (0:Int)<=493;decide,by show (493:Int)<=1023;decide,by show (1:Int)<=1;decide,by show (1:Int)<=1000;decide⟩
 ·intro m hm x hx;rw[one hm]at hx;simp[ct,aj]at hx
 ·intro k hk
  have:k+1<1:=hk;omega
 ·intro k hk
  have hk2:k<1:=hk;have:k=0:=by omega
  subst this;exact⟨ct dF,jO _ (ax.2 rfl),rfl,rfl,rfl⟩
 ·intro m hm _ hu;rw[one hm]at hu;exact absurd rfl hu
theorem iz {c':Nat} (h:rO c k S) (hc:c<=c'):rO c' k S:=
 { h with small:=fun n hn=>by have:=h.small n hn;omega}
open Go.ChangeShapes Go.WideShapes Go.ChangeAt Go.RowKit
theorem S7 {last:Int} (hu:aQ ns last) {k:Nat} (hk:k<ns.length) (h:ns[k].no=no):dO ns no=ns.eraseIdx k:=by
 subst h;have hp:=hu.1;clear hu;unfold dO
 induction ns generalizing k with
 | nil=>simp at hk
 | cons x l ih =>
  obtain⟨h1,h2⟩:=oc.1 hp
  match k,hk with
  | 0,hk =>
   rw[jH,ac (by simp)];simp only[zm,List.eraseIdx_zero,List.tail_cons];rw[RJ];intro m hm;have:=h1 m hm;simp;omega
  | k+1,hk =>
   have hk2:k<l.length:=by simpa using hk
   have:=h1 _ (jh hk2);rw[jH];simp only[zn,List.eraseIdx_cons_succ];rw[af (by simp;omega),ih hk2 h2]
theorem Oy {es:Array MapEntry} (h:j5 w B es.toList ns) {k:Nat} (hk:k<ns.length) :
  j5 w B (es.eraseIdxIfInBounds k).toList (ns.eraseIdx k):=by
 have hl:es.size=ns.length:=by simpa using h.1
 have e:(es.eraseIdxIfInBounds k).toList=es.toList.eraseIdx k:=by
  unfold Array.eraseIdxIfInBounds;rw[yY (by omega),Array.toList_eraseIdx]
 rw[e];refine⟨by rw[zB,zB,h.1],fun j hj=>?_⟩;rw[zB,af hk]at hj;rw[List.getElem?_eraseIdx]
 by_cases JM:j<k
 ·obtain ⟨e',A',c',h1,h2,h3,h4⟩:=h.2 j (by omega)
  rw[af JM];have e2:(ns.eraseIdx k)[j]'(by rw[zB,af hk];exact hj)=ns[j]:=List.getElem_eraseIdx_of_lt _ JM;rw[e2];exact⟨e',A',c',h1,h2,h3,h4⟩
 ·obtain ⟨e',A',c',h1,h2,h3,h4⟩:=h.2 (j+1) (by omega)
  rw[ac JM];have e2:(ns.eraseIdx k)[j]'(by rw[zB,af hk];exact hj)=ns[j+1]:=List.getElem_eraseIdx_of_ge _ (by omega);rw[e2];exact⟨e',A',c',h1,h2,h3,h4⟩
theorem Xm {w0:World} {bM:Nat} {es:Array MapEntry} {clock:Nat} {last:Int} (hm:Has w bM (.map es clock)) (h:j5 w0 B es.toList ns) (hu:aQ ns last) (hi:aW ns no=true) (ty:TypeId) :
  ∃ es',(Builtin.delete_ #[155,3] ty #[.map (some bM),no]).run prog w=.ok (.tuple #[]) (oL w bM (.map es' clock))/\j5 w0 B es'.toList (dO ns no):=by
 have hk:∀r,Instr.findNow (.int .i64) (.int .i64 no) es.toList 0=some r->(Instr.findKey 3 (.int .i64 no) es.toList).run prog w=.ok r w:=fun r hr=>by
  unfold Instr.findKey;rw[nr,mD underlying3];simp[hr]
 rcases lS no es.toList ns 0 h.1 (fun k hk=>by obtain⟨e,A,c,h1,h2,_⟩:=h.2 k hk;exact⟨e,h1,h2⟩) with⟨g1,g2⟩|⟨k,e,g1,g2,g3,g4⟩
 ·rw[hi]at g1;cases g1
 ·have e0:gF ns no=some ns[k]:=by rw[g4,iq g1]
  have bB:ns[k].no=no:=(pp e0).1;refine⟨es.eraseIdxIfInBounds k,?_,by rw[S7 hu g1 bB];exact Oy h g1⟩;simp[Builtin.delete_,mD underlying155,rp hm,iJ,hk _ g3,Js _ hm,Result.andThen,oL]
theorem Oz (h:aW ns no=false):dO ns no=ns:=by
 unfold dO;rw[RJ];intro m hm;have:=(aP h).2 m hm;simpa using this
theorem OA (B bT bM:Nat) (ns:List ak) (last no:Int) (w:World) (h:q9 w B bT bM ns last) (hu:aQ ns last) :
  Calls prog 226 #[((),bT),no] w (fun e w'=>e=.returned (.bool (aW ns no))/\q9 w' B bT bM (dO ns no) last/\Only [bT,bM] w w'):=by
 go_in;go_wp2_with fail;refine (fW B bT bM ns last no _ h).mono ?_;rintro e w1 ⟨A1,c1,rfl,NS,Et⟩
 generalize aa ns no=m at NS|-
 cases hi:aW ns no
 ·have Ez:Hid (dO ns no=ns):=Oz hi
  have HI:=zH hi;clear hi;go_wp2;go_ret;exact⟨eo HI.o.symm,by rw[Ez.o];exact (h.ext Et).ext ((Ext.refl _).alloc _),Only.az (Et.alloc _)⟩
 ·obtain⟨W2,dp⟩:=ai (w1.alloc (.cells (m,A1,c1) 66))
  have E2:Ext w W2:=by rw[dp];exact Et.alloc _
  obtain⟨h1,h2,h3,es,cl,h4,h5⟩:=h.ext E2;have c0:=aA h3 0 rfl;have abS:=h3.lt;obtain⟨es',hr,Q_⟩:=Xm (w:=W2) h4 h5 hu hi 0;have HO:=zH Q_;have HI:=zH hi;clear Q_ hi;go_upto_region 3 with fail;rw[<-dp];clear dp;go_wp2;go_ret;exact⟨eo HI.o.symm,q9.JR (ns:=ns) ⟨h1,h2,h3,es,cl,h4,h5⟩ HO.o,(Only.az E2).then ((Only.oL W2 bM _).mono (by simp))⟩
open Go
def Shut (md:Region.Mode) (ops:Array Oper) (listed:Array Bool):Prop:=∀i oi,ops[i]?=some oi->listed.getD i false=true->∀e∈oi.after,Region.binds md e=true->listed.getD e.on false=true
theorem EP {listed:Array Bool} {k:Nat} (h:listed.getD k false=true):listed.getD k true=true:=by
 rcases lq k listed.size with g|g
 ·simp[g]at h|-;exact h
 ·simp[rf g]
theorem Shut.step {md:Region.Mode} {ops:Array Oper} {listed:Array Bool} (h:Shut md ops listed) {i:Nat} (hi:i∈Region.ready md ops listed):Shut md ops (listed.setIfInBounds i true):=by
 obtain ⟨sn,oi,ta,hall⟩:=jt.1 hi;have up:∀k,listed.getD k false=true->(listed.setIfInBounds i true).getD k false=true:=fun k hk=>by
  by_cases e:i=k
  ·subst e
   have:=EP hk;rw[sn]at this;cases this
  ·rw[ez false e];exact hk
 intro k ok hok hk e he hb
 by_cases hik:i=k
 ·subst hik
  rw[ta]at hok;injection hok with hok;subst hok;exact up _ (hall e he hb)
 ·rw [ez false hik]at hk
  exact up _ (h k ok hok hk e he hb)
theorem Au {P:Program} {ops:Array Oper} {md:Region.Mode} {V:World} {s:Nat} {cs:List (Operand×Value)} {Q:Act->Prop} {Q':Exit->Act->World->Prop} {os:Oper} {F:World->Prop}
  (oW:ops[s]?=some os) (Zc:os.guard=none) (Zd:os.dst=none)
  (jR:∀(a:Act) (w:World),Ext V w->MG cs a->∃w'',(execOp a.eval os).run P w=.ok .skip w''/\F w'')
  (hpu:∀i oi,ops[i]?=some oi->i≠s->(∃e∈os.after,Region.binds md e=true/\(e.on=i\/∃oj,ops[e.on]?=some oj/\∃e2∈oj.after,Region.binds md e2=true/\e2.on=i))\/(oi.guard=none/\∃t ix,oi.op=.extract t ix))
  (hQ:∀a w,F w->Q a->Q' .normal a w) :
  ∀ (f:Nat) (listed:Array Bool) (a:Act) (w:World),Shut md ops listed->rI P md ops V ops.size s cs Q f listed a ->
   (listed.getD s true=false->Ext V w->wpAny P md ops Q' f listed a w) /\
   (listed.getD s true=true->F w->(∀i oi,ops[i]?=some oi->listed.getD i true=false->oi.guard=none/\∃t ix,oi.op=.extract t ix)->wpAny P md ops Q' f listed a w)
 | 0,listed,a,w,_,h=>by
  obtain⟨h1,_,h3,h4⟩:=h;exact⟨fun h=>(by rw[h3]at h;cases h),fun _ hF _=>⟨h1,hQ a w hF h4⟩⟩
 | f + 1, listed,a,w,hsh,h=>by
  have ih:=fun listed a w=>Au oW Zc Zd jR hpu hQ f listed a w
  have shut:=fun {i:Nat} (hi:i∈Region.ready md ops listed)=>hsh.step hi
  obtain⟨hne,hall⟩:=h;refine⟨fun hs hE=>⟨fun h0=>absurd h0 hne,fun i hi=>?_⟩,fun hs hF sn=>⟨fun h0=>absurd h0 hne,fun i hi=>?_⟩⟩
  ·have hr:=hall i hi
   obtain⟨EI,oi,ta,rK⟩:=jt.1 hi;have NZ:i≠ops.size:=by have:=(jM.1 ta).1;omega
   unfold sN at hr;rw[ac NZ]at hr
   by_cases e2:i=s
   ·subst e2
    obtain rfl:os=oi:=nt (oW.symm.trans ta);rw[af rfl]at hr;obtain⟨w'',ue,xK⟩:=jR a w hE hr.1;unfold wpOp;rw[oW];dsimp only;have hw:Region.wanted os (yielded ops a.tmps)=true:=by unfold Region.wanted;rw[Zc]
    rw[af hw]
    left
    unfold Oper.wp;rw[ue];simp only[Oper.upon];rw[Zd];refine (ih _ a w'' (shut hi) hr.2).2 (eC listed i) xK fun j oj BP hj=>?_
    have s9:j≠i:=fun e=>by rw[e,eC]at hj;cases hj
    rcases hpu j oj BP s9 with⟨e,m_,oU,pX⟩|hp
    ·have hl:listed.getD j true=true:=by
      rcases pX with pX|⟨ok,hok,e2,g1,g2,g3⟩
      ·rw[<-pX];exact EP (rK e m_ oU)
      ·rw[<-g3];exact EP (hsh _ ok hok (rK e m_ oU) e2 g1 g2)
     rw[ez true (dA s9)]at hj;rw[hj]at hl;cases hl
    ·exact hp
   ·rw [ac e2,ta]at hr
    unfold wpOp;rw[ta];dsimp only at hr|-;split
    ·rename_i hw
     rw[af hw]at hr;obtain⟨v,h1,h2⟩:=hr
     left
     exact uL (h1 ⟨w,hE⟩) fun w'' hx=>(ih _ _ w'' (shut hi) h2).1 (by rw[ez true e2];exact hs) (hE.trans hx)
    ·rename_i hw
     rw[ac hw]at hr;exact (ih _ _ w (shut hi) hr).1 (by rw[ez true e2];exact hs) hE
  ·have hr:=hall i hi
   obtain⟨EI,oi,ta,rK⟩:=jt.1 hi;have NZ:i≠ops.size:=by have:=(jM.1 ta).1;omega
   have e2:i≠s:=fun e=>by rw[e,hs]at EI;cases EI
   obtain⟨hg,t,ix,hx⟩:=sn i oi ta EI;unfold sN at hr;rw[ac NZ,ac e2,ta]at hr;unfold wpOp;rw[ta];dsimp only at hr|-;have hw:Region.wanted oi (yielded ops a.tmps)=true:=by unfold Region.wanted;rw[hg]
   rw[af hw]at hr|-;obtain⟨v,h1,h2⟩:=hr
   left
   unfold Oper.wp;rw[uO hx (h1 ⟨V,Ext.refl V⟩) w];simp only[Oper.upon];refine (ih _ _ w (shut hi) h2).2 (by rw[ez true e2];exact hs) hF fun j oj BP hj=>?_
   by_cases e:i=j
   ·subst e;rw[eC]at hj;cases hj
   ·rw[ez true e]at hj;exact sn j oj BP hj
def Ke (l:List Oper) (os:Oper) (i:Nat):Bool:=os.after.any (fun e=>Region.binds .any e&&(e.on == i || (match l[e.on]? with
 | some oj=>oj.after.any (fun e2=>Region.binds .any e2&&e2.on == i)
 | none=>false)))
def S8 (l:List Oper) (s:Nat) (x y:Tmp) (os:Oper):Bool:=
 os.guard == none&&os.dst == none&&(os.looksAt l.toArray).contains x&&(os.looksAt l.toArray).contains y &&
  (List.range l.length).all (fun i=>(i == s || Ke l os i) || EJ l i)
def S_ (l:List Oper) (s:Nat) (x y:Tmp):Bool:=
 decide (s<l.length)&&(match l[s]? with
  | some os=>S8 l s x y os
  | none=>false)
theorem GX {l:List Oper} {os:Oper} {i:Nat} (h:Ke l os i=true):∃e∈os.after,Region.binds .any e=true/\(e.on=i\/∃oj,l.toArray[e.on]?=some oj/\∃e2∈oj.after,Region.binds .any e2=true/\e2.on=i):=by
 unfold Ke at h;simp only[wh,fl,xF,il]at h;obtain⟨e,he,hb,h⟩:=h;refine⟨e,he,hb,?_⟩;rcases h with h|h
 ·exact .inl h
 ·right
  cases ho:l[e.on]? with
  | none=>rw[ho]at h;cases h
  | some oj =>
   rw[ho]at h;simp only[wh,fl,il]at h;obtain⟨e2,h1,h2,h3⟩:=h;exact⟨oj,by simpa using ho,e2,h1,h2,h3⟩
theorem Av {P:Program} {id:Nat} {Q:Exit->Act->World->Prop} {a:Act} {w:World} {l:List Oper} (V:World) (s:Nat) (x y:Tmp) (vx vy:Value) (F:World->Prop) (os:Oper)
  (hmo:P.follows .mixedOrders=true) (hB:Region.lexB .any l.toArray=true) (hc:S_ l s x y=true) (oW:l[s]?=some os)
  (jR:∀(a:Act) (w:World),Ext V w->a.eval (.tmp x)=vx->a.eval (.tmp y)=vy->∃w'',(execOp a.eval os).run P w=.ok .skip w''/\F w'')
  (hV:Ext V w.drew)
  (h:aM P l.toArray V (fun a2=>a2.eval (.tmp x)=vx/\a2.eval (.tmp y)=vy/\aM P l.toArray V (fun a3=>∀w',F w'->Q .normal a3 w') (l.drop (s+1)) a2) (l.take s) a) :
  (Code.region id l.toArray true).wp P Q a w:=by
 simp only[S_,oW,S8,fl,lZ,rr,xF,il]at hc;obtain⟨c2,⟨⟨⟨g3,g4⟩,g5⟩,g6⟩,c6⟩:=hc;simp only[Region.lexB,fl]at hB;have z_:l.toArray[s]?=some os:=by simpa using oW
 have hys:∀o,l.toArray[s]?=some o->∀p∈[(Operand.tmp x,vx),(Operand.tmp y,vy)],∀z,p.1=.tmp z->z∈o.looksAt l.toArray:=fun o ho p hp z hz=>by
  rw[z_]at ho;injection ho with ho;simp only[aR,bg,bh]at hp;rcases hp with rfl|rfl
  ·injection hz with hz;rw[<-ho,<-hz];simpa using g5
  ·injection hz with hz;rw[<-ho,<-hz];simpa using g6
 refine zt hmo ?_;have ig:(l.take s).length=s:=by simp;omega
 have EH:oQ P l.toArray V l.toArray.size s [(.tmp x,vx),(.tmp y,vy)] (fun a3=>∀w',F w'->Q .normal a3 w') l 0 a:=by
  have e:l=l.take s++(os::l.drop (s+1)):=by
   have e2:l.drop s=os::l.drop (s+1):=by rw[jg c2];congr 1;rw[iq c2]at oW;injection oW
   rw[<-e2,qE]
  conv=>arg 8;rw[e]
  refine lc (l.take s) 0 a (fun j hj=>by rw[ig]at hj;simp;omega) (fun j hj=>by rw[ig]at hj;rw[eY];simp[hj]) ?_;rw[eY,ig];have pC:∀{Q1 Q2:Act->Prop},(∀a,Q1 a->Q2 a)->∀(pB:List Oper) (a:Act),aM P l.toArray V Q1 pB a->aM P l.toArray V Q2 pB a:=by
   intro Q1 Q2 hq pB
   induction pB with
   | nil=>intro a h;exact hq a h
   | cons o pB ih =>
    intro a h;unfold aM at h|-;split
    ·rename_i hw;rw[af hw]at h;obtain⟨v,h1,h2⟩:=h;exact⟨v,h1,ih _ h2⟩
    ·rename_i hw;rw[ac hw]at h;exact ih _ h
  refine pC (fun a2 h2=>?_) _ _ h;show sN P l.toArray V l.toArray.size s _ s _ a2;unfold sN;rw[ac (by simp;omega),af rfl];refine⟨fun p hp=>?_,?_⟩
  ·simp only[aR,bg,bh]at hp
   rcases hp with rfl|rfl
   ·exact h2.1
   ·exact h2.2.1
  have e5:l.drop (s+1)=l.drop (s+1)++[]:=by simp
  rw[e5];refine lc (l.drop (s+1)) (s+1) a2 (fun j hj=>by simp at hj|-;omega) (fun j hj=>by simp) ?_;exact h2.2.2
 have hR:=rJ (md:=.any) (s:=s) hB.1 hys l 0 (Array.replicate l.toArray.size false) a (by simp) (fun j hj=>by omega) (by simp) (by simpa using c2) (by simpa using hB.2) EH;have:=(Au (V:=V) (P:=P) (ops:=l.toArray) (md:=.any) (s:=s) (Q':=Q) (F:=F) z_ g3 g4 (fun a w h1 h2=>jR a w h1 (h2 (.tmp x,vx) (by simp)) (h2 (.tmp y,vy) (by simp))) ?_ (fun a w h1 h2=>h2 w h1) _ _ a w.drew (fun k ok hok hk=>by have hk2:k<l.length:=(jM.1 hok).1;simp[hk2]at hk) hR).1 (by simp[c2]) hV
 ·simpa using this
 ·intro i oi hi h1
  have hil:i<l.length:=by
   rcases lq i l.length with h'|h'
   ·exact h'
   ·rw[rf (by simpa using h')]at hi;cases hi
  have:=c6 i (ru.2 hil);unfold EJ at this;rw[show l[i]?=some oi by simpa using hi]at this;dsimp only at this;rcases this with (this|this)|this
  ·exact absurd this h1
  ·exact .inl (GX this)
  ·right
   simp only[fl,il]at this;refine⟨this.1,?_⟩;have h3:=this.2;unfold wN at h3
   cases ho:oi.op<;>simp[ho]at h3
   exact⟨_,_,rfl⟩
attribute [local irreducible] wpQuiet
def iI (S:ag) (no:Int):Bool:=aW S.nodes no&&!(aI S.ae (aa S.nodes no).dev == no)
def Aw (S:ag) (n:ak):List fP:=jb S.ae n.dev (bf (jq S.ae n.dev).q (-(cx n.kind n.data.length)) (-1))
def gS (S:ag) (no:Int):ag:=if iI S no=true then⟨dO S.nodes no,Aw S (aa S.nodes no),S.last⟩ else S
def Zs (w:World) (B:Nat) (g:dL) (S:ag) (no:Int) (e:Ending) (w':World):Prop:=
 e = .returned (.bool (iI S no))/\eL w' B g (gS S no)/\Only g.list w w'
theorem GY {w':World} {g:dL} (h:eL w B g S) (hE:Ext w w') (hk:iI S no=false):Zs w B g S no (.returned (.bool false)) w':=
 ⟨by rw[hk],by unfold gS;rw[hk];exact h.ext hE,Only.az hE⟩
theorem Ay {id:Nat} {Q:Exit->Act->World->Prop} {a:Act} {l:List Oper} (V:World) (s:Nat) (x y:Tmp) (B g cap:Nat) (ds:List fP) (k:Nat) (hk:k<ds.length) (q:dW) (hD:fg V B 205 (.slice (some g) ds.length cap) ds) (os:Oper)
  (hB:Region.lexB .any l.toArray=true) (hc:S_ l s x y=true) (oW:l[s]?=some os) (pj:os.op=.store 189 (.tmp x) (.tmp y)) (hV:Ext V w.drew) :
  aM prog l.toArray V (fun a2=>a2.eval (.tmp x)=.pointer (some ⟨g,k*6+2,none⟩)/\a2.eval (.tmp y)=.agg #[q.blocks,q.nodes,q.bH,q.bG]/\aM prog l.toArray V (fun a3=>∀w',(∃w0,Ext V w0/\Only [g] w0 w'/\fg w' B 205 (.slice (some g) ds.length cap) (jb ds ((k:Int)+1) q))->Q .normal a3 w') (l.drop (s+1)) a2) (l.take s) a ->
  (Code.region id l.toArray true).wp prog Q a w:=by
 refine Av V s x y _ _ (fun w'=>∃w0,Ext V w0/\Only [g] w0 w'/\fg w' B 205 (.slice (some g) ds.length cap) (jb ds ((k:Int)+1) q)) os (by kernel_rfl) hB hc oW ?_ hV;intro a w hE h1 h2;have hw:w.ownsRow B 205 6 (.slice (some g) ds.length cap) ds.length (bp ds):=av hD (Only.az (L:=[]) hE) (by simp);obtain⟨_,_,d2,d3,d4,d5⟩:=fg.at_ (show fg w B _ _ ds from hw) k hk;have f2:=hw.frozenAt (k*6+2);have f3:=hw.frozenAt (k*6+3);have f4:=hw.frozenAt (k*6+4);have f5:=hw.frozenAt (k*6+5);have ht:w.there g (k*6+2) 4:=by
  intro j hj
  match j,hj with
  | 0,_=>exact⟨by rw[zo,d2];rfl,by rw[zo];exact f2⟩
  | 1,_=>exact⟨by rw[show k*6+2+1=k*6+3 from rfl,d3];rfl,f3⟩
  | 2,_=>exact⟨by rw[show k*6+2+2=k*6+4 from rfl,d4];rfl,f4⟩
  | 3,_=>exact⟨by rw[show k*6+2+3=k*6+5 from rfl,d5];rfl,f5⟩
 refine⟨_,?_,w,hE,cr [.int .i64 q.blocks,.int .i64 q.nodes,.int .i64 q.bH,.int .i64 q.bG] (k*6+2) w,?_⟩
 ·simp only[execOp,pj,h1,h2,tF w g (k*6+2) 189 #[q.blocks,q.nodes,q.bH,q.bG] ht nH (wM q),nr,o7,rn]
 ·unfold fg
  simp only[gQ];rw[<-lU ds k hk];exact (jL (jL (jL (jL hw (k*6+2) _).1 (k*6+3) _).1 (k*6+4) _).1 (k*6+5) _).1
theorem OB (B : Nat) (g:dL) (S:ag) (no:Int) (w:World) (h:eL w B g S) (hd:0<S.ae.length) (mZ:S.ae.length<=8) (hr:eV S.ae) (hu:aQ S.nodes S.last) (OC:GP S) :
  Calls prog 217 #[((),g.bW),no] w (Zs w B g S no):=by
 have hm:Hid (iI S no=(aW S.nodes no&&!(aI S.ae (aa S.nodes no).dev == no))):=by show _=_;rfl
 have R0:=Has.new w (.cells (aj,()) 66);have E0:Ext w (w.alloc (.cells () 66)):=(Ext.refl _).alloc _;go_in;go_wp2_with fail;refine (ir B g S _ (h.ext E0) hd).mono ?_;rintro e w1 ⟨rfl,b1⟩;have R1:=R0.ext b1;have E1:=E0.trans b1;obtain⟨_,_,cd,hW,hD⟩:=id (h.ext E1);have v0:=aA hW 0 rfl;have z1:=hW.lt;clear hD;go_wp2_with fail;refine (fW B g.bT g.bM S.nodes S.last no _ (h.ext E1).2.1).mono ?_;rintro e w2 ⟨A,c,rfl,gG,b2⟩;have R2:=R1.ext b2;have E2:=E1.trans b2;have hmem:aW S.nodes no=true->(aa S.nodes no).no=no/\ic S.ae (aa S.nodes no).dev=true/\(aa S.nodes no).data.length<=1048576:=fun hi=>⟨(ap hi).2.1,OC _ (ap hi).2.2⟩
 obtain⟨n,hn⟩:=ai (aa S.nodes no);obtain⟨i,hi⟩:=ai (aW S.nodes no);rw[<-hn]at gG hm hmem;rw[<-hi]at hm hmem;rw[<-hn,<-hi];have HN:=zH hn;have HI:=zH hi;have HM:=zH hmem;clear v0 hn hi hmem
 cases i
 ·have hE:Hid (iI S no=false):=by show _=_;rw[hm.o];rfl
  clear hm;go_wp2_with (refine aq rfl _ _ rfl w.heap.size n A c rfl rfl R2 ?_;intro w3 R3 O3);go_ret;exact GY h (O3.after E2 (by simp)) hE.o
 ·obtain ⟨bB, Ar, ab8⟩:=HM.o rfl
  clear bB;go_upto_region 4 with (refine aq rfl _ _ rfl w.heap.size n A c rfl rfl R2 ?_;intro w3 R3 O3);have E3:Ext w w3:=O3.after E2 (by simp);have x1:=aA R3 1 rfl;have xz:=R3.lt;go_wp2_with fail;refine (fQ B g S n.dev _ (h.ext E3) hd (by omega)).mono ?_;rintro e MO ⟨rfl,Zt⟩;have Rh:=R3.ext Zt;have Xn:=E3.trans Zt;clear x1 xz
  by_cases BQ:aI S.ae n.dev=no
  ·have tr:(aI S.ae n.dev == no)=true:=by simpa using BQ
   have hE:Hid (iI S no=false):=by show _=_;rw[hm.o,tr];rfl
   clear BQ hm;go_wp2;go_ret;exact GY h Xn hE.o
  have tr:(aI S.ae n.dev == no)=false:=by simpa using BQ
  have hE:Hid (iI S no=true):=by show _=_;rw[hm.o,tr];rfl
  have GZ:=cT hr n.dev;rcases GZ with⟨_,e2⟩|⟨k,hk,e1,_,e3,_,_,e6⟩
  ·rw[e2]at Ar;cases Ar
  obtain⟨bl,oV⟩:=ai (cx n.kind n.data.length);have eN:=sm (k:=n.kind) (s:=n.data.length) (by omega) (by omega);rw[<-oV]at eN;obtain⟨q,hq⟩:=ai (S.ae[k].q);rw[<-hq]at e6;have inr:V7 (-bl) (-1):=⟨by omega,by omega,by omega,by omega⟩;have HB:=zH oV;have HQ:=zH hq;have H3:=zH e3;have HD:=zH e1;have hsz:((bs n.data).size:Int)=n.data.length:=by rw[bo]
  have y0:(0:Int)<=n.dev-1:=by rw[e1];omega
  have y1:n.dev-1<(S.ae.length:Int):=by rw[e1];omega
  have y2:(n.dev-1).toNat=k:=by rw[e1];omega
  have y3:IntKind.i64.wrap (n.dev-1)=n.dev-1:=aU (by omega) (by omega);have y4:1<=n.dev:=by omega
  have y5:n.dev.toNat-1=k:=by omega
  clear hm Ar oV hq e3 e1 BQ;go_upto_region 6 with fail;have x1:=aA Rh 1 rfl;have xz:=Rh.lt;obtain⟨hb,hT,cd3,cJ,hD3⟩:=id (h.ext Xn);have v1:=aA cJ 1 rfl;have vz:=cJ.lt;go_cut [7] (fun p wc=>p=.pointer (some ⟨g.bD,k*6,none⟩)/\Ext MO wc)
  case first =>
   go_quiet (fail);go_wp2_with fail;go_meet;exact⟨rfl,(Ext.refl _).drewN nq⟩
  case rest =>
  obtain⟨rfl,E4⟩:=hcut;obtain⟨W4,gb⟩:=ai wc;rw[<-gb]at E4|-;clear gb x1 v1 vz xz;go_upto_region 7 with fail;have R4:=Rh.ext E4;have EW4:Ext w W4:=Xn.trans E4;have hl:=h.lt;obtain⟨_,hT4,cd4,gb,Zj⟩:=id (h.ext EW4);have K4:=h.ext EW4;obtain⟨_,_,d2,d3,d4,d5⟩:=fg.at_ Zj k hk;rw[<-HQ.o]at d2 d3 d4 d5;have y6:IntKind.i64.wrap (-bl)=-bl:=aU (by omega) (by omega);have Az:g.bD<W4.heap.size:=by have:=EW4.size;omega
  go_cut [] (fun wc=>Only [g.bD] W4 wc/\fg wc B 205 (.slice (some g.bD) S.ae.length cd4) (jb S.ae ((k:Int)+1) (bf q (-bl) (-1))))
  case first =>
   have K0:Hid (∀w:World,Calls prog 220 #[n.kind,n.data.length] w (fun e w'=>e=.returned (.int .i64 bl)/\w'=w)):=by
    show ∀w:World,_;intro w;rw[HB.o];exact uD n.kind n.data.length (by omega) (by omega) w
   have KT:Hid (∀w:World,Calls prog 183 #[.agg #[q.blocks,q.nodes,q.bH,q.bG],.int .i64 (-bl),.int .i64 (-1)] w (aO w (.tuple #[.agg #[.int .i64 (bf q (-bl) (-1)).blocks,.int .i64 (bf q (-bl) (-1)).nodes,.int .i64 (bf q (-bl) (-1)).bH,.int .i64 (bf q (-bl) (-1)).bG],.int .i64 (eZ q (-bl) (-1))]))):=wD q (-bl) (-1) e6 inr;have u2:∀u:Gr W4,u.w.cell? (w.heap.size,2)=some (.int .i64 n.kind):=Gr.cell R4.lt (R4.cell 2);have u10:∀u:Gr W4,u.w.cell? (w.heap.size,10)=some (.string (bs n.data)):=Gr.cell R4.lt (R4.cell 10);have t2:∀u:Gr W4,u.w.cell? (g.bD,k*6+2)=some (.int .i64 q.blocks):=Gr.cell Az d2;have t3:∀u:Gr W4,u.w.cell? (g.bD,k*6+3)=some (.int .i64 q.nodes):=Gr.cell Az d3;have t4:∀u:Gr W4,u.w.cell? (g.bD,k*6+4)=some (.int .i64 q.bH):=Gr.cell Az d4;have t5:∀u:Gr W4,u.w.cell? (g.bD,k*6+5)=some (.int .i64 q.bG):=Gr.cell Az d5;clear d2 d3 d4 d5 R4 EW4 E4 K4 gb hT4;refine Ay W4 18 56 53 B g.bD cd4 S.ae k hk (bf q (-bl) (-1)) Zj _ (by kernel_rfl) (by kernel_rfl) rfl rfl ((Ext.refl _).drew) ?_;simp only[qG,oH,qH,p9]
   repeat (
       refine cH (fun K hK=>?_);go_simp
       first
        | (refine hK _ ?_;clear hK K)
        | (
          apply Exists.intro;refine⟨fun u=>?_,hK _ ?_⟩
          first
           | ((with_reducible refine (K0.o _).mono ?_);rintro e w'' ⟨rfl,rfl⟩;exact⟨rfl,Ext.refl _⟩)
           | ((with_reducible refine (KT.o _).mono ?_);rintro e w'' ⟨rfl,hx⟩;exact⟨rfl,hx⟩)
          clear hK K))
   refine bc ⟨rfl,rfl,?_⟩;refine bc ?_;rintro w' ⟨w0,hx,hO,hR⟩;go_wp2_with fail;go_meet;exact⟨Only.pre hx hO,hR⟩
  case rest =>
  obtain ⟨O5,D5⟩:=hcut;obtain⟨W5,kT⟩:=ai wc;rw[<-kT]at O5 D5|-;clear kT d2 d3 d4 d5;have K4a:=K4.apart;obtain⟨m1,m2,m3,m4,m5,m6⟩:=K4.ne;have H5:=O5.has gb (by simpa using m3);have T5:q9 W5 B g.bT g.bM S.nodes S.last:=hT4.only O5 (K4a.sub (by simp)) (by simpa using m5) (by simpa using m6);have v0:=aA H5 0 rfl;have vz:=H5.lt;go_wp2_with fail;refine (OA B g.bT g.bM S.nodes S.last no _ T5 hu).mono ?_;rintro e w6 ⟨rfl,T6,O6⟩;go_wp2;go_ret;have e2:gS S no=⟨dO S.nodes no,jb S.ae ((k:Int)+1) (bf q (-bl) (-1)),S.last⟩:=by
   unfold gS Aw;rw[af hE.o,<-HN.o,H3.o,<-HQ.o,<-HB.o,HD.o]
  refine⟨by rw[hE.o];exact eo HI.o.symm,?_,?_⟩
  ·rw [e2]
   refine⟨h.1,T6,cd4,?_,?_⟩
   ·have:=O6.has H5 (by simp;exact⟨m1,m2⟩)
    simpa [gQ]using this
   ·have:=av D5 O6 (fun b hb=>by simp[Value.ownBlock]at hb;subst hb;simp;exact⟨m5.symm,m6.symm⟩)
    unfold fg;simp only[gQ]at this|-;exact this
  ·exact (Only.pre EW4 (O5.mono (by simp))).then (O6.mono (by simp))
end
structure Live (S:ag):Prop where
 bL:aQ S.nodes S.last
 last:1<=S.last
 ae:0<S.ae.length
 eight:S.ae.length<=8
 roots:eV S.ae
 count:S.nodes.length<=S.last
 on:GP S
 first:∃m∈S.nodes,m.no=1
 one:∀n∈S.nodes,n.no=1->n.dev=1
 pM:aI S.ae 1=1
theorem Live.set {S:ag} (h:Live S) (n:ak) (hd:ic S.ae n.dev=true) (hl:n.data.length<=1048576) (h1:n.no=1->n.dev=1):Live (aV S n):=
 ⟨h.bL.set n,h.last,h.ae,h.eight,h.roots,by show ((cP S.nodes n).length:Int)<=S.last;rw[rG];exact h.count,fun m hm=>by
  rcases uP hm with hm|rfl
  ·exact h.on m hm
  ·exact⟨hd,hl⟩,by
  obtain⟨m,hm,e⟩:=h.first;refine⟨_,yN hm,?_⟩;split
  ·rename_i e2;rw[<-e2];exact e
  ·exact e,fun m hm e=>by
  rcases uP hm with hm|rfl
  ·exact h.one m hm e
  ·exact h1 e,h.pM⟩
theorem Live.fine (h:Live S) {d:Int} (hd:ic S.ae d=true) (b n:Int):qi (bf (jq S.ae d).q b n):=by
 rcases cT h.roots d with⟨_,e2⟩|⟨k,hk,_,_,e3,_,_,e6⟩
 ·rw[e2]at hd;cases hd
 ·rw[e3];exact tH e6
theorem Live.aav (h:Live S) (hk:iI S no=true):aW S.nodes no=true/\no≠1:=by
 unfold iI at hk;rw[fl]at hk;refine⟨hk.1,fun e=>?_⟩;have:=h.one _ (ap hk.1).2.2 ((ap hk.1).2.1.trans e);have h2:=hk.2;rw[this,h.pM,e]at h2;simp at h2
theorem G0 (a b n:Int):(dB S a b n).last<=S.last+1:=by
 unfold dB;split
 ·exact gE _
 ·omega
theorem Kf (S:ag) (no:Int):(gS S no).last=S.last:=by unfold gS;split<;>rfl
theorem Kg (S:ag) (no:Int) (d:List UInt8):(lD S no d).last=S.last:=by unfold lD;split<;>rfl
theorem eR (h:m∈dO ns no):m∈ns/\m.no≠no:=by
 unfold dO at h;rw[gz]at h;exact⟨h.1,by simpa using h.2⟩
theorem rP (h:m∈ns) (hne:m.no≠no):m∈dO ns no:=gz.2 ⟨h,by simpa using hne⟩
theorem Ta (h:rO c k S) (h1:no≠1) (GZ:∀j,(hj:j<S.ae.length)->S.ae[j].root≠no) (ab9:∀j,(hj:j+1<S.ae.length)->S.ae[j+1].over≠no)
  (hup:∀q∈S.nodes,q.kind=1->q.no≠no->q.no≠k'->GS S q/\(aI S.ae q.dev≠q.no->q.up≠no)):rO c k' ⟨dO S.nodes no,S.ae,S.last⟩:=by
 have hlen:(dO S.nodes no).length<=S.nodes.length:=sX ..;refine⟨h.bL.drop no,h.last,h.ae,h.eight,h.roots,?_,?_,?_,?_,?_,?_,?_,?_,h.pM,?_,?_,?_,?_,h.uU,?_,?_,?_⟩
 ·have:=h.count
  show ((dO S.nodes no).length:Int)<=S.last;omega
 ·exact fun m hm=>h.small m (eR hm).1
 ·exact fun m hm=>h.qO m (eR hm).1
 ·exact fun m hm=>h.names m (eR hm).1
 ·exact fun m hm=>h.pos m (eR hm).1
 ·exact fun m hm=>h.on m (eR hm).1
 ·obtain ⟨m,hm,e⟩:=h.first
  exact⟨m,rP hm (by rw[e];exact dA h1),e⟩
 ·exact fun m hm=>h.one m (eR hm).1
 ·exact fun m hm=>h.qs m (eR hm).1
 ·intro m hm hk q_
  obtain⟨hm,hne⟩:=eR hm;obtain⟨u,v⟩:=hup m hm hk hne q_;rcases u with u|⟨u1,u2,q,hq,u3,u4⟩
  ·exact .inl u
  ·exact .inr ⟨u1,u2,q,rP hq (by rw[u3];exact v u1),u3,u4⟩
 ·exact fun m hm=>h.bits m (eR hm).1
 ·intro m hm x hx
  have hK:=h.FO m (eR hm).1 x hx;exact⟨hK.1,hK.2.1,fun q hq e=>hK.2.2 q (eR hq).1 e⟩
 ·intro j hj
  obtain⟨m,hm,o1,o⟩:=h.qK j hj;exact⟨m,rP hm (by rw[o1];exact ab9 j hj),o1,o⟩
 ·intro j hj
  obtain⟨m,hm,o1,o⟩:=h.ii j hj;exact⟨m,rP hm (by rw[o1];exact GZ j hj),o1,o⟩
 ·obtain ⟨d,hd⟩:=h.deep
  exact⟨d,fun m hm=>hd m (eR hm).1⟩
theorem jz (hu:aQ S.nodes S.last) (hm:m∈S.nodes) (hn:n∈S.nodes) (e:m.no=n.no):m=n:=by
 have h1:=(ep hu hm).1;have h2:=(ep hu hn).1;rw[e]at h1;exact h1.symm.trans h2
theorem OD (h:rO c k S) (h1:1<=no) (ho:aw S.ae no=no):∀j,(hj:j+1<S.ae.length)->S.ae[j+1].over≠no:=by
 intro j hj e;unfold aw at ho;rw[af (by omega)]at ho
 cases hf:S.ae.find? (fun d=>d.over == no) with
 | none =>
  have:=sW.1 hf _ (jh hj);simp at this;exact this e
 | some x =>
  rw[hf]at ho;have hx:=tD hf;have hxm:=p5 hf;obtain⟨i,hi,rfl⟩:=mj hxm;simp only[il]at hx
  cases i with
  | zero=>rw[h.uU hi]at hx;omega
  | succ i =>
   obtain⟨m,hm,a1,_,a3⟩:=h.ii (i+1) hi;obtain⟨q,hq,b1,_,b3,_⟩:=h.qK i hi;have:m=q:=jz h.bL hm hq (by rw[a1,b1,hx];exact ho);subst this;omega
theorem Tb (h:rO c k S) (hk:iI S no=true) (ho:aw S.ae no=no) (rC:k=k'\/k=no\/k=0) (hne:(aa S.nodes no).kind=1->(aa S.nodes no).ah=[]):rO c k' (gS S no):=by
 unfold gS;rw[af hk];unfold iI at hk;rw[fl]at hk;obtain⟨hi,hr⟩:=hk;obtain⟨_,bB,hm⟩:=ap hi;obtain⟨n,hn⟩:=ai (Proofs.YtpibnfdolojpcaaGreat.aa S.nodes no);rw[<-hn]at bB hm hr hne|-;have Ra:aI S.ae n.dev≠no:=by simpa using hr
 have FP:=h.on n hm;have SZ:qi (bf (jq S.ae n.dev).q (-(cx n.kind n.data.length)) (-1)):=by
  rcases cT h.roots n.dev with⟨_,e2⟩|⟨j,hj,_,_,e3,_,_,e6⟩
  ·rw[e2]at FP;cases FP.1
  ·rw[e3];exact tH e6
 have hpos:=(h.bL.2 n hm).1;have zM:=OD h (by rw[<-bB];exact hpos) ho;have aaw:∀j,(hj:j<S.ae.length)->S.ae[j].root≠no:=by
  intro j hj e;obtain⟨m,cq,a1,_,a3⟩:=h.ii j hj;have:m=n:=jz h.bL cq hm (by rw[a1,e,bB]);subst this;rw[a3,SW hj]at Ra;exact Ra e
 have hA:=Aq h n.dev _ SZ S.last (gE _);unfold Aw;obtain⟨Q,hQ⟩:=ai (jb S.ae n.dev (bf (jq S.ae n.dev).q (-(cx n.kind n.data.length)) (-1)));rw[<-hQ]at hA|-;have hlen:Q.length=S.ae.length:=by rw[hQ,gQ]
 have hat:∀j,(hj:j<Q.length)->(xL:j<S.ae.length)->Q[j].root=S.ae[j].root/\Q[j].over=S.ae[j].over:=by
  intro j hj xL;subst hQ;exact EO hj xL
 refine Ta hA (fun e=>?_) (fun j hj=>?_) (fun j hj=>?_) (fun q hq Al Ab GW=>?_)
 ·have:=(h.one n hm (by rw[bB,e])).2.1
  rw[this,h.pM,e]at Ra;exact Ra rfl
 ·have xL:j<S.ae.length:=by rw[<-hlen];exact hj
  show Q[j].root≠no;rw[(hat j hj xL).1];exact aaw j xL
 ·have xL:j+1<S.ae.length:=by rw[<-hlen];exact hj
  show Q[j+1].over≠no;rw[(hat (j+1) hj xL).2];exact zM j xL
 ·have yq:q.no≠k:=by
   rcases rC with e|e|e
   ·rw[e];exact GW
   ·rw[e];exact Ab
   ·have:=(h.bL.2 q hq).1;omega
  refine⟨hA.ups q hq Al yq,fun hrq e=>?_⟩;rcases h.ups q hq Al yq with⟨u1,_⟩|⟨_,_,m,cq,u3,u4,_,x,hx,_⟩
  ·apply hrq
   show aI Q q.dev=q.no;rw[hQ,MM];exact u1
  ·have:m=n:=jz h.bL cq hm (by rw[u3,e,bB])
   subst this;rw[hne u4]at hx;cases hx
inductive OE (S:ag) (a:Int):Int->Prop
 | here:OE S a a
 | up {q:ak} (hq:q∈S.nodes) (hk:q.kind=1) (hu:q.up≠q.no) (h:OE S a q.up):OE S a q.no
open Classical in
theorem OE.mono {T:ag} {a:Int} (h:OE T a b) (hm:∀q∈T.nodes,q.kind=1->∃q'∈S.nodes,q'.no=q.no/\q'.kind=1/\q'.up=q.up):OE S a b:=by
 induction h with
 | here=>exact .here
 | up hq hk hu _ ih =>
  obtain⟨q',hq',e1,e2,e3⟩:=hm _ hq hk;rw[<-e1];exact .up hq' e2 (by rw[e1,e3];exact hu) (by rw[e3];exact ih)
end Go.Proofs.YtpibnfdolojpcaaGreat
