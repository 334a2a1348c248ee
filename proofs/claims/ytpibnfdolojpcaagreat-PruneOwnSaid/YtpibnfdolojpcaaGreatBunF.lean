import Derived.Test.YtpibnfdolojpcaaGreatBunE
import Derived.Test.YtpibnfdolojpcaaGreatBunD
import Derived.Test.YtpibnfdolojpcaaGreatBunC
set_option maxHeartbeats 8000000
set_option maxRecDepth 100000
namespace Go.Proofs.YtpibnfdolojpcaaGreat
section
theorem uq {ds es:List eB} (h:es.length=ds.length) (d:Int):fU es d=fU ds d:=by unfold fU;rw[h]
theorem qs {ds:List eB} {k:Int} (hh:fU ds k=true):1<=k/\(k-1).toNat<ds.length:=by
 unfold fU at hh;simp only[Bool.and_eq_true,decide_eq_true_eq]at hh;omega
theorem Fm (ds:List eB) (d:Int) (q:dB) (k:Int):aC (ir ds d q) k=aC ds k:=by
 unfold aC;rw [uq (gx ds d q)]
 by_cases hh:fU ds k=true
 ·rw [if_pos hh,if_pos hh]
  have h1:=(qs hh).2;have h2:(k-1).toNat<(ir ds d q).length:=by rw[gx];exact h1
  unfold jn;rw [List.getD_eq_getElem?_getD,List.getD_eq_getElem?_getD,List.getElem?_eq_getElem h1,List.getElem?_eq_getElem h2];exact (yI h2 h1).1
 ·rw[if_neg hh,if_neg hh]
theorem Fo {ds:List eB} {d:eB} {i:Int} (h:fU ds i=true):aC (ds++[d]) i=aC ds i:=by
 have h2:fU (ds++[d]) i=true:=by
  unfold fU at h|-;rw [List.length_append];simp at h|-;omega
 unfold aC;rw [if_pos h,if_pos h2];unfold jn;rw [List.getD_eq_getElem?_getD,List.getD_eq_getElem?_getD,List.getElem?_append_left (qs h).2]
theorem Tq {ds:List eB} {d:eB} {i:Int} (h:fU ds i=true):fU (ds++[d]) i=true:=by
 unfold fU at h|-;rw [List.length_append];simp at h|-;omega
theorem Lc {ds:List eB} {k:Nat} (hk:k<ds.length):aC ds ((k:Int)+1)=ds[k].root:=by
 unfold aC fU jn;rw [if_pos (by simp;omega),show ((k:Int)+1-1).toNat=k by omega,List.getD_eq_getElem?_getD,List.getElem?_eq_getElem hk];rfl
def Au (S:ae) (n:ai):Prop:=
 (aC S.ah n.dev=n.no/\n.up=n.no)\/(aC S.ah n.dev≠n.no/\n.up≠n.no/\∃m∈S.nodes,m.no=n.up/\m.kind=1/\m.dev=n.dev/\∃x∈m.af,x.2=n.no)
def VT (S:ae) (no dev y:Int):Prop:=y≠no/\(∀d∈S.ah,y≠d.root)/\∀q∈S.nodes,q.no=y->q.dev=dev
structure nP (c:Nat) (k:Int) (S:ae):Prop where
 bc:aD S.nodes S.last
 last:1<=S.last
 ah:0<S.ah.length
 eight:S.ah.length<=8
 roots:gW S.ah
 count:S.nodes.length<=S.last
 small:∀n∈S.nodes,n.af.length<=c
 lP:∀n∈S.nodes,iq n.af
 names:yF S
 pos:∀n∈S.nodes,∀x∈n.af,1<=x.2/\x.2<=S.last
 on:Fl S
 first:∃m∈S.nodes,m.no=1
 one:∀n∈S.nodes,n.no=1->n.kind=1/\n.dev=1/\n.up=1
 mQ:aC S.ah 1=1
 mC:∀n∈S.nodes,n.kind=1->n.ag=1
 Tp:∀n∈S.nodes,n.kind=1->n.no≠k->Au S n
 bits:∀n∈S.nodes,0<=n.mode/\n.mode<=1023/\1<=n.ag/\n.ag<=1000
 yJ:∀m∈S.nodes,∀x∈m.af,VT S m.no m.dev x.2
 qt:∀h:0<S.ah.length,S.ah[0].over=0
 lV:∀k,(h:k+1<S.ah.length)->∃m∈S.nodes,m.no=S.ah[k+1].over/\m.kind=1/\m.dev<=(k:Int)+1/\aC S.ah m.dev≠m.no
 fG:∀k,(h:k<S.ah.length)->∃m∈S.nodes,m.no=S.ah[k].root/\m.kind=1/\m.dev=(k:Int)+1
 deep:∃d:Int->Nat,∀n∈S.nodes,n.kind=1->n.up≠n.no->d n.up<d n.no
abbrev dy (c:Nat) (S:ae):Prop:=nP c 0 S
theorem dy.wl {c:Nat} {S:ae} (h:dy c S):∀n∈S.nodes,n.kind=1->Au S n:=fun n hn hk=>h.Tp n hn hk (by have:=(h.bc.2 n hn).1;omega)
theorem dy.base {c:Nat} {S:ae} (h:dy c S) (hc:c<=1000000):WX S:=⟨h.bc,h.last,h.ah,h.eight,h.roots,h.count,fun n hn=>by have:=h.small n hn;omega⟩
theorem dy.ac {c:Nat} {S:ae} (h:dy c S) (no:Int):iq (ac S.nodes no).af/\(ac S.nodes no).af.length<=c:=by
 cases hi:aJ S.nodes no
 ·rw [(aU hi).1]
  exact ⟨List.Pairwise.nil,Nat.zero_le _⟩
 ·have:=(ak hi).2.2
  exact ⟨h.lP _ this,h.small _ this⟩
theorem Ld {ns:List ai} {f:Int->Nat} {a b:Int} (hab:f a<f b) (h:∃m∈ns,m.no=a):(ns.filter fun m=>decide (f m.no<f a)).length<(ns.filter fun m=>decide (f m.no<f b)).length:=by
 have mono:∀l:List ai,(l.filter fun m=>decide (f m.no<f a)).length<=(l.filter fun m=>decide (f m.no<f b)).length:=by
  intro l
  induction l with
  | nil=>exact Nat.le_refl _
  | cons x l ih =>
   simp only[List.filter_cons]
   by_cases h1:f x.no<f a
   ·rw[if_pos (by simpa using h1),if_pos (by simp;omega)];simp only[List.length_cons];omega
   ·rw [if_neg (by simpa using h1)]
    split
    ·simp only[List.length_cons];omega
    ·exact ih
 induction ns with
 | nil=>obtain⟨m,hm,_⟩:=h;cases hm
 | cons x l ih =>
  obtain ⟨m,hm,he⟩:=h;simp only[List.filter_cons];rcases List.mem_cons.1 hm with rfl|hm
  ·have:=mono l
   rw [he,if_neg (by simp),if_pos (by simpa using hab)];simp only[List.length_cons];omega
  ·have:=ih ⟨m,hm,he⟩
   by_cases h1:f x.no<f a
   ·rw[if_pos (by simpa using h1),if_pos (by simp;omega)];simp only[List.length_cons];omega
   ·rw [if_neg (by simpa using h1)]
    split
    ·simp only[List.length_cons];omega
    ·exact this
theorem PP {S:ae} {f:Int->Nat} (h:∀no,no≠0->aZ S no≠0->aZ S no≠no->f (aZ S no)<f no/\∃m∈S.nodes,m.no=aZ S no):∃r,ul S r:=
 ⟨fun no=>(S.nodes.filter fun m=>decide (f m.no<f no)).length,fun no h0 h1 h2=>Ld (h no h0 h1 h2).1 (h no h0 h1 h2).2,fun _=>List.length_filter_le ..⟩
theorem dy.up {c:Nat} {S:ae} (h:dy c S) {no:Int} (hk:(Proofs.YtpibnfdolojpcaaGreat.ac S.nodes no).kind=1):Au S (Proofs.YtpibnfdolojpcaaGreat.ac S.nodes no):=h.wl _ (aO hk).2.2 hk
theorem dy.above {c:Nat} {S:ae} (h:dy c S) (no:Int) (h0:aZ S no≠0) (hs:aZ S no≠no) :
  ∃ n∈S.nodes,∃m∈S.nodes,n.no=no/\n.kind=1/\m.no=aZ S no/\m.kind=1/\(m.dev<n.dev\/(m.dev=n.dev/\m.no=n.up/\n.up≠n.no)):=by
 unfold aZ at h0 hs|-
 by_cases hk:(Proofs.YtpibnfdolojpcaaGreat.ac S.nodes no).kind=1
 ·obtain ⟨_,hn,hm⟩:=aO hk
  rw [if_pos hk]at h0 hs|-
  by_cases hr:aC S.ah (Proofs.YtpibnfdolojpcaaGreat.ac S.nodes no).dev=no/\1<(Proofs.YtpibnfdolojpcaaGreat.ac S.nodes no).dev
  ·rw [if_pos hr]at h0 hs|-
   rcases dC h.roots (Proofs.YtpibnfdolojpcaaGreat.ac S.nodes no).dev with⟨e1,_⟩|⟨k,dI,e1,_,e3,e4,e5,_⟩
   ·obtain ⟨h1,h2⟩:=hr
    rw [e1]at h1;rw [<-h1]at hm hn;have:=h.bc.2 _ hm;omega
   ·obtain ⟨j,rfl⟩:∃j,k=j+1:=⟨k-1,by omega⟩
    rw [e3]at h0 hs|-;obtain ⟨m,bU,o1,o2,o3,o4⟩:=h.lV j dI;have hg:=(cR h.bc bU).1;rw [o1]at hg;rw [hg]at h0 hs|-;rcases h.wl m bU o2 with⟨u1,_⟩|⟨_,u2,m2,k7,u3,u4,u5,_⟩
    ·exact absurd u1 o4
    ·exact⟨_,hm,m2,k7,hn,hk,u3,u4,.inl (by omega)⟩
  ·rw [if_neg hr]at h0 hs|-
   rcases h.up hk with⟨_,u2⟩|⟨_,u2,m2,k7,u3,u4,u5,_⟩
   ·exact absurd (u2.trans hn) hs
   ·exact⟨_,hm,m2,k7,hn,hk,u3,u4,.inr ⟨u5,u3,u2⟩⟩
 ·rw[if_neg hk]at h0;exact absurd rfl h0
theorem dy.Gw {c:Nat} {S:ae} (h:dy c S):∃r,ul S r:=by
 obtain ⟨d,hd⟩:=h.deep;obtain⟨N,hN⟩:=zE (S.nodes.length+1);obtain ⟨e,he⟩:∃e:Int->Nat,e=fun no=>(S.nodes.filter fun m=>decide (d m.no<d no)).length:=⟨_,rfl⟩
 have hb:∀no,e no<N:=fun no=>by rw[he,hN];exact Nat.lt_succ_of_le (List.length_filter_le ..)
 refine PP (f:=fun no=>(Proofs.YtpibnfdolojpcaaGreat.ac S.nodes no).dev.toNat*N+e no) fun no h0 h1 h2=>?_
 obtain ⟨n,hn,m,hm,a1,a2,a3,a4,a5⟩:=h.above no h1 h2;have g1:=(cR h.bc hn).1;have g2:=(cR h.bc hm).1;rw [a1]at g1;rw [a3]at g2;refine ⟨?_,m,hm,a3⟩;show (Proofs.YtpibnfdolojpcaaGreat.ac S.nodes (aZ S no)).dev.toNat*N+e (aZ S no)<(Proofs.YtpibnfdolojpcaaGreat.ac S.nodes no).dev.toNat*N+e no;rw [g1,g2];have p1:=(qs (h.on _ hn).1).1;have p2:=(qs (h.on _ hm).1).1;rcases a5 with a5|⟨a5,a6,a7⟩
 ·have q1:m.dev.toNat+1<=n.dev.toNat:=by omega
  have q2:=hb (aZ S no);have q3:=Nat.mul_le_mul_right N q1;rw [Nat.add_mul]at q3;omega
 ·rw [a5]
  have:e (aZ S no)<e no:=by
   rw [he];refine Ld ?_ ⟨m,hm,a3⟩;have:=hd n hn a2 a7;rw [<-a6,a3,a1]at this;exact this
  omega
theorem dy.Av {c:Nat} {S:ae} (h:dy c S):aZ S 1=1:=by
 obtain ⟨m,hm,he⟩:=h.first;have hg:=(cR h.bc hm).1;rw [he]at hg;obtain ⟨a1,a2,a3⟩:=h.one m hm he;unfold aZ;rw [hg,if_pos a1,if_neg (by rw[a2];omega),a3]
theorem dy.fit {c:Nat} {S:ae} (h:dy c S) (hc:c<=1000000) (hl:S.last<=1000):Fit S:=by
 refine ⟨h.base hc,h.names,?_,h.Av,h.Gw,hl⟩;intro no h0 h1 h2;rcases dC h.roots (Proofs.YtpibnfdolojpcaaGreat.ac S.nodes no).dev with⟨e1,_⟩|⟨k,dI,e1,_,e3,e4,e5,_⟩
 ·rw[e1]at h1;exact absurd h1.symm h0
 ·have:(Proofs.YtpibnfdolojpcaaGreat.ac S.nodes no).dev=1:=by omega
  rw [this,h.mQ]at h1;rw [<-h1];exact h.Av
theorem ur {S:ae} {n m:ai} (h:m∈S.nodes) (hne:m.no≠n.no):m∈(aE S n).nodes:=by
 have:=tM (n:=n) h;rw [if_neg hne]at this;exact this
theorem mE {S:ae} {n m:ai} (h:m∈S.nodes) (he:m.no=n.no):n∈(aE S n).nodes:=by
 have:=tM (n:=n) h;rw [if_pos he]at this;exact this
theorem aQ {S:ae} {n m:ai} (h:m∈(aE S n).nodes):(m∈S.nodes/\m.no≠n.no)\/m=n:=by
 unfold aE bQ at h;obtain ⟨x,hx,e⟩:=List.mem_map.1 h;split at e
 ·exact .inr e.symm
 ·rename_i hne
  rw [<-e];exact .inl ⟨hx,by simpa using hne⟩
theorem qu {c c':Nat} {k k':Int} {S:ae} (h:nP c k S) (rn:k=0\/k=k') {n:ai} (hi:aJ S.nodes n.no=true) (ST:c<=c') (hk:n.kind=(ac S.nodes n.no).kind) (hv:n.dev=(ac S.nodes n.no).dev) (hu:n.up=(ac S.nodes n.no).up)
  (hl:n.kind=1->n.ag=1) (hr:iq n.af) (hn:∀x∈n.af,x.1≠[]/\x.1.length<=255) (hp:∀x∈n.af,1<=x.2/\x.2<=S.last) (hs:n.af.length<=c') (hd:n.data.length<=1048576)
  (hb:0<=n.mode/\n.mode<=1023/\1<=n.ag/\n.ag<=1000) (hx:∀x∈n.af,VT S n.no n.dev x.2)
  (keep:∀q∈S.nodes,q.kind=1->q.no≠k'->q.up=n.no->q.no≠n.no->∃x∈n.af,x.2=q.no):nP c' k' (aE S n):=by
 have hm0:=(ak hi).2;obtain⟨m0,Aw⟩:=zE (Proofs.YtpibnfdolojpcaaGreat.ac S.nodes n.no);rw [<-Aw]at hk hv hu hm0;have same:∀m∈S.nodes,m.no=n.no->m=m0:=fun m hm e=>by
  have:=(cR h.bc hm).1;rw [e]at this;rw [Aw,this]
 have move:∀m∈S.nodes,∃m'∈(aE S n).nodes,m'.no=m.no/\m'.kind=m.kind/\m'.dev=m.dev:=by
  intro m hm
  by_cases e:m.no=n.no
  ·have:=same m hm e
   subst this;exact ⟨n,mE hm e,e.symm,hk,hv⟩
  ·exact⟨m,ur hm e,rfl,rfl,rfl⟩
 have upk:∀q∈S.nodes,q.kind=1->q.no≠k'->(q.no≠n.no\/q=m0)->∀q',q'.no=q.no->q'.dev=q.dev->q'.up=q.up->Au (aE S n) q':=by
  intro q hq ut Ay uj q' e1 e2 e3;unfold Au;rw [e1,e2,e3];have tw:q.no≠k:=by
   rcases rn with e|e
   ·have:=(h.bc.2 q hq).1;omega
   ·rw[e];exact Ay
  rcases h.Tp q hq ut tw with⟨u1,u2⟩|⟨u1,u2,m,hm,u3,u4,u5,x,hx,u6⟩
  ·exact .inl ⟨u1,u2⟩
  ·refine .inr ⟨u1,u2,?_⟩
   by_cases e:m.no=n.no
   ·have aaA:q.no≠n.no:=fun e'=>u2 (by rw[<-u3,e,e'])
    obtain ⟨y,hy,hy2⟩:=keep q hq ut Ay (by rw[<-u3,e]) aaA;have:=same m hm e;subst this;exact ⟨n,mE hm e,by rw[<-u3,e],by rw[hk];exact u4,by rw[hv];exact u5,y,hy,hy2⟩
   ·exact⟨m,ur hm e,u3,u4,u5,x,hx,u6⟩
 refine ⟨h.bc.set n,h.last,h.ah,h.eight,h.roots,?_,?_,?_,?_,?_,?_,?_,?_,h.mQ,?_,?_,?_,?_,h.qt,?_,?_,?_⟩
 ·show ((bQ S.nodes n).length:Int)<=S.last;rw[nB];exact h.count
 ·intro m hm
  rcases aQ hm with⟨hm,_⟩|rfl
  ·have:=h.small m hm;omega
  ·exact hs
 ·intro m hm
  rcases aQ hm with⟨hm,_⟩|rfl
  ·exact h.lP m hm
  ·exact hr
 ·intro m hm
  rcases aQ hm with⟨hm,_⟩|rfl
  ·exact h.names m hm
  ·exact hn
 ·intro m hm
  rcases aQ hm with⟨hm,_⟩|rfl
  ·exact h.pos m hm
  ·exact hp
 ·intro m hm
  rcases aQ hm with⟨hm,_⟩|rfl
  ·exact h.on m hm
  ·exact⟨by rw[hv];exact (h.on _ hm0.2).1,hd⟩
 ·obtain ⟨m,hm,e⟩:=h.first
  obtain ⟨m',hm',e',_⟩:=move m hm;exact ⟨m',hm',e'.trans e⟩
 ·intro m hm e
  rcases aQ hm with⟨hm,_⟩|rfl
  ·exact h.one m hm e
  ·have:=h.one _ hm0.2 (hm0.1.trans e)
   rw [hk,hv,hu];exact this
 ·intro m hm nk
  rcases aQ hm with⟨hm,_⟩|rfl
  ·exact h.mC m hm nk
  ·exact hl nk
 ·intro m hm nk WZ
  rcases aQ hm with⟨hm,hne⟩|rfl
  ·exact upk m hm nk WZ (.inl hne) m rfl rfl rfl
  ·exact upk m0 hm0.2 (hk.symm.trans nk) (by rw[hm0.1];exact WZ) (.inr rfl) m hm0.1.symm hv hu
 ·intro m hm
  rcases aQ hm with⟨hm,_⟩|rfl
  ·exact h.bits m hm
  ·exact hb
 ·have W9:∀{no dev y:Int},VT S no dev y->VT (aE S n) no dev y:=fun hK=>⟨hK.1,hK.2.1,fun q hq e=>by
   rcases aQ hq with⟨hq,_⟩|rfl
   ·exact hK.2.2 q hq e
   ·rw[hv];exact hK.2.2 m0 hm0.2 (hm0.1.trans e)⟩
  intro m hm x hxm;rcases aQ hm with⟨hm,_⟩|rfl
  ·exact W9 (h.yJ m hm x hxm)
  ·exact W9 (hx x hxm)
 ·intro j hj
  obtain ⟨m,hm,o1,o2,o3,o4⟩:=h.lV j hj;obtain ⟨m',hm',e1,e2,e3⟩:=move m hm;exact ⟨m',hm',e1.trans o1,e2.trans o2,by rw[e3];exact o3,by rw[e3,e1];exact o4⟩
 ·intro j hj
  obtain ⟨m,hm,o1,o2,o3⟩:=h.fG j hj;obtain ⟨m',hm',e1,e2,e3⟩:=move m hm;exact ⟨m',hm',e1.trans o1,e2.trans o2,e3.trans o3⟩
 ·obtain ⟨d,PB⟩:=h.deep
  refine ⟨d,fun m hm nk RY=>?_⟩;rcases aQ hm with⟨hm,_⟩|rfl
  ·exact PB m hm nk RY
  ·have:=PB m0 hm0.2 (hk.symm.trans nk) (by rw[<-hu,hm0.1];exact RY)
   rw [<-hu,hm0.1]at this;exact this
theorem uu {c:Nat} {k:Int} {S:ae} (h:nP c k S) (d:Int) (q:dB) (hq:mv q) (l:Int) (hl:S.last<=l):nP c k ⟨S.nodes,ir S.ah d q,l⟩:=by
 have hro:gW (ir S.ah d q):=CY h.roots _ _ hq;obtain⟨Q,hQ⟩:=zE (ir S.ah d q);have hlen:Q.length=S.ah.length:=by rw[hQ,gx]
 have hat:∀k,(hk:k<Q.length)->(hk2:k<S.ah.length)->Q[k].root=S.ah[k].root/\Q[k].over=S.ah[k].over:=by
  intro k hk hk2;subst hQ;exact yI hk hk2
 have OE:∀i,aC Q i=aC S.ah i:=fun i=>by rw[hQ];exact Fm _ _ _ _
 have hh:∀i,fU Q i=fU S.ah i:=fun i=>uq hlen i
 rw [<-hQ]at hro|-;refine ⟨⟨h.bc.1,fun n hn=>⟨(h.bc.2 n hn).1,by have:=(h.bc.2 n hn).2;show n.no<=l;omega⟩⟩,by have:=h.last;show 1<=l;omega,by show 0<Q.length;rw[hlen];exact h.ah,by show Q.length<=8;rw[hlen];exact h.eight,hro,
  by have:=h.count;show (S.nodes.length:Int)<=l;omega,h.small,h.lP,h.names,fun n hn x hx=>⟨(h.pos n hn x hx).1,by have:=(h.pos n hn x hx).2;show x.2<=l;omega⟩,fun n hn=>⟨(hh _).trans (h.on n hn).1,(h.on n hn).2⟩,h.first,h.one,(OE 1).trans h.mQ,h.mC,?_,h.bits,?_,?_,?_,?_,h.deep⟩
 ·intro n hn hk Ts
  unfold Au;show (aC Q n.dev=n.no/\_)\/(aC Q n.dev≠n.no/\_);rw [OE];exact h.Tp n hn hk Ts
 ·intro m hm x hx
  have hK:=h.yJ m hm x hx;refine ⟨hK.1,fun d hd=>?_,hK.2.2⟩;obtain ⟨i,hi,rfl⟩:=List.getElem_of_mem hd;have po:i<S.ah.length:=by have:i<Q.length:=hi;omega
  show x.2≠Q[i].root;rw [(hat i hi po).1];exact hK.2.1 _ (List.getElem_mem po)
 ·intro h0
  exact ((hat 0 h0 h.ah).2).trans (h.qt h.ah)
 ·intro k hk
  have hk2:k+1<S.ah.length:=by have:k+1<Q.length:=hk;omega
  obtain ⟨m,hm,o1,o2,o3,o4⟩:=h.lV k hk2;exact ⟨m,hm,o1.trans (hat (k+1) hk hk2).2.symm,o2,o3,by show aC Q m.dev≠m.no;rw[OE];exact o4⟩
 ·intro k hk
  have hk2:k<S.ah.length:=by have:k<Q.length:=hk;omega
  obtain ⟨m,hm,o1,o2⟩:=h.fG k hk2;exact ⟨m,hm,o1.trans (hat k hk hk2).1.symm,o2⟩
theorem PQ {c:Nat} {S:ae} (h:dy c S) {n:ai} (aW:n.no=S.last) (hlt:∀m∈S.nodes,m.no<S.last) (hc:(S.nodes.length:Int)+1<=S.last) (he:n.af=[]) (hd:n.data.length<=1048576) (hh:fU S.ah n.dev=true) (hb:0<=n.mode/\n.mode<=1023/\1<=n.ag/\n.ag<=1000) (aaB:∀m∈S.nodes,∀x∈m.af,x.2=n.no->n.dev=m.dev)
  (hk:n.kind=1->n.ag=1/\aC S.ah n.dev≠n.no/\∃m∈S.nodes,m.no=n.up/\m.kind=1/\m.dev=n.dev/\∃x∈m.af,x.2=n.no):dy c ⟨S.nodes++[n],S.ah,S.last⟩:=by
 have sub:∀m∈S.nodes,m∈S.nodes++[n]:=fun m hm=>List.mem_append_left _ hm
 have h1:=h.last;have new:∀{m:ai},m∈S.nodes++[n]->m∈S.nodes\/m=n:=fun hm=>by
  rcases List.mem_append.1 hm with hm|hm
  ·exact .inl hm
  ·exact .inr (List.mem_singleton.1 hm)
 have aaC:n.kind=1->n.up<n.no:=fun rn=>by
  obtain ⟨_,_,m,hm,e,_⟩:=hk rn;have:=hlt m hm;omega
 refine ⟨⟨?_,?_⟩,h.last,h.ah,h.eight,h.roots,?_,?_,?_,?_,?_,?_,?_,?_,h.mQ,?_,?_,?_,?_,h.qt,?_,?_,?_⟩
 ·rw [List.pairwise_append]
  refine ⟨h.bc.1,List.pairwise_singleton ..,fun a ha b hb=>?_⟩;rw [List.mem_singleton]at hb;subst hb;rw [aW];exact hlt a ha
 ·intro m hm
  rcases new hm with hm|rfl
  ·exact h.bc.2 m hm
  ·rw[aW];exact⟨h1,Int.le_refl _⟩
 ·show ((S.nodes++[n]).length:Int)<=S.last
  simp;exact hc
 ·intro m hm
  rcases new hm with hm|rfl
  ·exact h.small m hm
  ·rw[he];exact Nat.zero_le _
 ·intro m hm
  rcases new hm with hm|rfl
  ·exact h.lP m hm
  ·rw[he];exact List.Pairwise.nil
 ·intro m hm
  rcases new hm with hm|rfl
  ·exact h.names m hm
  ·intro x hx;rw[he]at hx;cases hx
 ·intro m hm
  rcases new hm with hm|rfl
  ·exact h.pos m hm
  ·intro x hx;rw[he]at hx;cases hx
 ·intro m hm
  rcases new hm with hm|rfl
  ·exact h.on m hm
  ·exact⟨hh,hd⟩
 ·obtain ⟨m,hm,e⟩:=h.first
  exact ⟨m,sub m hm,e⟩
 ·intro m hm e
  rcases new hm with hm|rfl
  ·exact h.one m hm e
  ·obtain ⟨m,hm,e2⟩:=h.first
   have:=hlt m hm;omega
 ·intro m hm nk
  rcases new hm with hm|rfl
  ·exact h.mC m hm nk
  ·exact (hk nk).1
 ·intro m hm nk _
  rcases new hm with hm|rfl
  ·rcases h.wl m hm nk with u|⟨u1,u2,q,hq,u3⟩
   ·exact .inl u
   ·exact .inr ⟨u1,u2,q,sub q hq,u3⟩
  ·obtain ⟨_,k2,q,hq,k3⟩:=hk nk
   exact .inr ⟨k2,by have:=aaC nk;omega,q,sub q hq,k3⟩
 ·intro m hm
  rcases new hm with hm|rfl
  ·exact h.bits m hm
  ·exact hb
 ·intro m hm x hx
  rcases new hm with fX|rfl
  ·have hK:=h.yJ m fX x hx
   have rn:=aaB m fX x hx;refine ⟨hK.1,hK.2.1,fun q hq e=>?_⟩;rcases new hq with hq|e2
   ·exact hK.2.2 q hq e
   ·rw [e2]at e|-
    exact rn e.symm
  ·rw[he]at hx;cases hx
 ·intro k rn
  obtain ⟨m,hm,o⟩:=h.lV k rn;exact ⟨m,sub m hm,o⟩
 ·intro k rn
  obtain ⟨m,hm,o⟩:=h.fG k rn;exact ⟨m,sub m hm,o⟩
 ·obtain ⟨d,PB⟩:=h.deep
  refine ⟨fun k=>if k=n.no then d n.up+1 else d k,fun m hm nk RY=>?_⟩;rcases new hm with hm|rfl
  ·have e1:m.no≠n.no:=by have:=hlt m hm;omega
   have e2:m.up≠n.no:=by
    rcases h.wl m hm nk with⟨_,u⟩|⟨_,_,q,hq,u,_⟩
    ·rw[u];exact e1
    ·have:=hlt q hq;omega
   show (if m.up=n.no then _ else _)<(if m.no=n.no then _ else _);rw [if_neg e1,if_neg e2];exact PB m hm nk RY
  ·show (if m.up=m.no then _ else _)<(if m.no=m.no then _ else _)
   rw [if_pos rfl,if_neg RY];omega
theorem Le {c:Nat} {S:ae} (h:dy c S) {d n:ai} {nm:List UInt8} (hi:aJ S.nodes d.no=true) (VU:(ac S.nodes d.no).kind=1) (hk:d.kind=1) (hv:d.dev=(ac S.nodes d.no).dev) (hu:d.up=(ac S.nodes d.no).up)
  (hl:d.ag=1) (aaD:d.data.length<=1048576) (hen:d.af=en (ac S.nodes d.no).af (nm,S.last+1)) (ph:aK (ac S.nodes d.no).af nm=0) (jA:nm≠[]/\nm.length<=255)
  (hne:n.af=[]) (hnd:n.data.length<=1048576) (Dd:n.dev=d.dev) (Ts:n.kind=1->n.ag=1/\n.up=d.no) (WR:d.mode=(ac S.nodes d.no).mode) (Gs:0<=n.mode/\n.mode<=1023/\n.ag=1) (h0:eY S n=0):dy (c+1) (aE (bB S n) d):=by
 have hm0:=(ak hi).2;obtain⟨m0,Aw⟩:=zE (Proofs.YtpibnfdolojpcaaGreat.ac S.nodes d.no);rw [<-Aw]at hv hu hen hm0 VU ph WR;have GC:fU S.ah n.dev=true:=by rw[Dd,hv];exact (h.on _ hm0.2).1
 have Lf:mv (aP (jn S.ah n.dev).q (bA n.kind n.data.length) 1):=by
  rcases dC h.roots n.dev with⟨_,e2⟩|⟨k,hk,_,_,e3,_,_,e6⟩
  ·rw[e2]at GC;cases GC
  ·rw[e3];exact pG e6
 have hA:=uu h n.dev _ Lf (S.last+1) (by omega);have jq:∀m∈S.nodes,m.no<S.last+1:=fun m hm=>by have:=(h.bc.2 m hm).2;omega
 have aaE:d.no≠S.last+1:=by have:=jq _ hm0.2;omega
 have hput:∀x∈m0.af,x.1≠nm:=by
  intro x hx e;unfold aK at ph
  cases hf:m0.af.find? (fun x=>x.1 == nm) with
  | none=>have:=List.find?_eq_none.1 hf x hx;simp at this;exact this e
  | some y =>
   rw [hf]at ph;have:=(h.pos _ hm0.2 y (List.mem_of_find?_eq_some hf)).1;simp only at ph;omega
 have W_:∀x∈m0.af,x∈d.af:=by
  intro x hx;rw [hen];unfold en jm jG;simp only[List.mem_append,List.mem_filter,List.mem_singleton];rcases lq x.1 nm with g|g|g
  ·exact .inl (.inl ⟨hx,g⟩)
  ·exact absurd g (hput x hx)
  ·exact .inr ⟨hx,g⟩
 have rO:(nm,S.last+1)∈d.af:=by rw[hen];unfold en;simp
 obtain ⟨S1,Az⟩:∃S1:ae,S1=⟨S.nodes,ir S.ah n.dev (aP (jn S.ah n.dev).q (bA n.kind n.data.length) 1),S.last+1⟩:=⟨_,rfl⟩;rw [<-Az]at hA;have xi:S1.nodes=S.nodes:=by rw[Az]
 have VV:∀i,aC S1.ah i=aC S.ah i:=fun i=>by rw[Az];exact Fm _ _ _ _
 have hB : dy (c+1) (aE S1 d):=by
  refine qu hA (.inl rfl) (by rw[xi];exact hi) (by omega) (by rw[xi,<-Aw,VU];exact hk) (by rw[xi,<-Aw];exact hv) (by rw[xi,<-Aw];exact hu) (fun _=>hl) ?_ ?_ ?_ ?_ aaD (by have:=h.bits _ hm0.2;rw[WR,hl];omega) ?_ ?_
  ·rw[hen];exact wU _ (h.lP _ hm0.2)
  ·intro x hx
   rw [hen]at hx;rcases iG hx with hx|rfl
   ·exact h.names _ hm0.2 x hx
   ·exact jA
  ·intro x hx
   rw [hen]at hx;rw [Az];have:=h.last;rcases iG hx with hx|rfl
   ·have:=h.pos _ hm0.2 x hx
    exact ⟨this.1,by show x.2<=S.last+1;omega⟩
   ·exact⟨by show 1<=S.last+1;omega,Int.le_refl _⟩
  ·rw [hen]
   have:=qb m0.af (nm,S.last+1);have:=h.small _ hm0.2;omega
  ·intro x hx
   rw [hen]at hx;rw [<-hm0.1,hv];rcases iG hx with hx|rfl
   ·have hK:=hA.yJ m0 (by rw[xi];exact hm0.2) x hx
    exact hK
   ·have hlm:=jq _ hm0.2
    refine ⟨by show S.last+1≠m0.no;omega,fun q hq=>?_,fun q hq e=>?_⟩
    ·obtain ⟨i,hi,rfl⟩:=List.getElem_of_mem hq
     obtain ⟨m,hm,o1,_⟩:=hA.fG i hi;rw [xi]at hm;have:=jq m hm;show S.last+1≠_;omega
    ·rw [xi]at hq
     have:=jq q hq;have:q.no=S.last+1:=e;omega
  ·intro q hq ut _ xj uj
   rw [xi]at hq;rcases h.wl q hq ut with⟨_,u2⟩|⟨_,_,m,hm,u3,_,_,x,hx,u6⟩
   ·exact absurd (u2.symm.trans xj) uj
   ·have:m=m0:=by
     have:=(cR h.bc hm).1;rw [u3,xj]at this;rw [Aw,this]
    subst this;exact ⟨x,W_ x hx,u6⟩
 have yr:aE (bB S n) d=⟨(aE S1 d).nodes++[{n with no:=S.last+1}],(aE S1 d).ah,(aE S1 d).last⟩:=by
  unfold bB aE bQ;rw [if_pos h0,Az];simp only[List.map_append,List.map_cons,List.map_nil];rw [if_neg (by simpa using (Ne.symm aaE))]
 rw [yr];have hlS:(aE S1 d).last=S.last+1:=by rw[Az];rfl
 have hdS:(aE S1 d).ah=S1.ah:=rfl;refine PQ hB (by rw[hlS]) ?_ ?_ hne hnd ?_ (by show 0<=n.mode/\n.mode<=1023/\1<=n.ag/\n.ag<=1000;omega) ?_ ?_
 ·intro m hm
  rw [hlS];rcases aQ hm with⟨hm,_⟩|rfl
  ·rw[xi]at hm;exact jq m hm
  ·have:=jq _ hm0.2;omega
 ·show ((bQ S1.nodes d).length:Int)+1<=_
  rw [nB,xi,hlS];have:=h.count;omega
 ·rw [hdS]
  show fU S1.ah n.dev=true;rw [Az];exact (uq (gx _ _ _) _).trans GC
 ·intro m hm x hx e
  have e':x.2=S.last+1:=e;show n.dev=m.dev;rcases aQ hm with⟨hm,_⟩|rfl
  ·rw [xi]at hm
   have:=(h.pos m hm x hx).2;omega
  ·exact Dd
 ·intro rn
  obtain ⟨k1,k2⟩:=Ts rn;refine ⟨k1,?_,d,?_,k2.symm,hk,Dd.symm,_,rO,rfl⟩
  ·rw [hdS,VV]
   show aC S.ah n.dev≠S.last+1;rcases dC h.roots n.dev with⟨e1,_⟩|⟨k,dI,e1,_,e3,e4,e5,_⟩
   ·have:=h.last;omega
   ·obtain ⟨m,hm,o1,_⟩:=h.fG k dI
    have:=jq m hm;omega
  ·exact mE (S:=S1) (by rw[xi];exact hm0.2) hm0.1
theorem Lg {c:Nat} {S:ae} (h:dy c S) {over b n:Int} (h8:S.ah.length<8) (hl:cx b n=true) (ho:∃m∈S.nodes,m.no=over/\m.kind=1/\aC S.ah m.dev≠m.no):dy c (cq S over b n):=by
 have sub:∀m∈S.nodes,m∈(cq S over b n).nodes:=fun m hm=>List.mem_append_left _ hm
 have Xa:bn S∈(cq S over b n).nodes:=List.mem_append_right _ (List.mem_singleton.2 rfl);have new:∀{m:ai},m∈(cq S over b n).nodes->m∈S.nodes\/m=bn S:=fun hm=>by
  rcases List.mem_append.1 hm with hm|hm
  ·exact .inl hm
  ·exact .inr (List.mem_singleton.1 hm)
 have iE:=h.last;have hlen:(cq S over b n).ah.length=S.ah.length+1:=by simp[cq]
 have OE:∀x∈S.nodes,aC (cq S over b n).ah x.dev=aC S.ah x.dev:=fun x hx=>Fo (h.on x hx).1
 have hold:∀k,(hk:k<S.ah.length)->(hk':k<(cq S over b n).ah.length)->(cq S over b n).ah[k]'hk'=S.ah[k]:=fun k hk hk'=>Lb S.ah _ k hk hk'
 have rO:∀k,(hk:k=S.ah.length)->(hk':k<(cq S over b n).ah.length)->(cq S over b n).ah[k]'hk'=⟨S.last+1,over,⟨1,1,b,n⟩⟩:=fun k hk hk'=>GA S.ah _ k hk hk'
 have hrn:aC (cq S over b n).ah (bn S).dev=(bn S).no:=by
  show aC (cq S over b n).ah ((S.ah.length:Int)+1)=S.last+1;rw [Lc (by rw[hlen];omega:S.ah.length<(cq S over b n).ah.length),rO _ rfl]
 refine ⟨h.bc.add (bn S) rfl (by omega),by show 1<=S.last+1;omega,by rw[hlen];omega,by rw[hlen];omega,?_,?_,?_,?_,?_,?_,?_,?_,?_,?_,?_,?_,?_,?_,?_,?_,?_,?_⟩
 ·intro d hd
  rcases List.mem_append.1 hd with hd|hd
  ·exact h.roots d hd
  ·rw [List.mem_singleton]at hd
   subst hd;refine ⟨by show 0<S.last+1;omega,?_⟩;rcases fZ b n with⟨h1,h2,h3,h4,_⟩|⟨h0,_⟩
   ·exact⟨show (0:Int)<=1 by decide,show (0:Int)<=1 by decide,h1,h3,h2,h4⟩
   ·rw[h0]at hl;cases hl
 ·have:=h.count;show ((S.nodes++[bn S]).length:Int)<=S.last+1;simp;exact this
 ·intro m hm
  rcases new hm with hm|rfl
  ·exact h.small m hm
  ·exact Nat.zero_le _
 ·intro m hm
  rcases new hm with hm|rfl
  ·exact h.lP m hm
  ·exact List.Pairwise.nil
 ·intro m hm
  rcases new hm with hm|rfl
  ·exact h.names m hm
  ·intro x hx;simp[bn,aa]at hx
 ·intro m hm
  rcases new hm with hm|rfl
  ·exact fun x hx=>⟨(h.pos m hm x hx).1,by have:=(h.pos m hm x hx).2;show x.2<=S.last+1;omega⟩
  ·intro x hx;simp[bn,aa]at hx
 ·intro m hm
  rcases new hm with hm|rfl
  ·exact⟨Tq (h.on m hm).1,(h.on m hm).2⟩
  ·refine ⟨?_,by simp[bn,aa]⟩
   unfold fU;rw [hlen];show (decide ((1:Int)<=(S.ah.length:Int)+1)&&decide ((S.ah.length:Int)+1<=((S.ah.length+1:Nat):Int)))=true;rw [Bool.and_eq_true,decide_eq_true_eq,decide_eq_true_eq];omega
 ·obtain ⟨m,hm,e⟩:=h.first
  exact ⟨m,sub m hm,e⟩
 ·intro m hm e
  rcases new hm with hm|rfl
  ·exact h.one m hm e
  ·have:S.last+1=1:=e
   omega
 ·show aC (S.ah++_) 1=1
  rw [Fo (by have:=h.ah;unfold fU;simp;omega)];exact h.mQ
 ·intro m hm hk
  rcases new hm with hm|rfl
  ·exact h.mC m hm hk
  ·rfl
 ·intro m hm hk _
  rcases new hm with hm|rfl
  ·unfold Au
   rw [OE m hm];rcases h.wl m hm hk with u|⟨u1,u2,q,hq,u3⟩
   ·exact .inl u
   ·exact .inr ⟨u1,u2,q,sub q hq,u3⟩
  ·exact .inl ⟨hrn,rfl⟩
 ·intro m hm
  rcases new hm with hm|rfl
  ·exact h.bits m hm
  ·exact⟨by show (0:Int)<=493;decide,by show (493:Int)<=1023;decide,by show (1:Int)<=1;decide,by show (1:Int)<=1000;decide⟩
 ·intro m hm x hx
  rcases new hm with hm|rfl
  ·have hK:=h.yJ m hm x hx
   have hp:=(h.pos m hm x hx).2;refine ⟨hK.1,fun d hd=>?_,fun q hq e=>?_⟩
   ·rcases List.mem_append.1 hd with hd|hd
    ·exact hK.2.1 d hd
    ·rw [List.mem_singleton]at hd
     subst hd;show x.2≠S.last+1;omega
   ·rcases new hq with hq|rfl
    ·exact hK.2.2 q hq e
    ·have:S.last+1=x.2:=e
     omega
  ·simp[bn,aa]at hx
 ·intro h0
  exact (congrArg eB.over (hold 0 h.ah h0)).trans (h.qt h.ah)
 ·intro k hk
  rw [hlen]at hk
  by_cases hk2:k+1<S.ah.length
  ·obtain ⟨m,hm,o1,o2,o3,o4⟩:=h.lV k hk2
   rw [hold (k+1) hk2];exact ⟨m,sub m hm,o1,o2,o3,by rw[OE m hm];exact o4⟩
  ·obtain ⟨m,hm,o1,o2,o3⟩:=ho
   rw [rO (k+1) (by omega)];refine ⟨m,sub m hm,o1,o2,?_,by rw[OE m hm];exact o3⟩;have:=(qs (h.on m hm).1).2;omega
 ·intro k hk
  rw [hlen]at hk
  by_cases hk2:k<S.ah.length
  ·obtain ⟨m,hm,o⟩:=h.fG k hk2
   rw [hold k hk2];exact ⟨m,sub m hm,o⟩
  ·rw [rO k (by omega)]
   refine ⟨bn S,Xa,rfl,rfl,?_⟩;show (S.ah.length:Int)+1=k+1;omega
 ·obtain ⟨d,hd⟩:=h.deep
  refine ⟨d,fun m hm hk RY=>?_⟩;rcases new hm with hm|rfl
  ·exact hd m hm hk RY
  ·exact absurd rfl RY
theorem GD {c:Nat} {S:ae} (h:dy c S) (a b n:Int):dy c (cH S a b n):=by
 unfold cH;split
 ·rename_i h0
  refine Lg h (sN h0).1 (sN h0).2 ?_;unfold dk at h0;split at h0
  ·cases h0
  ·rename_i hi
   split at h0
   ·cases h0
   ·rename_i hk
    split at h0
    ·cases h0
    ·rename_i ho
     rw [not_or]at ho;have po:aJ S.nodes a=true:=by simpa using hi
     have hm:=ak po;exact ⟨_,hm.2.2,hm.2.1,Decidable.not_not.1 hk,by rw[hm.2.1];exact ho.2⟩
 ·exact h
theorem GF {b n:Int} (hl:cx b n=true):dy 0 (cq cJ 0 b n):=by
 have hg:=Ar hl;have one:∀{m:ai},m∈(cq cJ 0 b n).nodes->m=bn cJ:=fun hm=>by simpa [cq,cJ]using hm
 refine ⟨hg.ft.bc,hg.ft.last,hg.ft.ah,hg.ft.eight,hg.ft.roots,hg.ft.count,?_,hg.ft.lP,hg.names,?_,hg.on,hg.first,hg.one,hg.aaz,?_,?_,?_,?_,fun _=>rfl,?_,?_,⟨fun _=>0,?_⟩⟩
 ·intro m hm;rw[one hm];exact Nat.le_refl _
 ·intro m hm x hx;rw[one hm]at hx;simp[bn,aa]at hx
 ·intro m hm _;rw[one hm];rfl
 ·intro m hm _ _;rw[one hm];exact .inl ⟨rfl,rfl⟩
 ·intro m hm;rw[one hm];exact⟨by show (0:Int)<=493;decide,by show (493:Int)<=1023;decide,by show (1:Int)<=1;decide,by show (1:Int)<=1000;decide⟩
 ·intro m hm x hx;rw[one hm]at hx;simp[bn,aa]at hx
 ·intro k hk
  have:k+1<1:=hk;omega
 ·intro k hk
  have hk2:k<1:=hk;have:k=0:=by omega
  subst this;exact ⟨bn cJ,List.mem_append_right _ (List.mem_singleton.2 rfl),rfl,rfl,rfl⟩
 ·intro m hm _ hu;rw[one hm]at hu;exact absurd rfl hu
theorem gz {c c':Nat} {k:Int} {S:ae} (h:nP c k S) (hc:c<=c'):nP c' k S:=
 { h with small:=fun n hn=>by have:=h.small n hn;omega}
open Go.ChangeShapes Go.WideShapes Go.ChangeAt Go.RowKit
theorem Lh {ns:List ai} {last no:Int} (hu:aD ns last) {k:Nat} (hk:k<ns.length) (h:ns[k].no=no):fl ns no=ns.eraseIdx k:=by
 subst h;have hp:=hu.1;clear hu;unfold fl
 induction ns generalizing k with
 | nil=>simp at hk
 | cons x l ih =>
  obtain ⟨h1,h2⟩:=List.pairwise_cons.1 hp
  match k,hk with
  | 0,hk =>
   rw [List.filter_cons,if_neg (by simp)];simp only[List.getElem_cons_zero,List.eraseIdx_zero,List.tail_cons];rw [List.filter_eq_self];intro m hm;have:=h1 m hm;simp;omega
  | k+1,hk =>
   have hk2:k<l.length:=by simpa using hk
   have:=h1 _ (List.getElem_mem hk2);rw [List.filter_cons];simp only[List.getElem_cons_succ,List.eraseIdx_cons_succ];rw [if_pos (by simp;omega),ih hk2 h2]
theorem GG {w:World} {B:Nat} {es:Array MapEntry} {ns:List ai} (h:iF w B es.toList ns) {k:Nat} (hk:k<ns.length) :
  iF w B (es.eraseIdxIfInBounds k).toList (ns.eraseIdx k):=by
 have hl:es.size=ns.length:=by simpa using h.1
 have e:(es.eraseIdxIfInBounds k).toList=es.toList.eraseIdx k:=by
  unfold Array.eraseIdxIfInBounds;rw [dif_pos (by omega),Array.toList_eraseIdx]
 rw [e];refine ⟨by rw[List.length_eraseIdx,List.length_eraseIdx,h.1],fun j hj=>?_⟩;rw [List.length_eraseIdx,if_pos hk]at hj;rw [List.getElem?_eraseIdx]
 by_cases Jv:j<k
 ·obtain ⟨e',A',c',h1,h2,h3,h4⟩:=h.2 j (by omega)
  rw [if_pos Jv];have e2:(ns.eraseIdx k)[j]'(by rw[List.length_eraseIdx,if_pos hk];exact hj)=ns[j]:=List.getElem_eraseIdx_of_lt _ Jv;rw [e2];exact ⟨e',A',c',h1,h2,h3,h4⟩
 ·obtain ⟨e',A',c',h1,h2,h3,h4⟩:=h.2 (j+1) (by omega)
  rw [if_neg Jv];have e2:(ns.eraseIdx k)[j]'(by rw[List.length_eraseIdx,if_pos hk];exact hj)=ns[j+1]:=List.getElem_eraseIdx_of_ge _ (by omega);rw [e2];exact ⟨e',A',c',h1,h2,h3,h4⟩
theorem PR {w w0:World} {B bM:Nat} {es:Array MapEntry} {clock:Nat} {ns:List ai} {last no:Int} (hm:Has w bM (.map es clock)) (h:iF w0 B es.toList ns) (hu:aD ns last) (hi:aJ ns no=true) (ty:TypeId) :
  ∃ es',(Builtin.delete_ #[155,3] ty #[.map (some bM),.int .i64 no]).run Tryz.prog w=.ok (.tuple #[]) (lu w bM (.map es' clock))/\iF w0 B es'.toList (fl ns no):=by
 have hk:∀r,Instr.findNow (.int .i64) (.int .i64 no) es.toList 0=some r->(Instr.findKey 3 (.int .i64 no) es.toList).run Tryz.prog w=.ok r w:=fun r hr=>by
  unfold Instr.findKey;rw [Sem.run_bind,run_underlying Tryz.underlying3];simp [hr]
 rcases jU no es.toList ns 0 h.1 (fun k hk=>by obtain⟨e,A,c,h1,h2,_⟩:=h.2 k hk;exact⟨e,h1,h2⟩) with⟨g1,g2⟩|⟨k,e,g1,g2,g3,g4⟩
 ·rw[hi]at g1;cases g1
 ·have e0:eF ns no=some ns[k]:=by rw[g4,List.getElem?_eq_getElem g1]
  have aW:ns[k].no=no:=(lJ e0).1;refine ⟨es.eraseIdxIfInBounds k,?_,by rw[Lh hu g1 aW];exact GG h g1⟩;simp [Builtin.delete_,run_underlying Tryz.underlying155,MapKept.run_getObj_map hm,fY,hk _ g3,MapKept.run_setObj_map _ hm,Result.andThen,lu]
theorem GH {ns:List ai} {no:Int} (h:aJ ns no=false):fl ns no=ns:=by
 unfold fl;rw [List.filter_eq_self];intro m hm;have:=(aU h).2 m hm;simpa using this
theorem GI (B bT bM:Nat) (ns:List ai) (last no:Int) (w:World) (h:nh w B bT bM ns last) (hu:aD ns last) :
  Calls Tryz.prog 226 #[.pointer (some ⟨bT,0,none⟩),.int .i64 no] w (fun e w'=>e=.returned (.bool (aJ ns no))/\nh w' B bT bM (fl ns no) last/\Only [bT,bM] w w'):=by
 go_enter Tryz.func226,Tryz.ntmps226;go_wp2_with fail;refine (fK B bT bM ns last no _ h).mono ?_;rintro e w1 ⟨A1,c1,rfl,Gl,yi⟩
 generalize ac ns no=m at Gl|-
 cases hi:aJ ns no
 ·have yr:Hid (fl ns no=ns):=GH hi
  have HI:=zH hi;clear hi;go_wp2_with fail;go_ret;exact ⟨iD HI.out.symm,by rw[yr.out];exact (h.ext yi).ext ((Ext.refl _).alloc _),Only.ax (yi.alloc _)⟩
 ·obtain⟨W2,cQ⟩:=zE (w1.alloc (.cells #[m.no,m.dev,m.kind,m.mode,m.uid,m.gid,m.mtime,m.ctime,m.ag,m.up,bs m.data,.slice A1 m.af.length c1] 66))
  have E2:Ext w W2:=by rw[cQ];exact yi.alloc _
  obtain ⟨h1,h2,h3,es,cl,h4,h5⟩:=h.ext E2;have c0:W2.cell? ⟨bT,0,none⟩=some (.map (some bM)):=h3.cell 0;have WJ:=h3.lt;obtain ⟨es',hr,Jw⟩:=PR (w:=W2) h4 h5 hu hi 0;have HO:=zH Jw;have HI:=zH hi;clear Jw hi;go_upto_region 3 with fail;rw [<-cQ];clear cQ;go_wp2_with fail;go_ret;exact ⟨iD HI.out.symm,nh.CP (ns:=ns) ⟨h1,h2,h3,es,cl,h4,h5⟩ HO.out,(Only.ax E2).then ((Only.lu W2 bM _).mono (by simp))⟩
open Go
def Shut (md:Region.Mode) (ops:Array Oper) (listed:Array Bool):Prop:=∀i oi,ops[i]?=some oi->listed.getD i false=true->∀e∈oi.after,Region.binds md e=true->listed.getD e.on false=true
theorem yK {listed:Array Bool} {k:Nat} (h:listed.getD k false=true):listed.getD k true=true:=by
 rcases Nat.lt_or_ge k listed.size with g|g
 ·simp[g]at h|-;exact h
 ·simp[Array.getElem?_eq_none g]
theorem Shut.step {md:Region.Mode} {ops:Array Oper} {listed:Array Bool} (h:Shut md ops listed) {i:Nat} (hi:i∈Region.ready md ops listed):Shut md ops (listed.setIfInBounds i true):=by
 obtain ⟨v_,oi,pj,hall⟩:=mem_ready.1 hi;have up:∀k,listed.getD k false=true->(listed.setIfInBounds i true).getD k false=true:=fun k hk=>by
  by_cases e:i=k
  ·subst e
   have:=yK hk;rw [v_]at this;cases this
  ·rw[getD_set_ne false e];exact hk
 intro k ok hok hk e he hb
 by_cases hik:i=k
 ·subst hik
  rw [pj]at hok;injection hok with hok;subst hok;exact up _ (hall e he hb)
 ·rw [getD_set_ne false hik]at hk
  exact up _ (h k ok hok hk e he hb)
theorem uv {P:Program} {ops:Array Oper} {md:Region.Mode} {V:World} {s:Nat} {cs:List (Operand×Value)} {Q:Act->Prop} {Q':Exit->Act->World->Prop} {os:Oper} {F:World->Prop}
  (lE:ops[s]?=some os) (RP:os.guard=none) (RQ:os.dst=none)
  (iu:∀(a:Act) (w:World),Ext V w->Fj cs a->∃w'',(execOp a.eval os).run P w=.ok .skip w''/\F w'')
  (WT:∀i oi,ops[i]?=some oi->i≠s->(∃e∈os.after,Region.binds md e=true/\(e.on=i\/∃oj,ops[e.on]?=some oj/\∃e2∈oj.after,Region.binds md e2=true/\e2.on=i))\/(oi.guard=none/\∃t ix,oi.op=.extract t ix))
  (hQ:∀a w,F w->Q a->Q' .normal a w) :
  ∀ (f:Nat) (listed:Array Bool) (a:Act) (w:World),Shut md ops listed->nE P md ops V ops.size s cs Q f listed a ->
   (listed.getD s true=false->Ext V w->wpAny P md ops Q' f listed a w) /\
   (listed.getD s true=true->F w->(∀i oi,ops[i]?=some oi->listed.getD i true=false->oi.guard=none/\∃t ix,oi.op=.extract t ix)->wpAny P md ops Q' f listed a w)
 | 0,listed,a,w,_,h=>by
  obtain ⟨h1,_,h3,h4⟩:=h;exact ⟨fun h=>(by rw[h3]at h;cases h),fun _ hF _=>⟨h1,hQ a w hF h4⟩⟩
 | f + 1, listed,a,w,hsh,h=>by
  have ih:=fun listed a w=>uv lE RP RQ iu WT hQ f listed a w
  have shut:=fun {i:Nat} (hi:i∈Region.ready md ops listed)=>hsh.step hi
  obtain ⟨hne,hall⟩:=h;refine ⟨fun hs hE=>⟨fun h0=>absurd h0 hne,fun i hi=>?_⟩,fun hs hF v_=>⟨fun h0=>absurd h0 hne,fun i hi=>?_⟩⟩
  ·have hr:=hall i hi
   obtain ⟨yD,oi,pj,nI⟩:=mem_ready.1 hi;have Tc:i≠ops.size:=by have:=(Array.getElem?_eq_some_iff.1 pj).1;omega
   unfold oV at hr;rw [if_neg Tc]at hr
   by_cases e2:i=s
   ·subst e2
    obtain rfl:os=oi:=Option.some.inj (lE.symm.trans pj);rw [if_pos rfl]at hr;obtain ⟨w'',sI,tI⟩:=iu a w hE hr.1;unfold wpOp;rw [lE];dsimp only;have hw:Region.wanted os (yielded ops a.tmps)=true:=by unfold Region.wanted;rw[RP]
    rw [if_pos hw]
    left
    unfold Oper.wp;rw [sI];simp only[Oper.upon];rw [RQ];refine (ih _ a w'' (shut hi) hr.2).2 (dx listed i) tI fun j oj CT hj=>?_
    have uf:j≠i:=fun e=>by rw[e,dx]at hj;cases hj
    rcases WT j oj CT uf with⟨e,lF,mi,pY⟩|hp
    ·have hl:listed.getD j true=true:=by
      rcases pY with pY|⟨ok,hok,e2,g1,g2,g3⟩
      ·rw[<-pY];exact yK (nI e lF mi)
      ·rw[<-g3];exact yK (hsh _ ok hok (nI e lF mi) e2 g1 g2)
     rw [getD_set_ne true (Ne.symm uf)]at hj;rw [hj]at hl;cases hl
    ·exact hp
   ·rw [if_neg e2,pj]at hr
    unfold wpOp;rw [pj];dsimp only at hr|-;split
    ·rename_i hw
     rw [if_pos hw]at hr;obtain ⟨v,h1,h2⟩:=hr
     left
     exact qi (h1 ⟨w,hE⟩) fun w'' hx=>(ih _ _ w'' (shut hi) h2).1 (by rw[getD_set_ne true e2];exact hs) (hE.trans hx)
    ·rename_i hw
     rw [if_neg hw]at hr;exact (ih _ _ w (shut hi) hr).1 (by rw[getD_set_ne true e2];exact hs) hE
  ·have hr:=hall i hi
   obtain ⟨yD,oi,pj,nI⟩:=mem_ready.1 hi;have Tc:i≠ops.size:=by have:=(Array.getElem?_eq_some_iff.1 pj).1;omega
   have e2:i≠s:=fun e=>by rw[e,hs]at yD;cases yD
   obtain ⟨hg,t,ix,hx⟩:=v_ i oi pj yD;unfold oV at hr;rw [if_neg Tc,if_neg e2,pj]at hr;unfold wpOp;rw [pj];dsimp only at hr|-;have hw:Region.wanted oi (yielded ops a.tmps)=true:=by unfold Region.wanted;rw[hg]
   rw [if_pos hw]at hr|-;obtain ⟨v,h1,h2⟩:=hr
   left
   unfold Oper.wp;rw [qj hx (h1 ⟨V,Ext.refl V⟩) w];simp only[Oper.upon];refine (ih _ _ w (shut hi) h2).2 (by rw[getD_set_ne true e2];exact hs) hF fun j oj CT hj=>?_
   by_cases e:i=j
   ·subst e;rw[dx]at hj;cases hj
   ·rw[getD_set_ne true e]at hj;exact v_ j oj CT hj
def De (l:List Oper) (os:Oper) (i:Nat):Bool:=os.after.any (fun e=>Region.binds .any e&&(e.on == i || (match l[e.on]? with
 | some oj=>oj.after.any (fun e2=>Region.binds .any e2&&e2.on == i)
 | none=>false)))
def Li (l:List Oper) (s:Nat) (x y:Tmp) (os:Oper):Bool:=
 os.guard == none&&os.dst == none&&(os.looksAt l.toArray).contains x&&(os.looksAt l.toArray).contains y &&
  (List.range l.length).all (fun i=>(i == s || De l os i) || yE l i)
def Lj (l:List Oper) (s:Nat) (x y:Tmp):Bool:=
 decide (s<l.length)&&(match l[s]? with
  | some os=>Li l s x y os
  | none=>false)
theorem AA {l:List Oper} {os:Oper} {i:Nat} (h:De l os i=true):∃e∈os.after,Region.binds .any e=true/\(e.on=i\/∃oj,l.toArray[e.on]?=some oj/\∃e2∈oj.after,Region.binds .any e2=true/\e2.on=i):=by
 unfold De at h;simp only[Array.any_eq_true',Bool.and_eq_true,Bool.or_eq_true,beq_iff_eq]at h;obtain ⟨e,he,hb,h⟩:=h;refine ⟨e,he,hb,?_⟩;rcases h with h|h
 ·exact .inl h
 ·right
  cases ho:l[e.on]? with
  | none=>rw[ho]at h;cases h
  | some oj =>
   rw [ho]at h;simp only[Array.any_eq_true',Bool.and_eq_true,beq_iff_eq]at h;obtain ⟨e2,h1,h2,h3⟩:=h;exact ⟨oj,by simpa using ho,e2,h1,h2,h3⟩
theorem uy {P:Program} {id:Nat} {Q:Exit->Act->World->Prop} {a:Act} {w:World} {l:List Oper} (V:World) (s:Nat) (x y:Tmp) (vx vy:Value) (F:World->Prop) (os:Oper)
  (WS:P.follows .mixedOrders=true) (hB:Region.lexB .any l.toArray=true) (hc:Lj l s x y=true) (lE:l[s]?=some os)
  (iu:∀(a:Act) (w:World),Ext V w->a.eval (.tmp x)=vx->a.eval (.tmp y)=vy->∃w'',(execOp a.eval os).run P w=.ok .skip w''/\F w'')
  (hV:Ext V w.drew)
  (h:aA P l.toArray V (fun a2=>a2.eval (.tmp x)=vx/\a2.eval (.tmp y)=vy/\aA P l.toArray V (fun a3=>∀w',F w'->Q .normal a3 w') (l.drop (s+1)) a2) (l.take s) a) :
  (Code.region id l.toArray true).wp P Q a w:=by
 simp only[Lj,lE,Li,Bool.and_eq_true,decide_eq_true_eq,List.all_eq_true,Bool.or_eq_true,beq_iff_eq]at hc;obtain ⟨c2,⟨⟨⟨g3,g4⟩,g5⟩,g6⟩,c6⟩:=hc;simp only[Region.lexB,Bool.and_eq_true]at hB;have ug:l.toArray[s]?=some os:=by simpa using lE
 have hys:∀o,l.toArray[s]?=some o->∀p∈[(Operand.tmp x,vx),(Operand.tmp y,vy)],∀z,p.1=.tmp z->z∈o.looksAt l.toArray:=fun o ho p hp z hz=>by
  rw [ug]at ho;injection ho with ho;simp only[List.mem_cons,List.not_mem_nil,or_false]at hp;rcases hp with rfl|rfl
  ·injection hz with hz;rw[<-ho,<-hz];simpa using g5
  ·injection hz with hz;rw[<-ho,<-hz];simpa using g6
 refine wp_region_any WS ?_;have fX:(l.take s).length=s:=by simp;omega
 have CW:lB P l.toArray V l.toArray.size s [(.tmp x,vx),(.tmp y,vy)] (fun a3=>∀w',F w'->Q .normal a3 w') l 0 a:=by
  have e:l=l.take s++(os::l.drop (s+1)):=by
   have e2:l.drop s=os::l.drop (s+1):=by rw[List.drop_eq_getElem_cons c2];congr 1;rw[List.getElem?_eq_getElem c2]at lE;injection lE
   rw [<-e2,List.take_append_drop]
  conv=>arg 8;rw[e]
  refine jp (l.take s) 0 a (fun j hj=>by rw[fX]at hj;simp;omega) (fun j hj=>by rw[fX]at hj;rw[Nat.zero_add];simp[hj]) ?_;rw [Nat.zero_add,fX];have lO:∀{Q1 Q2:Act->Prop},(∀a,Q1 a->Q2 a)->∀(lN:List Oper) (a:Act),aA P l.toArray V Q1 lN a->aA P l.toArray V Q2 lN a:=by
   intro Q1 Q2 hq lN
   induction lN with
   | nil=>intro a h;exact hq a h
   | cons o lN ih =>
    intro a h;unfold aA at h|-;split
    ·rename_i hw;rw[if_pos hw]at h;obtain⟨v,h1,h2⟩:=h;exact⟨v,h1,ih _ h2⟩
    ·rename_i hw;rw[if_neg hw]at h;exact ih _ h
  refine lO (fun a2 h2=>?_) _ _ h;show oV P l.toArray V l.toArray.size s _ s _ a2;unfold oV;rw [if_neg (by simp;omega),if_pos rfl];refine ⟨fun p hp=>?_,?_⟩
  ·simp only[List.mem_cons,List.not_mem_nil,or_false]at hp
   rcases hp with rfl|rfl
   ·exact h2.1
   ·exact h2.2.1
  have e5:l.drop (s+1)=l.drop (s+1)++[]:=by simp
  rw [e5];refine jp (l.drop (s+1)) (s+1) a2 (fun j hj=>by simp at hj|-;omega) (fun j hj=>by simp) ?_;exact h2.2.2
 have hR:=nH (md:=.any) (s:=s) hB.1 hys l 0 (Array.replicate l.toArray.size false) a (by simp) (fun j hj=>by omega) (by simp) (by simpa using c2) (by simpa using hB.2) CW;have:=(uv (V:=V) (P:=P) (ops:=l.toArray) (md:=.any) (s:=s) (Q':=Q) (F:=F) ug g3 g4 (fun a w h1 h2=>iu a w h1 (h2 (.tmp x,vx) (by simp)) (h2 (.tmp y,vy) (by simp))) ?_ (fun a w h1 h2=>h2 w h1) _ _ a w.drew (fun k ok hok hk=>by have hk2:k<l.length:=(Array.getElem?_eq_some_iff.1 hok).1;simp[hk2]at hk) hR).1 (by simp[c2]) hV
 ·simpa using this
 ·intro i oi hi h1
  have hil:i<l.length:=by
   rcases Nat.lt_or_ge i l.length with h'|h'
   ·exact h'
   ·rw[Array.getElem?_eq_none (by simpa using h')]at hi;cases hi
  have:=c6 i (List.mem_range.2 hil);unfold yE at this;rw [show l[i]?=some oi by simpa using hi]at this;dsimp only at this;rcases this with (this|this)|this
  ·exact absurd this h1
  ·exact .inl (AA this)
  ·right
   simp only[Bool.and_eq_true,beq_iff_eq]at this;refine ⟨this.1,?_⟩;have h3:=this.2;unfold rG at h3
   cases ho:oi.op<;>simp[ho]at h3
   exact ⟨_,_,rfl⟩
attribute [local irreducible] wpQuiet
def kr (S:ae) (no:Int):Bool:=aJ S.nodes no&&!(aC S.ah (ac S.nodes no).dev == no)
def xk (S:ae) (n:ai):List eB:=ir S.ah n.dev (aP (jn S.ah n.dev).q (-(bA n.kind n.data.length)) (-1))
def gK (S:ae) (no:Int):ae:=if kr S no=true then⟨fl S.nodes no,xk S (ac S.nodes no),S.last⟩ else S
def RZ (w:World) (B:Nat) (g:bG) (S:ae) (no:Int) (e:Ending) (w':World):Prop:=
 e = .returned (.bool (kr S no))/\dM w' B g (gK S no)/\Only g.list w w'
theorem AB {w w':World} {B:Nat} {g:bG} {S:ae} {no:Int} (h:dM w B g S) (hE:Ext w w') (hk:kr S no=false):RZ w B g S no (.returned (.bool false)) w':=
 ⟨by rw[hk],by unfold gK;rw[hk];exact h.ext hE,Only.ax hE⟩
theorem uA {id:Nat} {Q:Exit->Act->World->Prop} {a:Act} {w:World} {l:List Oper} (V:World) (s:Nat) (x y:Tmp) (B g cap:Nat) (ds:List eB) (k:Nat) (hk:k<ds.length) (q:dB) (hD:f_ V B 205 (.slice (some ⟨g,0,none⟩) ds.length cap) ds) (os:Oper)
  (hB:Region.lexB .any l.toArray=true) (hc:Lj l s x y=true) (lE:l[s]?=some os) (mO:os.op=.store 189 (.tmp x) (.tmp y)) (hV:Ext V w.drew) :
  aA Tryz.prog l.toArray V (fun a2=>a2.eval (.tmp x)=.pointer (some ⟨g,k*6+2,none⟩)/\a2.eval (.tmp y)=.agg #[.int .i64 q.blocks,.int .i64 q.nodes,.int .i64 q.bu,.int .i64 q.bq]/\aA Tryz.prog l.toArray V (fun a3=>∀w',(∃w0,Ext V w0/\Only [g] w0 w'/\f_ w' B 205 (.slice (some ⟨g,0,none⟩) ds.length cap) (ir ds ((k:Int)+1) q))->Q .normal a3 w') (l.drop (s+1)) a2) (l.take s) a ->
  (Code.region id l.toArray true).wp Tryz.prog Q a w:=by
 refine uy V s x y _ _ (fun w'=>∃w0,Ext V w0/\Only [g] w0 w'/\f_ w' B 205 (.slice (some ⟨g,0,none⟩) ds.length cap) (ir ds ((k:Int)+1) q)) os (by kernel_rfl) hB hc lE ?_ hV;intro a w hE h1 h2;have hw:w.ownsRow B 205 6 (.slice (some ⟨g,0,none⟩) ds.length cap) ds.length (aX ds):=au hD (Only.ax (L:=[]) hE) (by simp);obtain ⟨_,_,d2,d3,d4,d5⟩:=f_.at_ (show f_ w B _ _ ds from hw) k hk;have f2:=hw.frozenAt (k*6+2);have f3:=hw.frozenAt (k*6+3);have f4:=hw.frozenAt (k*6+4);have f5:=hw.frozenAt (k*6+5);have ht:w.there g (k*6+2) 4:=by
  intro j hj
  match j,hj with
  | 0,_=>exact⟨by rw[Nat.add_zero,d2];rfl,by rw[Nat.add_zero];exact f2⟩
  | 1,_=>exact⟨by rw[show k*6+2+1=k*6+3 from rfl,d3];rfl,f3⟩
  | 2,_=>exact⟨by rw[show k*6+2+2=k*6+4 from rfl,d4];rfl,f4⟩
  | 3,_=>exact⟨by rw[show k*6+2+3=k*6+5 from rfl,d5];rfl,f5⟩
 refine ⟨_,?_,w,hE,bH [.int .i64 q.blocks,.int .i64 q.nodes,.int .i64 q.bu,.int .i64 q.bq] (k*6+2) w,?_⟩
 ·simp only[execOp,mO,h1,h2,run_storeAt_mid w g (k*6+2) 189 #[.int .i64 q.blocks,.int .i64 q.nodes,.int .i64 q.bu,.int .i64 q.bq] ht uh (xa q),Sem.run_bind,Sem.run_pure,Result.andThen_ok]
 ·unfold f_
  simp only[gx];rw [<-lv ds k hk];exact (World.ownsRow.stored (World.ownsRow.stored (World.ownsRow.stored (World.ownsRow.stored hw (k*6+2) _).1 (k*6+3) _).1 (k*6+4) _).1 (k*6+5) _).1
theorem GJ (B : Nat) (g:bG) (S:ae) (no:Int) (w:World) (h:dM w B g S) (hd:0<S.ah.length) (tk:S.ah.length<=8) (hr:gW S.ah) (hu:aD S.nodes S.last) (Lk:Fl S) :
    Calls Tryz.prog 217 #[.pointer (some ⟨g.bW,0,none⟩),.int .i64 no] w (RZ w B g S no):=by
  have hm:Hid (kr S no=(aJ S.nodes no&&!(aC S.ah (ac S.nodes no).dev == no))):=by show _=_;rfl
  have R0:=Has.new w (.cells #[aa.no,aa.dev,aa.kind,aa.mode,aa.uid,aa.gid,aa.mtime,aa.ctime,aa.ag,aa.up,bs aa.data,.slice none aa.af.length 0] 66)
  have E0:Ext w (w.alloc (.cells #[.int .i64 0,.int .i64 0,.int .i64 0,.int .i64 0,.int .i64 0,.int .i64 0,.int .i64 0,.int .i64 0,.int .i64 0,.int .i64 0,.string ⟨#[]⟩,.slice none 0 0] 66)):=(Ext.refl _).alloc _
  go_enter Tryz.func217,Tryz.ntmps217
  go_wp2_with fail
  refine (gX B g S _ (h.ext E0) hd).mono ?_
  rintro e w1 ⟨rfl,b1⟩
  have R1:=R0.ext b1
  have E1:=E0.trans b1
  obtain ⟨_,_,cd,hW,hD⟩:=id (h.ext E1)
  have v0:w1.cell? ⟨g.bW,0,none⟩=some (.pointer (some ⟨g.bT,0,none⟩)):=hW.cell 0
  have z1:=hW.lt
  clear hD
  go_wp2_with fail
  refine (fK B g.bT g.bM S.nodes S.last no _ (h.ext E1).2.1).mono ?_
  rintro e w2 ⟨A,c,rfl,gv,b2⟩
  have R2:=R1.ext b2
  have E2:=E1.trans b2
  have hmem:aJ S.nodes no=true->(ac S.nodes no).no=no/\fU S.ah (ac S.nodes no).dev=true/\(ac S.nodes no).data.length<=1048576:=fun hi=>⟨(ak hi).2.1,Lk _ (ak hi).2.2⟩
  obtain⟨n,hn⟩:=zE (ac S.nodes no)
  obtain⟨i,hi⟩:=zE (aJ S.nodes no)
  rw [<-hn]at gv hm hmem
  rw [<-hi]at hm hmem
  rw [<-hn,<-hi]
  have HN:=zH hn
  have HI:=zH hi
  have HM:=zH hmem
  clear v0 hn hi hmem
  cases i
  · have hE:Hid (kr S no=false):=by show _=_;rw[hm.out];rfl
    clear hm
    go_wp2_with (refine ap rfl _ _ rfl w.heap.size n A c rfl rfl R2 ?_;intro w3 R3 O3)
    go_ret
    exact AB h (O3.after E2 (by simp)) hE.out
  · obtain ⟨aW, Dd, acb⟩:=HM.out rfl
    clear aW
    go_upto_region 4 with (refine ap rfl _ _ rfl w.heap.size n A c rfl rfl R2 ?_;intro w3 R3 O3)
    have E3:Ext w w3:=O3.after E2 (by simp)
    have x1:w3.cell? ⟨w.heap.size,1,none⟩=some (.int .i64 n.dev):=R3.cell 1
    have xz:=R3.lt
    go_wp2_with fail
    refine (gY B g S n.dev _ (h.ext E3) hd (by omega)).mono ?_
    rintro e w3' ⟨rfl,Xb⟩
    have R3':=R3.ext Xb
    have E3':=E3.trans Xb
    clear x1 xz
    by_cases R7:aC S.ah n.dev=no
    · have tr:(aC S.ah n.dev == no)=true:=by simpa using R7
      have hE:Hid (kr S no=false):=by show _=_;rw[hm.out,tr];rfl
      clear R7 hm
      go_wp2_with fail
      go_ret
      exact AB h E3' hE.out
    have tr:(aC S.ah n.dev == no)=false:=by simpa using R7
    have hE:Hid (kr S no=true):=by show _=_;rw[hm.out,tr];rfl
    have Ll:=dC hr n.dev
    rcases Ll with⟨_,e2⟩|⟨k,hk,e1,_,e3,_,_,e6⟩
    · rw[e2]at Dd;cases Dd
    obtain⟨bl,mV⟩:=zE (bA n.kind n.data.length)
    have ez:=rA (k:=n.kind) (s:=n.data.length) (by omega) (by omega)
    rw [<-mV]at ez
    obtain⟨q,hq⟩:=zE (S.ah[k].q)
    rw [<-hq]at e6
    have inr:Pt (-bl) (-1):=⟨by omega,by omega,by omega,by omega⟩
    have HB:=zH mV
    have HQ:=zH hq
    have H3:=zH e3
    have HD:=zH e1
    have hsz:((bs n.data).size:Int)=n.data.length:=by rw[bi]
    have y0:(0:Int)<=n.dev-1:=by rw[e1];omega
    have y1:n.dev-1<(S.ah.length:Int):=by rw[e1];omega
    have y2:(n.dev-1).toNat=k:=by rw[e1];omega
    have y3:IntKind.i64.wrap (n.dev-1)=n.dev-1:=a_ (by omega) (by omega)
    have y4:1<=n.dev:=by omega
    have y5:n.dev.toNat-1=k:=by omega
    clear hm Dd mV hq e3 e1 R7
    go_upto_region 6 with fail
    have x1:w3'.cell? ⟨w.heap.size,1,none⟩=some (.int .i64 n.dev):=R3'.cell 1
    have xz:=R3'.lt
    obtain ⟨hb,hT,cd3,cj,hD3⟩:=id (h.ext E3')
    have v1:w3'.cell? ⟨g.bW,1,none⟩=some (.slice (some ⟨g.bD,0,none⟩) S.ah.length cd3):=cj.cell 1
    have vz:=cj.lt
    go_cut [7] (fun p wc=>p=.pointer (some ⟨g.bD,k*6,none⟩)/\Ext w3' wc)
    case first =>
      go_quiet (fail)
      go_wp2_with fail
      go_meet
      exact ⟨rfl,(Ext.refl _).drewN nq⟩
    case rest =>
    obtain ⟨rfl,E4⟩:=hcut
    obtain⟨W4,ij⟩:=zE wc
    rw [<-ij]at E4|-
    clear ij x1 v1 vz xz
    go_upto_region 7 with fail
    have R4:=R3'.ext E4
    have Xc:Ext w W4:=E3'.trans E4
    have hl:=h.lt
    obtain ⟨_,hT4,Th,ij,RW⟩:=id (h.ext Xc)
    have K4:=h.ext Xc
    obtain ⟨_,_,d2,d3,d4,d5⟩:=f_.at_ RW k hk
    rw [<-HQ.out]at d2 d3 d4 d5
    have y6:IntKind.i64.wrap (-bl)=-bl:=a_ (by omega) (by omega)
    have zD:g.bD<W4.heap.size:=by have:=Xc.size;omega
    go_cut [] (fun wc=>Only [g.bD] W4 wc/\f_ wc B 205 (.slice (some ⟨g.bD,0,none⟩) S.ah.length Th) (ir S.ah ((k:Int)+1) (aP q (-bl) (-1))))
    case first =>
      have K0:Hid (∀w:World,Calls Tryz.prog 220 #[n.kind,.int .i64 n.data.length] w (fun e w'=>e=.returned (.int .i64 bl)/\w'=w)):=by
        show ∀w:World,_
        intro w;rw[HB.out];exact qc n.kind n.data.length (by omega) (by omega) w
      have KT:Hid (∀w:World,Calls Tryz.prog 183 #[.agg #[.int .i64 q.blocks,.int .i64 q.nodes,.int .i64 q.bu,.int .i64 q.bq],.int .i64 (-bl),.int .i64 (-1)] w (aI w (.tuple #[.agg #[.int .i64 (aP q (-bl) (-1)).blocks,.int .i64 (aP q (-bl) (-1)).nodes,.int .i64 (aP q (-bl) (-1)).bu,.int .i64 (aP q (-bl) (-1)).bq],.int .i64 (dU q (-bl) (-1))]))):=rv q (-bl) (-1) e6 inr
      have u2:∀u:Gr W4,u.w.cell? ⟨w.heap.size,2,none⟩=some (.int .i64 n.kind):=Gr.cell R4.lt (R4.cell 2)
      have u10:∀u:Gr W4,u.w.cell? ⟨w.heap.size,10,none⟩=some (.string (bs n.data)):=Gr.cell R4.lt (R4.cell 10)
      have t2:∀u:Gr W4,u.w.cell? ⟨g.bD,k*6+2,none⟩=some (.int .i64 q.blocks):=Gr.cell zD d2
      have t3:∀u:Gr W4,u.w.cell? ⟨g.bD,k*6+3,none⟩=some (.int .i64 q.nodes):=Gr.cell zD d3
      have t4:∀u:Gr W4,u.w.cell? ⟨g.bD,k*6+4,none⟩=some (.int .i64 q.bu):=Gr.cell zD d4
      have t5:∀u:Gr W4,u.w.cell? ⟨g.bD,k*6+5,none⟩=some (.int .i64 q.bq):=Gr.cell zD d5
      clear d2 d3 d4 d5 R4 Xc E4 K4 ij hT4
      refine uA W4 18 56 53 B g.bD Th S.ah k hk (aP q (-bl) (-1)) RW _ (by kernel_rfl) (by kernel_rfl) rfl rfl ((Ext.refl _).drew) ?_
      simp only[List.take_succ_cons,List.take_zero,List.drop_succ_cons,List.drop_nil]
      repeat (refine bJ (fun K hK=>?_)
              go_simp
              first
                | (refine hK _ ?_;clear hK K)
                | (apply Exists.intro
                   refine ⟨fun u=>?_,hK _ ?_⟩
                   first
                     | ((with_reducible refine (K0.out _).mono ?_);rintro e w'' ⟨rfl,rfl⟩;exact⟨rfl,Ext.refl _⟩)
                     | ((with_reducible refine (KT.out _).mono ?_);rintro e w'' ⟨rfl,hx⟩;exact⟨rfl,hx⟩)
                   clear hK K))
      refine aM ⟨rfl,rfl,?_⟩
      refine aM ?_
      rintro w' ⟨w0,hx,hO,hR⟩
      go_wp2_with fail
      go_meet
      exact ⟨Only.pre hx hO,hR⟩
    case rest =>
    obtain ⟨O5,D5⟩:=hcut
    obtain⟨W5,jJ⟩:=zE wc
    rw [<-jJ]at O5 D5|-
    clear jJ d2 d3 d4 d5
    have K4a:=K4.apart
    obtain ⟨m1,m2,m3,m4,m5,m6⟩:=K4.ne
    have H5:=O5.has ij (by simpa using m3)
    have T5:nh W5 B g.bT g.bM S.nodes S.last:=hT4.only O5 (K4a.sub (by simp)) (by simpa using m5) (by simpa using m6)
    have v0:W5.cell? ⟨g.bW,0,none⟩=some (.pointer (some ⟨g.bT,0,none⟩)):=H5.cell 0
    have vz:=H5.lt
    go_wp2_with fail
    refine (GI B g.bT g.bM S.nodes S.last no _ T5 hu).mono ?_
    rintro e w6 ⟨rfl,T6,O6⟩
    go_wp2_with fail
    go_ret
    have e2:gK S no=⟨fl S.nodes no,ir S.ah ((k:Int)+1) (aP q (-bl) (-1)),S.last⟩:=by
      unfold gK xk
      rw [if_pos hE.out,<-HN.out,H3.out,<-HQ.out,<-HB.out,HD.out]
    refine ⟨by rw[hE.out];exact iD HI.out.symm,?_,?_⟩
    · rw [e2]
      refine ⟨h.1,T6,Th,?_,?_⟩
      · have:=O6.has H5 (by simp;exact⟨m1,m2⟩)
        simpa [gx]using this
      · have:=au D5 O6 (fun b hb=>by simp[Value.ownBlock]at hb;subst hb;simp;exact⟨m5.symm,m6.symm⟩)
        unfold f_
        simp only[gx]at this|-
        exact this
    · exact (Only.pre Xc (O5.mono (by simp))).then (O6.mono (by simp))
end
structure Live (S:ae):Prop where
 bc:aD S.nodes S.last
 last:1<=S.last
 ah:0<S.ah.length
 eight:S.ah.length<=8
 roots:gW S.ah
 count:S.nodes.length<=S.last
 on:Fl S
 first:∃m∈S.nodes,m.no=1
 one:∀n∈S.nodes,n.no=1->n.dev=1
 mQ:aC S.ah 1=1
theorem Live.set {S:ae} (h:Live S) (n:ai) (hd:fU S.ah n.dev=true) (hl:n.data.length<=1048576) (h1:n.no=1->n.dev=1):Live (aE S n):=
 ⟨h.bc.set n,h.last,h.ah,h.eight,h.roots,by show ((bQ S.nodes n).length:Int)<=S.last;rw[nB];exact h.count,fun m hm=>by
  rcases ql hm with hm|rfl
  ·exact h.on m hm
  ·exact⟨hd,hl⟩,by
  obtain ⟨m,hm,e⟩:=h.first;refine ⟨_,tM hm,?_⟩;split
  ·rename_i e2;rw[<-e2];exact e
  ·exact e,fun m hm e=>by
  rcases ql hm with hm|rfl
  ·exact h.one m hm e
  ·exact h1 e,h.mQ⟩
theorem Live.fine {S:ae} (h:Live S) {d:Int} (hd:fU S.ah d=true) (b n:Int):mv (aP (jn S.ah d).q b n):=by
 rcases dC h.roots d with⟨_,e2⟩|⟨k,hk,_,_,e3,_,_,e6⟩
 ·rw[e2]at hd;cases hd
 ·rw[e3];exact pG e6
theorem AE {S:ae} (a b n:Int):(cH S a b n).last<=S.last+1:=by
 unfold cH;split
 ·exact Int.le_refl _
 ·omega
theorem Df (S:ae) (no:Int):(gK S no).last=S.last:=by unfold gK;split<;>rfl
theorem Dg (S:ae) (no:Int) (d:List UInt8):(jH S no d).last=S.last:=by unfold jH;split<;>rfl
theorem dJ {ns:List ai} {no:Int} {m:ai} (h:m∈fl ns no):m∈ns/\m.no≠no:=by
 unfold fl at h;rw [List.mem_filter]at h;exact ⟨h.1,by simpa using h.2⟩
theorem nQ {ns:List ai} {no:Int} {m:ai} (h:m∈ns) (hne:m.no≠no):m∈fl ns no:=List.mem_filter.2 ⟨h,by simpa using hne⟩
theorem Lm {c:Nat} {k k':Int} {S:ae} (h:nP c k S) {no:Int} (h1:no≠1) (Ll:∀j,(hj:j<S.ah.length)->S.ah[j].root≠no) (Xd:∀j,(hj:j+1<S.ah.length)->S.ah[j+1].over≠no)
  (Xe:∀q∈S.nodes,q.kind=1->q.no≠no->q.no≠k'->Au S q/\(aC S.ah q.dev≠q.no->q.up≠no)):nP c k' ⟨fl S.nodes no,S.ah,S.last⟩:=by
 have hlen:(fl S.nodes no).length<=S.nodes.length:=List.length_filter_le ..;refine ⟨h.bc.drop no,h.last,h.ah,h.eight,h.roots,?_,?_,?_,?_,?_,?_,?_,?_,h.mQ,?_,?_,?_,?_,h.qt,?_,?_,?_⟩
 ·have:=h.count
  show ((fl S.nodes no).length:Int)<=S.last;omega
 ·exact fun m hm=>h.small m (dJ hm).1
 ·exact fun m hm=>h.lP m (dJ hm).1
 ·exact fun m hm=>h.names m (dJ hm).1
 ·exact fun m hm=>h.pos m (dJ hm).1
 ·exact fun m hm=>h.on m (dJ hm).1
 ·obtain ⟨m,hm,e⟩:=h.first
  exact ⟨m,nQ hm (by rw[e];exact Ne.symm h1),e⟩
 ·exact fun m hm=>h.one m (dJ hm).1
 ·exact fun m hm=>h.mC m (dJ hm).1
 ·intro m hm hk nk
  obtain ⟨hm,hne⟩:=dJ hm;obtain ⟨u,v⟩:=Xe m hm hk hne nk;rcases u with u|⟨u1,u2,q,hq,u3,u4⟩
  ·exact .inl u
  ·exact .inr ⟨u1,u2,q,nQ hq (by rw[u3];exact v u1),u3,u4⟩
 ·exact fun m hm=>h.bits m (dJ hm).1
 ·intro m hm x hx
  have hK:=h.yJ m (dJ hm).1 x hx;exact ⟨hK.1,hK.2.1,fun q hq e=>hK.2.2 q (dJ hq).1 e⟩
 ·intro j hj
  obtain ⟨m,hm,o1,o⟩:=h.lV j hj;exact ⟨m,nQ hm (by rw[o1];exact Xd j hj),o1,o⟩
 ·intro j hj
  obtain ⟨m,hm,o1,o⟩:=h.fG j hj;exact ⟨m,nQ hm (by rw[o1];exact Ll j hj),o1,o⟩
 ·obtain ⟨d,hd⟩:=h.deep
  exact ⟨d,fun m hm=>hd m (dJ hm).1⟩
theorem ib {S:ae} (hu:aD S.nodes S.last) {m n:ai} (hm:m∈S.nodes) (hn:n∈S.nodes) (e:m.no=n.no):m=n:=by
 have h1:=(cR hu hm).1;have h2:=(cR hu hn).1;rw [e]at h1;exact h1.symm.trans h2
theorem GK {c:Nat} {k:Int} {S:ae} (h:nP c k S) {no:Int} (h1:1<=no) (ho:ar S.ah no=no):∀j,(hj:j+1<S.ah.length)->S.ah[j+1].over≠no:=by
 intro j hj e;unfold ar at ho;rw [if_pos (by omega)]at ho
 cases hf:S.ah.find? (fun d=>d.over == no) with
 | none =>
  have:=List.find?_eq_none.1 hf _ (List.getElem_mem hj);simp at this;exact this e
 | some x =>
  rw [hf]at ho;have hx:=List.find?_some hf;have hxm:=List.mem_of_find?_eq_some hf;obtain ⟨i,hi,rfl⟩:=List.getElem_of_mem hxm;simp only[beq_iff_eq]at hx
  cases i with
  | zero=>rw[h.qt hi]at hx;omega
  | succ i =>
   obtain ⟨m,hm,a1,_,a3⟩:=h.fG (i+1) hi;obtain ⟨q,hq,b1,_,b3,_⟩:=h.lV i hi;have:m=q:=ib h.bc hm hq (by rw[a1,b1,hx];exact ho);subst this;omega
theorem Ln {c:Nat} {k k':Int} {S:ae} (h:nP c k S) {no:Int} (hk:kr S no=true) (ho:ar S.ah no=no) (rn:k=k'\/k=no\/k=0) (hne:(ac S.nodes no).kind=1->(ac S.nodes no).af=[]):nP c k' (gK S no):=by
 unfold gK;rw [if_pos hk];unfold kr at hk;rw [Bool.and_eq_true]at hk;obtain ⟨hi,hr⟩:=hk;obtain ⟨_,aW,hm⟩:=ak hi;obtain⟨n,hn⟩:=zE (Proofs.YtpibnfdolojpcaaGreat.ac S.nodes no);rw [<-hn]at aW hm hr hne|-;have CQ:aC S.ah n.dev≠no:=by simpa using hr
 have Xf:=h.on n hm;have Lf:mv (aP (jn S.ah n.dev).q (-(bA n.kind n.data.length)) (-1)):=by
  rcases dC h.roots n.dev with⟨_,e2⟩|⟨j,hj,_,_,e3,_,_,e6⟩
  ·rw[e2]at Xf;cases Xf.1
  ·rw[e3];exact pG e6
 have hpos:=(h.bc.2 n hm).1;have J8:=GK h (by rw[<-aW];exact hpos) ho;have Tt:∀j,(hj:j<S.ah.length)->S.ah[j].root≠no:=by
  intro j hj e;obtain ⟨m,bU,a1,_,a3⟩:=h.fG j hj;have:m=n:=ib h.bc bU hm (by rw[a1,e,aW]);subst this;rw [a3,Lc hj]at CQ;exact CQ e
 have hA:=uu h n.dev _ Lf S.last (Int.le_refl _);unfold xk;obtain⟨Q,hQ⟩:=zE (ir S.ah n.dev (aP (jn S.ah n.dev).q (-(bA n.kind n.data.length)) (-1)));rw [<-hQ]at hA|-;have hlen:Q.length=S.ah.length:=by rw[hQ,gx]
 have hat:∀j,(hj:j<Q.length)->(Aa:j<S.ah.length)->Q[j].root=S.ah[j].root/\Q[j].over=S.ah[j].over:=by
  intro j hj Aa;subst hQ;exact yI hj Aa
 refine Lm hA (fun e=>?_) (fun j hj=>?_) (fun j hj=>?_) (fun q hq ut uj Ay=>?_)
 ·have:=(h.one n hm (by rw[aW,e])).2.1
  rw [this,h.mQ,e]at CQ;exact CQ rfl
 ·have Aa:j<S.ah.length:=by rw[<-hlen];exact hj
  show Q[j].root≠no;rw [(hat j hj Aa).1];exact Tt j Aa
 ·have Aa:j+1<S.ah.length:=by rw[<-hlen];exact hj
  show Q[j+1].over≠no;rw [(hat (j+1) hj Aa).2];exact J8 j Aa
 ·have tw:q.no≠k:=by
   rcases rn with e|e|e
   ·rw[e];exact Ay
   ·rw[e];exact uj
   ·have:=(h.bc.2 q hq).1;omega
  refine ⟨hA.Tp q hq ut tw,fun hrq e=>?_⟩;rcases h.Tp q hq ut tw with⟨u1,_⟩|⟨_,_,m,bU,u3,u4,_,x,hx,_⟩
  ·apply hrq
   show aC Q q.dev=q.no;rw [hQ,Fm];exact u1
  ·have:m=n:=ib h.bc bU hm (by rw[u3,e,aW])
   subst this;rw [hne u4]at hx;cases hx
inductive GL (S:ae) (a:Int):Int->Prop
 | here:GL S a a
 | up {q:ai} (hq:q∈S.nodes) (hk:q.kind=1) (hu:q.up≠q.no) (h:GL S a q.up):GL S a q.no
open Classical in
theorem GL.mono {S T:ae} {a b:Int} (h:GL T a b) (hm:∀q∈T.nodes,q.kind=1->∃q'∈S.nodes,q'.no=q.no/\q'.kind=1/\q'.up=q.up):GL S a b:=by
 induction h with
 | here=>exact .here
 | up hq hk hu _ ih =>
  obtain ⟨q',hq',e1,e2,e3⟩:=hm _ hq hk;rw [<-e1];exact .up hq' e2 (by rw[e1,e3];exact hu) (by rw[e3];exact ih)
end Go.Proofs.YtpibnfdolojpcaaGreat
