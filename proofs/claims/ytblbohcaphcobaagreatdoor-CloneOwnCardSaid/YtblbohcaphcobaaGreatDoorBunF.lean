import Derived.Test.YtblbohcaphcobaaGreatDoorBunE
import Derived.Test.YtblbohcaphcobaaGreatDoorBunD
import Derived.Test.YtblbohcaphcobaaGreatDoorBunC
namespace Go.Proofs.YtblbohcaphcobaaGreatDoor
section
theorem tj {ds es:List eo} (h:es.length=ds.length) (d:Int):fN es d=fN ds d:=by unfold fN;rw[h]
theorem pE {ds:List eo} {k:Int} (hh:fN ds k=true):1<=k/\(k-1).toNat<ds.length:=by
 unfold fN at hh;simp only[Bool.and_eq_true,decide_eq_true_eq]at hh;omega
theorem Ei (ds:List eo) (d:Int) (q:dw) (k:Int):aB (iI ds d q) k=aB ds k:=by
 unfold aB;rw [tj (iR ds d q)]
 by_cases hh:fN ds k=true
 ·rw [if_pos hh,if_pos hh]
  have h1:=(pE hh).2;have h2:(k-1).toNat<(iI ds d q).length:=by rw[iR];exact h1
  unfold iO;rw [List.getD_eq_getElem?_getD,List.getD_eq_getElem?_getD,List.getElem?_eq_getElem h1,List.getElem?_eq_getElem h2];exact (xP h2 h1).1
 ·rw[if_neg hh,if_neg hh]
theorem Ej {ds:List eo} {d:eo} {i:Int} (h:fN ds i=true):aB (ds++[d]) i=aB ds i:=by
 have h2:fN (ds++[d]) i=true:=by
  unfold fN at h|-;rw [List.length_append];simp at h|-;omega
 unfold aB;rw [if_pos h,if_pos h2];unfold iO;rw [List.getD_eq_getElem?_getD,List.getD_eq_getElem?_getD,List.getElem?_append_left (pE h).2]
theorem Ra {ds:List eo} {d:eo} {i:Int} (h:fN ds i=true):fN (ds++[d]) i=true:=by
 unfold fN at h|-;rw [List.length_append];simp at h|-;omega
theorem I_ {ds:List eo} {k:Nat} (hk:k<ds.length):aB ds ((k:Int)+1)=ds[k].root:=by
 unfold aB fN iO;rw [if_pos (by simp;omega),show ((k:Int)+1-1).toNat=k by omega,List.getD_eq_getElem?_getD,List.getElem?_eq_getElem hk];rfl
def zM (S:aa) (n:ai):Prop:=
 (aB S.ag n.dev=n.no/\n.up=n.no)\/(aB S.ag n.dev≠n.no/\n.up≠n.no/\∃m∈S.nodes,m.no=n.up/\m.kind=1/\m.dev=n.dev/\∃x∈m.af,x.2=n.no)
def TH (S:aa) (no dev y:Int):Prop:=y≠no/\(∀d∈S.ag,y≠d.root)/\∀q∈S.nodes,q.no=y->q.dev=dev
structure mM (c:Nat) (k:Int) (S:aa):Prop where
 aC:aD S.nodes S.last
 last:1<=S.last
 ag:0<S.ag.length
 eight:S.ag.length<=8
 roots:iP S.ag
 count:S.nodes.length<=S.last
 small:∀n∈S.nodes,n.af.length<=c
 mq:∀n∈S.nodes,iH n.af
 names:Eh S
 pos:∀n∈S.nodes,∀x∈n.af,1<=x.2/\x.2<=S.last
 on:I8 S
 first:∃m∈S.nodes,m.no=1
 one:∀n∈S.nodes,n.no=1->n.kind=1/\n.dev=1/\n.up=1
 od:aB S.ag 1=1
 lS:∀n∈S.nodes,n.kind=1->n.ah=1
 Q_:∀n∈S.nodes,n.kind=1->n.no≠k->zM S n
 bits:∀n∈S.nodes,0<=n.mode/\n.mode<=1023/\1<=n.ah/\n.ah<=1000
 xR:∀m∈S.nodes,∀x∈m.af,TH S m.no m.dev x.2
 pF:∀h:0<S.ag.length,S.ag[0].over=0
 lC:∀k,(h:k+1<S.ag.length)->∃m∈S.nodes,m.no=S.ag[k+1].over/\m.kind=1/\m.dev<=(k:Int)+1/\aB S.ag m.dev≠m.no
 eY:∀k,(h:k<S.ag.length)->∃m∈S.nodes,m.no=S.ag[k].root/\m.kind=1/\m.dev=(k:Int)+1
 deep:∃d:Int->Nat,∀n∈S.nodes,n.kind=1->n.up≠n.no->d n.up<d n.no
abbrev dC (c:Nat) (S:aa):Prop:=mM c 0 S
theorem dC.vv {c:Nat} {S:aa} (h:dC c S):∀n∈S.nodes,n.kind=1->zM S n:=fun n hn hk=>h.Q_ n hn hk (by have:=(h.aC.2 n hn).1;omega)
theorem dC.ac {c:Nat} {S:aa} (h:dC c S) (no:Int):iH (ac S.nodes no).af/\(ac S.nodes no).af.length<=c:=by
 cases hi:aK S.nodes no
 ·rw [(aZ hi).1]
  exact ⟨List.Pairwise.nil,Nat.zero_le _⟩
 ·have:=(aj hi).2.2
  exact ⟨h.mq _ this,h.small _ this⟩
theorem Ja {ns:List ai} {f:Int->Nat} {a b:Int} (hab:f a<f b) (h:∃m∈ns,m.no=a):(ns.filter fun m=>decide (f m.no<f a)).length<(ns.filter fun m=>decide (f m.no<f b)).length:=by
 have mono:∀l:List ai,(l.filter fun m=>decide (f m.no<f a)).length<=(l.filter fun m=>decide (f m.no<f b)).length:=by
  intro l
  induction l with
  | nil=>exact Nat.le_refl _
  | cons x l ih =>
   simp only[List.filter_cons]
   by_cases h1:f x.no<f a
   ·rw[if_pos (by simpa using h1),if_pos (by simp;omega)];simp only[List.length_cons];omega
   ·rw [if_neg (by simpa using h1)]
    split
    ·simp only[List.length_cons];omega
    ·exact ih
 induction ns with
 | nil=>obtain⟨m,hm,_⟩:=h;cases hm
 | cons x l ih =>
  obtain ⟨m,hm,he⟩:=h;simp only[List.filter_cons];rcases List.mem_cons.1 hm with rfl|hm
  ·have:=mono l
   rw [he,if_neg (by simp),if_pos (by simpa using hab)];simp only[List.length_cons];omega
  ·have:=ih ⟨m,hm,he⟩
   by_cases h1:f x.no<f a
   ·rw[if_pos (by simpa using h1),if_pos (by simp;omega)];simp only[List.length_cons];omega
   ·rw [if_neg (by simpa using h1)]
    split
    ·simp only[List.length_cons];omega
    ·exact this
theorem NJ {S:aa} {f:Int->Nat} (h:∀no,no≠0->a_ S no≠0->a_ S no≠no->f (a_ S no)<f no/\∃m∈S.nodes,m.no=a_ S no):∃r,tf S r:=
 ⟨fun no=>(S.nodes.filter fun m=>decide (f m.no<f no)).length,fun no h0 h1 h2=>Ja (h no h0 h1 h2).1 (h no h0 h1 h2).2,fun _=>List.length_filter_le ..⟩
theorem dC.up {c:Nat} {S:aa} (h:dC c S) {no:Int} (hk:(Proofs.YtblbohcaphcobaaGreatDoor.ac S.nodes no).kind=1):zM S (Proofs.YtblbohcaphcobaaGreatDoor.ac S.nodes no):=h.vv _ (bo hk).2.2 hk
theorem dC.above {c:Nat} {S:aa} (h:dC c S) (no:Int) (h0:a_ S no≠0) (hs:a_ S no≠no) :
  ∃ n∈S.nodes,∃m∈S.nodes,n.no=no/\n.kind=1/\m.no=a_ S no/\m.kind=1/\(m.dev<n.dev\/(m.dev=n.dev/\m.no=n.up/\n.up≠n.no)):=by
 unfold a_ at h0 hs|-
 by_cases hk:(Proofs.YtblbohcaphcobaaGreatDoor.ac S.nodes no).kind=1
 ·obtain ⟨_,hn,hm⟩:=bo hk
  rw [if_pos hk]at h0 hs|-
  by_cases hr:aB S.ag (Proofs.YtblbohcaphcobaaGreatDoor.ac S.nodes no).dev=no/\1<(Proofs.YtblbohcaphcobaaGreatDoor.ac S.nodes no).dev
  ·rw [if_pos hr]at h0 hs|-
   rcases dQ h.roots (Proofs.YtblbohcaphcobaaGreatDoor.ac S.nodes no).dev with⟨e1,_⟩|⟨k,dh,e1,_,e3,e4,e5,_⟩
   ·obtain ⟨h1,h2⟩:=hr
    rw [e1]at h1;rw [<-h1]at hm hn;have:=h.aC.2 _ hm;omega
   ·obtain ⟨j,rfl⟩:∃j,k=j+1:=⟨k-1,by omega⟩
    rw [e3]at h0 hs|-;obtain ⟨m,cF,o1,o2,o3,o4⟩:=h.lC j dh;have hg:=(dy h.aC cF).1;rw [o1]at hg;rw [hg]at h0 hs|-;rcases h.vv m cF o2 with⟨u1,_⟩|⟨_,u2,m2,mC,u3,u4,u5,_⟩
    ·exact absurd u1 o4
    ·exact⟨_,hm,m2,mC,hn,hk,u3,u4,.inl (by omega)⟩
  ·rw [if_neg hr]at h0 hs|-
   rcases h.up hk with⟨_,u2⟩|⟨_,u2,m2,mC,u3,u4,u5,_⟩
   ·exact absurd (u2.trans hn) hs
   ·exact⟨_,hm,m2,mC,hn,hk,u3,u4,.inr ⟨u5,u3,u2⟩⟩
 ·rw[if_neg hk]at h0;exact absurd rfl h0
theorem dC.Jb {c:Nat} {S:aa} (h:dC c S):∃r,tf S r:=by
 obtain ⟨d,hd⟩:=h.deep;obtain⟨N,hN⟩:=aq (S.nodes.length+1);obtain ⟨e,he⟩:∃e:Int->Nat,e=fun no=>(S.nodes.filter fun m=>decide (d m.no<d no)).length:=⟨_,rfl⟩
 have hb:∀no,e no<N:=fun no=>by rw[he,hN];exact Nat.lt_succ_of_le (List.length_filter_le ..)
 refine NJ (f:=fun no=>(Proofs.YtblbohcaphcobaaGreatDoor.ac S.nodes no).dev.toNat*N+e no) fun no h0 h1 h2=>?_
 obtain ⟨n,hn,m,hm,a1,a2,a3,a4,a5⟩:=h.above no h1 h2;have g1:=(dy h.aC hn).1;have g2:=(dy h.aC hm).1;rw [a1]at g1;rw [a3]at g2;refine ⟨?_,m,hm,a3⟩;show (Proofs.YtblbohcaphcobaaGreatDoor.ac S.nodes (a_ S no)).dev.toNat*N+e (a_ S no)<(Proofs.YtblbohcaphcobaaGreatDoor.ac S.nodes no).dev.toNat*N+e no;rw [g1,g2];have p1:=(pE (h.on _ hn).1).1;have p2:=(pE (h.on _ hm).1).1;rcases a5 with a5|⟨a5,a6,a7⟩
 ·have q1:m.dev.toNat+1<=n.dev.toNat:=by omega
  have q2:=hb (a_ S no);have q3:=Nat.mul_le_mul_right N q1;rw [Nat.add_mul]at q3;omega
 ·rw [a5]
  have:e (a_ S no)<e no:=by
   rw [he];refine Ja ?_ ⟨m,hm,a3⟩;have:=hd n hn a2 a7;rw [<-a6,a3,a1]at this;exact this
  omega
theorem tq {S:aa} {n m:ai} (h:m∈S.nodes) (hne:m.no≠n.no):m∈(aJ S n).nodes:=by
 have:=xQ (n:=n) h;rw [if_neg hne]at this;exact this
theorem lU {S:aa} {n m:ai} (h:m∈S.nodes) (he:m.no=n.no):n∈(aJ S n).nodes:=by
 have:=xQ (n:=n) h;rw [if_pos he]at this;exact this
theorem aM {S:aa} {n m:ai} (h:m∈(aJ S n).nodes):(m∈S.nodes/\m.no≠n.no)\/m=n:=by
 unfold aJ cA at h;obtain ⟨x,hx,e⟩:=List.mem_map.1 h;split at e
 ·exact .inr e.symm
 ·rename_i hne
  rw [<-e];exact .inl ⟨hx,by simpa using hne⟩
theorem pG {c c':Nat} {k k':Int} {S:aa} (h:mM c k S) (u_:k=0\/k=k') {n:ai} (hi:aK S.nodes n.no=true) (Nd:c<=c') (hk:n.kind=(ac S.nodes n.no).kind) (hv:n.dev=(ac S.nodes n.no).dev) (hu:n.up=(ac S.nodes n.no).up)
  (hl:n.kind=1->n.ah=1) (hr:iH n.af) (hn:∀x∈n.af,x.1≠[]/\x.1.length<=255) (hp:∀x∈n.af,1<=x.2/\x.2<=S.last) (hs:n.af.length<=c') (hd:n.data.length<=1048576)
  (hb:0<=n.mode/\n.mode<=1023/\1<=n.ah/\n.ah<=1000) (hx:∀x∈n.af,TH S n.no n.dev x.2)
  (keep:∀q∈S.nodes,q.kind=1->q.no≠k'->q.up=n.no->q.no≠n.no->∃x∈n.af,x.2=q.no):mM c' k' (aJ S n):=by
 have hm0:=(aj hi).2;obtain⟨m0,zO⟩:=aq (Proofs.YtblbohcaphcobaaGreatDoor.ac S.nodes n.no);rw [<-zO]at hk hv hu hm0;have same:∀m∈S.nodes,m.no=n.no->m=m0:=fun m hm e=>by
  have:=(dy h.aC hm).1;rw [e]at this;rw [zO,this]
 have move:∀m∈S.nodes,∃m'∈(aJ S n).nodes,m'.no=m.no/\m'.kind=m.kind/\m'.dev=m.dev:=by
  intro m hm
  by_cases e:m.no=n.no
  ·have:=same m hm e
   subst this;exact ⟨n,lU hm e,e.symm,hk,hv⟩
  ·exact⟨m,tq hm e,rfl,rfl,rfl⟩
 have upk:∀q∈S.nodes,q.kind=1->q.no≠k'->(q.no≠n.no\/q=m0)->∀q',q'.no=q.no->q'.dev=q.dev->q'.up=q.up->zM (aJ S n) q':=by
  intro q hq tr zP sY q' e1 e2 e3;unfold zM;rw [e1,e2,e3];have rV:q.no≠k:=by
   rcases u_ with e|e
   ·have:=(h.aC.2 q hq).1;omega
   ·rw[e];exact zP
  rcases h.Q_ q hq tr rV with⟨u1,u2⟩|⟨u1,u2,m,hm,u3,u4,u5,x,hx,u6⟩
  ·exact .inl ⟨u1,u2⟩
  ·refine .inr ⟨u1,u2,?_⟩
   by_cases e:m.no=n.no
   ·have ZT:q.no≠n.no:=fun e'=>u2 (by rw[<-u3,e,e'])
    obtain ⟨y,hy,Zq⟩:=keep q hq tr zP (by rw[<-u3,e]) ZT;have:=same m hm e;subst this;exact ⟨n,lU hm e,by rw[<-u3,e],by rw[hk];exact u4,by rw[hv];exact u5,y,hy,Zq⟩
   ·exact⟨m,tq hm e,u3,u4,u5,x,hx,u6⟩
 refine ⟨h.aC.set n,h.last,h.ag,h.eight,h.roots,?_,?_,?_,?_,?_,?_,?_,?_,h.od,?_,?_,?_,?_,h.pF,?_,?_,?_⟩
 ·show ((cA S.nodes n).length:Int)<=S.last;rw[pz];exact h.count
 ·intro m hm
  rcases aM hm with⟨hm,_⟩|rfl
  ·have:=h.small m hm;omega
  ·exact hs
 ·intro m hm
  rcases aM hm with⟨hm,_⟩|rfl
  ·exact h.mq m hm
  ·exact hr
 ·intro m hm
  rcases aM hm with⟨hm,_⟩|rfl
  ·exact h.names m hm
  ·exact hn
 ·intro m hm
  rcases aM hm with⟨hm,_⟩|rfl
  ·exact h.pos m hm
  ·exact hp
 ·intro m hm
  rcases aM hm with⟨hm,_⟩|rfl
  ·exact h.on m hm
  ·exact⟨by rw[hv];exact (h.on _ hm0.2).1,hd⟩
 ·obtain ⟨m,hm,e⟩:=h.first
  obtain ⟨m',hm',e',_⟩:=move m hm;exact ⟨m',hm',e'.trans e⟩
 ·intro m hm e
  rcases aM hm with⟨hm,_⟩|rfl
  ·exact h.one m hm e
  ·have:=h.one _ hm0.2 (hm0.1.trans e)
   rw [hk,hv,hu];exact this
 ·intro m hm mD
  rcases aM hm with⟨hm,_⟩|rfl
  ·exact h.lS m hm mD
  ·exact hl mD
 ·intro m hm mD UK
  rcases aM hm with⟨hm,hne⟩|rfl
  ·exact upk m hm mD UK (.inl hne) m rfl rfl rfl
  ·exact upk m0 hm0.2 (hk.symm.trans mD) (by rw[hm0.1];exact UK) (.inr rfl) m hm0.1.symm hv hu
 ·intro m hm
  rcases aM hm with⟨hm,_⟩|rfl
  ·exact h.bits m hm
  ·exact hb
 ·have UL:∀{no dev y:Int},TH S no dev y->TH (aJ S n) no dev y:=fun hK=>⟨hK.1,hK.2.1,fun q hq e=>by
   rcases aM hq with⟨hq,_⟩|rfl
   ·exact hK.2.2 q hq e
   ·rw[hv];exact hK.2.2 m0 hm0.2 (hm0.1.trans e)⟩
  intro m hm x Yh;rcases aM hm with⟨hm,_⟩|rfl
  ·exact UL (h.xR m hm x Yh)
  ·exact UL (hx x Yh)
 ·intro j hj
  obtain ⟨m,hm,o1,o2,o3,o4⟩:=h.lC j hj;obtain ⟨m',hm',e1,e2,e3⟩:=move m hm;exact ⟨m',hm',e1.trans o1,e2.trans o2,by rw[e3];exact o3,by rw[e3,e1];exact o4⟩
 ·intro j hj
  obtain ⟨m,hm,o1,o2,o3⟩:=h.eY j hj;obtain ⟨m',hm',e1,e2,e3⟩:=move m hm;exact ⟨m',hm',e1.trans o1,e2.trans o2,e3.trans o3⟩
 ·obtain ⟨d,Nv⟩:=h.deep
  refine ⟨d,fun m hm mD Jc=>?_⟩;rcases aM hm with⟨hm,_⟩|rfl
  ·exact Nv m hm mD Jc
  ·have:=Nv m0 hm0.2 (hk.symm.trans mD) (by rw[<-hu,hm0.1];exact Jc)
   rw [<-hu,hm0.1]at this;exact this
theorem tA {c:Nat} {k:Int} {S:aa} (h:mM c k S) (d:Int) (q:dw) (hq:lO q) (l:Int) (hl:S.last<=l):mM c k ⟨S.nodes,iI S.ag d q,l⟩:=by
 have hro:iP (iI S.ag d q):=Ci h.roots _ _ hq;obtain⟨Q,hQ⟩:=aq (iI S.ag d q);have hlen:Q.length=S.ag.length:=by rw[hQ,iR]
 have hat:∀k,(hk:k<Q.length)->(hk2:k<S.ag.length)->Q[k].root=S.ag[k].root/\Q[k].over=S.ag[k].over:=by
  intro k hk hk2;subst hQ;exact xP hk hk2
 have Mr:∀i,aB Q i=aB S.ag i:=fun i=>by rw[hQ];exact Ei _ _ _ _
 have hh:∀i,fN Q i=fN S.ag i:=fun i=>tj hlen i
 rw [<-hQ]at hro|-;refine ⟨⟨h.aC.1,fun n hn=>⟨(h.aC.2 n hn).1,by have:=(h.aC.2 n hn).2;show n.no<=l;omega⟩⟩,by have:=h.last;show 1<=l;omega,by show 0<Q.length;rw[hlen];exact h.ag,by show Q.length<=8;rw[hlen];exact h.eight,hro,
  by have:=h.count;show (S.nodes.length:Int)<=l;omega,h.small,h.mq,h.names,fun n hn x hx=>⟨(h.pos n hn x hx).1,by have:=(h.pos n hn x hx).2;show x.2<=l;omega⟩,fun n hn=>⟨(hh _).trans (h.on n hn).1,(h.on n hn).2⟩,h.first,h.one,(Mr 1).trans h.od,h.lS,?_,h.bits,?_,?_,?_,?_,h.deep⟩
 ·intro n hn hk Rb
  unfold zM;show (aB Q n.dev=n.no/\_)\/(aB Q n.dev≠n.no/\_);rw [Mr];exact h.Q_ n hn hk Rb
 ·intro m hm x hx
  have hK:=h.xR m hm x hx;refine ⟨hK.1,fun d hd=>?_,hK.2.2⟩;obtain ⟨i,hi,rfl⟩:=List.getElem_of_mem hd;have oh:i<S.ag.length:=by have:i<Q.length:=hi;omega
  show x.2≠Q[i].root;rw [(hat i hi oh).1];exact hK.2.1 _ (List.getElem_mem oh)
 ·intro h0
  exact ((hat 0 h0 h.ag).2).trans (h.pF h.ag)
 ·intro k hk
  have hk2:k+1<S.ag.length:=by have:k+1<Q.length:=hk;omega
  obtain ⟨m,hm,o1,o2,o3,o4⟩:=h.lC k hk2;exact ⟨m,hm,o1.trans (hat (k+1) hk hk2).2.symm,o2,o3,by show aB Q m.dev≠m.no;rw[Mr];exact o4⟩
 ·intro k hk
  have hk2:k<S.ag.length:=by have:k<Q.length:=hk;omega
  obtain ⟨m,hm,o1,o2⟩:=h.eY k hk2;exact ⟨m,hm,o1.trans (hat k hk hk2).1.symm,o2⟩
theorem NK {c:Nat} {S:aa} (h:dC c S) {n:ai} (aU:n.no=S.last) (hlt:∀m∈S.nodes,m.no<S.last) (hc:(S.nodes.length:Int)+1<=S.last) (he:n.af=[]) (hd:n.data.length<=1048576) (hh:fN S.ag n.dev=true) (hb:0<=n.mode/\n.mode<=1023/\1<=n.ah/\n.ah<=1000) (Rc:∀m∈S.nodes,∀x∈m.af,x.2=n.no->n.dev=m.dev)
  (hk:n.kind=1->n.ah=1/\aB S.ag n.dev≠n.no/\∃m∈S.nodes,m.no=n.up/\m.kind=1/\m.dev=n.dev/\∃x∈m.af,x.2=n.no):dC c ⟨S.nodes++[n],S.ag,S.last⟩:=by
 have sub:∀m∈S.nodes,m∈S.nodes++[n]:=fun m hm=>List.mem_append_left _ hm
 have h1:=h.last;have new:∀{m:ai},m∈S.nodes++[n]->m∈S.nodes\/m=n:=fun hm=>by
  rcases List.mem_append.1 hm with hm|hm
  ·exact .inl hm
  ·exact .inr (List.mem_singleton.1 hm)
 have ZU:n.kind=1->n.up<n.no:=fun u_=>by
  obtain ⟨_,_,m,hm,e,_⟩:=hk u_;have:=hlt m hm;omega
 refine ⟨⟨?_,?_⟩,h.last,h.ag,h.eight,h.roots,?_,?_,?_,?_,?_,?_,?_,?_,h.od,?_,?_,?_,?_,h.pF,?_,?_,?_⟩
 ·rw [List.pairwise_append]
  refine ⟨h.aC.1,List.pairwise_singleton ..,fun a ha b hb=>?_⟩;rw [List.mem_singleton]at hb;subst hb;rw [aU];exact hlt a ha
 ·intro m hm
  rcases new hm with hm|rfl
  ·exact h.aC.2 m hm
  ·rw[aU];exact⟨h1,Int.le_refl _⟩
 ·show ((S.nodes++[n]).length:Int)<=S.last
  simp;exact hc
 ·intro m hm
  rcases new hm with hm|rfl
  ·exact h.small m hm
  ·rw[he];exact Nat.zero_le _
 ·intro m hm
  rcases new hm with hm|rfl
  ·exact h.mq m hm
  ·rw[he];exact List.Pairwise.nil
 ·intro m hm
  rcases new hm with hm|rfl
  ·exact h.names m hm
  ·intro x hx;rw[he]at hx;cases hx
 ·intro m hm
  rcases new hm with hm|rfl
  ·exact h.pos m hm
  ·intro x hx;rw[he]at hx;cases hx
 ·intro m hm
  rcases new hm with hm|rfl
  ·exact h.on m hm
  ·exact⟨hh,hd⟩
 ·obtain ⟨m,hm,e⟩:=h.first
  exact ⟨m,sub m hm,e⟩
 ·intro m hm e
  rcases new hm with hm|rfl
  ·exact h.one m hm e
  ·obtain ⟨m,hm,e2⟩:=h.first
   have:=hlt m hm;omega
 ·intro m hm mD
  rcases new hm with hm|rfl
  ·exact h.lS m hm mD
  ·exact (hk mD).1
 ·intro m hm mD _
  rcases new hm with hm|rfl
  ·rcases h.vv m hm mD with u|⟨u1,u2,q,hq,u3⟩
   ·exact .inl u
   ·exact .inr ⟨u1,u2,q,sub q hq,u3⟩
  ·obtain ⟨_,k2,q,hq,k3⟩:=hk mD
   exact .inr ⟨k2,by have:=ZU mD;omega,q,sub q hq,k3⟩
 ·intro m hm
  rcases new hm with hm|rfl
  ·exact h.bits m hm
  ·exact hb
 ·intro m hm x hx
  rcases new hm with i6|rfl
  ·have hK:=h.xR m i6 x hx
   have u_:=Rc m i6 x hx;refine ⟨hK.1,hK.2.1,fun q hq e=>?_⟩;rcases new hq with hq|e2
   ·exact hK.2.2 q hq e
   ·rw [e2]at e|-
    exact u_ e.symm
  ·rw[he]at hx;cases hx
 ·intro k u_
  obtain ⟨m,hm,o⟩:=h.lC k u_;exact ⟨m,sub m hm,o⟩
 ·intro k u_
  obtain ⟨m,hm,o⟩:=h.eY k u_;exact ⟨m,sub m hm,o⟩
 ·obtain ⟨d,Nv⟩:=h.deep
  refine ⟨fun k=>if k=n.no then d n.up+1 else d k,fun m hm mD Jc=>?_⟩;rcases new hm with hm|rfl
  ·have e1:m.no≠n.no:=by have:=hlt m hm;omega
   have e2:m.up≠n.no:=by
    rcases h.vv m hm mD with⟨_,u⟩|⟨_,_,q,hq,u,_⟩
    ·rw[u];exact e1
    ·have:=hlt q hq;omega
   show (if m.up=n.no then _ else _)<(if m.no=n.no then _ else _);rw [if_neg e1,if_neg e2];exact Nv m hm mD Jc
  ·show (if m.up=m.no then _ else _)<(if m.no=m.no then _ else _)
   rw [if_pos rfl,if_neg Jc];omega
theorem Jd {c:Nat} {S:aa} (h:dC c S) {d n:ai} {nm:List UInt8} (hi:aK S.nodes d.no=true) (TI:(ac S.nodes d.no).kind=1) (hk:d.kind=1) (hv:d.dev=(ac S.nodes d.no).dev) (hu:d.up=(ac S.nodes d.no).up)
  (hl:d.ah=1) (ZV:d.data.length<=1048576) (hen:d.af=dq (ac S.nodes d.no).af (nm,S.last+1)) (n_:bk (ac S.nodes d.no).af nm=0) (gP:nm≠[]/\nm.length<=255)
  (hne:n.af=[]) (hnd:n.data.length<=1048576) (Je:n.dev=d.dev) (Rb:n.kind=1->n.ah=1/\n.up=d.no) (UD:d.mode=(ac S.nodes d.no).mode) (Nu:0<=n.mode/\n.mode<=1023/\n.ah=1) (h0:ey S n=0):dC (c+1) (aJ (aQ S n) d):=by
 have hm0:=(aj hi).2;obtain⟨m0,zO⟩:=aq (Proofs.YtblbohcaphcobaaGreatDoor.ac S.nodes d.no);rw [<-zO]at hv hu hen hm0 TI n_ UD;have Rd:fN S.ag n.dev=true:=by rw[Je,hv];exact (h.on _ hm0.2).1
 have Jf:lO (aP (iO S.ag n.dev).q (bu n.kind n.data.length) 1):=by
  rcases dQ h.roots n.dev with⟨_,e2⟩|⟨k,hk,_,_,e3,_,_,e6⟩
  ·rw[e2]at Rd;cases Rd
  ·rw[e3];exact oJ e6
 have hA:=tA h n.dev _ Jf (S.last+1) (by omega);have jQ:∀m∈S.nodes,m.no<S.last+1:=fun m hm=>by have:=(h.aC.2 m hm).2;omega
 have ZW:d.no≠S.last+1:=by have:=jQ _ hm0.2;omega
 have hput:∀x∈m0.af,x.1≠nm:=by
  intro x hx e;unfold bk at n_
  cases hf:m0.af.find? (fun x=>x.1 == nm) with
  | none=>have:=List.find?_eq_none.1 hf x hx;simp at this;exact this e
  | some y =>
   rw [hf]at n_;have:=(h.pos _ hm0.2 y (List.mem_of_find?_eq_some hf)).1;simp only at n_;omega
 have zQ:∀x∈m0.af,x∈d.af:=by
  intro x hx;rw [hen];unfold dq iN je;simp only[List.mem_append,List.mem_filter,List.mem_singleton];rcases lK x.1 nm with g|g|g
  ·exact .inl (.inl ⟨hx,g⟩)
  ·exact absurd g (hput x hx)
  ·exact .inr ⟨hx,g⟩
 have rW:(nm,S.last+1)∈d.af:=by rw[hen];unfold dq;simp
 obtain ⟨S1,Cs⟩:∃S1:aa,S1=⟨S.nodes,iI S.ag n.dev (aP (iO S.ag n.dev).q (bu n.kind n.data.length) 1),S.last+1⟩:=⟨_,rfl⟩;rw [<-Cs]at hA;have BK:S1.nodes=S.nodes:=by rw[Cs]
 have hD1:∀i,aB S1.ag i=aB S.ag i:=fun i=>by rw[Cs];exact Ei _ _ _ _
 have hB : dC (c+1) (aJ S1 d):=by
  refine pG hA (.inl rfl) (by rw[BK];exact hi) (by omega) (by rw[BK,<-zO,TI];exact hk) (by rw[BK,<-zO];exact hv) (by rw[BK,<-zO];exact hu) (fun _=>hl) ?_ ?_ ?_ ?_ ZV (by have:=h.bits _ hm0.2;rw[UD,hl];omega) ?_ ?_
  ·rw[hen];exact vX _ (h.mq _ hm0.2)
  ·intro x hx
   rw [hen]at hx;rcases fW hx with hx|rfl
   ·exact h.names _ hm0.2 x hx
   ·exact gP
  ·intro x hx
   rw [hen]at hx;rw [Cs];have:=h.last;rcases fW hx with hx|rfl
   ·have:=h.pos _ hm0.2 x hx
    exact ⟨this.1,by show x.2<=S.last+1;omega⟩
   ·exact⟨by show 1<=S.last+1;omega,Int.le_refl _⟩
  ·rw [hen]
   have:=pu m0.af (nm,S.last+1);have:=h.small _ hm0.2;omega
  ·intro x hx
   rw [hen]at hx;rw [<-hm0.1,hv];rcases fW hx with hx|rfl
   ·have hK:=hA.xR m0 (by rw[BK];exact hm0.2) x hx
    exact hK
   ·have hlm:=jQ _ hm0.2
    refine ⟨by show S.last+1≠m0.no;omega,fun q hq=>?_,fun q hq e=>?_⟩
    ·obtain ⟨i,hi,rfl⟩:=List.getElem_of_mem hq
     obtain ⟨m,hm,o1,_⟩:=hA.eY i hi;rw [BK]at hm;have:=jQ m hm;show S.last+1≠_;omega
    ·rw [BK]at hq
     have:=jQ q hq;have:q.no=S.last+1:=e;omega
  ·intro q hq tr _ wG sY
   rw [BK]at hq;rcases h.vv q hq tr with⟨_,u2⟩|⟨_,_,m,hm,u3,_,_,x,hx,u6⟩
   ·exact absurd (u2.symm.trans wG) sY
   ·have:m=m0:=by
     have:=(dy h.aC hm).1;rw [u3,wG]at this;rw [zO,this]
    subst this;exact ⟨x,zQ x hx,u6⟩
 have Cb:aJ (aQ S n) d=⟨(aJ S1 d).nodes++[{n with no:=S.last+1}],(aJ S1 d).ag,(aJ S1 d).last⟩:=by
  unfold aQ aJ cA;rw [if_pos h0,Cs];simp only[List.map_append,List.map_cons,List.map_nil];rw [if_neg (by simpa using (Ne.symm ZW))]
 rw [Cb];have ZX:(aJ S1 d).last=S.last+1:=by rw[Cs];rfl
 have hdS:(aJ S1 d).ag=S1.ag:=rfl;refine NK hB (by rw[ZX]) ?_ ?_ hne hnd ?_ (by show 0<=n.mode/\n.mode<=1023/\1<=n.ah/\n.ah<=1000;omega) ?_ ?_
 ·intro m hm
  rw [ZX];rcases aM hm with⟨hm,_⟩|rfl
  ·rw[BK]at hm;exact jQ m hm
  ·have:=jQ _ hm0.2;omega
 ·show ((cA S1.nodes d).length:Int)+1<=_
  rw [pz,BK,ZX];have:=h.count;omega
 ·rw [hdS]
  show fN S1.ag n.dev=true;rw [Cs];exact (tj (iR _ _ _) _).trans Rd
 ·intro m hm x hx e
  have e':x.2=S.last+1:=e;show n.dev=m.dev;rcases aM hm with⟨hm,_⟩|rfl
  ·rw [BK]at hm
   have:=(h.pos m hm x hx).2;omega
  ·exact Je
 ·intro u_
  obtain ⟨k1,k2⟩:=Rb u_;refine ⟨k1,?_,d,?_,k2.symm,hk,Je.symm,_,rW,rfl⟩
  ·rw [hdS,hD1]
   show aB S.ag n.dev≠S.last+1;rcases dQ h.roots n.dev with⟨e1,_⟩|⟨k,dh,e1,_,e3,e4,e5,_⟩
   ·have:=h.last;omega
   ·obtain ⟨m,hm,o1,_⟩:=h.eY k dh
    have:=jQ m hm;omega
  ·exact lU (S:=S1) (by rw[BK];exact hm0.2) hm0.1
theorem Jg {c:Nat} {S:aa} (h:dC c S) {over b n:Int} (h8:S.ag.length<8) (hl:cj b n=true) (ho:∃m∈S.nodes,m.no=over/\m.kind=1/\aB S.ag m.dev≠m.no):dC c (b_ S over b n):=by
 have sub:∀m∈S.nodes,m∈(b_ S over b n).nodes:=fun m hm=>List.mem_append_left _ hm
 have UM:bj S∈(b_ S over b n).nodes:=List.mem_append_right _ (List.mem_singleton.2 rfl);have new:∀{m:ai},m∈(b_ S over b n).nodes->m∈S.nodes\/m=bj S:=fun hm=>by
  rcases List.mem_append.1 hm with hm|hm
  ·exact .inl hm
  ·exact .inr (List.mem_singleton.1 hm)
 have i_:=h.last;have hlen:(b_ S over b n).ag.length=S.ag.length+1:=by simp[b_]
 have Mr:∀x∈S.nodes,aB (b_ S over b n).ag x.dev=aB S.ag x.dev:=fun x hx=>Ej (h.on x hx).1
 have hold:∀k,(hk:k<S.ag.length)->(hk':k<(b_ S over b n).ag.length)->(b_ S over b n).ag[k]'hk'=S.ag[k]:=fun k hk hk'=>I9 S.ag _ k hk hk'
 have rW:∀k,(hk:k=S.ag.length)->(hk':k<(b_ S over b n).ag.length)->(b_ S over b n).ag[k]'hk'=⟨S.last+1,over,⟨1,1,b,n⟩⟩:=fun k hk hk'=>Fz S.ag _ k hk hk'
 have hrn:aB (b_ S over b n).ag (bj S).dev=(bj S).no:=by
  show aB (b_ S over b n).ag ((S.ag.length:Int)+1)=S.last+1;rw [I_ (by rw[hlen];omega:S.ag.length<(b_ S over b n).ag.length),rW _ rfl]
 refine ⟨h.aC.add (bj S) rfl (by omega),by show 1<=S.last+1;omega,by rw[hlen];omega,by rw[hlen];omega,?_,?_,?_,?_,?_,?_,?_,?_,?_,?_,?_,?_,?_,?_,?_,?_,?_,?_⟩
 ·intro d hd
  rcases List.mem_append.1 hd with hd|hd
  ·exact h.roots d hd
  ·rw [List.mem_singleton]at hd
   subst hd;refine ⟨by show 0<S.last+1;omega,?_⟩;rcases ft b n with⟨h1,h2,h3,h4,_⟩|⟨h0,_⟩
   ·exact⟨show (0:Int)<=1 by decide,show (0:Int)<=1 by decide,h1,h3,h2,h4⟩
   ·rw[h0]at hl;cases hl
 ·have:=h.count;show ((S.nodes++[bj S]).length:Int)<=S.last+1;simp;exact this
 ·intro m hm
  rcases new hm with hm|rfl
  ·exact h.small m hm
  ·exact Nat.zero_le _
 ·intro m hm
  rcases new hm with hm|rfl
  ·exact h.mq m hm
  ·exact List.Pairwise.nil
 ·intro m hm
  rcases new hm with hm|rfl
  ·exact h.names m hm
  ·intro x hx;simp[bj,ae]at hx
 ·intro m hm
  rcases new hm with hm|rfl
  ·exact fun x hx=>⟨(h.pos m hm x hx).1,by have:=(h.pos m hm x hx).2;show x.2<=S.last+1;omega⟩
  ·intro x hx;simp[bj,ae]at hx
 ·intro m hm
  rcases new hm with hm|rfl
  ·exact⟨Ra (h.on m hm).1,(h.on m hm).2⟩
  ·refine ⟨?_,by simp[bj,ae]⟩
   unfold fN;rw [hlen];show (decide ((1:Int)<=(S.ag.length:Int)+1)&&decide ((S.ag.length:Int)+1<=((S.ag.length+1:Nat):Int)))=true;rw [Bool.and_eq_true,decide_eq_true_eq,decide_eq_true_eq];omega
 ·obtain ⟨m,hm,e⟩:=h.first
  exact ⟨m,sub m hm,e⟩
 ·intro m hm e
  rcases new hm with hm|rfl
  ·exact h.one m hm e
  ·have:S.last+1=1:=e
   omega
 ·show aB (S.ag++_) 1=1
  rw [Ej (by have:=h.ag;unfold fN;simp;omega)];exact h.od
 ·intro m hm hk
  rcases new hm with hm|rfl
  ·exact h.lS m hm hk
  ·rfl
 ·intro m hm hk _
  rcases new hm with hm|rfl
  ·unfold zM
   rw [Mr m hm];rcases h.vv m hm hk with u|⟨u1,u2,q,hq,u3⟩
   ·exact .inl u
   ·exact .inr ⟨u1,u2,q,sub q hq,u3⟩
  ·exact .inl ⟨hrn,rfl⟩
 ·intro m hm
  rcases new hm with hm|rfl
  ·exact h.bits m hm
  ·exact⟨by show (0:Int)<=493;decide,by show (493:Int)<=1023;decide,by show (1:Int)<=1;decide,by show (1:Int)<=1000;decide⟩
 ·intro m hm x hx
  rcases new hm with hm|rfl
  ·have hK:=h.xR m hm x hx
   have hp:=(h.pos m hm x hx).2;refine ⟨hK.1,fun d hd=>?_,fun q hq e=>?_⟩
   ·rcases List.mem_append.1 hd with hd|hd
    ·exact hK.2.1 d hd
    ·rw [List.mem_singleton]at hd
     subst hd;show x.2≠S.last+1;omega
   ·rcases new hq with hq|rfl
    ·exact hK.2.2 q hq e
    ·have:S.last+1=x.2:=e
     omega
  ·simp[bj,ae]at hx
 ·intro h0
  exact (congrArg eo.over (hold 0 h.ag h0)).trans (h.pF h.ag)
 ·intro k hk
  rw [hlen]at hk
  by_cases hk2:k+1<S.ag.length
  ·obtain ⟨m,hm,o1,o2,o3,o4⟩:=h.lC k hk2
   rw [hold (k+1) hk2];exact ⟨m,sub m hm,o1,o2,o3,by rw[Mr m hm];exact o4⟩
  ·obtain ⟨m,hm,o1,o2,o3⟩:=ho
   rw [rW (k+1) (by omega)];refine ⟨m,sub m hm,o1,o2,?_,by rw[Mr m hm];exact o3⟩;have:=(pE (h.on m hm).1).2;omega
 ·intro k hk
  rw [hlen]at hk
  by_cases hk2:k<S.ag.length
  ·obtain ⟨m,hm,o⟩:=h.eY k hk2
   rw [hold k hk2];exact ⟨m,sub m hm,o⟩
  ·rw [rW k (by omega)]
   refine ⟨bj S,UM,rfl,rfl,?_⟩;show (S.ag.length:Int)+1=k+1;omega
 ·obtain ⟨d,hd⟩:=h.deep
  refine ⟨d,fun m hm hk Jc=>?_⟩;rcases new hm with hm|rfl
  ·exact hd m hm hk Jc
  ·exact absurd rfl Jc
theorem FA {c:Nat} {S:aa} (h:dC c S) (a b n:Int):dC c (cx S a b n):=by
 unfold cx;split
 ·rename_i h0
  refine Jg h (rC h0).1 (rC h0).2 ?_;unfold cT at h0;split at h0
  ·cases h0
  ·rename_i hi
   split at h0
   ·cases h0
   ·rename_i hk
    split at h0
    ·cases h0
    ·rename_i ho
     rw [not_or]at ho;have oh:aK S.nodes a=true:=by simpa using hi
     have hm:=aj oh;exact ⟨_,hm.2.2,hm.2.1,Decidable.not_not.1 hk,by rw[hm.2.1];exact ho.2⟩
 ·exact h
theorem FB {b n:Int} (hl:cj b n=true):dC 0 (b_ cB 0 b n):=by
 have hg:=zL hl;have one:∀{m:ai},m∈(b_ cB 0 b n).nodes->m=bj cB:=fun hm=>by simpa [b_,cB]using hm
 refine ⟨hg.fh.aC,hg.fh.last,hg.fh.ag,hg.fh.eight,hg.fh.roots,hg.fh.count,?_,hg.fh.mq,hg.names,?_,hg.on,hg.first,hg.one,hg.ZS,?_,?_,?_,?_,fun _=>rfl,?_,?_,⟨fun _=>0,?_⟩⟩
 ·intro m hm;rw[one hm];exact Nat.le_refl _
 ·intro m hm x hx;rw[one hm]at hx;simp[bj,ae]at hx
 ·intro m hm _;rw[one hm];rfl
 ·intro m hm _ _;rw[one hm];exact .inl ⟨rfl,rfl⟩
 ·intro m hm;rw[one hm];exact⟨by show (0:Int)<=493;decide,by show (493:Int)<=1023;decide,by show (1:Int)<=1;decide,by show (1:Int)<=1000;decide⟩
 ·intro m hm x hx;rw[one hm]at hx;simp[bj,ae]at hx
 ·intro k hk
  have:k+1<1:=hk;omega
 ·intro k hk
  have hk2:k<1:=hk;have:k=0:=by omega
  subst this;exact ⟨bj cB,List.mem_append_right _ (List.mem_singleton.2 rfl),rfl,rfl,rfl⟩
 ·intro m hm _ hu;rw[one hm]at hu;exact absurd rfl hu
theorem fX {c c':Nat} {k:Int} {S:aa} (h:mM c k S) (hc:c<=c'):mM c' k S:=
 { h with small:=fun n hn=>by have:=h.small n hn;omega}
open Go.ChangeShapes Go.WideShapes Go.ChangeAt Go.RowKit
open Go
attribute [local irreducible] wpQuiet
def ol (S:aa) (no:Int):Bool:=aK S.nodes no&&!(aB S.ag (ac S.nodes no).dev == no)
def zR (S:aa) (n:ai):List eo:=iI S.ag n.dev (aP (iO S.ag n.dev).q (-(bu n.kind n.data.length)) (-1))
def kG (S:aa) (no:Int):aa:=if ol S no=true then⟨kA S.nodes no,zR S (ac S.nodes no),S.last⟩ else S
end
structure Live (S:aa):Prop where
 aC:aD S.nodes S.last
 last:1<=S.last
 ag:0<S.ag.length
 eight:S.ag.length<=8
 roots:iP S.ag
 count:S.nodes.length<=S.last
 on:I8 S
 first:∃m∈S.nodes,m.no=1
 one:∀n∈S.nodes,n.no=1->n.dev=1
 od:aB S.ag 1=1
theorem Live.fine {S:aa} (h:Live S) {d:Int} (hd:fN S.ag d=true) (b n:Int):lO (aP (iO S.ag d).q b n):=by
 rcases dQ h.roots d with⟨_,e2⟩|⟨k,hk,_,_,e3,_,_,e6⟩
 ·rw[e2]at hd;cases hd
 ·rw[e3];exact oJ e6
theorem zS {S:aa} (a b n:Int):(cx S a b n).last<=S.last+1:=by
 unfold cx;split
 ·exact Int.le_refl _
 ·omega
theorem Ct (S:aa) (no:Int):(kG S no).last=S.last:=by unfold kG;split<;>rfl
theorem Cu (S:aa) (no:Int) (d:List UInt8):(jf S no d).last=S.last:=by unfold jf;split<;>rfl
theorem dK {ns:List ai} {no:Int} {m:ai} (h:m∈kA ns no):m∈ns/\m.no≠no:=by
 unfold kA at h;rw [List.mem_filter]at h;exact ⟨h.1,by simpa using h.2⟩
theorem mN {ns:List ai} {no:Int} {m:ai} (h:m∈ns) (hne:m.no≠no):m∈kA ns no:=List.mem_filter.2 ⟨h,by simpa using hne⟩
theorem Jh {c:Nat} {k k':Int} {S:aa} (h:mM c k S) {no:Int} (h1:no≠1) (UN:∀j,(hj:j<S.ag.length)->S.ag[j].root≠no) (UO:∀j,(hj:j+1<S.ag.length)->S.ag[j+1].over≠no)
  (UQ:∀q∈S.nodes,q.kind=1->q.no≠no->q.no≠k'->zM S q/\(aB S.ag q.dev≠q.no->q.up≠no)):mM c k' ⟨kA S.nodes no,S.ag,S.last⟩:=by
 have hlen:(kA S.nodes no).length<=S.nodes.length:=List.length_filter_le ..;refine ⟨h.aC.drop no,h.last,h.ag,h.eight,h.roots,?_,?_,?_,?_,?_,?_,?_,?_,h.od,?_,?_,?_,?_,h.pF,?_,?_,?_⟩
 ·have:=h.count
  show ((kA S.nodes no).length:Int)<=S.last;omega
 ·exact fun m hm=>h.small m (dK hm).1
 ·exact fun m hm=>h.mq m (dK hm).1
 ·exact fun m hm=>h.names m (dK hm).1
 ·exact fun m hm=>h.pos m (dK hm).1
 ·exact fun m hm=>h.on m (dK hm).1
 ·obtain ⟨m,hm,e⟩:=h.first
  exact ⟨m,mN hm (by rw[e];exact Ne.symm h1),e⟩
 ·exact fun m hm=>h.one m (dK hm).1
 ·exact fun m hm=>h.lS m (dK hm).1
 ·intro m hm hk mD
  obtain ⟨hm,hne⟩:=dK hm;obtain ⟨u,v⟩:=UQ m hm hk hne mD;rcases u with u|⟨u1,u2,q,hq,u3,u4⟩
  ·exact .inl u
  ·exact .inr ⟨u1,u2,q,mN hq (by rw[u3];exact v u1),u3,u4⟩
 ·exact fun m hm=>h.bits m (dK hm).1
 ·intro m hm x hx
  have hK:=h.xR m (dK hm).1 x hx;exact ⟨hK.1,hK.2.1,fun q hq e=>hK.2.2 q (dK hq).1 e⟩
 ·intro j hj
  obtain ⟨m,hm,o1,o⟩:=h.lC j hj;exact ⟨m,mN hm (by rw[o1];exact UO j hj),o1,o⟩
 ·intro j hj
  obtain ⟨m,hm,o1,o⟩:=h.eY j hj;exact ⟨m,mN hm (by rw[o1];exact UN j hj),o1,o⟩
 ·obtain ⟨d,hd⟩:=h.deep
  exact ⟨d,fun m hm=>hd m (dK hm).1⟩
theorem gw {S:aa} (hu:aD S.nodes S.last) {m n:ai} (hm:m∈S.nodes) (hn:n∈S.nodes) (e:m.no=n.no):m=n:=by
 have h1:=(dy hu hm).1;have h2:=(dy hu hn).1;rw [e]at h1;exact h1.symm.trans h2
theorem FC {c:Nat} {k:Int} {S:aa} (h:mM c k S) {no:Int} (h1:1<=no) (ho:ar S.ag no=no):∀j,(hj:j+1<S.ag.length)->S.ag[j+1].over≠no:=by
 intro j hj e;unfold ar at ho;rw [if_pos (by omega)]at ho
 cases hf:S.ag.find? (fun d=>d.over == no) with
 | none =>
  have:=List.find?_eq_none.1 hf _ (List.getElem_mem hj);simp at this;exact this e
 | some x =>
  rw [hf]at ho;have hx:=List.find?_some hf;have Yh:=List.mem_of_find?_eq_some hf;obtain ⟨i,hi,rfl⟩:=List.getElem_of_mem Yh;simp only[beq_iff_eq]at hx
  cases i with
  | zero=>rw[h.pF hi]at hx;omega
  | succ i =>
   obtain ⟨m,hm,a1,_,a3⟩:=h.eY (i+1) hi;obtain ⟨q,hq,b1,_,b3,_⟩:=h.lC i hi;have:m=q:=gw h.aC hm hq (by rw[a1,b1,hx];exact ho);subst this;omega
theorem Ji {c:Nat} {k k':Int} {S:aa} (h:mM c k S) {no:Int} (hk:ol S no=true) (ho:ar S.ag no=no) (u_:k=k'\/k=no\/k=0) (hne:(ac S.nodes no).kind=1->(ac S.nodes no).af=[]):mM c k' (kG S no):=by
 unfold kG;rw [if_pos hk];unfold ol at hk;rw [Bool.and_eq_true]at hk;obtain ⟨hi,hr⟩:=hk;obtain ⟨_,aU,hm⟩:=aj hi;obtain⟨n,hn⟩:=aq (Proofs.YtblbohcaphcobaaGreatDoor.ac S.nodes no);rw [<-hn]at aU hm hr hne|-;have yT:aB S.ag n.dev≠no:=by simpa using hr
 have UR:=h.on n hm;have Jf:lO (aP (iO S.ag n.dev).q (-(bu n.kind n.data.length)) (-1)):=by
  rcases dQ h.roots n.dev with⟨_,e2⟩|⟨j,hj,_,_,e3,_,_,e6⟩
  ·rw[e2]at UR;cases UR.1
  ·rw[e3];exact oJ e6
 have hpos:=(h.aC.2 n hm).1;have Ib:=FC h (by rw[<-aU];exact hpos) ho;have Re:∀j,(hj:j<S.ag.length)->S.ag[j].root≠no:=by
  intro j hj e;obtain ⟨m,cF,a1,_,a3⟩:=h.eY j hj;have:m=n:=gw h.aC cF hm (by rw[a1,e,aU]);subst this;rw [a3,I_ hj]at yT;exact yT e
 have hA:=tA h n.dev _ Jf S.last (Int.le_refl _);unfold zR;obtain⟨Q,hQ⟩:=aq (iI S.ag n.dev (aP (iO S.ag n.dev).q (-(bu n.kind n.data.length)) (-1)));rw [<-hQ]at hA|-;have hlen:Q.length=S.ag.length:=by rw[hQ,iR]
 have hat:∀j,(hj:j<Q.length)->(zo:j<S.ag.length)->Q[j].root=S.ag[j].root/\Q[j].over=S.ag[j].over:=by
  intro j hj zo;subst hQ;exact xP hj zo
 refine Jh hA (fun e=>?_) (fun j hj=>?_) (fun j hj=>?_) (fun q hq tr sY zP=>?_)
 ·have:=(h.one n hm (by rw[aU,e])).2.1
  rw [this,h.od,e]at yT;exact yT rfl
 ·have zo:j<S.ag.length:=by rw[<-hlen];exact hj
  show Q[j].root≠no;rw [(hat j hj zo).1];exact Re j zo
 ·have zo:j+1<S.ag.length:=by rw[<-hlen];exact hj
  show Q[j+1].over≠no;rw [(hat (j+1) hj zo).2];exact Ib j zo
 ·have rV:q.no≠k:=by
   rcases u_ with e|e|e
   ·rw[e];exact zP
   ·rw[e];exact sY
   ·have:=(h.aC.2 q hq).1;omega
  refine ⟨hA.Q_ q hq tr rV,fun PR e=>?_⟩;rcases h.Q_ q hq tr rV with⟨u1,_⟩|⟨_,_,m,cF,u3,u4,_,x,hx,_⟩
  ·apply PR
   show aB Q q.dev=q.no;rw [hQ,Ei];exact u1
  ·have:m=n:=gw h.aC cF hm (by rw[u3,e,aU])
   subst this;rw [hne u4]at hx;cases hx
inductive FE (S:aa) (a:Int):Int->Prop
 | here:FE S a a
 | up {q:ai} (hq:q∈S.nodes) (hk:q.kind=1) (hu:q.up≠q.no) (h:FE S a q.up):FE S a q.no
open Classical in
theorem FE.mono {S T:aa} {a b:Int} (h:FE T a b) (hm:∀q∈T.nodes,q.kind=1->∃q'∈S.nodes,q'.no=q.no/\q'.kind=1/\q'.up=q.up):FE S a b:=by
 induction h with
 | here=>exact .here
 | up hq hk hu _ ih =>
  obtain ⟨q',hq',e1,e2,e3⟩:=hm _ hq hk;rw [<-e1];exact .up hq' e2 (by rw[e1,e3];exact hu) (by rw[e3];exact ih)
end Go.Proofs.YtblbohcaphcobaaGreatDoor
