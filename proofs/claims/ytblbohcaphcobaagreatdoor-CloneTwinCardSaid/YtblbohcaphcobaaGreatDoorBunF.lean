import Derived.Test.YtblbohcaphcobaaGreatDoorBunE
import Derived.Test.YtblbohcaphcobaaGreatDoorBunD
import Derived.Test.YtblbohcaphcobaaGreatDoorBunC
namespace Go.Proofs.YtblbohcaphcobaaGreatDoor
section
theorem t_ {ds es:List eC} (h:es.length=ds.length) (d:Int):fY es d=fY ds d:=by unfold fY;rw[h]
theorem pR {ds:List eC} {k:Int} (hh:fY ds k=true):1<=k/\(k-1).toNat<ds.length:=by
 unfold fY at hh;simp only[Bool.and_eq_true,decide_eq_true_eq]at hh;omega
theorem EX (ds:List eC) (d:Int) (q:dH) (k:Int):aE (ja ds d q) k=aE ds k:=by
 unfold aE;rw [t_ (jc ds d q)]
 by_cases hh:fY ds k=true
 ·rw [if_pos hh,if_pos hh]
  have h1:=(pR hh).2;have h2:(k-1).toNat<(ja ds d q).length:=by rw[jc];exact h1
  unfold i_;rw [List.getD_eq_getElem?_getD,List.getD_eq_getElem?_getD,List.getElem?_eq_getElem h1,List.getElem?_eq_getElem h2];exact (yy h2 h1).1
 ·rw[if_neg hh,if_neg hh]
theorem EY {ds:List eC} {d:eC} {i:Int} (h:fY ds i=true):aE (ds++[d]) i=aE ds i:=by
 have h2:fY (ds++[d]) i=true:=by
  unfold fY at h|-;rw [List.length_append];simp at h|-;omega
 unfold aE;rw [if_pos h,if_pos h2];unfold i_;rw [List.getD_eq_getElem?_getD,List.getD_eq_getElem?_getD,List.getElem?_append_left (pR h).2]
theorem SQ {ds:List eC} {d:eC} {i:Int} (h:fY ds i=true):fY (ds++[d]) i=true:=by
 unfold fY at h|-;rw [List.length_append];simp at h|-;omega
theorem J9 {ds:List eC} {k:Nat} (hk:k<ds.length):aE ds ((k:Int)+1)=ds[k].root:=by
 unfold aE fY i_;rw [if_pos (by simp;omega),show ((k:Int)+1-1).toNat=k by omega,List.getD_eq_getElem?_getD,List.getElem?_eq_getElem hk];rfl
def AH (S:ac) (n:ai):Prop:=
 (aE S.af n.dev=n.no/\n.up=n.no)\/(aE S.af n.dev≠n.no/\n.up≠n.no/\∃m∈S.nodes,m.no=n.up/\m.kind=1/\m.dev=n.dev/\∃x∈m.ae,x.2=n.no)
def Vu (S:ac) (no dev y:Int):Prop:=y≠no/\(∀d∈S.af,y≠d.root)/\∀q∈S.nodes,q.no=y->q.dev=dev
structure mW (c:Nat) (k:Int) (S:ac):Prop where
 aC:aI S.nodes S.last
 last:1<=S.last
 af:0<S.af.length
 eight:S.af.length<=8
 roots:h_ S.af
 count:S.nodes.length<=S.last
 small:∀n∈S.nodes,n.ae.length<=c
 mF:∀n∈S.nodes,iR n.ae
 names:EU S
 pos:∀n∈S.nodes,∀x∈n.ae,1<=x.2/\x.2<=S.last
 on:J7 S
 first:∃m∈S.nodes,m.no=1
 one:∀n∈S.nodes,n.no=1->n.kind=1/\n.dev=1/\n.up=1
 oJ:aE S.af 1=1
 mh:∀n∈S.nodes,n.kind=1->n.ah=1
 SP:∀n∈S.nodes,n.kind=1->n.no≠k->AH S n
 bits:∀n∈S.nodes,0<=n.mode/\n.mode<=1023/\1<=n.ah/\n.ah<=1000
 zB:∀m∈S.nodes,∀x∈m.ae,Vu S m.no m.dev x.2
 pS:∀h:0<S.af.length,S.af[0].over=0
 kZ:∀k,(h:k+1<S.af.length)->∃m∈S.nodes,m.no=S.af[k+1].over/\m.kind=1/\m.dev<=(k:Int)+1/\aE S.af m.dev≠m.no
 fc:∀k,(h:k<S.af.length)->∃m∈S.nodes,m.no=S.af[k].root/\m.kind=1/\m.dev=(k:Int)+1
 deep:∃d:Int->Nat,∀n∈S.nodes,n.kind=1->n.up≠n.no->d n.up<d n.no
abbrev dI (c:Nat) (S:ac):Prop:=mW c 0 S
theorem dI.wh {c:Nat} {S:ac} (h:dI c S):∀n∈S.nodes,n.kind=1->AH S n:=fun n hn hk=>h.SP n hn hk (by have:=(h.aC.2 n hn).1;omega)
theorem dI.aa {c:Nat} {S:ac} (h:dI c S) (no:Int):iR (aa S.nodes no).ae/\(aa S.nodes no).ae.length<=c:=by
 cases hi:aQ S.nodes no
 ·rw [(aV hi).1]
  exact ⟨List.Pairwise.nil,Nat.zero_le _⟩
 ·have:=(aj hi).2.2
  exact ⟨h.mF _ this,h.small _ this⟩
theorem J_ {ns:List ai} {f:Int->Nat} {a b:Int} (hab:f a<f b) (h:∃m∈ns,m.no=a):(ns.filter fun m=>decide (f m.no<f a)).length<(ns.filter fun m=>decide (f m.no<f b)).length:=by
 have mono:∀l:List ai,(l.filter fun m=>decide (f m.no<f a)).length<=(l.filter fun m=>decide (f m.no<f b)).length:=by
  intro l
  induction l with
  | nil=>exact Nat.le_refl _
  | cons x l ih =>
   simp only[List.filter_cons]
   by_cases h1:f x.no<f a
   ·rw[if_pos (by simpa using h1),if_pos (by simp;omega)];simp only[List.length_cons];omega
   ·rw [if_neg (by simpa using h1)]
    split
    ·simp only[List.length_cons];omega
    ·exact ih
 induction ns with
 | nil=>obtain⟨m,hm,_⟩:=h;cases hm
 | cons x l ih =>
  obtain ⟨m,hm,he⟩:=h;simp only[List.filter_cons];rcases List.mem_cons.1 hm with rfl|hm
  ·have:=mono l
   rw [he,if_neg (by simp),if_pos (by simpa using hab)];simp only[List.length_cons];omega
  ·have:=ih ⟨m,hm,he⟩
   by_cases h1:f x.no<f a
   ·rw[if_pos (by simpa using h1),if_pos (by simp;omega)];simp only[List.length_cons];omega
   ·rw [if_neg (by simpa using h1)]
    split
    ·simp only[List.length_cons];omega
    ·exact this
theorem Pr {S:ac} {f:Int->Nat} (h:∀no,no≠0->aJ S no≠0->aJ S no≠no->f (aJ S no)<f no/\∃m∈S.nodes,m.no=aJ S no):∃r,pO S r:=
 ⟨fun no=>(S.nodes.filter fun m=>decide (f m.no<f no)).length,fun no h0 h1 h2=>J_ (h no h0 h1 h2).1 (h no h0 h1 h2).2,fun _=>List.length_filter_le ..⟩
theorem dI.up {c:Nat} {S:ac} (h:dI c S) {no:Int} (hk:(Proofs.YtblbohcaphcobaaGreatDoor.aa S.nodes no).kind=1):AH S (Proofs.YtblbohcaphcobaaGreatDoor.aa S.nodes no):=h.wh _ (bh hk).2.2 hk
theorem dI.above {c:Nat} {S:ac} (h:dI c S) (no:Int) (h0:aJ S no≠0) (hs:aJ S no≠no) :
  ∃ n∈S.nodes,∃m∈S.nodes,n.no=no/\n.kind=1/\m.no=aJ S no/\m.kind=1/\(m.dev<n.dev\/(m.dev=n.dev/\m.no=n.up/\n.up≠n.no)):=by
 unfold aJ at h0 hs|-
 by_cases hk:(Proofs.YtblbohcaphcobaaGreatDoor.aa S.nodes no).kind=1
 ·obtain ⟨_,hn,hm⟩:=bh hk
  rw [if_pos hk]at h0 hs|-
  by_cases hr:aE S.af (Proofs.YtblbohcaphcobaaGreatDoor.aa S.nodes no).dev=no/\1<(Proofs.YtblbohcaphcobaaGreatDoor.aa S.nodes no).dev
  ·rw [if_pos hr]at h0 hs|-
   rcases en h.roots (Proofs.YtblbohcaphcobaaGreatDoor.aa S.nodes no).dev with⟨e1,_⟩|⟨k,dq,e1,_,e3,e4,e5,_⟩
   ·obtain ⟨h1,h2⟩:=hr
    rw [e1]at h1;rw [<-h1]at hm hn;have:=h.aC.2 _ hm;omega
   ·obtain ⟨j,rfl⟩:∃j,k=j+1:=⟨k-1,by omega⟩
    rw [e3]at h0 hs|-;obtain ⟨m,cL,o1,o2,o3,o4⟩:=h.kZ j dq;have hg:=(dy h.aC cL).1;rw [o1]at hg;rw [hg]at h0 hs|-;rcases h.wh m cL o2 with⟨u1,_⟩|⟨_,u2,m2,mM,u3,u4,u5,_⟩
    ·exact absurd u1 o4
    ·exact⟨_,hm,m2,mM,hn,hk,u3,u4,.inl (by omega)⟩
  ·rw [if_neg hr]at h0 hs|-
   rcases h.up hk with⟨_,u2⟩|⟨_,u2,m2,mM,u3,u4,u5,_⟩
   ·exact absurd (u2.trans hn) hs
   ·exact⟨_,hm,m2,mM,hn,hk,u3,u4,.inr ⟨u5,u3,u2⟩⟩
 ·rw[if_neg hk]at h0;exact absurd rfl h0
theorem dI.AJ {c:Nat} {S:ac} (h:dI c S):∃r,pO S r:=by
 obtain ⟨d,hd⟩:=h.deep;obtain⟨N,hN⟩:=ar (S.nodes.length+1);obtain ⟨e,he⟩:∃e:Int->Nat,e=fun no=>(S.nodes.filter fun m=>decide (d m.no<d no)).length:=⟨_,rfl⟩
 have hb:∀no,e no<N:=fun no=>by rw[he,hN];exact Nat.lt_succ_of_le (List.length_filter_le ..)
 refine Pr (f:=fun no=>(Proofs.YtblbohcaphcobaaGreatDoor.aa S.nodes no).dev.toNat*N+e no) fun no h0 h1 h2=>?_
 obtain ⟨n,hn,m,hm,a1,a2,a3,a4,a5⟩:=h.above no h1 h2;have g1:=(dy h.aC hn).1;have g2:=(dy h.aC hm).1;rw [a1]at g1;rw [a3]at g2;refine ⟨?_,m,hm,a3⟩;show (Proofs.YtblbohcaphcobaaGreatDoor.aa S.nodes (aJ S no)).dev.toNat*N+e (aJ S no)<(Proofs.YtblbohcaphcobaaGreatDoor.aa S.nodes no).dev.toNat*N+e no;rw [g1,g2];have p1:=(pR (h.on _ hn).1).1;have p2:=(pR (h.on _ hm).1).1;rcases a5 with a5|⟨a5,a6,a7⟩
 ·have q1:m.dev.toNat+1<=n.dev.toNat:=by omega
  have q2:=hb (aJ S no);have q3:=Nat.mul_le_mul_right N q1;rw [Nat.add_mul]at q3;omega
 ·rw [a5]
  have:e (aJ S no)<e no:=by
   rw [he];refine J_ ?_ ⟨m,hm,a3⟩;have:=hd n hn a2 a7;rw [<-a6,a3,a1]at this;exact this
  omega
theorem ua {S:ac} {n m:ai} (h:m∈S.nodes) (hne:m.no≠n.no):m∈(aK S n).nodes:=by
 have:=yA (n:=n) h;rw [if_neg hne]at this;exact this
theorem mi {S:ac} {n m:ai} (h:m∈S.nodes) (he:m.no=n.no):n∈(aK S n).nodes:=by
 have:=yA (n:=n) h;rw [if_pos he]at this;exact this
theorem aM {S:ac} {n m:ai} (h:m∈(aK S n).nodes):(m∈S.nodes/\m.no≠n.no)\/m=n:=by
 unfold aK bn at h;obtain ⟨x,hx,e⟩:=List.mem_map.1 h;split at e
 ·exact .inr e.symm
 ·rename_i hne
  rw [<-e];exact .inl ⟨hx,by simpa using hne⟩
theorem pT {c c':Nat} {k k':Int} {S:ac} (h:mW c k S) (vV:k=0\/k=k') {n:ai} (hi:aQ S.nodes n.no=true) (Sn:c<=c') (hk:n.kind=(aa S.nodes n.no).kind) (hv:n.dev=(aa S.nodes n.no).dev) (hu:n.up=(aa S.nodes n.no).up)
  (hl:n.kind=1->n.ah=1) (hr:iR n.ae) (hn:∀x∈n.ae,x.1≠[]/\x.1.length<=255) (hp:∀x∈n.ae,1<=x.2/\x.2<=S.last) (hs:n.ae.length<=c') (hd:n.data.length<=1048576)
  (hb:0<=n.mode/\n.mode<=1023/\1<=n.ah/\n.ah<=1000) (hx:∀x∈n.ae,Vu S n.no n.dev x.2)
  (keep:∀q∈S.nodes,q.kind=1->q.no≠k'->q.up=n.no->q.no≠n.no->∃x∈n.ae,x.2=q.no):mW c' k' (aK S n):=by
 have hm0:=(aj hi).2;obtain⟨m0,AK⟩:=ar (Proofs.YtblbohcaphcobaaGreatDoor.aa S.nodes n.no);rw [<-AK]at hk hv hu hm0;have same:∀m∈S.nodes,m.no=n.no->m=m0:=fun m hm e=>by
  have:=(dy h.aC hm).1;rw [e]at this;rw [AK,this]
 have move:∀m∈S.nodes,∃m'∈(aK S n).nodes,m'.no=m.no/\m'.kind=m.kind/\m'.dev=m.dev:=by
  intro m hm
  by_cases e:m.no=n.no
  ·have:=same m hm e
   subst this;exact ⟨n,mi hm e,e.symm,hk,hv⟩
  ·exact⟨m,ua hm e,rfl,rfl,rfl⟩
 have upk:∀q∈S.nodes,q.kind=1->q.no≠k'->(q.no≠n.no\/q=m0)->∀q',q'.no=q.no->q'.dev=q.dev->q'.up=q.up->AH (aK S n) q':=by
  intro q hq ub AL tU q' e1 e2 e3;unfold AH;rw [e1,e2,e3];have sG:q.no≠k:=by
   rcases vV with e|e
   ·have:=(h.aC.2 q hq).1;omega
   ·rw[e];exact AL
  rcases h.SP q hq ub sG with⟨u1,u2⟩|⟨u1,u2,m,hm,u3,u4,u5,x,hx,u6⟩
  ·exact .inl ⟨u1,u2⟩
  ·refine .inr ⟨u1,u2,?_⟩
   by_cases e:m.no=n.no
   ·have aau:q.no≠n.no:=fun e'=>u2 (by rw[<-u3,e,e'])
    obtain ⟨y,hy,hy2⟩:=keep q hq ub AL (by rw[<-u3,e]) aau;have:=same m hm e;subst this;exact ⟨n,mi hm e,by rw[<-u3,e],by rw[hk];exact u4,by rw[hv];exact u5,y,hy,hy2⟩
   ·exact⟨m,ua hm e,u3,u4,u5,x,hx,u6⟩
 refine ⟨h.aC.set n,h.last,h.af,h.eight,h.roots,?_,?_,?_,?_,?_,?_,?_,?_,h.oJ,?_,?_,?_,?_,h.pS,?_,?_,?_⟩
 ·show ((bn S.nodes n).length:Int)<=S.last;rw[pK];exact h.count
 ·intro m hm
  rcases aM hm with⟨hm,_⟩|rfl
  ·have:=h.small m hm;omega
  ·exact hs
 ·intro m hm
  rcases aM hm with⟨hm,_⟩|rfl
  ·exact h.mF m hm
  ·exact hr
 ·intro m hm
  rcases aM hm with⟨hm,_⟩|rfl
  ·exact h.names m hm
  ·exact hn
 ·intro m hm
  rcases aM hm with⟨hm,_⟩|rfl
  ·exact h.pos m hm
  ·exact hp
 ·intro m hm
  rcases aM hm with⟨hm,_⟩|rfl
  ·exact h.on m hm
  ·exact⟨by rw[hv];exact (h.on _ hm0.2).1,hd⟩
 ·obtain ⟨m,hm,e⟩:=h.first
  obtain ⟨m',hm',e',_⟩:=move m hm;exact ⟨m',hm',e'.trans e⟩
 ·intro m hm e
  rcases aM hm with⟨hm,_⟩|rfl
  ·exact h.one m hm e
  ·have:=h.one _ hm0.2 (hm0.1.trans e)
   rw [hk,hv,hu];exact this
 ·intro m hm mN
  rcases aM hm with⟨hm,_⟩|rfl
  ·exact h.mh m hm mN
  ·exact hl mN
 ·intro m hm mN Wy
  rcases aM hm with⟨hm,hne⟩|rfl
  ·exact upk m hm mN Wy (.inl hne) m rfl rfl rfl
  ·exact upk m0 hm0.2 (hk.symm.trans mN) (by rw[hm0.1];exact Wy) (.inr rfl) m hm0.1.symm hv hu
 ·intro m hm
  rcases aM hm with⟨hm,_⟩|rfl
  ·exact h.bits m hm
  ·exact hb
 ·have Wz:∀{no dev y:Int},Vu S no dev y->Vu (aK S n) no dev y:=fun hK=>⟨hK.1,hK.2.1,fun q hq e=>by
   rcases aM hq with⟨hq,_⟩|rfl
   ·exact hK.2.2 q hq e
   ·rw[hv];exact hK.2.2 m0 hm0.2 (hm0.1.trans e)⟩
  intro m hm x Z2;rcases aM hm with⟨hm,_⟩|rfl
  ·exact Wz (h.zB m hm x Z2)
  ·exact Wz (hx x Z2)
 ·intro j hj
  obtain ⟨m,hm,o1,o2,o3,o4⟩:=h.kZ j hj;obtain ⟨m',hm',e1,e2,e3⟩:=move m hm;exact ⟨m',hm',e1.trans o1,e2.trans o2,by rw[e3];exact o3,by rw[e3,e1];exact o4⟩
 ·intro j hj
  obtain ⟨m,hm,o1,o2,o3⟩:=h.fc j hj;obtain ⟨m',hm',e1,e2,e3⟩:=move m hm;exact ⟨m',hm',e1.trans o1,e2.trans o2,e3.trans o3⟩
 ·obtain ⟨d,IW⟩:=h.deep
  refine ⟨d,fun m hm mN Ka=>?_⟩;rcases aM hm with⟨hm,_⟩|rfl
  ·exact IW m hm mN Ka
  ·have:=IW m0 hm0.2 (hk.symm.trans mN) (by rw[<-hu,hm0.1];exact Ka)
   rw [<-hu,hm0.1]at this;exact this
theorem ue {c:Nat} {k:Int} {S:ac} (h:mW c k S) (d:Int) (q:dH) (hq:ma q) (l:Int) (hl:S.last<=l):mW c k ⟨S.nodes,ja S.af d q,l⟩:=by
 have hro:h_ (ja S.af d q):=CT h.roots _ _ hq;obtain⟨Q,hQ⟩:=ar (ja S.af d q);have hlen:Q.length=S.af.length:=by rw[hQ,jc]
 have hat:∀k,(hk:k<Q.length)->(hk2:k<S.af.length)->Q[k].root=S.af[k].root/\Q[k].over=S.af[k].over:=by
  intro k hk hk2;subst hQ;exact yy hk hk2
 have NK:∀i,aE Q i=aE S.af i:=fun i=>by rw[hQ];exact EX _ _ _ _
 have hh:∀i,fY Q i=fY S.af i:=fun i=>t_ hlen i
 rw [<-hQ]at hro|-;refine ⟨⟨h.aC.1,fun n hn=>⟨(h.aC.2 n hn).1,by have:=(h.aC.2 n hn).2;show n.no<=l;omega⟩⟩,by have:=h.last;show 1<=l;omega,by show 0<Q.length;rw[hlen];exact h.af,by show Q.length<=8;rw[hlen];exact h.eight,hro,
  by have:=h.count;show (S.nodes.length:Int)<=l;omega,h.small,h.mF,h.names,fun n hn x hx=>⟨(h.pos n hn x hx).1,by have:=(h.pos n hn x hx).2;show x.2<=l;omega⟩,fun n hn=>⟨(hh _).trans (h.on n hn).1,(h.on n hn).2⟩,h.first,h.one,(NK 1).trans h.oJ,h.mh,?_,h.bits,?_,?_,?_,?_,h.deep⟩
 ·intro n hn hk SR
  unfold AH;show (aE Q n.dev=n.no/\_)\/(aE Q n.dev≠n.no/\_);rw [NK];exact h.SP n hn hk SR
 ·intro m hm x hx
  have hK:=h.zB m hm x hx;refine ⟨hK.1,fun d hd=>?_,hK.2.2⟩;obtain ⟨i,hi,rfl⟩:=List.getElem_of_mem hd;have pB:i<S.af.length:=by have:i<Q.length:=hi;omega
  show x.2≠Q[i].root;rw [(hat i hi pB).1];exact hK.2.1 _ (List.getElem_mem pB)
 ·intro h0
  exact ((hat 0 h0 h.af).2).trans (h.pS h.af)
 ·intro k hk
  have hk2:k+1<S.af.length:=by have:k+1<Q.length:=hk;omega
  obtain ⟨m,hm,o1,o2,o3,o4⟩:=h.kZ k hk2;exact ⟨m,hm,o1.trans (hat (k+1) hk hk2).2.symm,o2,o3,by show aE Q m.dev≠m.no;rw[NK];exact o4⟩
 ·intro k hk
  have hk2:k<S.af.length:=by have:k<Q.length:=hk;omega
  obtain ⟨m,hm,o1,o2⟩:=h.fc k hk2;exact ⟨m,hm,o1.trans (hat k hk hk2).1.symm,o2⟩
theorem Ps {c:Nat} {S:ac} (h:dI c S) {n:ai} (bc:n.no=S.last) (hlt:∀m∈S.nodes,m.no<S.last) (hc:(S.nodes.length:Int)+1<=S.last) (he:n.ae=[]) (hd:n.data.length<=1048576) (hh:fY S.af n.dev=true) (hb:0<=n.mode/\n.mode<=1023/\1<=n.ah/\n.ah<=1000) (aav:∀m∈S.nodes,∀x∈m.ae,x.2=n.no->n.dev=m.dev)
  (hk:n.kind=1->n.ah=1/\aE S.af n.dev≠n.no/\∃m∈S.nodes,m.no=n.up/\m.kind=1/\m.dev=n.dev/\∃x∈m.ae,x.2=n.no):dI c ⟨S.nodes++[n],S.af,S.last⟩:=by
 have sub:∀m∈S.nodes,m∈S.nodes++[n]:=fun m hm=>List.mem_append_left _ hm
 have h1:=h.last;have new:∀{m:ai},m∈S.nodes++[n]->m∈S.nodes\/m=n:=fun hm=>by
  rcases List.mem_append.1 hm with hm|hm
  ·exact .inl hm
  ·exact .inr (List.mem_singleton.1 hm)
 have aaw:n.kind=1->n.up<n.no:=fun vV=>by
  obtain ⟨_,_,m,hm,e,_⟩:=hk vV;have:=hlt m hm;omega
 refine ⟨⟨?_,?_⟩,h.last,h.af,h.eight,h.roots,?_,?_,?_,?_,?_,?_,?_,?_,h.oJ,?_,?_,?_,?_,h.pS,?_,?_,?_⟩
 ·rw [List.pairwise_append]
  refine ⟨h.aC.1,List.pairwise_singleton ..,fun a ha b hb=>?_⟩;rw [List.mem_singleton]at hb;subst hb;rw [bc];exact hlt a ha
 ·intro m hm
  rcases new hm with hm|rfl
  ·exact h.aC.2 m hm
  ·rw[bc];exact⟨h1,Int.le_refl _⟩
 ·show ((S.nodes++[n]).length:Int)<=S.last
  simp;exact hc
 ·intro m hm
  rcases new hm with hm|rfl
  ·exact h.small m hm
  ·rw[he];exact Nat.zero_le _
 ·intro m hm
  rcases new hm with hm|rfl
  ·exact h.mF m hm
  ·rw[he];exact List.Pairwise.nil
 ·intro m hm
  rcases new hm with hm|rfl
  ·exact h.names m hm
  ·intro x hx;rw[he]at hx;cases hx
 ·intro m hm
  rcases new hm with hm|rfl
  ·exact h.pos m hm
  ·intro x hx;rw[he]at hx;cases hx
 ·intro m hm
  rcases new hm with hm|rfl
  ·exact h.on m hm
  ·exact⟨hh,hd⟩
 ·obtain ⟨m,hm,e⟩:=h.first
  exact ⟨m,sub m hm,e⟩
 ·intro m hm e
  rcases new hm with hm|rfl
  ·exact h.one m hm e
  ·obtain ⟨m,hm,e2⟩:=h.first
   have:=hlt m hm;omega
 ·intro m hm mN
  rcases new hm with hm|rfl
  ·exact h.mh m hm mN
  ·exact (hk mN).1
 ·intro m hm mN _
  rcases new hm with hm|rfl
  ·rcases h.wh m hm mN with u|⟨u1,u2,q,hq,u3⟩
   ·exact .inl u
   ·exact .inr ⟨u1,u2,q,sub q hq,u3⟩
  ·obtain ⟨_,k2,q,hq,k3⟩:=hk mN
   exact .inr ⟨k2,by have:=aaw mN;omega,q,sub q hq,k3⟩
 ·intro m hm
  rcases new hm with hm|rfl
  ·exact h.bits m hm
  ·exact hb
 ·intro m hm x hx
  rcases new hm with jl|rfl
  ·have hK:=h.zB m jl x hx
   have vV:=aav m jl x hx;refine ⟨hK.1,hK.2.1,fun q hq e=>?_⟩;rcases new hq with hq|e2
   ·exact hK.2.2 q hq e
   ·rw [e2]at e|-
    exact vV e.symm
  ·rw[he]at hx;cases hx
 ·intro k vV
  obtain ⟨m,hm,o⟩:=h.kZ k vV;exact ⟨m,sub m hm,o⟩
 ·intro k vV
  obtain ⟨m,hm,o⟩:=h.fc k vV;exact ⟨m,sub m hm,o⟩
 ·obtain ⟨d,IW⟩:=h.deep
  refine ⟨fun k=>if k=n.no then d n.up+1 else d k,fun m hm mN Ka=>?_⟩;rcases new hm with hm|rfl
  ·have e1:m.no≠n.no:=by have:=hlt m hm;omega
   have e2:m.up≠n.no:=by
    rcases h.wh m hm mN with⟨_,u⟩|⟨_,_,q,hq,u,_⟩
    ·rw[u];exact e1
    ·have:=hlt q hq;omega
   show (if m.up=n.no then _ else _)<(if m.no=n.no then _ else _);rw [if_neg e1,if_neg e2];exact IW m hm mN Ka
  ·show (if m.up=m.no then _ else _)<(if m.no=m.no then _ else _)
   rw [if_pos rfl,if_neg Ka];omega
theorem Kb {c:Nat} {S:ac} (h:dI c S) {d n:ai} {nm:List UInt8} (hi:aQ S.nodes d.no=true) (Vv:(aa S.nodes d.no).kind=1) (hk:d.kind=1) (hv:d.dev=(aa S.nodes d.no).dev) (hu:d.up=(aa S.nodes d.no).up)
  (hl:d.ah=1) (aax:d.data.length<=1048576) (hen:d.ae=dk (aa S.nodes d.no).ae (nm,S.last+1)) (oF:aO (aa S.nodes d.no).ae nm=0) (gY:nm≠[]/\nm.length<=255)
  (hne:n.ae=[]) (hnd:n.data.length<=1048576) (SS:n.dev=d.dev) (SR:n.kind=1->n.ah=1/\n.up=d.no) (Wr:d.mode=(aa S.nodes d.no).mode) (Pb:0<=n.mode/\n.mode<=1023/\n.ah=1) (h0:eO S n=0):dI (c+1) (aK (bj S n) d):=by
 have hm0:=(aj hi).2;obtain⟨m0,AK⟩:=ar (Proofs.YtblbohcaphcobaaGreatDoor.aa S.nodes d.no);rw [<-AK]at hv hu hen hm0 Vv oF Wr;have ST:fY S.af n.dev=true:=by rw[SS,hv];exact (h.on _ hm0.2).1
 have Kc:ma (aT (i_ S.af n.dev).q (bC n.kind n.data.length) 1):=by
  rcases en h.roots n.dev with⟨_,e2⟩|⟨k,hk,_,_,e3,_,_,e6⟩
  ·rw[e2]at ST;cases ST
  ·rw[e3];exact oV e6
 have hA:=ue h n.dev _ Kc (S.last+1) (by omega);have lN:∀m∈S.nodes,m.no<S.last+1:=fun m hm=>by have:=(h.aC.2 m hm).2;omega
 have aay:d.no≠S.last+1:=by have:=lN _ hm0.2;omega
 have hput:∀x∈m0.ae,x.1≠nm:=by
  intro x hx e;unfold aO at oF
  cases hf:m0.ae.find? (fun x=>x.1 == nm) with
  | none=>have:=List.find?_eq_none.1 hf x hx;simp at this;exact this e
  | some y =>
   rw [hf]at oF;have:=(h.pos _ hm0.2 y (List.mem_of_find?_eq_some hf)).1;simp only at oF;omega
 have AO:∀x∈m0.ae,x∈d.ae:=by
  intro x hx;rw [hen];unfold dk iw i6;simp only[List.mem_append,List.mem_filter,List.mem_singleton];rcases l8 x.1 nm with g|g|g
  ·exact .inl (.inl ⟨hx,g⟩)
  ·exact absurd g (hput x hx)
  ·exact .inr ⟨hx,g⟩
 have sH:(nm,S.last+1)∈d.ae:=by rw[hen];unfold dk;simp
 obtain ⟨S1,C5⟩:∃S1:ac,S1=⟨S.nodes,ja S.af n.dev (aT (i_ S.af n.dev).q (bC n.kind n.data.length) 1),S.last+1⟩:=⟨_,rfl⟩;rw [<-C5]at hA;have zC:S1.nodes=S.nodes:=by rw[C5]
 have hD1:∀i,aE S1.af i=aE S.af i:=fun i=>by rw[C5];exact EX _ _ _ _
 have hB : dI (c+1) (aK S1 d):=by
  refine pT hA (.inl rfl) (by rw[zC];exact hi) (by omega) (by rw[zC,<-AK,Vv];exact hk) (by rw[zC,<-AK];exact hv) (by rw[zC,<-AK];exact hu) (fun _=>hl) ?_ ?_ ?_ ?_ aax (by have:=h.bits _ hm0.2;rw[Wr,hl];omega) ?_ ?_
  ·rw[hen];exact wO _ (h.mF _ hm0.2)
  ·intro x hx
   rw [hen]at hx;rcases gX hx with hx|rfl
   ·exact h.names _ hm0.2 x hx
   ·exact gY
  ·intro x hx
   rw [hen]at hx;rw [C5];have:=h.last;rcases gX hx with hx|rfl
   ·have:=h.pos _ hm0.2 x hx
    exact ⟨this.1,by show x.2<=S.last+1;omega⟩
   ·exact⟨by show 1<=S.last+1;omega,Int.le_refl _⟩
  ·rw [hen]
   have:=pJ m0.ae (nm,S.last+1);have:=h.small _ hm0.2;omega
  ·intro x hx
   rw [hen]at hx;rw [<-hm0.1,hv];rcases gX hx with hx|rfl
   ·have hK:=hA.zB m0 (by rw[zC];exact hm0.2) x hx
    exact hK
   ·have hlm:=lN _ hm0.2
    refine ⟨by show S.last+1≠m0.no;omega,fun q hq=>?_,fun q hq e=>?_⟩
    ·obtain ⟨i,hi,rfl⟩:=List.getElem_of_mem hq
     obtain ⟨m,hm,o1,_⟩:=hA.fc i hi;rw [zC]at hm;have:=lN m hm;show S.last+1≠_;omega
    ·rw [zC]at hq
     have:=lN q hq;have:q.no=S.last+1:=e;omega
  ·intro q hq ub _ xf tU
   rw [zC]at hq;rcases h.wh q hq ub with⟨_,u2⟩|⟨_,_,m,hm,u3,_,_,x,hx,u6⟩
   ·exact absurd (u2.symm.trans xf) tU
   ·have:m=m0:=by
     have:=(dy h.aC hm).1;rw [u3,xf]at this;rw [AK,this]
    subst this;exact ⟨x,AO x hx,u6⟩
 have CM:aK (bj S n) d=⟨(aK S1 d).nodes++[{n with no:=S.last+1}],(aK S1 d).af,(aK S1 d).last⟩:=by
  unfold bj aK bn;rw [if_pos h0,C5];simp only[List.map_append,List.map_cons,List.map_nil];rw [if_neg (by simpa using (Ne.symm aay))]
 rw [CM];have hlS:(aK S1 d).last=S.last+1:=by rw[C5];rfl
 have hdS:(aK S1 d).af=S1.af:=rfl;refine Ps hB (by rw[hlS]) ?_ ?_ hne hnd ?_ (by show 0<=n.mode/\n.mode<=1023/\1<=n.ah/\n.ah<=1000;omega) ?_ ?_
 ·intro m hm
  rw [hlS];rcases aM hm with⟨hm,_⟩|rfl
  ·rw[zC]at hm;exact lN m hm
  ·have:=lN _ hm0.2;omega
 ·show ((bn S1.nodes d).length:Int)+1<=_
  rw [pK,zC,hlS];have:=h.count;omega
 ·rw [hdS]
  show fY S1.af n.dev=true;rw [C5];exact (t_ (jc _ _ _) _).trans ST
 ·intro m hm x hx e
  have e':x.2=S.last+1:=e;show n.dev=m.dev;rcases aM hm with⟨hm,_⟩|rfl
  ·rw [zC]at hm
   have:=(h.pos m hm x hx).2;omega
  ·exact SS
 ·intro vV
  obtain ⟨k1,k2⟩:=SR vV;refine ⟨k1,?_,d,?_,k2.symm,hk,SS.symm,_,sH,rfl⟩
  ·rw [hdS,hD1]
   show aE S.af n.dev≠S.last+1;rcases en h.roots n.dev with⟨e1,_⟩|⟨k,dq,e1,_,e3,e4,e5,_⟩
   ·have:=h.last;omega
   ·obtain ⟨m,hm,o1,_⟩:=h.fc k dq
    have:=lN m hm;omega
  ·exact mi (S:=S1) (by rw[zC];exact hm0.2) hm0.1
theorem Ke {c:Nat} {S:ac} (h:dI c S) {over b n:Int} (h8:S.af.length<8) (hl:cA b n=true) (ho:∃m∈S.nodes,m.no=over/\m.kind=1/\aE S.af m.dev≠m.no):dI c (cr S over b n):=by
 have sub:∀m∈S.nodes,m∈(cr S over b n).nodes:=fun m hm=>List.mem_append_left _ hm
 have WA:bo S∈(cr S over b n).nodes:=List.mem_append_right _ (List.mem_singleton.2 rfl);have new:∀{m:ai},m∈(cr S over b n).nodes->m∈S.nodes\/m=bo S:=fun hm=>by
  rcases List.mem_append.1 hm with hm|hm
  ·exact .inl hm
  ·exact .inr (List.mem_singleton.1 hm)
 have g_:=h.last;have hlen:(cr S over b n).af.length=S.af.length+1:=by simp[cr]
 have NK:∀x∈S.nodes,aE (cr S over b n).af x.dev=aE S.af x.dev:=fun x hx=>EY (h.on x hx).1
 have hold:∀k,(hk:k<S.af.length)->(hk':k<(cr S over b n).af.length)->(cr S over b n).af[k]'hk'=S.af[k]:=fun k hk hk'=>J8 S.af _ k hk hk'
 have sH:∀k,(hk:k=S.af.length)->(hk':k<(cr S over b n).af.length)->(cr S over b n).af[k]'hk'=⟨S.last+1,over,⟨1,1,b,n⟩⟩:=fun k hk hk'=>Gp S.af _ k hk hk'
 have hrn:aE (cr S over b n).af (bo S).dev=(bo S).no:=by
  show aE (cr S over b n).af ((S.af.length:Int)+1)=S.last+1;rw [J9 (by rw[hlen];omega:S.af.length<(cr S over b n).af.length),sH _ rfl]
 refine ⟨h.aC.add (bo S) rfl (by omega),by show 1<=S.last+1;omega,by rw[hlen];omega,by rw[hlen];omega,?_,?_,?_,?_,?_,?_,?_,?_,?_,?_,?_,?_,?_,?_,?_,?_,?_,?_⟩
 ·intro d hd
  rcases List.mem_append.1 hd with hd|hd
  ·exact h.roots d hd
  ·rw [List.mem_singleton]at hd
   subst hd;refine ⟨by show 0<S.last+1;omega,?_⟩;rcases fH b n with⟨h1,h2,h3,h4,_⟩|⟨h0,_⟩
   ·exact⟨show (0:Int)<=1 by decide,show (0:Int)<=1 by decide,h1,h3,h2,h4⟩
   ·rw[h0]at hl;cases hl
 ·have:=h.count;show ((S.nodes++[bo S]).length:Int)<=S.last+1;simp;exact this
 ·intro m hm
  rcases new hm with hm|rfl
  ·exact h.small m hm
  ·exact Nat.zero_le _
 ·intro m hm
  rcases new hm with hm|rfl
  ·exact h.mF m hm
  ·exact List.Pairwise.nil
 ·intro m hm
  rcases new hm with hm|rfl
  ·exact h.names m hm
  ·intro x hx;simp[bo,ag]at hx
 ·intro m hm
  rcases new hm with hm|rfl
  ·exact fun x hx=>⟨(h.pos m hm x hx).1,by have:=(h.pos m hm x hx).2;show x.2<=S.last+1;omega⟩
  ·intro x hx;simp[bo,ag]at hx
 ·intro m hm
  rcases new hm with hm|rfl
  ·exact⟨SQ (h.on m hm).1,(h.on m hm).2⟩
  ·refine ⟨?_,by simp[bo,ag]⟩
   unfold fY;rw [hlen];show (decide ((1:Int)<=(S.af.length:Int)+1)&&decide ((S.af.length:Int)+1<=((S.af.length+1:Nat):Int)))=true;rw [Bool.and_eq_true,decide_eq_true_eq,decide_eq_true_eq];omega
 ·obtain ⟨m,hm,e⟩:=h.first
  exact ⟨m,sub m hm,e⟩
 ·intro m hm e
  rcases new hm with hm|rfl
  ·exact h.one m hm e
  ·have:S.last+1=1:=e
   omega
 ·show aE (S.af++_) 1=1
  rw [EY (by have:=h.af;unfold fY;simp;omega)];exact h.oJ
 ·intro m hm hk
  rcases new hm with hm|rfl
  ·exact h.mh m hm hk
  ·rfl
 ·intro m hm hk _
  rcases new hm with hm|rfl
  ·unfold AH
   rw [NK m hm];rcases h.wh m hm hk with u|⟨u1,u2,q,hq,u3⟩
   ·exact .inl u
   ·exact .inr ⟨u1,u2,q,sub q hq,u3⟩
  ·exact .inl ⟨hrn,rfl⟩
 ·intro m hm
  rcases new hm with hm|rfl
  ·exact h.bits m hm
  ·exact⟨by show (0:Int)<=493;decide,by show (493:Int)<=1023;decide,by show (1:Int)<=1;decide,by show (1:Int)<=1000;decide⟩
 ·intro m hm x hx
  rcases new hm with hm|rfl
  ·have hK:=h.zB m hm x hx
   have hp:=(h.pos m hm x hx).2;refine ⟨hK.1,fun d hd=>?_,fun q hq e=>?_⟩
   ·rcases List.mem_append.1 hd with hd|hd
    ·exact hK.2.1 d hd
    ·rw [List.mem_singleton]at hd
     subst hd;show x.2≠S.last+1;omega
   ·rcases new hq with hq|rfl
    ·exact hK.2.2 q hq e
    ·have:S.last+1=x.2:=e
     omega
  ·simp[bo,ag]at hx
 ·intro h0
  exact (congrArg eC.over (hold 0 h.af h0)).trans (h.pS h.af)
 ·intro k hk
  rw [hlen]at hk
  by_cases hk2:k+1<S.af.length
  ·obtain ⟨m,hm,o1,o2,o3,o4⟩:=h.kZ k hk2
   rw [hold (k+1) hk2];exact ⟨m,sub m hm,o1,o2,o3,by rw[NK m hm];exact o4⟩
  ·obtain ⟨m,hm,o1,o2,o3⟩:=ho
   rw [sH (k+1) (by omega)];refine ⟨m,sub m hm,o1,o2,?_,by rw[NK m hm];exact o3⟩;have:=(pR (h.on m hm).1).2;omega
 ·intro k hk
  rw [hlen]at hk
  by_cases hk2:k<S.af.length
  ·obtain ⟨m,hm,o⟩:=h.fc k hk2
   rw [hold k hk2];exact ⟨m,sub m hm,o⟩
  ·rw [sH k (by omega)]
   refine ⟨bo S,WA,rfl,rfl,?_⟩;show (S.af.length:Int)+1=k+1;omega
 ·obtain ⟨d,hd⟩:=h.deep
  refine ⟨d,fun m hm hk Ka=>?_⟩;rcases new hm with hm|rfl
  ·exact hd m hm hk Ka
  ·exact absurd rfl Ka
theorem Gq {c:Nat} {S:ac} (h:dI c S) (a b n:Int):dI c (ct S a b n):=by
 unfold ct;split
 ·rename_i h0
  refine Ke h (rW h0).1 (rW h0).2 ?_;unfold cX at h0;split at h0
  ·cases h0
  ·rename_i hi
   split at h0
   ·cases h0
   ·rename_i hk
    split at h0
    ·cases h0
    ·rename_i ho
     rw [not_or]at ho;have pB:aQ S.nodes a=true:=by simpa using hi
     have hm:=aj pB;exact ⟨_,hm.2.2,hm.2.1,Decidable.not_not.1 hk,by rw[hm.2.1];exact ho.2⟩
 ·exact h
theorem Gs {b n:Int} (hl:cA b n=true):dI 0 (cr cE 0 b n):=by
 have hg:=AG hl;have one:∀{m:ai},m∈(cr cE 0 b n).nodes->m=bo cE:=fun hm=>by simpa [cr,cE]using hm
 refine ⟨hg.fC.aC,hg.fC.last,hg.fC.af,hg.fC.eight,hg.fC.roots,hg.fC.count,?_,hg.fC.mF,hg.names,?_,hg.on,hg.first,hg.one,hg.aat,?_,?_,?_,?_,fun _=>rfl,?_,?_,⟨fun _=>0,?_⟩⟩
 ·intro m hm;rw[one hm];exact Nat.le_refl _
 ·intro m hm x hx;rw[one hm]at hx;simp[bo,ag]at hx
 ·intro m hm _;rw[one hm];rfl
 ·intro m hm _ _;rw[one hm];exact .inl ⟨rfl,rfl⟩
 ·intro m hm;rw[one hm];exact⟨by show (0:Int)<=493;decide,by show (493:Int)<=1023;decide,by show (1:Int)<=1;decide,by show (1:Int)<=1000;decide⟩
 ·intro m hm x hx;rw[one hm]at hx;simp[bo,ag]at hx
 ·intro k hk
  have:k+1<1:=hk;omega
 ·intro k hk
  have hk2:k<1:=hk;have:k=0:=by omega
  subst this;exact ⟨bo cE,List.mem_append_right _ (List.mem_singleton.2 rfl),rfl,rfl,rfl⟩
 ·intro m hm _ hu;rw[one hm]at hu;exact absurd rfl hu
theorem gu {c c':Nat} {k:Int} {S:ac} (h:mW c k S) (hc:c<=c'):mW c' k S:=
 { h with small:=fun n hn=>by have:=h.small n hn;omega}
open Go.ChangeShapes Go.WideShapes Go.ChangeAt Go.RowKit
open Go
attribute [local irreducible] wpQuiet
def oK (S:ac) (no:Int):Bool:=aQ S.nodes no&&!(aE S.af (aa S.nodes no).dev == no)
def AQ (S:ac) (n:ai):List eC:=ja S.af n.dev (aT (i_ S.af n.dev).q (-(bC n.kind n.data.length)) (-1))
def kO (S:ac) (no:Int):ac:=if oK S no=true then⟨kJ S.nodes no,AQ S (aa S.nodes no),S.last⟩ else S
end
structure Live (S:ac):Prop where
 aC:aI S.nodes S.last
 last:1<=S.last
 af:0<S.af.length
 eight:S.af.length<=8
 roots:h_ S.af
 count:S.nodes.length<=S.last
 on:J7 S
 first:∃m∈S.nodes,m.no=1
 one:∀n∈S.nodes,n.no=1->n.dev=1
 oJ:aE S.af 1=1
theorem Live.fine {S:ac} (h:Live S) {d:Int} (hd:fY S.af d=true) (b n:Int):ma (aT (i_ S.af d).q b n):=by
 rcases en h.roots d with⟨_,e2⟩|⟨k,hk,_,_,e3,_,_,e6⟩
 ·rw[e2]at hd;cases hd
 ·rw[e3];exact oV e6
theorem AR {S:ac} (a b n:Int):(ct S a b n).last<=S.last+1:=by
 unfold ct;split
 ·exact Int.le_refl _
 ·omega
theorem C_ (S:ac) (no:Int):(kO S no).last=S.last:=by unfold kO;split<;>rfl
theorem Da (S:ac) (no:Int) (d:List UInt8):(jp S no d).last=S.last:=by unfold jp;split<;>rfl
theorem dU {ns:List ai} {no:Int} {m:ai} (h:m∈kJ ns no):m∈ns/\m.no≠no:=by
 unfold kJ at h;rw [List.mem_filter]at h;exact ⟨h.1,by simpa using h.2⟩
theorem mY {ns:List ai} {no:Int} {m:ai} (h:m∈ns) (hne:m.no≠no):m∈kJ ns no:=List.mem_filter.2 ⟨h,by simpa using hne⟩
theorem Kf {c:Nat} {k k':Int} {S:ac} (h:mW c k S) {no:Int} (h1:no≠1) (WB:∀j,(hj:j<S.af.length)->S.af[j].root≠no) (WC:∀j,(hj:j+1<S.af.length)->S.af[j+1].over≠no)
  (WD:∀q∈S.nodes,q.kind=1->q.no≠no->q.no≠k'->AH S q/\(aE S.af q.dev≠q.no->q.up≠no)):mW c k' ⟨kJ S.nodes no,S.af,S.last⟩:=by
 have hlen:(kJ S.nodes no).length<=S.nodes.length:=List.length_filter_le ..;refine ⟨h.aC.drop no,h.last,h.af,h.eight,h.roots,?_,?_,?_,?_,?_,?_,?_,?_,h.oJ,?_,?_,?_,?_,h.pS,?_,?_,?_⟩
 ·have:=h.count
  show ((kJ S.nodes no).length:Int)<=S.last;omega
 ·exact fun m hm=>h.small m (dU hm).1
 ·exact fun m hm=>h.mF m (dU hm).1
 ·exact fun m hm=>h.names m (dU hm).1
 ·exact fun m hm=>h.pos m (dU hm).1
 ·exact fun m hm=>h.on m (dU hm).1
 ·obtain ⟨m,hm,e⟩:=h.first
  exact ⟨m,mY hm (by rw[e];exact Ne.symm h1),e⟩
 ·exact fun m hm=>h.one m (dU hm).1
 ·exact fun m hm=>h.mh m (dU hm).1
 ·intro m hm hk mN
  obtain ⟨hm,hne⟩:=dU hm;obtain ⟨u,v⟩:=WD m hm hk hne mN;rcases u with u|⟨u1,u2,q,hq,u3,u4⟩
  ·exact .inl u
  ·exact .inr ⟨u1,u2,q,mY hq (by rw[u3];exact v u1),u3,u4⟩
 ·exact fun m hm=>h.bits m (dU hm).1
 ·intro m hm x hx
  have hK:=h.zB m (dU hm).1 x hx;exact ⟨hK.1,hK.2.1,fun q hq e=>hK.2.2 q (dU hq).1 e⟩
 ·intro j hj
  obtain ⟨m,hm,o1,o⟩:=h.kZ j hj;exact ⟨m,mY hm (by rw[o1];exact WC j hj),o1,o⟩
 ·intro j hj
  obtain ⟨m,hm,o1,o⟩:=h.fc j hj;exact ⟨m,mY hm (by rw[o1];exact WB j hj),o1,o⟩
 ·obtain ⟨d,hd⟩:=h.deep
  exact ⟨d,fun m hm=>hd m (dU hm).1⟩
theorem gJ {S:ac} (hu:aI S.nodes S.last) {m n:ai} (hm:m∈S.nodes) (hn:n∈S.nodes) (e:m.no=n.no):m=n:=by
 have h1:=(dy hu hm).1;have h2:=(dy hu hn).1;rw [e]at h1;exact h1.symm.trans h2
theorem Gt {c:Nat} {k:Int} {S:ac} (h:mW c k S) {no:Int} (h1:1<=no) (ho:ak S.af no=no):∀j,(hj:j+1<S.af.length)->S.af[j+1].over≠no:=by
 intro j hj e;unfold ak at ho;rw [if_pos (by omega)]at ho
 cases hf:S.af.find? (fun d=>d.over == no) with
 | none =>
  have:=List.find?_eq_none.1 hf _ (List.getElem_mem hj);simp at this;exact this e
 | some x =>
  rw [hf]at ho;have hx:=List.find?_some hf;have Z2:=List.mem_of_find?_eq_some hf;obtain ⟨i,hi,rfl⟩:=List.getElem_of_mem Z2;simp only[beq_iff_eq]at hx
  cases i with
  | zero=>rw[h.pS hi]at hx;omega
  | succ i =>
   obtain ⟨m,hm,a1,_,a3⟩:=h.fc (i+1) hi;obtain ⟨q,hq,b1,_,b3,_⟩:=h.kZ i hi;have:m=q:=gJ h.aC hm hq (by rw[a1,b1,hx];exact ho);subst this;omega
theorem Kg {c:Nat} {k k':Int} {S:ac} (h:mW c k S) {no:Int} (hk:oK S no=true) (ho:ak S.af no=no) (vV:k=k'\/k=no\/k=0) (hne:(aa S.nodes no).kind=1->(aa S.nodes no).ae=[]):mW c k' (kO S no):=by
 unfold kO;rw [if_pos hk];unfold oK at hk;rw [Bool.and_eq_true]at hk;obtain ⟨hi,hr⟩:=hk;obtain ⟨_,bc,hm⟩:=aj hi;obtain⟨n,hn⟩:=ar (Proofs.YtblbohcaphcobaaGreatDoor.aa S.nodes no);rw [<-hn]at bc hm hr hne|-;have zx:aE S.af n.dev≠no:=by simpa using hr
 have Rl:=h.on n hm;have Kc:ma (aT (i_ S.af n.dev).q (-(bC n.kind n.data.length)) (-1)):=by
  rcases en h.roots n.dev with⟨_,e2⟩|⟨j,hj,_,_,e3,_,_,e6⟩
  ·rw[e2]at Rl;cases Rl.1
  ·rw[e3];exact oV e6
 have hpos:=(h.aC.2 n hm).1;have Jo:=Gt h (by rw[<-bc];exact hpos) ho;have SU:∀j,(hj:j<S.af.length)->S.af[j].root≠no:=by
  intro j hj e;obtain ⟨m,cL,a1,_,a3⟩:=h.fc j hj;have:m=n:=gJ h.aC cL hm (by rw[a1,e,bc]);subst this;rw [a3,J9 hj]at zx;exact zx e
 have hA:=ue h n.dev _ Kc S.last (Int.le_refl _);unfold AQ;obtain⟨Q,hQ⟩:=ar (ja S.af n.dev (aT (i_ S.af n.dev).q (-(bC n.kind n.data.length)) (-1)));rw [<-hQ]at hA|-;have hlen:Q.length=S.af.length:=by rw[hQ,jc]
 have hat:∀j,(hj:j<Q.length)->(Ac:j<S.af.length)->Q[j].root=S.af[j].root/\Q[j].over=S.af[j].over:=by
  intro j hj Ac;subst hQ;exact yy hj Ac
 refine Kf hA (fun e=>?_) (fun j hj=>?_) (fun j hj=>?_) (fun q hq ub tU AL=>?_)
 ·have:=(h.one n hm (by rw[bc,e])).2.1
  rw [this,h.oJ,e]at zx;exact zx rfl
 ·have Ac:j<S.af.length:=by rw[<-hlen];exact hj
  show Q[j].root≠no;rw [(hat j hj Ac).1];exact SU j Ac
 ·have Ac:j+1<S.af.length:=by rw[<-hlen];exact hj
  show Q[j+1].over≠no;rw [(hat (j+1) hj Ac).2];exact Jo j Ac
 ·have sG:q.no≠k:=by
   rcases vV with e|e|e
   ·rw[e];exact AL
   ·rw[e];exact tU
   ·have:=(h.aC.2 q hq).1;omega
  refine ⟨hA.SP q hq ub sG,fun Rm e=>?_⟩;rcases h.SP q hq ub sG with⟨u1,_⟩|⟨_,_,m,cL,u3,u4,_,x,hx,_⟩
  ·apply Rm
   show aE Q q.dev=q.no;rw [hQ,EX];exact u1
  ·have:m=n:=gJ h.aC cL hm (by rw[u3,e,bc])
   subst this;rw [hne u4]at hx;cases hx
inductive Gu (S:ac) (a:Int):Int->Prop
 | here:Gu S a a
 | up {q:ai} (hq:q∈S.nodes) (hk:q.kind=1) (hu:q.up≠q.no) (h:Gu S a q.up):Gu S a q.no
open Classical in
theorem Gu.mono {S T:ac} {a b:Int} (h:Gu T a b) (hm:∀q∈T.nodes,q.kind=1->∃q'∈S.nodes,q'.no=q.no/\q'.kind=1/\q'.up=q.up):Gu S a b:=by
 induction h with
 | here=>exact .here
 | up hq hk hu _ ih =>
  obtain ⟨q',hq',e1,e2,e3⟩:=hm _ hq hk;rw [<-e1];exact .up hq' e2 (by rw[e1,e3];exact hu) (by rw[e3];exact ih)
end Go.Proofs.YtblbohcaphcobaaGreatDoor
