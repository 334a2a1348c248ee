import Derived.Test.YtpibnfdolojpcaaGreatBunE
import Derived.Test.YtpibnfdolojpcaaGreatBunD
import Derived.Test.YtpibnfdolojpcaaGreatBunC
namespace Go.Proofs.YtpibnfdolojpcaaGreat
theorem hasD_len {ds es:List DevD} (h:es.length=ds.length) (d:Int):hasD es d=hasD ds d:=by unfold hasD;rw[h]
theorem hasD_lt {ds:List DevD} {k:Int} (hh:hasD ds k=true):1≤k∧(k-1).toNat<ds.length:=by
 unfold hasD at hh;simp only[Bool.and_eq_true,decide_eq_true_eq]at hh;omega
theorem rootQ (ds:List DevD) (d:Int) (q:SpaceD) (k:Int):rootF (setQ ds d q) k=rootF ds k:=by
 unfold rootF;rw [hasD_len (setQ_len ds d q)]
 by_cases hh:hasD ds k=true
 ·rw [if_pos hh,if_pos hh]
  have h1:=(hasD_lt hh).2;have h2:(k-1).toNat<(setQ ds d q).length:=by rw[setQ_len];exact h1
  unfold devN;rw [List.getD_eq_getElem?_getD,List.getD_eq_getElem?_getD,List.getElem?_eq_getElem h1,List.getElem?_eq_getElem h2];exact (setQ_at h2 h1).1
 ·rw[if_neg hh,if_neg hh]
theorem rootApp {ds:List DevD} {d:DevD} {i:Int} (h:hasD ds i=true):rootF (ds++[d]) i=rootF ds i:=by
 have h2:hasD (ds++[d]) i=true:=by
  unfold hasD at h⊢;rw [List.length_append];simp at h⊢;omega
 unfold rootF;rw [if_pos h,if_pos h2];unfold devN;rw [List.getD_eq_getElem?_getD,List.getD_eq_getElem?_getD,List.getElem?_append_left (hasD_lt h).2]
theorem hasApp {ds:List DevD} {d:DevD} {i:Int} (h:hasD ds i=true):hasD (ds++[d]) i=true:=by
 unfold hasD at h⊢;rw [List.length_append];simp at h⊢;omega
theorem rootAt {ds:List DevD} {k:Nat} (hk:k<ds.length):rootF ds ((k:Int)+1)=ds[k].root:=by
 unfold rootF hasD devN;rw [if_pos (by simp;omega),show ((k:Int)+1-1).toNat=k by omega,List.getD_eq_getElem?_getD,List.getElem?_eq_getElem hk];rfl
def UpOk (S:TreeD) (n:NodeD):Prop:=
 (rootF S.devs n.dev=n.no∧n.up=n.no)∨(rootF S.devs n.dev≠n.no∧n.up≠n.no∧∃m∈S.nodes,m.no=n.up∧m.kind=1∧m.dev=n.dev∧∃x∈m.ents,x.2=n.no)
def Kin (S:TreeD) (no dev y:Int):Prop:=y≠no∧(∀d∈S.devs,y≠d.root)∧∀q∈S.nodes,q.no=y→q.dev=dev
structure TreB (c:Nat) (k:Int) (S:TreeD):Prop where
 nos:NosUp S.nodes S.last
 last:1≤S.last
 devs:0<S.devs.length
 eight:S.devs.length≤8
 roots:RootsOk S.devs
 count:S.nodes.length≤S.last
 small:∀n∈S.nodes,n.ents.length≤c
 rise:∀n∈S.nodes,Rise n.ents
 names:NamesOk S
 pos:∀n∈S.nodes,∀x∈n.ents,1≤x.2∧x.2≤S.last
 on:OnDev S
 first:∃m∈S.nodes,m.no=1
 one:∀n∈S.nodes,n.no=1→n.kind=1∧n.dev=1∧n.up=1
 root1:rootF S.devs 1=1
 dlinks:∀n∈S.nodes,n.kind=1→n.links=1
 ups:∀n∈S.nodes,n.kind=1→n.no≠k→UpOk S n
 bits:∀n∈S.nodes,0≤n.mode∧n.mode≤1023∧1≤n.links∧n.links≤1000
 kin:∀m∈S.nodes,∀x∈m.ents,Kin S m.no m.dev x.2
 over0:∀h:0<S.devs.length,S.devs[0].over=0
 overs:∀k,(h:k+1<S.devs.length)→∃m∈S.nodes,m.no=S.devs[k+1].over∧m.kind=1∧m.dev≤(k:Int)+1∧rootF S.devs m.dev≠m.no
 rootsIn:∀k,(h:k<S.devs.length)→∃m∈S.nodes,m.no=S.devs[k].root∧m.kind=1∧m.dev=(k:Int)+1
 deep:∃d:Int→Nat,∀n∈S.nodes,n.kind=1→n.up≠n.no→d n.up<d n.no
abbrev Tre (c:Nat) (S:TreeD):Prop:=TreB c 0 S
theorem Tre.ups0 {c:Nat} {S:TreeD} (h:Tre c S):∀n∈S.nodes,n.kind=1→UpOk S n:=fun n hn hk=>h.ups n hn hk (by have:=(h.nos.2 n hn).1;omega)
theorem Tre.getN {c:Nat} {S:TreeD} (h:Tre c S) (no:Int):Rise (getN S.nodes no).ents∧(getN S.nodes no).ents.length≤c:=by
 cases hi:isN S.nodes no
 ·rw [(isN_false hi).1]
  exact ⟨List.Pairwise.nil,Nat.zero_le _⟩
 ·have:=(isN_true hi).2.2
  exact ⟨h.rise _ this,h.small _ this⟩
theorem cnt_lt {ns:List NodeD} {f:Int→Nat} {a b:Int} (hab:f a<f b) (h:∃m∈ns,m.no=a):(ns.filter fun m=>decide (f m.no<f a)).length<(ns.filter fun m=>decide (f m.no<f b)).length:=by
 have mono:∀l:List NodeD,(l.filter fun m=>decide (f m.no<f a)).length≤(l.filter fun m=>decide (f m.no<f b)).length:=by
  intro l
  induction l with
  | nil=>exact Nat.le_refl _
  | cons x l ih =>
   simp only[List.filter_cons]
   by_cases h1:f x.no<f a
   ·rw[if_pos (by simpa using h1),if_pos (by simp;omega)];simp only[List.length_cons];omega
   ·rw [if_neg (by simpa using h1)]
    split
    ·simp only[List.length_cons];omega
    ·exact ih
 induction ns with
 | nil=>obtain⟨m,hm,_⟩:=h;cases hm
 | cons x l ih =>
  obtain ⟨m,hm,he⟩:=h;simp only[List.filter_cons];rcases List.mem_cons.1 hm with rfl|hm
  ·have:=mono l
   rw [he,if_neg (by simp),if_pos (by simpa using hab)];simp only[List.length_cons];omega
  ·have:=ih ⟨m,hm,he⟩
   by_cases h1:f x.no<f a
   ·rw[if_pos (by simpa using h1),if_pos (by simp;omega)];simp only[List.length_cons];omega
   ·rw [if_neg (by simpa using h1)]
    split
    ·simp only[List.length_cons];omega
    ·exact this
theorem rank_of {S:TreeD} {f:Int→Nat} (h:∀no,no≠0→aboveF S no≠0→aboveF S no≠no→f (aboveF S no)<f no∧∃m∈S.nodes,m.no=aboveF S no):∃r,Rank S r:=
 ⟨fun no=>(S.nodes.filter fun m=>decide (f m.no<f no)).length,fun no h0 h1 h2=>cnt_lt (h no h0 h1 h2).1 (h no h0 h1 h2).2,fun _=>List.length_filter_le ..⟩
theorem Tre.up {c:Nat} {S:TreeD} (h:Tre c S) {no:Int} (hk:(Proofs.YtpibnfdolojpcaaGreat.getN S.nodes no).kind=1):UpOk S (Proofs.YtpibnfdolojpcaaGreat.getN S.nodes no):=h.ups0 _ (getN_node hk).2.2 hk
theorem Tre.above {c:Nat} {S:TreeD} (h:Tre c S) (no:Int) (h0:aboveF S no≠0) (hs:aboveF S no≠no) :
  ∃ n∈S.nodes,∃m∈S.nodes,n.no=no∧n.kind=1∧m.no=aboveF S no∧m.kind=1∧(m.dev<n.dev∨(m.dev=n.dev∧m.no=n.up∧n.up≠n.no)):=by
 unfold aboveF at h0 hs⊢
 by_cases hk:(Proofs.YtpibnfdolojpcaaGreat.getN S.nodes no).kind=1
 ·obtain ⟨_,hn,hm⟩:=getN_node hk
  rw [if_pos hk]at h0 hs⊢
  by_cases hr:rootF S.devs (Proofs.YtpibnfdolojpcaaGreat.getN S.nodes no).dev=no∧1<(Proofs.YtpibnfdolojpcaaGreat.getN S.nodes no).dev
  ·rw [if_pos hr]at h0 hs⊢
   rcases rootF_zero h.roots (Proofs.YtpibnfdolojpcaaGreat.getN S.nodes no).dev with⟨e1,_⟩|⟨k,hkl,e1,_,e3,e4,e5,_⟩
   ·obtain ⟨h1,h2⟩:=hr
    rw [e1]at h1;rw [←h1]at hm hn;have:=h.nos.2 _ hm;omega
   ·obtain ⟨j,rfl⟩:∃j,k=j+1:=⟨k-1,by omega⟩
    rw [e3]at h0 hs⊢;obtain ⟨m,hm2,o1,o2,o3,o4⟩:=h.overs j hkl;have hg:=(mem_getN h.nos hm2).1;rw [o1]at hg;rw [hg]at h0 hs⊢;rcases h.ups0 m hm2 o2 with⟨u1,_⟩|⟨_,u2,m2,hm3,u3,u4,u5,_⟩
    ·exact absurd u1 o4
    ·exact⟨_,hm,m2,hm3,hn,hk,u3,u4,.inl (by omega)⟩
  ·rw [if_neg hr]at h0 hs⊢
   rcases h.up hk with⟨_,u2⟩|⟨_,u2,m2,hm3,u3,u4,u5,_⟩
   ·exact absurd (u2.trans hn) hs
   ·exact⟨_,hm,m2,hm3,hn,hk,u3,u4,.inr ⟨u5,u3,u2⟩⟩
 ·rw[if_neg hk]at h0;exact absurd rfl h0
theorem Tre.rank {c:Nat} {S:TreeD} (h:Tre c S):∃r,Rank S r:=by
 obtain ⟨d,hd⟩:=h.deep;obtain ⟨N,hN⟩:∃N,N=S.nodes.length+1:=⟨_,rfl⟩;obtain ⟨e,he⟩:∃e:Int→Nat,e=fun no=>(S.nodes.filter fun m=>decide (d m.no<d no)).length:=⟨_,rfl⟩
 have hb:∀no,e no<N:=fun no=>by rw[he,hN];exact Nat.lt_succ_of_le (List.length_filter_le ..)
 refine rank_of (f:=fun no=>(Proofs.YtpibnfdolojpcaaGreat.getN S.nodes no).dev.toNat*N+e no) fun no h0 h1 h2=>?_
 obtain ⟨n,hn,m,hm,a1,a2,a3,a4,a5⟩:=h.above no h1 h2;have g1:=(mem_getN h.nos hn).1;have g2:=(mem_getN h.nos hm).1;rw [a1]at g1;rw [a3]at g2;refine ⟨?_,m,hm,a3⟩;show (Proofs.YtpibnfdolojpcaaGreat.getN S.nodes (aboveF S no)).dev.toNat*N+e (aboveF S no)<(Proofs.YtpibnfdolojpcaaGreat.getN S.nodes no).dev.toNat*N+e no;rw [g1,g2];have p1:=(hasD_lt (h.on _ hn).1).1;have p2:=(hasD_lt (h.on _ hm).1).1;rcases a5 with a5|⟨a5,a6,a7⟩
 ·have q1:m.dev.toNat+1≤n.dev.toNat:=by omega
  have q2:=hb (aboveF S no);have q3:=Nat.mul_le_mul_right N q1;rw [Nat.add_mul]at q3;omega
 ·rw [a5]
  have:e (aboveF S no)<e no:=by
   rw [he];refine cnt_lt ?_ ⟨m,hm,a3⟩;have:=hd n hn a2 a7;rw [←a6,a3,a1]at this;exact this
  omega
theorem mem_set' {S:TreeD} {n m:NodeD} (h:m∈S.nodes) (hne:m.no≠n.no):m∈(setT S n).nodes:=by
 have:=set_has (n:=n) h;rw [if_neg hne]at this;exact this
theorem mem_set_self {S:TreeD} {n m:NodeD} (h:m∈S.nodes) (he:m.no=n.no):n∈(setT S n).nodes:=by
 have:=set_has (n:=n) h;rw [if_pos he]at this;exact this
theorem mem_setT {S:TreeD} {n m:NodeD} (h:m∈(setT S n).nodes):(m∈S.nodes∧m.no≠n.no)∨m=n:=by
 unfold setT setN at h;obtain ⟨x,hx,e⟩:=List.mem_map.1 h;split at e
 ·exact .inr e.symm
 ·rename_i hne
  rw [←e];exact .inl ⟨hx,by simpa using hne⟩
theorem tre_set {c c':Nat} {k k':Int} {S:TreeD} (h:TreB c k S) (hkk:k=0∨k=k') {n:NodeD} (hi:isN S.nodes n.no=true) (hcc:c≤c') (hk:n.kind=(getN S.nodes n.no).kind) (hv:n.dev=(getN S.nodes n.no).dev) (hu:n.up=(getN S.nodes n.no).up)
  (hl:n.kind=1→n.links=1) (hr:Rise n.ents) (hn:∀x∈n.ents,x.1≠[]∧x.1.length≤255) (hp:∀x∈n.ents,1≤x.2∧x.2≤S.last) (hs:n.ents.length≤c') (hd:n.data.length≤1048576)
  (hb:0≤n.mode∧n.mode≤1023∧1≤n.links∧n.links≤1000) (hx:∀x∈n.ents,Kin S n.no n.dev x.2)
  (keep:∀q∈S.nodes,q.kind=1→q.no≠k'→q.up=n.no→q.no≠n.no→∃x∈n.ents,x.2=q.no):TreB c' k' (setT S n):=by
 have hm0:=(isN_true hi).2;obtain ⟨m0,hm0e⟩:∃m0,m0=Proofs.YtpibnfdolojpcaaGreat.getN S.nodes n.no:=⟨_,rfl⟩;rw [←hm0e]at hk hv hu hm0;have same:∀m∈S.nodes,m.no=n.no→m=m0:=fun m hm e=>by
  have:=(mem_getN h.nos hm).1;rw [e]at this;rw [hm0e,this]
 have move:∀m∈S.nodes,∃m'∈(setT S n).nodes,m'.no=m.no∧m'.kind=m.kind∧m'.dev=m.dev:=by
  intro m hm
  by_cases e:m.no=n.no
  ·have:=same m hm e
   subst this;exact ⟨n,mem_set_self hm e,e.symm,hk,hv⟩
  ·exact⟨m,mem_set' hm e,rfl,rfl,rfl⟩
 have upk:∀q∈S.nodes,q.kind=1→q.no≠k'→(q.no≠n.no∨q=m0)→∀q',q'.no=q.no→q'.dev=q.dev→q'.up=q.up→UpOk (setT S n) q':=by
  intro q hq hqk hqk' hqn q' e1 e2 e3;unfold UpOk;rw [e1,e2,e3];have hq0:q.no≠k:=by
   rcases hkk with e|e
   ·have:=(h.nos.2 q hq).1;omega
   ·rw[e];exact hqk'
  rcases h.ups q hq hqk hq0 with⟨u1,u2⟩|⟨u1,u2,m,hm,u3,u4,u5,x,hx,u6⟩
  ·exact .inl ⟨u1,u2⟩
  ·refine .inr ⟨u1,u2,?_⟩
   by_cases e:m.no=n.no
   ·have hqne:q.no≠n.no:=fun e'=>u2 (by rw[←u3,e,e'])
    obtain ⟨y,hy,hy2⟩:=keep q hq hqk hqk' (by rw[←u3,e]) hqne;have:=same m hm e;subst this;exact ⟨n,mem_set_self hm e,by rw[←u3,e],by rw[hk];exact u4,by rw[hv];exact u5,y,hy,hy2⟩
   ·exact⟨m,mem_set' hm e,u3,u4,u5,x,hx,u6⟩
 refine ⟨h.nos.set n,h.last,h.devs,h.eight,h.roots,?_,?_,?_,?_,?_,?_,?_,?_,h.root1,?_,?_,?_,?_,h.over0,?_,?_,?_⟩
 ·show ((setN S.nodes n).length:Int)≤S.last;rw[setN_len];exact h.count
 ·intro m hm
  rcases mem_setT hm with⟨hm,_⟩|rfl
  ·have:=h.small m hm;omega
  ·exact hs
 ·intro m hm
  rcases mem_setT hm with⟨hm,_⟩|rfl
  ·exact h.rise m hm
  ·exact hr
 ·intro m hm
  rcases mem_setT hm with⟨hm,_⟩|rfl
  ·exact h.names m hm
  ·exact hn
 ·intro m hm
  rcases mem_setT hm with⟨hm,_⟩|rfl
  ·exact h.pos m hm
  ·exact hp
 ·intro m hm
  rcases mem_setT hm with⟨hm,_⟩|rfl
  ·exact h.on m hm
  ·exact⟨by rw[hv];exact (h.on _ hm0.2).1,hd⟩
 ·obtain ⟨m,hm,e⟩:=h.first
  obtain ⟨m',hm',e',_⟩:=move m hm;exact ⟨m',hm',e'.trans e⟩
 ·intro m hm e
  rcases mem_setT hm with⟨hm,_⟩|rfl
  ·exact h.one m hm e
  ·have:=h.one _ hm0.2 (hm0.1.trans e)
   rw [hk,hv,hu];exact this
 ·intro m hm hmk
  rcases mem_setT hm with⟨hm,_⟩|rfl
  ·exact h.dlinks m hm hmk
  ·exact hl hmk
 ·intro m hm hmk hmk'
  rcases mem_setT hm with⟨hm,hne⟩|rfl
  ·exact upk m hm hmk hmk' (.inl hne) m rfl rfl rfl
  ·exact upk m0 hm0.2 (hk.symm.trans hmk) (by rw[hm0.1];exact hmk') (.inr rfl) m hm0.1.symm hv hu
 ·intro m hm
  rcases mem_setT hm with⟨hm,_⟩|rfl
  ·exact h.bits m hm
  ·exact hb
 ·have kset:∀{no dev y:Int},Kin S no dev y→Kin (setT S n) no dev y:=fun hK=>⟨hK.1,hK.2.1,fun q hq e=>by
   rcases mem_setT hq with⟨hq,_⟩|rfl
   ·exact hK.2.2 q hq e
   ·rw[hv];exact hK.2.2 m0 hm0.2 (hm0.1.trans e)⟩
  intro m hm x hxm;rcases mem_setT hm with⟨hm,_⟩|rfl
  ·exact kset (h.kin m hm x hxm)
  ·exact kset (hx x hxm)
 ·intro j hj
  obtain ⟨m,hm,o1,o2,o3,o4⟩:=h.overs j hj;obtain ⟨m',hm',e1,e2,e3⟩:=move m hm;exact ⟨m',hm',e1.trans o1,e2.trans o2,by rw[e3];exact o3,by rw[e3,e1];exact o4⟩
 ·intro j hj
  obtain ⟨m,hm,o1,o2,o3⟩:=h.rootsIn j hj;obtain ⟨m',hm',e1,e2,e3⟩:=move m hm;exact ⟨m',hm',e1.trans o1,e2.trans o2,e3.trans o3⟩
 ·obtain ⟨d,hdd⟩:=h.deep
  refine ⟨d,fun m hm hmk hmu=>?_⟩;rcases mem_setT hm with⟨hm,_⟩|rfl
  ·exact hdd m hm hmk hmu
  ·have:=hdd m0 hm0.2 (hk.symm.trans hmk) (by rw[←hu,hm0.1];exact hmu)
   rw [←hu,hm0.1]at this;exact this
theorem tre_room {c:Nat} {k:Int} {S:TreeD} (h:TreB c k S) (d:Int) (q:SpaceD) (hq:Fine q) (l:Int) (hl:S.last≤l):TreB c k ⟨S.nodes,setQ S.devs d q,l⟩:=by
 have hro:RootsOk (setQ S.devs d q):=roots_setQ h.roots _ _ hq;obtain ⟨Q,hQ⟩:∃Q,Q=setQ S.devs d q:=⟨_,rfl⟩;have hlen:Q.length=S.devs.length:=by rw[hQ,setQ_len]
 have hat:∀k,(hk:k<Q.length)→(hk2:k<S.devs.length)→Q[k].root=S.devs[k].root∧Q[k].over=S.devs[k].over:=by
  intro k hk hk2;subst hQ;exact setQ_at hk hk2
 have hrf:∀i,rootF Q i=rootF S.devs i:=fun i=>by rw[hQ];exact rootQ _ _ _ _
 have hh:∀i,hasD Q i=hasD S.devs i:=fun i=>hasD_len hlen i
 rw [←hQ]at hro⊢;refine ⟨⟨h.nos.1,fun n hn=>⟨(h.nos.2 n hn).1,by have:=(h.nos.2 n hn).2;show n.no≤l;omega⟩⟩,by have:=h.last;show 1≤l;omega,by show 0<Q.length;rw[hlen];exact h.devs,by show Q.length≤8;rw[hlen];exact h.eight,hro,
  by have:=h.count;show (S.nodes.length:Int)≤l;omega,h.small,h.rise,h.names,fun n hn x hx=>⟨(h.pos n hn x hx).1,by have:=(h.pos n hn x hx).2;show x.2≤l;omega⟩,fun n hn=>⟨(hh _).trans (h.on n hn).1,(h.on n hn).2⟩,h.first,h.one,(hrf 1).trans h.root1,h.dlinks,?_,h.bits,?_,?_,?_,?_,h.deep⟩
 ·intro n hn hk hnk
  unfold UpOk;show (rootF Q n.dev=n.no∧_)∨(rootF Q n.dev≠n.no∧_);rw [hrf];exact h.ups n hn hk hnk
 ·intro m hm x hx
  have hK:=h.kin m hm x hx;refine ⟨hK.1,fun d hd=>?_,hK.2.2⟩;obtain ⟨i,hi,rfl⟩:=List.getElem_of_mem hd;have hi2:i<S.devs.length:=by have:i<Q.length:=hi;omega
  show x.2≠Q[i].root;rw [(hat i hi hi2).1];exact hK.2.1 _ (List.getElem_mem hi2)
 ·intro h0
  exact ((hat 0 h0 h.devs).2).trans (h.over0 h.devs)
 ·intro k hk
  have hk2:k+1<S.devs.length:=by have:k+1<Q.length:=hk;omega
  obtain ⟨m,hm,o1,o2,o3,o4⟩:=h.overs k hk2;exact ⟨m,hm,o1.trans (hat (k+1) hk hk2).2.symm,o2,o3,by show rootF Q m.dev≠m.no;rw[hrf];exact o4⟩
 ·intro k hk
  have hk2:k<S.devs.length:=by have:k<Q.length:=hk;omega
  obtain ⟨m,hm,o1,o2⟩:=h.rootsIn k hk2;exact ⟨m,hm,o1.trans (hat k hk hk2).1.symm,o2⟩
theorem tre_app {c:Nat} {S:TreeD} (h:Tre c S) {n:NodeD} (hno:n.no=S.last) (hlt:∀m∈S.nodes,m.no<S.last) (hc:(S.nodes.length:Int)+1≤S.last) (he:n.ents=[]) (hd:n.data.length≤1048576) (hh:hasD S.devs n.dev=true) (hb:0≤n.mode∧n.mode≤1023∧1≤n.links∧n.links≤1000) (hkin:∀m∈S.nodes,∀x∈m.ents,x.2=n.no→n.dev=m.dev)
  (hk:n.kind=1→n.links=1∧rootF S.devs n.dev≠n.no∧∃m∈S.nodes,m.no=n.up∧m.kind=1∧m.dev=n.dev∧∃x∈m.ents,x.2=n.no):Tre c ⟨S.nodes++[n],S.devs,S.last⟩:=by
 have sub:∀m∈S.nodes,m∈S.nodes++[n]:=fun m hm=>List.mem_append_left _ hm
 have h1:=h.last;have new:∀{m:NodeD},m∈S.nodes++[n]→m∈S.nodes∨m=n:=fun hm=>by
  rcases List.mem_append.1 hm with hm|hm
  ·exact .inl hm
  ·exact .inr (List.mem_singleton.1 hm)
 have hupn:n.kind=1→n.up<n.no:=fun hkk=>by
  obtain ⟨_,_,m,hm,e,_⟩:=hk hkk;have:=hlt m hm;omega
 refine ⟨⟨?_,?_⟩,h.last,h.devs,h.eight,h.roots,?_,?_,?_,?_,?_,?_,?_,?_,h.root1,?_,?_,?_,?_,h.over0,?_,?_,?_⟩
 ·rw [List.pairwise_append]
  refine ⟨h.nos.1,List.pairwise_singleton ..,fun a ha b hb=>?_⟩;rw [List.mem_singleton]at hb;subst hb;rw [hno];exact hlt a ha
 ·intro m hm
  rcases new hm with hm|rfl
  ·exact h.nos.2 m hm
  ·rw[hno];exact⟨h1,Int.le_refl _⟩
 ·show ((S.nodes++[n]).length:Int)≤S.last
  simp;exact hc
 ·intro m hm
  rcases new hm with hm|rfl
  ·exact h.small m hm
  ·rw[he];exact Nat.zero_le _
 ·intro m hm
  rcases new hm with hm|rfl
  ·exact h.rise m hm
  ·rw[he];exact List.Pairwise.nil
 ·intro m hm
  rcases new hm with hm|rfl
  ·exact h.names m hm
  ·intro x hx;rw[he]at hx;cases hx
 ·intro m hm
  rcases new hm with hm|rfl
  ·exact h.pos m hm
  ·intro x hx;rw[he]at hx;cases hx
 ·intro m hm
  rcases new hm with hm|rfl
  ·exact h.on m hm
  ·exact⟨hh,hd⟩
 ·obtain ⟨m,hm,e⟩:=h.first
  exact ⟨m,sub m hm,e⟩
 ·intro m hm e
  rcases new hm with hm|rfl
  ·exact h.one m hm e
  ·obtain ⟨m,hm,e2⟩:=h.first
   have:=hlt m hm;omega
 ·intro m hm hmk
  rcases new hm with hm|rfl
  ·exact h.dlinks m hm hmk
  ·exact (hk hmk).1
 ·intro m hm hmk _
  rcases new hm with hm|rfl
  ·rcases h.ups0 m hm hmk with u|⟨u1,u2,q,hq,u3⟩
   ·exact .inl u
   ·exact .inr ⟨u1,u2,q,sub q hq,u3⟩
  ·obtain ⟨_,k2,q,hq,k3⟩:=hk hmk
   exact .inr ⟨k2,by have:=hupn hmk;omega,q,sub q hq,k3⟩
 ·intro m hm
  rcases new hm with hm|rfl
  ·exact h.bits m hm
  ·exact hb
 ·intro m hm x hx
  rcases new hm with hm1|rfl
  ·have hK:=h.kin m hm1 x hx
   have hkk:=hkin m hm1 x hx;refine ⟨hK.1,hK.2.1,fun q hq e=>?_⟩;rcases new hq with hq|e2
   ·exact hK.2.2 q hq e
   ·rw [e2]at e⊢
    exact hkk e.symm
  ·rw[he]at hx;cases hx
 ·intro k hkk
  obtain ⟨m,hm,o⟩:=h.overs k hkk;exact ⟨m,sub m hm,o⟩
 ·intro k hkk
  obtain ⟨m,hm,o⟩:=h.rootsIn k hkk;exact ⟨m,sub m hm,o⟩
 ·obtain ⟨d,hdd⟩:=h.deep
  refine ⟨fun k=>if k=n.no then d n.up+1 else d k,fun m hm hmk hmu=>?_⟩;rcases new hm with hm|rfl
  ·have e1:m.no≠n.no:=by have:=hlt m hm;omega
   have e2:m.up≠n.no:=by
    rcases h.ups0 m hm hmk with⟨_,u⟩|⟨_,_,q,hq,u,_⟩
    ·rw[u];exact e1
    ·have:=hlt q hq;omega
   show (if m.up=n.no then _ else _)<(if m.no=n.no then _ else _);rw [if_neg e1,if_neg e2];exact hdd m hm hmk hmu
  ·show (if m.up=m.no then _ else _)<(if m.no=m.no then _ else _)
   rw [if_pos rfl,if_neg hmu];omega
theorem tre_come {c:Nat} {S:TreeD} (h:Tre c S) {d n:NodeD} {nm:List UInt8} (hi:isN S.nodes d.no=true) (hdk:(getN S.nodes d.no).kind=1) (hk:d.kind=1) (hv:d.dev=(getN S.nodes d.no).dev) (hu:d.up=(getN S.nodes d.no).up)
  (hl:d.links=1) (hdat:d.data.length≤1048576) (hen:d.ents=putF (getN S.nodes d.no).ents (nm,S.last+1)) (hfree:findF (getN S.nodes d.no).ents nm=0) (hnm:nm≠[]∧nm.length≤255)
  (hne:n.ents=[]) (hnd:n.data.length≤1048576) (hdev:n.dev=d.dev) (hnk:n.kind=1→n.links=1∧n.up=d.no) (hdm:d.mode=(getN S.nodes d.no).mode) (hnb:0≤n.mode∧n.mode≤1023∧n.links=1) (h0:makeE S n=0):Tre (c+1) (setT (makeT S n) d):=by
 have hm0:=(isN_true hi).2;obtain ⟨m0,hm0e⟩:∃m0,m0=Proofs.YtpibnfdolojpcaaGreat.getN S.nodes d.no:=⟨_,rfl⟩;rw [←hm0e]at hv hu hen hm0 hdk hfree hdm;have hhas:hasD S.devs n.dev=true:=by rw[hdev,hv];exact (h.on _ hm0.2).1
 have hfine:Fine (takeQ (devN S.devs n.dev).q (blocksF n.kind n.data.length) 1):=by
  rcases rootF_zero h.roots n.dev with⟨_,e2⟩|⟨k,hk,_,_,e3,_,_,e6⟩
  ·rw[e2]at hhas;cases hhas
  ·rw[e3];exact takeQ_fine e6
 have hA:=tre_room h n.dev _ hfine (S.last+1) (by omega);have hlast:∀m∈S.nodes,m.no<S.last+1:=fun m hm=>by have:=(h.nos.2 m hm).2;omega
 have hdno:d.no≠S.last+1:=by have:=hlast _ hm0.2;omega
 have hput:∀x∈m0.ents,x.1≠nm:=by
  intro x hx e;unfold findF at hfree
  cases hf:m0.ents.find? (fun x=>x.1 == nm) with
  | none=>have:=List.find?_eq_none.1 hf x hx;simp at this;exact this e
  | some y =>
   rw [hf]at hfree;have:=(h.pos _ hm0.2 y (List.mem_of_find?_eq_some hf)).1;simp only at hfree;omega
 have hkeep:∀x∈m0.ents,x∈d.ents:=by
  intro x hx;rw [hen];unfold putF lessF moreF;simp only[List.mem_append,List.mem_filter,List.mem_singleton];rcases bl_tri x.1 nm with g|g|g
  ·exact .inl (.inl ⟨hx,g⟩)
  ·exact absurd g (hput x hx)
  ·exact .inr ⟨hx,g⟩
 have hnew:(nm,S.last+1)∈d.ents:=by rw[hen];unfold putF;simp
 obtain ⟨S1,hS1⟩:∃S1:TreeD,S1=⟨S.nodes,setQ S.devs n.dev (takeQ (devN S.devs n.dev).q (blocksF n.kind n.data.length) 1),S.last+1⟩:=⟨_,rfl⟩;rw [←hS1]at hA;have hN1:S1.nodes=S.nodes:=by rw[hS1]
 have hD1:∀i,rootF S1.devs i=rootF S.devs i:=fun i=>by rw[hS1];exact rootQ _ _ _ _
 have hB : Tre (c+1) (setT S1 d):=by
  refine tre_set hA (.inl rfl) (by rw[hN1];exact hi) (by omega) (by rw[hN1,←hm0e,hdk];exact hk) (by rw[hN1,←hm0e];exact hv) (by rw[hN1,←hm0e];exact hu) (fun _=>hl) ?_ ?_ ?_ ?_ hdat (by have:=h.bits _ hm0.2;rw[hdm,hl];omega) ?_ ?_
  ·rw[hen];exact rise_putF _ (h.rise _ hm0.2)
  ·intro x hx
   rw [hen]at hx;rcases mem_putF hx with hx|rfl
   ·exact h.names _ hm0.2 x hx
   ·exact hnm
  ·intro x hx
   rw [hen]at hx;rw [hS1];have:=h.last;rcases mem_putF hx with hx|rfl
   ·have:=h.pos _ hm0.2 x hx
    exact ⟨this.1,by show x.2≤S.last+1;omega⟩
   ·exact⟨by show 1≤S.last+1;omega,Int.le_refl _⟩
  ·rw [hen]
   have:=putF_len m0.ents (nm,S.last+1);have:=h.small _ hm0.2;omega
  ·intro x hx
   rw [hen]at hx;rw [←hm0.1,hv];rcases mem_putF hx with hx|rfl
   ·have hK:=hA.kin m0 (by rw[hN1];exact hm0.2) x hx
    exact hK
   ·have hlm:=hlast _ hm0.2
    refine ⟨by show S.last+1≠m0.no;omega,fun q hq=>?_,fun q hq e=>?_⟩
    ·obtain ⟨i,hi,rfl⟩:=List.getElem_of_mem hq
     obtain ⟨m,hm,o1,_⟩:=hA.rootsIn i hi;rw [hN1]at hm;have:=hlast m hm;show S.last+1≠_;omega
    ·rw [hN1]at hq
     have:=hlast q hq;have:q.no=S.last+1:=e;omega
  ·intro q hq hqk _ hqu hqn
   rw [hN1]at hq;rcases h.ups0 q hq hqk with⟨_,u2⟩|⟨_,_,m,hm,u3,_,_,x,hx,u6⟩
   ·exact absurd (u2.symm.trans hqu) hqn
   ·have:m=m0:=by
     have:=(mem_getN h.nos hm).1;rw [u3,hqu]at this;rw [hm0e,this]
    subst this;exact ⟨x,hkeep x hx,u6⟩
 have hset:setT (makeT S n) d=⟨(setT S1 d).nodes++[{n with no:=S.last+1}],(setT S1 d).devs,(setT S1 d).last⟩:=by
  unfold makeT setT setN;rw [if_pos h0,hS1];simp only[List.map_append,List.map_cons,List.map_nil];rw [if_neg (by simpa using (Ne.symm hdno))]
 rw [hset];have hlS:(setT S1 d).last=S.last+1:=by rw[hS1];rfl
 have hdS:(setT S1 d).devs=S1.devs:=rfl;refine tre_app hB (by rw[hlS]) ?_ ?_ hne hnd ?_ (by show 0≤n.mode∧n.mode≤1023∧1≤n.links∧n.links≤1000;omega) ?_ ?_
 ·intro m hm
  rw [hlS];rcases mem_setT hm with⟨hm,_⟩|rfl
  ·rw[hN1]at hm;exact hlast m hm
  ·have:=hlast _ hm0.2;omega
 ·show ((setN S1.nodes d).length:Int)+1≤_
  rw [setN_len,hN1,hlS];have:=h.count;omega
 ·rw [hdS]
  show hasD S1.devs n.dev=true;rw [hS1];exact (hasD_len (setQ_len _ _ _) _).trans hhas
 ·intro m hm x hx e
  have e':x.2=S.last+1:=e;show n.dev=m.dev;rcases mem_setT hm with⟨hm,_⟩|rfl
  ·rw [hN1]at hm
   have:=(h.pos m hm x hx).2;omega
  ·exact hdev
 ·intro hkk
  obtain ⟨k1,k2⟩:=hnk hkk;refine ⟨k1,?_,d,?_,k2.symm,hk,hdev.symm,_,hnew,rfl⟩
  ·rw [hdS,hD1]
   show rootF S.devs n.dev≠S.last+1;rcases rootF_zero h.roots n.dev with⟨e1,_⟩|⟨k,hkl,e1,_,e3,e4,e5,_⟩
   ·have:=h.last;omega
   ·obtain ⟨m,hm,o1,_⟩:=h.rootsIn k hkl
    have:=hlast m hm;omega
  ·exact mem_set_self (S:=S1) (by rw[hN1];exact hm0.2) hm0.1
theorem tre_root {c:Nat} {S:TreeD} (h:Tre c S) {over b n:Int} (h8:S.devs.length<8) (hl:limitsF b n=true) (ho:∃m∈S.nodes,m.no=over∧m.kind=1∧rootF S.devs m.dev≠m.no):Tre c (rootT S over b n):=by
 have sub:∀m∈S.nodes,m∈(rootT S over b n).nodes:=fun m hm=>List.mem_append_left _ hm
 have hself:rootNode S∈(rootT S over b n).nodes:=List.mem_append_right _ (List.mem_singleton.2 rfl);have new:∀{m:NodeD},m∈(rootT S over b n).nodes→m∈S.nodes∨m=rootNode S:=fun hm=>by
  rcases List.mem_append.1 hm with hm|hm
  ·exact .inl hm
  ·exact .inr (List.mem_singleton.1 hm)
 have hl1:=h.last;have hlen:(rootT S over b n).devs.length=S.devs.length+1:=by simp[rootT]
 have hrf:∀x∈S.nodes,rootF (rootT S over b n).devs x.dev=rootF S.devs x.dev:=fun x hx=>rootApp (h.on x hx).1
 have hold:∀k,(hk:k<S.devs.length)→(hk':k<(rootT S over b n).devs.length)→(rootT S over b n).devs[k]'hk'=S.devs[k]:=fun k hk hk'=>app_left S.devs _ k hk hk'
 have hnew:∀k,(hk:k=S.devs.length)→(hk':k<(rootT S over b n).devs.length)→(rootT S over b n).devs[k]'hk'=⟨S.last+1,over,⟨1,1,b,n⟩⟩:=fun k hk hk'=>app_right S.devs _ k hk hk'
 have hrn:rootF (rootT S over b n).devs (rootNode S).dev=(rootNode S).no:=by
  show rootF (rootT S over b n).devs ((S.devs.length:Int)+1)=S.last+1;rw [rootAt (by rw[hlen];omega:S.devs.length<(rootT S over b n).devs.length),hnew _ rfl]
 refine ⟨h.nos.add (rootNode S) rfl (by omega),by show 1≤S.last+1;omega,by rw[hlen];omega,by rw[hlen];omega,?_,?_,?_,?_,?_,?_,?_,?_,?_,?_,?_,?_,?_,?_,?_,?_,?_,?_⟩
 ·intro d hd
  rcases List.mem_append.1 hd with hd|hd
  ·exact h.roots d hd
  ·rw [List.mem_singleton]at hd
   subst hd;refine ⟨by show 0<S.last+1;omega,?_⟩;rcases limits_cases b n with⟨h1,h2,h3,h4,_⟩|⟨h0,_⟩
   ·exact⟨show (0:Int)≤1 by decide,show (0:Int)≤1 by decide,h1,h3,h2,h4⟩
   ·rw[h0]at hl;cases hl
 ·have:=h.count;show ((S.nodes++[rootNode S]).length:Int)≤S.last+1;simp;exact this
 ·intro m hm
  rcases new hm with hm|rfl
  ·exact h.small m hm
  ·exact Nat.zero_le _
 ·intro m hm
  rcases new hm with hm|rfl
  ·exact h.rise m hm
  ·exact List.Pairwise.nil
 ·intro m hm
  rcases new hm with hm|rfl
  ·exact h.names m hm
  ·intro x hx;simp[rootNode,nodeZ]at hx
 ·intro m hm
  rcases new hm with hm|rfl
  ·exact fun x hx=>⟨(h.pos m hm x hx).1,by have:=(h.pos m hm x hx).2;show x.2≤S.last+1;omega⟩
  ·intro x hx;simp[rootNode,nodeZ]at hx
 ·intro m hm
  rcases new hm with hm|rfl
  ·exact⟨hasApp (h.on m hm).1,(h.on m hm).2⟩
  ·refine ⟨?_,by simp[rootNode,nodeZ]⟩
   unfold hasD;rw [hlen];show (decide ((1:Int)≤(S.devs.length:Int)+1)&&decide ((S.devs.length:Int)+1≤((S.devs.length+1:Nat):Int)))=true;rw [Bool.and_eq_true,decide_eq_true_eq,decide_eq_true_eq];omega
 ·obtain ⟨m,hm,e⟩:=h.first
  exact ⟨m,sub m hm,e⟩
 ·intro m hm e
  rcases new hm with hm|rfl
  ·exact h.one m hm e
  ·have:S.last+1=1:=e
   omega
 ·show rootF (S.devs++_) 1=1
  rw [rootApp (by have:=h.devs;unfold hasD;simp;omega)];exact h.root1
 ·intro m hm hk
  rcases new hm with hm|rfl
  ·exact h.dlinks m hm hk
  ·rfl
 ·intro m hm hk _
  rcases new hm with hm|rfl
  ·unfold UpOk
   rw [hrf m hm];rcases h.ups0 m hm hk with u|⟨u1,u2,q,hq,u3⟩
   ·exact .inl u
   ·exact .inr ⟨u1,u2,q,sub q hq,u3⟩
  ·exact .inl ⟨hrn,rfl⟩
 ·intro m hm
  rcases new hm with hm|rfl
  ·exact h.bits m hm
  ·exact⟨by show (0:Int)≤493;decide,by show (493:Int)≤1023;decide,by show (1:Int)≤1;decide,by show (1:Int)≤1000;decide⟩
 ·intro m hm x hx
  rcases new hm with hm|rfl
  ·have hK:=h.kin m hm x hx
   have hp:=(h.pos m hm x hx).2;refine ⟨hK.1,fun d hd=>?_,fun q hq e=>?_⟩
   ·rcases List.mem_append.1 hd with hd|hd
    ·exact hK.2.1 d hd
    ·rw [List.mem_singleton]at hd
     subst hd;show x.2≠S.last+1;omega
   ·rcases new hq with hq|rfl
    ·exact hK.2.2 q hq e
    ·have:S.last+1=x.2:=e
     omega
  ·simp[rootNode,nodeZ]at hx
 ·intro h0
  exact (congrArg DevD.over (hold 0 h.devs h0)).trans (h.over0 h.devs)
 ·intro k hk
  rw [hlen]at hk
  by_cases hk2:k+1<S.devs.length
  ·obtain ⟨m,hm,o1,o2,o3,o4⟩:=h.overs k hk2
   rw [hold (k+1) hk2];exact ⟨m,sub m hm,o1,o2,o3,by rw[hrf m hm];exact o4⟩
  ·obtain ⟨m,hm,o1,o2,o3⟩:=ho
   rw [hnew (k+1) (by omega)];refine ⟨m,sub m hm,o1,o2,?_,by rw[hrf m hm];exact o3⟩;have:=(hasD_lt (h.on m hm).1).2;omega
 ·intro k hk
  rw [hlen]at hk
  by_cases hk2:k<S.devs.length
  ·obtain ⟨m,hm,o⟩:=h.rootsIn k hk2
   rw [hold k hk2];exact ⟨m,sub m hm,o⟩
  ·rw [hnew k (by omega)]
   refine ⟨rootNode S,hself,rfl,rfl,?_⟩;show (S.devs.length:Int)+1=k+1;omega
 ·obtain ⟨d,hd⟩:=h.deep
  refine ⟨d,fun m hm hk hmu=>?_⟩;rcases new hm with hm|rfl
  ·exact hd m hm hk hmu
  ·exact absurd rfl hmu
theorem tre_mount {c:Nat} {S:TreeD} (h:Tre c S) (a b n:Int):Tre c (mountT S a b n):=by
 unfold mountT;split
 ·rename_i h0
  refine tre_root h (mountE_zero h0).1 (mountE_zero h0).2 ?_;unfold mountE at h0;split at h0
  ·cases h0
  ·rename_i hi
   split at h0
   ·cases h0
   ·rename_i hk
    split at h0
    ·cases h0
    ·rename_i ho
     rw [not_or]at ho;have hi2:isN S.nodes a=true:=by simpa using hi
     have hm:=isN_true hi2;exact ⟨_,hm.2.2,hm.2.1,Decidable.not_not.1 hk,by rw[hm.2.1];exact ho.2⟩
 ·exact h
theorem tre_first {b n:Int} (hl:limitsF b n=true):Tre 0 (rootT emptyT 0 b n):=by
 have hg:=grown_first hl;have one:∀{m:NodeD},m∈(rootT emptyT 0 b n).nodes→m=rootNode emptyT:=fun hm=>by simpa [rootT,emptyT]using hm
 refine ⟨hg.good.nos,hg.good.last,hg.good.devs,hg.good.eight,hg.good.roots,hg.good.count,?_,hg.good.rise,hg.names,?_,hg.on,hg.first,hg.one,hg.dev1,?_,?_,?_,?_,fun _=>rfl,?_,?_,⟨fun _=>0,?_⟩⟩
 ·intro m hm;rw[one hm];exact Nat.le_refl _
 ·intro m hm x hx;rw[one hm]at hx;simp[rootNode,nodeZ]at hx
 ·intro m hm _;rw[one hm];rfl
 ·intro m hm _ _;rw[one hm];exact .inl ⟨rfl,rfl⟩
 ·intro m hm;rw[one hm];exact⟨by show (0:Int)≤493;decide,by show (493:Int)≤1023;decide,by show (1:Int)≤1;decide,by show (1:Int)≤1000;decide⟩
 ·intro m hm x hx;rw[one hm]at hx;simp[rootNode,nodeZ]at hx
 ·intro k hk
  have:k+1<1:=hk;omega
 ·intro k hk
  have hk2:k<1:=hk;have:k=0:=by omega
  subst this;exact ⟨rootNode emptyT,List.mem_append_right _ (List.mem_singleton.2 rfl),rfl,rfl,rfl⟩
 ·intro m hm _ hu;rw[one hm]at hu;exact absurd rfl hu
theorem tre_mono {c c':Nat} {k:Int} {S:TreeD} (h:TreB c k S) (hc:c≤c'):TreB c' k S:=
 { h with small:=fun n hn=>by have:=h.small n hn;omega}
open Go.ChangeShapes Go.WideShapes Go.ChangeAt Go.RowKit
open Go
attribute [local irreducible] wpQuiet
def killB (S:TreeD) (no:Int):Bool:=isN S.nodes no&&!(rootF S.devs (getN S.nodes no).dev == no)
def killQ (S:TreeD) (n:NodeD):List DevD:=setQ S.devs n.dev (takeQ (devN S.devs n.dev).q (-(blocksF n.kind n.data.length)) (-1))
def killT (S:TreeD) (no:Int):TreeD:=if killB S no=true then⟨dropN S.nodes no,killQ S (getN S.nodes no),S.last⟩ else S
end Go.Proofs.YtpibnfdolojpcaaGreat
namespace Go.Proofs.YtpibnfdolojpcaaGreat
structure Live (S:TreeD):Prop where
 nos:NosUp S.nodes S.last
 last:1≤S.last
 devs:0<S.devs.length
 eight:S.devs.length≤8
 roots:RootsOk S.devs
 count:S.nodes.length≤S.last
 on:OnDev S
 first:∃m∈S.nodes,m.no=1
 one:∀n∈S.nodes,n.no=1→n.dev=1
 root1:rootF S.devs 1=1
theorem Live.fine {S:TreeD} (h:Live S) {d:Int} (hd:hasD S.devs d=true) (b n:Int):Fine (takeQ (devN S.devs d).q b n):=by
 rcases rootF_zero h.roots d with⟨_,e2⟩|⟨k,hk,_,_,e3,_,_,e6⟩
 ·rw[e2]at hd;cases hd
 ·rw[e3];exact takeQ_fine e6
theorem mountT_last {S:TreeD} (a b n:Int):(mountT S a b n).last≤S.last+1:=by
 unfold mountT;split
 ·exact Int.le_refl _
 ·omega
theorem killT_last (S:TreeD) (no:Int):(killT S no).last=S.last:=by unfold killT;split<;>rfl
theorem fillT_last (S:TreeD) (no:Int) (d:List UInt8):(fillT S no d).last=S.last:=by unfold fillT;split<;>rfl
theorem mem_drop {ns:List NodeD} {no:Int} {m:NodeD} (h:m∈dropN ns no):m∈ns∧m.no≠no:=by
 unfold dropN at h;rw [List.mem_filter]at h;exact ⟨h.1,by simpa using h.2⟩
theorem drop_mem {ns:List NodeD} {no:Int} {m:NodeD} (h:m∈ns) (hne:m.no≠no):m∈dropN ns no:=List.mem_filter.2 ⟨h,by simpa using hne⟩
theorem tre_drop {c:Nat} {k k':Int} {S:TreeD} (h:TreB c k S) {no:Int} (h1:no≠1) (hroot:∀j,(hj:j<S.devs.length)→S.devs[j].root≠no) (hover:∀j,(hj:j+1<S.devs.length)→S.devs[j+1].over≠no)
  (hup:∀q∈S.nodes,q.kind=1→q.no≠no→q.no≠k'→UpOk S q∧(rootF S.devs q.dev≠q.no→q.up≠no)):TreB c k' ⟨dropN S.nodes no,S.devs,S.last⟩:=by
 have hlen:(dropN S.nodes no).length≤S.nodes.length:=List.length_filter_le ..;refine ⟨h.nos.drop no,h.last,h.devs,h.eight,h.roots,?_,?_,?_,?_,?_,?_,?_,?_,h.root1,?_,?_,?_,?_,h.over0,?_,?_,?_⟩
 ·have:=h.count
  show ((dropN S.nodes no).length:Int)≤S.last;omega
 ·exact fun m hm=>h.small m (mem_drop hm).1
 ·exact fun m hm=>h.rise m (mem_drop hm).1
 ·exact fun m hm=>h.names m (mem_drop hm).1
 ·exact fun m hm=>h.pos m (mem_drop hm).1
 ·exact fun m hm=>h.on m (mem_drop hm).1
 ·obtain ⟨m,hm,e⟩:=h.first
  exact ⟨m,drop_mem hm (by rw[e];exact Ne.symm h1),e⟩
 ·exact fun m hm=>h.one m (mem_drop hm).1
 ·exact fun m hm=>h.dlinks m (mem_drop hm).1
 ·intro m hm hk hmk
  obtain ⟨hm,hne⟩:=mem_drop hm;obtain ⟨u,v⟩:=hup m hm hk hne hmk;rcases u with u|⟨u1,u2,q,hq,u3,u4⟩
  ·exact .inl u
  ·exact .inr ⟨u1,u2,q,drop_mem hq (by rw[u3];exact v u1),u3,u4⟩
 ·exact fun m hm=>h.bits m (mem_drop hm).1
 ·intro m hm x hx
  have hK:=h.kin m (mem_drop hm).1 x hx;exact ⟨hK.1,hK.2.1,fun q hq e=>hK.2.2 q (mem_drop hq).1 e⟩
 ·intro j hj
  obtain ⟨m,hm,o1,o⟩:=h.overs j hj;exact ⟨m,drop_mem hm (by rw[o1];exact hover j hj),o1,o⟩
 ·intro j hj
  obtain ⟨m,hm,o1,o⟩:=h.rootsIn j hj;exact ⟨m,drop_mem hm (by rw[o1];exact hroot j hj),o1,o⟩
 ·obtain ⟨d,hd⟩:=h.deep
  exact ⟨d,fun m hm=>hd m (mem_drop hm).1⟩
theorem node_eq {S:TreeD} (hu:NosUp S.nodes S.last) {m n:NodeD} (hm:m∈S.nodes) (hn:n∈S.nodes) (e:m.no=n.no):m=n:=by
 have h1:=(mem_getN hu hm).1;have h2:=(mem_getN hu hn).1;rw [e]at h1;exact h1.symm.trans h2
theorem over_free {c:Nat} {k:Int} {S:TreeD} (h:TreB c k S) {no:Int} (h1:1≤no) (ho:overF S.devs no=no):∀j,(hj:j+1<S.devs.length)→S.devs[j+1].over≠no:=by
 intro j hj e;unfold overF at ho;rw [if_pos (by omega)]at ho
 cases hf:S.devs.find? (fun d=>d.over == no) with
 | none =>
  have:=List.find?_eq_none.1 hf _ (List.getElem_mem hj);simp at this;exact this e
 | some x =>
  rw [hf]at ho;have hx:=List.find?_some hf;have hxm:=List.mem_of_find?_eq_some hf;obtain ⟨i,hi,rfl⟩:=List.getElem_of_mem hxm;simp only[beq_iff_eq]at hx
  cases i with
  | zero=>rw[h.over0 hi]at hx;omega
  | succ i =>
   obtain ⟨m,hm,a1,_,a3⟩:=h.rootsIn (i+1) hi;obtain ⟨q,hq,b1,_,b3,_⟩:=h.overs i hi;have:m=q:=node_eq h.nos hm hq (by rw[a1,b1,hx];exact ho);subst this;omega
theorem tre_kill {c:Nat} {k k':Int} {S:TreeD} (h:TreB c k S) {no:Int} (hk:killB S no=true) (ho:overF S.devs no=no) (hkk:k=k'∨k=no∨k=0) (hne:(getN S.nodes no).kind=1→(getN S.nodes no).ents=[]):TreB c k' (killT S no):=by
 unfold killT;rw [if_pos hk];unfold killB at hk;rw [Bool.and_eq_true]at hk;obtain ⟨hi,hr⟩:=hk;obtain ⟨_,hno,hm⟩:=isN_true hi;obtain ⟨n,hn⟩:∃n,n=Proofs.YtpibnfdolojpcaaGreat.getN S.nodes no:=⟨_,rfl⟩;rw [←hn]at hno hm hr hne⊢;have hr2:rootF S.devs n.dev≠no:=by simpa using hr
 have hon:=h.on n hm;have hfine:Fine (takeQ (devN S.devs n.dev).q (-(blocksF n.kind n.data.length)) (-1)):=by
  rcases rootF_zero h.roots n.dev with⟨_,e2⟩|⟨j,hj,_,_,e3,_,_,e6⟩
  ·rw[e2]at hon;cases hon.1
  ·rw[e3];exact takeQ_fine e6
 have hpos:=(h.nos.2 n hm).1;have hov:=over_free h (by rw[←hno];exact hpos) ho;have hroots:∀j,(hj:j<S.devs.length)→S.devs[j].root≠no:=by
  intro j hj e;obtain ⟨m,hm2,a1,_,a3⟩:=h.rootsIn j hj;have:m=n:=node_eq h.nos hm2 hm (by rw[a1,e,hno]);subst this;rw [a3,rootAt hj]at hr2;exact hr2 e
 have hA:=tre_room h n.dev _ hfine S.last (Int.le_refl _);unfold killQ;obtain ⟨Q,hQ⟩:∃Q,Q=setQ S.devs n.dev (takeQ (devN S.devs n.dev).q (-(blocksF n.kind n.data.length)) (-1)):=⟨_,rfl⟩;rw [←hQ]at hA⊢;have hlen:Q.length=S.devs.length:=by rw[hQ,setQ_len]
 have hat:∀j,(hj:j<Q.length)→(hj2:j<S.devs.length)→Q[j].root=S.devs[j].root∧Q[j].over=S.devs[j].over:=by
  intro j hj hj2;subst hQ;exact setQ_at hj hj2
 refine tre_drop hA (fun e=>?_) (fun j hj=>?_) (fun j hj=>?_) (fun q hq hqk hqn hqk'=>?_)
 ·have:=(h.one n hm (by rw[hno,e])).2.1
  rw [this,h.root1,e]at hr2;exact hr2 rfl
 ·have hj2:j<S.devs.length:=by rw[←hlen];exact hj
  show Q[j].root≠no;rw [(hat j hj hj2).1];exact hroots j hj2
 ·have hj2:j+1<S.devs.length:=by rw[←hlen];exact hj
  show Q[j+1].over≠no;rw [(hat (j+1) hj hj2).2];exact hov j hj2
 ·have hq0:q.no≠k:=by
   rcases hkk with e|e|e
   ·rw[e];exact hqk'
   ·rw[e];exact hqn
   ·have:=(h.nos.2 q hq).1;omega
  refine ⟨hA.ups q hq hqk hq0,fun hrq e=>?_⟩;rcases h.ups q hq hqk hq0 with⟨u1,_⟩|⟨_,_,m,hm2,u3,u4,_,x,hx,_⟩
  ·apply hrq
   show rootF Q q.dev=q.no;rw [hQ,rootQ];exact u1
  ·have:m=n:=node_eq h.nos hm2 hm (by rw[u3,e,hno])
   subst this;rw [hne u4]at hx;cases hx
inductive UpTo (S:TreeD) (a:Int):Int→Prop
 | here:UpTo S a a
 | up {q:NodeD} (hq:q∈S.nodes) (hk:q.kind=1) (hu:q.up≠q.no) (h:UpTo S a q.up):UpTo S a q.no
open Classical in
theorem tre_lies {c:Nat} {S:TreeD} {n m0 t:NodeD} (h:TreB c n.no S) (hm0:m0∈S.nodes) (hno:m0.no=n.no) (hk0:m0.kind=1) (hk:n.kind=1) (hv:n.dev=m0.dev) (hen:n.ents=m0.ents) (hdat:n.data.length≤1048576) (hl:n.links=1) (hmo:n.mode=m0.mode)
  (ht:t∈S.nodes) (htk:t.kind=1) (htv:t.dev=n.dev) (htx:∃x∈t.ents,x.2=n.no) (hup:n.up=t.no) (hroot:rootF S.devs n.dev≠n.no) (hin:¬UpTo S n.no t.no):Tre c (setT S n):=by
 have hi:=(mem_getN h.nos hm0).2;rw [hno]at hi;have htn:t.no≠n.no:=fun e=>hin (by rw[e];exact .here)
 have hg:=(mem_getN h.nos hm0).1;rw [hno]at hg;have move:∀m∈S.nodes,∃m'∈(setT S n).nodes,m'.no=m.no∧m'.kind=m.kind∧m'.dev=m.dev∧m'.ents=m.ents:=by
  intro m hm
  by_cases e:m.no=n.no
  ·have:m=m0:=node_eq h.nos hm hm0 (e.trans hno.symm)
   subst this;exact ⟨n,mem_set_self hm e,e.symm,hk.trans hk0.symm,hv,hen⟩
  ·exact⟨m,mem_set' hm e,rfl,rfl,rfl,rfl⟩
 have back:∀m∈(setT S n).nodes,∃m'∈S.nodes,m'.no=m.no∧m'.kind=m.kind∧m'.dev=m.dev∧m'.ents=m.ents∧m'.mode=m.mode:=by
  intro m hm;rcases mem_setT hm with⟨hm,_⟩|rfl
  ·exact⟨m,hm,rfl,rfl,rfl,rfl,rfl⟩
  ·exact⟨m0,hm0,hno,hk0.trans hk.symm,hv.symm,hen.symm,hmo.symm⟩
 refine ⟨h.nos.set n,h.last,h.devs,h.eight,h.roots,?_,?_,?_,?_,?_,?_,?_,?_,h.root1,?_,?_,?_,?_,h.over0,?_,?_,?_⟩
 ·show ((setN S.nodes n).length:Int)≤S.last;rw[setN_len];exact h.count
 ·intro m hm;obtain⟨m',hm',_,_,_,e,_⟩:=back m hm;rw[←e];exact h.small m' hm'
 ·intro m hm;obtain⟨m',hm',_,_,_,e,_⟩:=back m hm;rw[←e];exact h.rise m' hm'
 ·intro m hm;obtain⟨m',hm',_,_,_,e,_⟩:=back m hm;rw[←e];exact h.names m' hm'
 ·intro m hm;obtain⟨m',hm',_,_,_,e,_⟩:=back m hm;rw[←e];exact h.pos m' hm'
 ·intro m hm
  rcases mem_setT hm with⟨hm,_⟩|rfl
  ·exact h.on m hm
  ·exact⟨by rw[hv];exact (h.on _ hm0).1,hdat⟩
 ·obtain ⟨m,hm,e⟩:=h.first
  obtain ⟨m',hm',e',_⟩:=move m hm;exact ⟨m',hm',e'.trans e⟩
 ·intro m hm e
  rcases mem_setT hm with⟨hm,_⟩|rfl
  ·exact h.one m hm e
  ·have h1:=(h.one _ hm0 (hno.trans e)).2.1
   rw [hv,h1,h.root1]at hroot;exact absurd e.symm hroot
 ·intro m hm hmk
  rcases mem_setT hm with⟨hm,_⟩|rfl
  ·exact h.dlinks m hm hmk
  ·exact hl
 ·intro m hm hmk _
  rcases mem_setT hm with⟨hm,hne⟩|rfl
  ·rcases h.ups m hm hmk hne with u|⟨u1,u2,q,hq,u3,u4,u5,x,hx,u6⟩
   ·exact .inl u
   ·obtain ⟨q',hq',e1,e2,e3,e4⟩:=move q hq
    exact .inr ⟨u1,u2,q',hq',e1.trans u3,e2.trans u4,e3.trans u5,x,by rw[e4];exact hx,u6⟩
  ·obtain ⟨x,hx,hx2⟩:=htx
   exact .inr ⟨hroot,by rw[hup];exact htn,t,mem_set' ht htn,hup.symm,htk,htv,x,hx,hx2⟩
 ·intro m hm
  rcases mem_setT hm with⟨hm,_⟩|rfl
  ·exact h.bits m hm
  ·have:=h.bits m0 hm0
   rw [hmo,hl];omega
 ·intro m hm x hx
  obtain ⟨m',hm',e1,e2,e3,e4,_⟩:=back m hm;rw [←e4]at hx;have hK:=h.kin m' hm' x hx;rw [e1,e3]at hK;refine ⟨hK.1,hK.2.1,fun q hq e=>?_⟩;obtain ⟨q',hq',f1,_,f3,_⟩:=back q hq;rw [←f3];exact hK.2.2 q' hq' (f1.trans e)
 ·intro j hj
  obtain ⟨m,hm,o1,o2,o3,o4⟩:=h.overs j hj;obtain ⟨m',hm',e1,e2,e3,_⟩:=move m hm;exact ⟨m',hm',e1.trans o1,e2.trans o2,by rw[e3];exact o3,by rw[e3,e1];exact o4⟩
 ·intro j hj
  obtain ⟨m,hm,o1,o2,o3⟩:=h.rootsIn j hj;obtain ⟨m',hm',e1,e2,e3,_⟩:=move m hm;exact ⟨m',hm',e1.trans o1,e2.trans o2,e3.trans o3⟩
 ·obtain ⟨d, hd⟩:=h.deep
  refine ⟨fun q=>if UpTo S n.no q then d q+d t.no+1 else d q,fun m hm hmk hmu=>?_⟩;show (if UpTo S n.no m.up then _ else _)<(if UpTo S n.no m.no then _ else _);rcases mem_setT hm with⟨hm,hne⟩|rfl
  ·have hdm := hd m hm hmk hmu
   by_cases hU:UpTo S n.no m.up
   ·rw [if_pos hU,if_pos (.up hm hmk hmu hU)]
    omega
   ·have hN : ¬UpTo S n.no m.no:=by
     intro hx;have aux:∀a,UpTo S n.no a→a=m.no→False:=by
      intro a ha
      cases ha with
      | here=>exact fun e=>hne e.symm
      | up hq hqk hqu hq2 =>
       intro e;have:_=m:=node_eq h.nos hq hm e;subst this;exact hU hq2
     exact aux _ hx rfl
    rw [if_neg hU,if_neg hN];exact hdm
  ·rw [hup,if_neg hin,if_pos .here]
   omega
theorem UpTo.mono {S T:TreeD} {a b:Int} (h:UpTo T a b) (hm:∀q∈T.nodes,q.kind=1→∃q'∈S.nodes,q'.no=q.no∧q'.kind=1∧q'.up=q.up):UpTo S a b:=by
 induction h with
 | here=>exact .here
 | up hq hk hu _ ih =>
  obtain ⟨q',hq',e1,e2,e3⟩:=hm _ hq hk;rw [←e1];exact .up hq' e2 (by rw[e1,e3];exact hu) (by rw[e3];exact ih)
theorem UpTo.within {c:Nat} {S:TreeD} (h:Tre c S) {a b:Int} (ha:a≠0) (hU:UpTo S a b):withinF S b a=true:=by
 obtain ⟨r,R⟩:=h.rank
 induction hU with
 | here=>exact within_base ha rfl
 | @up q hq hk hu _ ih =>
  by_cases e:q.no=a
  ·exact within_base (by have:=(h.nos.2 q hq).1;omega) e
  ·have hg:=(mem_getN h.nos hq).1
   have hab:aboveF S q.no=q.up:=by
    unfold aboveF;rw [hg,if_pos hk];rcases h.ups0 q hq hk with⟨_,u2⟩|⟨u1,_⟩
    ·exact absurd u2 hu
    ·rw[if_neg (fun x=>u1 x.1)]
   rw [within_step R (by have:=(h.nos.2 q hq).1;omega) e (by rw[hab];exact hu),hab];exact ih
end Go.Proofs.YtpibnfdolojpcaaGreat
