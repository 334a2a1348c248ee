import Derived.Test.YtpibnfdolojpcaaGreatBunN
import Derived.Test.YtpibnfdolojpcaaGreatBunS
import Derived.Test.YtpibnfdolojpcaaGreatBunL
import Derived.Test.YtpibnfdolojpcaaGreatBunO
set_option maxHeartbeats 16000000
set_option maxRecDepth 100000
namespace Go.Proofs.YtpibnfdolojpcaaGreat
structure NM where
 path:List UInt8
 kind:Int
 mode:Int
 uid:Int
 gid:Int
 mtime:Int
 ctime:Int
 dev:Int
 first:Int
 data:List UInt8
def kY (s n:List UInt8):List UInt8:=od s++47::n
theorem Ek (s n:List UInt8):(kY s n).length<=s.length+1+n.length:=by
 unfold kY;have:=Bn s;rw [List.length_append,List.length_cons];omega
def oA (bc:List Int) (no:Int):Nat:=bc.findIdx (· == no)
abbrev im:=List UInt8×Int
def I4 (S:ae) (bc:List Int) (x:im):NM:=
 let n:=ac S.nodes (ar S.ah x.2)
 ⟨x.1,n.kind,n.mode,n.uid,n.gid,n.mtime,n.ctime,n.dev,oA bc n.no,n.data⟩
def fF (S:ae) (x:im):List im:=(ac S.nodes (ar S.ah x.2)).af.map fun y=>(kY x.1 y.1,y.2)
inductive iC (S:ae):List im->List Int->List NM->Prop
 | nil (bc:List Int):iC S [] bc []
 | none {x:im} {t:List im} {bc:List Int} {l:List NM}:aJ S.nodes (ar S.ah x.2)=false->iC S t bc l->iC S (x::t) bc l
 | step {x:im} {t:List im} {bc:List Int} {l:List NM}:aJ S.nodes (ar S.ah x.2)=true->iC S (fF S x++t) (bc++[ar S.ah x.2]) l->iC S (x::t) bc (I4 S bc x::l)
def I5 (S:ae) (r:Int->Nat) (c:Nat) (l:List im):Nat:=(l.map fun x=>CD S r c (ar S.ah x.2)).sum
theorem FW {c:Nat} {S:ae} (h:dy c S) (hn:bj S) (hl:pP S) {r:Int->Nat} (hr:ul S r) (x:im):I5 S r c (fF S x)<CD S r c (ar S.ah x.2):=by
 obtain⟨no,aW⟩:=zE (ar S.ah x.2);unfold fF;rw [<-aW]
 by_cases hk:(ac S.nodes no).kind=1
 ·obtain ⟨i1,i2,i3⟩:=aO hk
  have hrx:=hr.top no;have hs:=h.small _ i3;unfold I5;rw [List.map_map];have hle:∀y∈(ac S.nodes no).af,((fun x:im=>CD S r c (ar S.ah x.2))∘fun y:ay=>(kY x.1 y.1,y.2)) y<=(c+2) ^ (S.nodes.length-r no):=by
   intro z hz;show CD S r c (ar S.ah z.2)<=_;unfold CD;split
   ·rename_i hk2
    obtain ⟨a1,a2⟩:=mJ h hl i3 hz hk2;rw [i2]at a1 a2;have sI:=(h.bc.2 _ i3).1;rw [i2]at sI;have h0:ar S.ah z.2≠0:=by
     intro e;rw[e]at hk2;have:=(aO hk2).1;rw [h.bc.zero (.inl (by decide))]at this;cases this
    have:=hr.step (ar S.ah z.2) h0 (by rw[a1];omega) (by rw[a1];exact Ne.symm a2);rw [a1]at this;exact Nat.pow_le_pow_right (by omega) (by omega)
   ·exact Nat.pow_pos (by omega)
  have h1:=My _ _ _ hle;have h2:CD S r c no=(c+2) ^ (S.nodes.length-r no)*(c+2):=by
   unfold CD;rw [if_pos hk,show S.nodes.length+1-r no=(S.nodes.length-r no)+1 by omega,Nat.pow_succ]
  rw [h2];have h3:0<(c+2) ^ (S.nodes.length-r no):=Nat.pow_pos (by omega)
  generalize (c+2) ^ (S.nodes.length-r no)=P at *
  have h4:(ac S.nodes no).af.length*P<=c*P:=Nat.mul_le_mul_right P hs;have h5:P*(c+2)=c*P+2*P:=by rw[Nat.mul_add,Nat.mul_comm P c,Nat.mul_comm P 2]
  refine Nat.lt_of_le_of_lt h1 ?_;omega
 ·have:(ac S.nodes no).af=[]:=by
   cases hi:aJ S.nodes no
   ·rw[(aU hi).1];rfl
   ·exact hn _ (ak hi).2.2 hk
  rw [this];exact se S r c no
theorem El {c:Nat} {S:ae} (h:dy c S) (hn:bj S) (hl:pP S) (t:List im) (bc:List Int):∃l,iC S t bc l:=by
 obtain ⟨r,hr⟩:=h.Gw;have key : ∀n t bc,I5 S r c t<=n->∃l,iC S t bc l:=by
  intro n
  induction n with
  | zero =>
   intro t bc ht
   cases t with
   | nil=>exact⟨_,.nil _⟩
   | cons x t =>
    have:=se S r c (ar S.ah x.2);unfold I5 at ht;rw [List.map_cons,List.sum_cons]at ht;omega
  | succ n ih =>
   intro t bc ht
   cases t with
   | nil=>exact⟨_,.nil _⟩
   | cons x t =>
    have hp:=se S r c (ar S.ah x.2);unfold I5 at ht;rw [List.map_cons,List.sum_cons]at ht
    cases hi:aJ S.nodes (ar S.ah x.2)
    ·obtain ⟨l,hd⟩:=ih t bc (by unfold I5;omega)
     exact ⟨_,.none hi hd⟩
    ·have hw:=FW h hn hl hr x
     obtain ⟨l,hd⟩:=ih (fF S x++t) (bc++[ar S.ah x.2]) (by
      unfold I5 at hw|-;rw [List.map_append,List.sum_append];omega)
     exact ⟨_,.step hi hd⟩
 exact key _ t bc (Nat.le_refl _)
theorem NN {c:Nat} {S:ae} (h:dy c S) {j k:Nat} (hj:j<S.ah.length) (hk:k<S.ah.length) (e:S.ah[j].root=S.ah[k].root):j=k:=by
 obtain ⟨m,hm,m1,_,m3⟩:=h.fG j hj;obtain ⟨n,hn,n1,_,n3⟩:=h.fG k hk;have:=ib h.bc hm hn (by rw[m1,n1,e]);rw [this,n3]at m3;omega
theorem I6 {c:Nat} {S:ae} (h:dy c S) (k:Kids S) {m:ai} (hm:m∈S.nodes) {x y:ay} (hx:x∈m.af) (hy:y∈m.af) (hk:(ac S.nodes (ar S.ah x.2)).kind=1) (e:ar S.ah x.2=ar S.ah y.2):x=y:=by
 have px:=(h.pos _ hm x hx).1;have py:=(h.pos _ hm y hy).1;obtain ⟨_,kx,_⟩:=h.yJ m hm x hx;obtain ⟨_,ky,_⟩:=h.yJ m hm y hy;rcases je h.sb (show 0<x.2 by omega) with e1|⟨i,hi,e1,e2⟩
 ·rcases je h.sb (show 0<y.2 by omega) with f1|⟨j,hj,f1,f2⟩
  ·rw [e1]at hk
   obtain ⟨_,i2,i3⟩:=aO hk;exact k.once m hm x hx y hy _ i3 i2 hk (by rw[<-e1,<-f1,e])
  ·have:=kx _ (List.getElem_mem hj)
   exact absurd (by rw[<-e1,e,f2]) this
 ·rcases je h.sb (show 0<y.2 by omega) with f1|⟨j,hj,f1,f2⟩
  ·have:=ky _ (List.getElem_mem hi)
   exact absurd (by rw[<-f1,<-e,e2]) this
  ·have hij:=NN h hi hj (by rw[<-e2,<-f2,e])
   have:i=j:=by omega
   subst this;obtain ⟨q,hq,q1,q2,_⟩:=h.lV i hi;exact k.once m hm x hx y hy q hq (by rw[q1,e1]) q2 (by rw[<-e1,<-f1])
theorem BV {c:Nat} {S:ae} (h:dy c S) (hn:bj S) (k:Kids S) {r:Int->Nat} (hr:ul S r) (x0:Int) {t:List im} {bc:List Int} {l:List NM} (hd:iC S t bc l) :
  ∀ E : List Int,E.Nodup->(∀y∈E,(ac S.nodes y).kind=1/\r x0<=r y/\(y=x0\/aZ S y∈E)) ->
   (∀z∈t,(ac S.nodes (ar S.ah z.2)).kind=1->ar S.ah z.2∉E/\r x0<=r (ar S.ah z.2)/\(ar S.ah z.2=x0\/aZ S (ar S.ah z.2)∈E)) ->
   t.Pairwise (fun a b=>(ac S.nodes (ar S.ah a.2)).kind=1->(ac S.nodes (ar S.ah b.2)).kind=1->ar S.ah a.2≠ar S.ah b.2) ->
   l.length+(E.map fun y=>(ac S.nodes y).af.length).sum<=t.length+aY S:=by
 induction hd with
 | nil =>
  intro E h1 h2 _ _;have:=sn S.nodes (fun n=>n.af.length) E h1 (fun y hy=>⟨_,(aO (h2 y hy).1).2.2,(aO (h2 y hy).1).2.1⟩) h.bc.1;unfold aY;simp only[List.length_nil];omega
 | none _ _ ih =>
  intro E h1 h2 h3 h4;rw [List.pairwise_cons]at h4;have:=ih E h1 h2 (fun z hz=>h3 z (List.mem_cons_of_mem _ hz)) h4.2;rw [List.length_cons];omega
 | @step x t bc l hi hd ih =>
  intro E h1 h2 h3 h4;rw [List.pairwise_cons]at h4;obtain⟨X,hX⟩:=zE (ar S.ah x.2);have hlen:(fF S x).length=(ac S.nodes X).af.length:=by unfold fF;rw[List.length_map,hX]
  by_cases hx:(ac S.nodes X).kind=1
  ·obtain ⟨x1,x2,x3⟩:=h3 x (List.mem_cons_self ..) (by rw[<-hX];exact hx)
   rw [<-hX]at x1 x2 x3;obtain ⟨iX,nX,mX⟩:=aO hx;have VM:=(h.bc.2 _ mX).1;rw [nX]at VM;have hch:∀y∈(ac S.nodes X).af,(ac S.nodes (ar S.ah y.2)).kind=1->aZ S (ar S.ah y.2)=X/\r X<r (ar S.ah y.2)/\ar S.ah y.2≠x0/\ar S.ah y.2∉X::E:=by
    intro y hy hk;obtain ⟨a1,a2⟩:=mJ h k.up mX hy hk;rw [nX]at a1 a2;have h0:ar S.ah y.2≠0:=by
     intro e;rw[e]at hk;have:=(aO hk).1;rw [h.bc.zero (.inl (by decide))]at this;cases this
    have hlt:=hr.step (ar S.ah y.2) h0 (by rw[a1];omega) (by rw[a1];exact Ne.symm a2);rw [a1]at hlt;have hne:ar S.ah y.2≠x0:=fun e=>by rw[e]at hlt;omega
    refine ⟨a1,hlt,hne,fun hm=>?_⟩;rcases List.mem_cons.1 hm with e|hm
    ·exact a2 e
    ·rcases (h2 _ hm).2.2 with e|e
     ·exact hne e
     ·rw[a1]at e;exact x1 e
   have := ih (X::E) (List.nodup_cons.2 ⟨x1,h1⟩)
    (fun y hy=>by
     rcases List.mem_cons.1 hy with rfl|hy
     ·exact⟨hx,x2,x3.imp id (List.mem_cons_of_mem _)⟩
     ·obtain ⟨a1,a2,a3⟩:=h2 y hy
      exact ⟨a1,a2,a3.imp id (List.mem_cons_of_mem _)⟩)
    (fun z hz hk=>by
     rcases List.mem_append.1 hz with hz|hz
     ·unfold fF at hz
      rw [<-hX,List.mem_map]at hz;obtain ⟨y,hy,rfl⟩:=hz;obtain ⟨c1,c2,c3,c4⟩:=hch y hy hk;exact ⟨c4,by show r x0<=r (ar S.ah y.2);omega,.inr (by show aZ S (ar S.ah y.2)∈_;rw[c1];exact List.mem_cons_self ..)⟩
     ·obtain ⟨a1,a2,a3⟩:=h3 z (List.mem_cons_of_mem _ hz) hk
      refine ⟨fun hm=>?_,a2,a3.imp id (List.mem_cons_of_mem _)⟩;rcases List.mem_cons.1 hm with e|hm
      ·exact h4.1 z hz (by rw[<-hX];exact hx) hk (by rw[<-hX];exact e.symm)
      ·exact a1 hm)
    (List.pairwise_append.2 ⟨?_,h4.2,fun a ha b hb ka kb e=>?_⟩)
   ·rw [List.map_cons,List.sum_cons,List.length_append,hlen]at this
    simp only[List.length_cons];omega
   ·unfold fF
    rw [<-hX,List.pairwise_map];refine List.Pairwise.imp_of_mem ?_ (h.lP _ mX);intro a b ha hb hab ka _ e;have e1:=I6 h k mX ha hb ka e;rw [e1,cA]at hab;cases hab
   ·unfold fF at ha
    rw [<-hX,List.mem_map]at ha;obtain ⟨y,hy,rfl⟩:=ha;obtain ⟨c1,c2,c3,c4⟩:=hch y hy ka;have e':ar S.ah y.2=ar S.ah b.2:=e;rcases (h3 b (List.mem_cons_of_mem _ hb) kb).2.2 with e1|e1
    ·exact c3 (e'.trans e1)
    ·rw[<-e',c1]at e1;exact x1 e1
  ·have hke:fF S x=[]:=by
    unfold fF;rw [<-hX,hn _ (ak (show aJ S.nodes X=true by rw[hX];exact hi)).2.2 hx];rfl
   rw [hke]at ih;have:=ih E h1 h2 (fun z hz=>h3 z (List.mem_cons_of_mem _ hz)) h4.2;rw [List.nil_append]at this;simp only[List.length_cons];omega
theorem I7 {c:Nat} {S:ae} (h:dy c S) (hn:bj S) (k:Kids S) {x:im} {l:List NM} (hd:iC S [x] [] l):l.length<=1+aY S:=by
 obtain ⟨r,hr⟩:=h.Gw;have:=BV h hn k hr (ar S.ah x.2) hd [] List.nodup_nil (fun y hy=>by cases hy) (fun z hz _=>by rw[List.mem_singleton]at hz;subst hz;exact⟨by simp,Nat.le_refl _,.inl rfl⟩) (List.pairwise_singleton _ _);simpa using this
def oB (S:ae) (r:Int->Nat) (x:im):Prop:=x.1.length<=300*(S.nodes.length+2)/\((ac S.nodes (ar S.ah x.2)).kind=1->x.1.length<=300*(r (ar S.ah x.2)+1))
theorem tc {c:Nat} {S:ae} (h:dy c S) (hn:bj S) (hl:pP S) {r:Int->Nat} (hr:ul S r) {x:im} (hx:oB S r x):∀y∈fF S x,oB S r y:=by
 intro y hy;unfold fF at hy;rw [List.mem_map]at hy;obtain ⟨z,hz,rfl⟩:=hy;obtain⟨X,hX⟩:=zE (ar S.ah x.2);rw [<-hX]at hz;unfold oB at hx;rw [<-hX]at hx;have hk:(ac S.nodes X).kind=1:=by
  rcases Decidable.em ((ac S.nodes X).kind=1) with hk|hk
  ·exact hk
  ·exfalso
   cases hi:aJ S.nodes X
   ·rw[(aU hi).1]at hz;cases hz
   ·rw[hn _ (ak hi).2.2 hk]at hz;cases hz
 obtain ⟨iX,nX,mX⟩:=aO hk;have tI:=hx.2 hk;have jA:=(h.names _ mX z hz).2;have hlen:=Ek x.1 z.1;have acR:=hr.top X;refine ⟨by show (kY x.1 z.1).length<=_;omega,fun hk2=>?_⟩;obtain ⟨a1,a2⟩:=mJ h hl mX hz hk2;rw [nX]at a1 a2;have VM:=(h.bc.2 _ mX).1;rw [nX]at VM;have h0:ar S.ah z.2≠0:=by
  intro e;have mq:(ac S.nodes (ar S.ah z.2)).kind=1:=hk2;rw [e]at mq;have:=(aO mq).1;rw [h.bc.zero (.inl (by decide))]at this;cases this
 have hlt:=hr.step (ar S.ah z.2) h0 (by rw[a1];omega) (by rw[a1];exact Ne.symm a2);rw [a1]at hlt;show (kY x.1 z.1).length<=300*(r (ar S.ah z.2)+1);omega
open Go.ChangeShapes Go.WideShapes Go.ChangeAt Go.RowKit
theorem NP (l:List UInt8) (w:World) (hlen:l.length<=1000000):Calls Tryz.prog 168 #[bs l] w (aI w (.string (bs (od l)))):=by
 go_enter Tryz.func168,Tryz.ntmps168;go_wp2_with fail;go_loopw [0] (fun u wr=>∃m:List UInt8,u=.string (bs m)/\m.length<=l.length/\Hid (od m=od l)/\wr=w) (fun u _=>(strOf u).size)
 case atStart=>exact⟨l,rfl,Nat.le_refl _,rfl,rfl⟩
 case round =>
  obtain ⟨m,rfl,hm,hc,rfl⟩:=hrel;have z0:(bs m).size=m.length:=bi m;rcases DD m with h|⟨a,c,h⟩
  ·have HF:Hid (od l=m):=by show _=_;rw[<-hc.out,h];rfl
   have hm0:m.length=0:=by rw[h];rfl
   clear h;go_wp2_with fail;go_ret;exact aI.mk (yc (by rw[HF.out])) (Ext.refl _)
  ·have ES:m.length=a.length+1:=by rw[h];simp
   have hks:a.length<(bs m).size:=by omega
   have hg:(bs m)[a.length]=c:=by
    rw [CJ m a.length hks (by omega)];simp [h]
   have hw1:IntKind.i64.wrap (a.length:Int)=a.length:=a_ (by omega) (by omega)
   by_cases hcs:c=47
   ·have pX:(((bs m)[a.length].toNat:Int) == 47)=true:=by rw[hg,hcs];rfl
    have hn:Hid (od a=od l):=by
     show _=_;rw [<-hc.out,h,hcs,Hw]
    have ha:(bs m).extract 0 a.length=bs a:=by rw[XU,h];simp
    have xm:=Mg (P:=Tryz.prog) Tryz.underlying9 (bs m) (a.length:Int) a.length rfl (by omega) (bs a) ha;have za:(bs a).size=a.length:=bi a;clear hg hcs h ha;go_wp2_with fail;go_roundw
    case rel=>exact⟨a,rfl,by omega,hn,by first|trivial|rfl⟩
    case measure=>simp[strOf];omega
   ·have HF:Hid (od l=m):=by show _=_;rw[<-hc.out,h];exact Hx hcs
    have pX:(((bs m)[a.length].toNat:Int) == 47)=false:=by
     rw [hg];exact (xA (c:=c) (d:=47)).trans (beq_eq_false_iff_ne.2 hcs)
    clear hg hcs h;go_wp2_with fail;go_ret;exact aI.mk (yc (by rw[HF.out])) (Ext.refl _)
theorem Em (a b:List UInt8) (w:World) (ha:a.length<=100000) (hb:b.length<=100000):Calls Tryz.prog 130 #[bs a,bs b] w (aI w (.string (bs (kY a b)))):=by
 have hcl:=Bn a;have hf:Hid (kY a b=od a++47::b):=rfl;obtain⟨C,hC⟩:=zE (od a);rw [<-hC]at hcl hf;have z1:(bs C).size=C.length:=bi C;have z2:(bs b).size=b.length:=bi b;have z3:(bs (C++[47])).size=C.length+1:=by rw[bi];simp
 have c1:bs C++(⟨#[47]⟩:ByteArray)=bs (C++[47]):=rf C [47];have c2:bs (C++[47])++bs b=bs (C++47::b):=by rw[rf];simp
 have kG:¬9223372036854775807<C.length+1:=by omega
 have hb2:¬9223372036854775807<C.length+1+b.length:=by omega
 have HC:=zH hC;clear hC;go_enter Tryz.func130,Tryz.ntmps130;go_wp2_with fail;refine (NP a _ (by omega)).mono ?_;rintro e w1 ⟨rfl,yi⟩;rw [<-HC.out];go_wp2_with fail;go_ret;exact aI.mk (yc (by rw[hf.out])) yi
def I8:gJ NM:=⟨79,86,10,96,.agg #[.string ⟨#[]⟩,.int .i64 0,.int .i64 0,.int .i64 0,.int .i64 0,.int .i64 0,.int .i64 0,.int .i64 0,.int .i64 0,.string ⟨#[]⟩],
 fun x=>[.string (bs x.path),.int .i64 x.kind,.int .i64 x.mode,.int .i64 x.uid,.int .i64 x.gid,.int .i64 x.mtime,.int .i64 x.ctime,.int .i64 x.dev,.int .i64 x.first,.string (bs x.data)],by decide,Tryz.underlying79,by kernel_rfl,rfl,fun _=>rfl,fun x u hu=>by
 simp only[List.mem_cons,List.not_mem_nil,or_false]at hu;rcases hu with rfl|rfl|rfl|rfl|rfl|rfl|rfl|rfl|rfl|rfl<;>rfl,by decide⟩
theorem BW (a:Int) (l:List Int) (no:Int):oA (a::l) no=if (a == no)=true then 0 else oA l no+1:=by
 unfold oA;rw [List.findIdx_cons]
 cases a == no<;>rfl
def mT (bc:List Int) (no:Int) (p:Nat):Nat:=p+oA (bc.drop p) no
theorem I9 (bc:List Int) (no:Int):mT bc no bc.length=bc.length:=by unfold mT;rw[List.drop_length];rfl
theorem En {bc:List Int} {no:Int} {p:Nat} (hp:p<bc.length):mT bc no p=if (bc[p] == no)=true then p else mT bc no (p+1):=by
 unfold mT;rw [List.drop_eq_getElem_cons hp,BW];split<;>omega
theorem Eo (bc:List Int) (no:Int):mT bc no 0=oA bc no:=by unfold mT;rw[List.drop_zero,Nat.zero_add]
theorem BX {w w':World} {b:Nat} {t:TypeId} {L:List Nat} (h:dO w b t) (o:Only L w w') (hn:b∉L):dO w' b t:=by
 obtain ⟨cs,f,e⟩:=h;have hb:b<w.heap.size:=by
  rcases Nat.lt_or_ge b w.heap.size with h'|h'
  ·exact h'
  ·simp[Array.getElem?_eq_none h']at e
 exact ⟨cs,f,(o.block b hb hn).trans e⟩
def kq (w:World) (A:Option Addr) (l:List im):Prop:=l=[]\/∃b o,A=some ⟨b,o,none⟩/\b<w.heap.size/\dO w b 153/\∀k,(h:k<l.length)->w.cell? ⟨b,o+k*2,none⟩=some (.string (bs l[k].1))/\w.cell? ⟨b,o+k*2+1,none⟩=some (.int .i64 l[k].2)
theorem kq.only {w w':World} {A:Option Addr} {l:List im} {L:List Nat} (h:kq w A l) (o:Only L w w') (hn:∀x∈L,¬dO w x 153):kq w' A l:=by
 rcases h with h|⟨b,f,hA,hb,ht,hc⟩
 ·exact .inl h
 ·have Gs:b∉L:=fun hx=>hn b hx ht
  refine .inr ⟨b,f,hA,by have:=o.size;omega,BX ht o Gs,fun k hk=>?_⟩;have hcell:∀i,w'.cell? ⟨b,i,none⟩=w.cell? ⟨b,i,none⟩:=fun i=>jg (o.block b hb Gs) i
  rw [hcell,hcell];exact hc k hk
theorem kq.ext {w w':World} {A:Option Addr} {l:List im} (h:kq w A l) (k:Ext w w'):kq w' A l:=h.only (Only.ax (L:=[]) k) (by simp)
theorem dq.NQ {α:Type} {R:gJ α} {w:World} {base:Nat} {v:Value} {l:List α} (k:dq R w base v l) (h1:R.t≠153):∀x∈v.ownBlock.toList,¬dO w x 153:=by
 intro x hx;have hx:=Option.mem_toList.1 hx;rintro ⟨cs,fr,e⟩;obtain ⟨cs2,fr2,e2⟩:=k.tag hx;rw [e2]at e;injection e with e;injection e with _ e;exact h1 e
theorem dq.apart {α β:Type} {R:gJ α} {Q:gJ β} {w:World} {base Zr:Nat} {v u:Value} {l:List α} {m:List β} (h:dq R w base v l) (k:dq Q w Zr u m) (hne:R.t≠Q.t):∀g,v.ownBlock=some g->g∉u.ownBlock.toList:=by
 intro g hg hm;obtain ⟨cs,fr,e⟩:=h.tag hg;obtain ⟨cs2,fr2,e2⟩:=k.tag (Option.mem_toList.1 hm);rw [e2]at e;injection e with e;injection e with _ e;exact hne e.symm
theorem dq.todo {w:World} {base:Nat} {v:Value} {l:List im} (h:dq DZ w base v l):∃A cap,v=.slice A l.length cap/\l.length<=cap/\kq w A l:=by
 rcases h.cases with⟨rfl,rfl⟩|⟨g,cap,cur,rfl,_,h3,h4,_,h6⟩
 ·exact⟨none,0,rfl,Nat.le_refl _,.inl rfl⟩
 ·refine ⟨_,cap,rfl,h4,.inr ⟨g,0,rfl,h3.lt,⟨_,_,h3⟩,fun k hk=>?_⟩⟩
  rw [Nat.zero_add];exact ⟨h6 k hk 0 (by decide),h6 k hk 1 (by decide)⟩
theorem NR {c : Nat} (B:Nat) (f:cI) (S:ae) (X:cP) (no:Int) (path:List UInt8) (w:World) (F:gR w B f S X) (T:dy c S) (hE:bj S) (hK:Kids S) (hc:c<=900) (hl:S.last<=300) (rows:List NM) (hB:iC S [(path,no)] [] rows) (hlen:rows.length<=1000)
  {r:Int->Nat} (hr:ul S r) (hp:oB S r (path,no)) :
  Calls Tryz.prog 79 #[.pointer (some ⟨f.bF,0,none⟩),.int .i64 no,bs path] w (fun e w'=>∃v,e=.returned v/\dq I8 w' w.heap.size v rows/\Ext w w'):=by
 have lM:S.nodes.length<=300:=by have:=T.count;omega
 have hBw:B<=w.heap.size:=by have h1:=(F.apart f.bF (by simp[cI.list])).1;have h2:=F.lt.1;omega
 have KO:Hid (∀(u:World) (n:Int),Ext w u->Calls Tryz.prog 84 #[.pointer (some ⟨f.bF,0,none⟩),.int .i64 n] u (aI u (.int .i64 (ar S.ah n)))):=fun u n hu=>g_ B f S X n u (F.ext hu) (by have:=T.eight;omega)
 have KG:Hid (∀(u:World) (n:Int),Ext w u->Calls Tryz.prog 30 #[.pointer (some ⟨f.bF,0,none⟩),.int .i64 n] u (PA u B S.nodes n)):=fun u n hu=>eK B f S X n u (F.ext hu) (by omega) T.bc
 obtain ⟨W1,bL⟩:∃W,W=w.alloc (.cells #[bs path,.int .i64 no] 153):=⟨_,rfl⟩;obtain ⟨b1,kG⟩:∃b,b=w.heap.size:=⟨_,rfl⟩;have E1:Ext w W1:=by rw[bL];exact (Ext.refl _).alloc _
 have B1:Has W1 b1 (.cells #[bs path,.int .i64 no] 153):=by rw[bL,kG];exact Has.new _ _
 have T1:Hid (kq W1 (some ⟨b1,0,none⟩) [(path,no)]):=.inr ⟨b1,0,rfl,B1.lt,⟨_,_,B1⟩,fun k hk=>by
  have:k=0:=by simpa using hk
  subst this;exact ⟨B1.cell 0,B1.cell 1⟩⟩
 have HB:=zH hB;have HP:=zH hp;have HT:=zH T;have Zs:=zH hE;have HK:=zH hK;have HR:=zH hr;have abG:=zH hlen;clear F hB hp T hE hK hr hlen B1;go_enter Tryz.func79,Tryz.ntmps79;go_upto_region 4 with fail;rw [<-bL,<-kG];clear bL kG;go_loopg [7,8,9] (I5 S r c [(path,no)]) (fun m vo vn vt wr=>∃(l0:List NM) (bc:List Int) (t:List im) (A:Option Addr) (cap:Nat),vt=.slice A t.length cap/\t.length<=cap/\t.length<=1+bc.length*1000/\kq wr A t/\dq I8 wr w.heap.size vo l0/\dq jQ wr w.heap.size vn bc/\l0.length=bc.length/\Ext w wr/\(∀x∈t,oB S r x)/\m=I5 S r c t/\∃l1,iC S t bc l1/\rows=l0++l1)
 case atStart=>exact⟨[],[],[(path,no)],_,1,rfl,Nat.le_refl _,by simp,T1.out,dq.nil _ _ _,dq.nil _ _ _,rfl,E1,fun x hx=>by rw[List.mem_singleton]at hx;subst hx;exact HP.out,rfl,rows,HB.out,rfl⟩
 case round =>
  clear T1;obtain⟨V,hV⟩:=zE wr;subst hV;obtain ⟨l0,bc,t,A,cap,rfl,hcap,rQ,hT,hO,hN,Qc,hE,hPO,hm,l1,hBl,BZ⟩:=hrel;obtain ⟨Ao,Zt,rfl,_,_,_,_⟩:=hO.at_;obtain ⟨An,abH,rfl,_,_,Ve,_⟩:=hN.at_;have hn0:bc.length<=1000:=by have:=abG.out;rw[BZ,List.length_append]at this;omega
  cases t with
  | nil =>
   have hf:Hid (rows=l0):=by show _=_;cases hBl;rw[BZ,List.append_nil]
   have HO:=zH hO;have HE:=zH hE;obtain ⟨no',KH⟩:∃n,n=l0.length:=⟨_,rfl⟩;rw [<-KH]at HO|-;clear hcap rQ hT hO hN Qc hE hPO hm hBl BZ Ve KH;simp only[List.length_nil];go_wp2_with fail;go_ret;exact ⟨_,rfl,by rw[hf.out];exact HO.out,HE.out⟩
  | cons x t' =>
   obtain ⟨gt,ot,rfl,hgt,Vf,hcell⟩:∃b o,A=some ⟨b,o,none⟩/\b<V.heap.size/\dO V b 153/\∀k,(h:k<(x::t').length)->V.cell? ⟨b,o+k*2,none⟩=some (.string (bs (x::t')[k].1))/\V.cell? ⟨b,o+k*2+1,none⟩=some (.int .i64 (x::t')[k].2):=by
    rcases hT with h|h
    ·cases h
    ·exact h
   have q0:V.cell? ⟨gt,ot,none⟩=some (.string (bs x.1)):=(hcell 0 (Nat.succ_pos _)).1;have q1:V.cell? ⟨gt,ot+1,none⟩=some (.int .i64 x.2):=(hcell 0 (Nat.succ_pos _)).2;obtain⟨T,JQ⟩:=zE t'.length;have e2:(x::t').length=T+1:=by rw[JQ];rfl
   rw [e2]at hcap rQ|-;obtain ⟨ox,Zu⟩:∃ox,(cap=1/\ox=ot\/cap≠1/\ox=ot+2):=by
    by_cases OC:cap=1
    ·exact⟨_,.inl ⟨OC,rfl⟩⟩
    ·exact⟨_,.inr ⟨OC,rfl⟩⟩
   have hso:(if cap=1 then (some ⟨gt,ot,none⟩:Option Addr) else some ⟨gt,ot+2,none⟩)=some ⟨gt,ox,none⟩:=by
    rcases Zu with⟨h1,h2⟩|⟨h1,h2⟩
    ·rw[if_pos h1,h2]
    ·rw[if_neg h1,h2]
   have zh:kq V (some ⟨gt,ox,none⟩) t':=by
    rcases Zu with⟨h1,h2⟩|⟨h1,h2⟩
    ·left
     cases t' with
     | nil=>rfl
     | cons y t''=>exfalso;rw[JQ,List.length_cons]at hcap;omega
    ·refine .inr ⟨gt,ox,rfl,hgt,Vf,fun k hk=>?_⟩
     have:=hcell (k+1) (by simpa using hk);rw [show ot+(k+1)*2=ot+2+k*2 by omega]at this;rw [h2];simpa using this
   have Qa:T+1<=cap:=hcap;have hpx:=hPO x (List.mem_cons_self ..);have HPO:=zH (fun y (hy:y∈t')=>hPO y (List.mem_cons_of_mem _ hy));have HPX:=zH hpx;have HBL:=zH hBl;have Wt:=zH BZ;have HM:=zH hm;have HO:=zH hO;have HN:=zH hN;have JJ:=zH Qc;have HE:=zH hE;have QD:=zH zh;have Wu:=zH JQ;have acS:=zH Vf;have acT:=zH Ve;obtain ⟨nn,PG⟩:∃n,n=bc.length:=⟨_,rfl⟩;obtain ⟨nl,Rc⟩:∃n,n=l0.length:=⟨_,rfl⟩;rw [<-PG,<-Rc]at JJ;rw [<-PG]at HN rQ hn0|-;rw [<-Rc]at HO|-;have nL:=zH PG;have Vg:=zH rQ;have YM:=zH Rc;have FC:nl=nn:=JJ.out;obtain ⟨W4,ij⟩:∃W,W=V.alloc (.cells #[bs x.1,.int .i64 x.2] 153):=⟨_,rfl⟩;obtain ⟨CC,mL⟩:∃b,b=V.heap.size:=⟨_,rfl⟩;have E4:Ext V W4:=by rw[ij];exact (Ext.refl _).alloc _
   have X4:Has W4 CC (.cells #[bs x.1,.int .i64 x.2] 153):=by rw[ij,mL];exact Has.new _ _
   clear hPO hpx hBl BZ hm hO hN Qc hE zh JQ Vf Ve hcell PG Rc hcap e2 FC rQ;go_upto_region 7 with fail;rw [<-ij,<-mL];clear ij mL q0 q1 hgt;have y1:=X4.cell 1;have yz:=X4.lt;simp only[gA,gB,gC]at y1;have SD:=zH X4;clear X4;obtain⟨X,hX⟩:=zE (ar S.ah x.2);have KO4:=KO.out W4 x.2 (HE.out.trans E4);rw [<-hX]at KO4;have Zv:=zH KO4;have HX:=zH hX;clear hX KO4;go_wp2_with fail;refine Zv.out.mono ?_;rintro e w5 ⟨rfl,b5⟩;go_wp2_with fail;refine (KG.out w5 X ((HE.out.trans E4).trans b5)).mono ?_;rintro e w6 ⟨A6,c6,rfl,rT,b6⟩;obtain⟨n,hn⟩:=zE (ac S.nodes X);rw [<-hn]at rT|-;have Wv:=zH hn;clear y1 yz hn Zv;obtain ⟨W7,Rd⟩:∃W,W=w6.alloc (.cells #[n.no,n.dev,n.kind,n.mode,n.uid,n.gid,n.mtime,n.ctime,n.ag,n.up,bs n.data,.slice A6 n.af.length c6] 66):=⟨_,rfl⟩;obtain ⟨dK,iQ⟩:∃b,b=w6.heap.size:=⟨_,rfl⟩;have N7:Has W7 dK (.cells #[n.no,n.dev,n.kind,n.mode,n.uid,n.gid,n.mtime,n.ctime,n.ag,n.up,bs n.data,.slice A6 n.af.length c6] 66):=by rw[Rd,iQ];exact Has.new _ _
   have E7:Ext V W7:=by rw[Rd];exact ((E4.trans b5).trans b6).alloc _
   have E47:Ext W4 W7:=by rw[Rd];exact (b5.trans b6).alloc _
   have yw:az W7 B n A6 c6:=rT.ext (by rw[Rd];exact (Ext.refl _).alloc _);go_upto_region 8 with fail;rw [<-Rd,<-iQ];clear Rd iQ rT b5 b6;have HOK:=zH yw;have HN7:=zH N7;obtain ⟨n0,n1,n2,n3,n4,n5,n6,n7,n8,n9,G3,Do⟩:=N7.cD;have nz:=N7.lt;clear yw N7
   cases hi:aJ S.nodes X with
   | false =>
    have aW:n.no=0:=by rw[Wv.out,(aU hi).1];rfl
    have t0:(n.no == 0)=true:=by rw[aW];rfl
    obtain ⟨Dx⟩:Nonempty (iC S t' bc l1):=by
     have h0:=HBL.out
     cases h0 with
     | none _ h=>exact⟨h⟩
     | step h _=>rw[<-HX.out,hi]at h;cases h
    have UZ:=zH Dx;clear aW hi Dx;go_wp2_with fail;go_roundg (I5 S r c t')
    case measure =>
     rw [HM.out];have:=se S r c (ar S.ah x.2);unfold I5;rw [List.map_cons,List.sum_cons];omega
    case rel=>exact⟨l0,bc,t',some ⟨gt,ox,none⟩,cap-1,by rw[Wu.out],by have:=Wu.out;omega,by have:=Vg.out;have:=Wu.out;have:=nL.out;omega,QD.out.ext E7,HO.out.ext E7,HN.out.ext E7,by rw[<-YM.out,<-nL.out];exact JJ.out,HE.out.trans E7,HPO.out,rfl,l1,UZ.out,Wt.out⟩
   | true =>
    have aW:n.no=X:=by rw[Wv.out];exact (ak hi).2.1
    have hX0:X≠0:=by have:=(HT.out.bc.2 _ (ak hi).2.2).1;rw[(ak hi).2.1]at this;omega
    have t0:(n.no == 0)=false:=by rw[aW];simpa using hX0
    have Ly:n.af.length<=1000:=by rw[Wv.out];have:=HT.out.small _ (ak hi).2.2;omega
    obtain ⟨l2,rh,Dx⟩:∃l2,l1=I4 S bc x::l2/\iC S (fF S x++t') (bc++[X]) l2:=by
     have h0:=HBL.out
     cases h0 with
     | none h _=>rw[<-HX.out,hi]at h;cases h
     | step _ h=>exact⟨_,rfl,by rw[HX.out];exact h⟩
    have w_:=zH aW;have UZ:=zH Dx;have PZ:=zH rh;have abI:=zH Ly;clear aW hX0 rh Dx hi Ly;have p0:(0:Int)<=(nn:Int):=Int.natCast_nonneg _;have AY:IntKind.i64.wrap ((nn:Int)-1)=(nn:Int)-1:=IntWalk.i64_in _ (by omega);go_wp2_with fail;go_loopw [12,13] (fun vf vi wr=>∃p:Nat,vi=.int .i64 ((p:Int)-1)/\p<=nn/\vf=.int .i64 (mT bc X p:Nat)/\Ext W7 wr) (fun _ vi _=>(intOf vi+1).toNat)
    case atStart=>exact⟨nn,rfl,Nat.le_refl _,by rw[nL.out,I9,<-nL.out];rw[<-JJ.out],Ext.refl _⟩
    case round =>
     obtain ⟨p,DT,hp,rfl,kD⟩:=hrel;have I_:Ext V wr:=E7.trans kD;have acU:=zH I_;have SG:=zH kD;rcases p with _|p
     case succ =>
      have vA:u13=.int .i64 (p:Int):=by rw[DT];simp
      subst vA;have hpl:p<bc.length:=by have:=nL.out;omega
      obtain ⟨gn,rfl,PU,qn⟩:∃gn,An=some ⟨gn,0,none⟩/\gn<wr.heap.size/\wr.cell? ⟨gn,p,none⟩=some (.int .i64 bc[p]):=by
       rcases (HN.out.ext I_).cases with⟨_,h2⟩|⟨gm,cap,cur,h2,_,h3,_,_,h4⟩
       ·rw[h2]at hpl;cases hpl
       ·injection h2 with h2
        have:=h4 p hpl 0 (by decide);exact ⟨gm,h2,h3.lt,by simpa [jQ]using this⟩
      have hst:=En (no:=X) hpl;obtain⟨y,hy⟩:=zE (bc[p]);rw [<-hy]at qn hst;have rb:=zH hst;have k0:=(kD.cell nz).trans n0;have kz:dK<wr.heap.size:=by have:=kD.size;omega
      have q0:(0:Int)<=(p:Int):=Int.natCast_nonneg _;have Wh:IntKind.i64.wrap ((p:Int)-1)=(p:Int)-1:=IntWalk.i64_in _ (by omega);have SS:(p:Int)<nn:=by omega
      by_cases hyx:y=n.no
      ·have t1:(y == n.no)=true:=by simpa using hyx
       have hF:Hid (mT bc X p=p):=by show _=_;rw[rb.out,if_pos (by rw[<-w_.out];exact t1)]
       clear hst hy hyx DT I_ kD n0 n1 n2 n3 n4 n5 n6 n7 n8 n9 G3 Do nz hpl;go_upto_region 13 with fail;go_quiet (fail);have EQ:=zH (SG.out.drewN nq);go_wp2_with fail;go_roundw
       case rel=>exact⟨p,rfl,by omega,by rw[hF.out],EQ.out⟩
       case measure=>simp[intOf]
      ·have t1:(y == n.no)=false:=by simpa using hyx
       have hF:Hid (mT bc X p=mT bc X (p+1)):=by show _=_;rw[rb.out,if_neg (by rw[<-w_.out,t1];decide)]
       clear hst hy hyx DT I_ kD n0 n1 n2 n3 n4 n5 n6 n7 n8 n9 G3 Do nz hpl;go_upto_region 13 with fail;go_quiet (fail);have EQ:=zH (SG.out.drewN nq);go_wp2_with fail;go_roundw
       case rel=>exact⟨p,rfl,by omega,by rw[hF.out],EQ.out⟩
       case measure=>simp[intOf]
     case zero =>
      have vA:u13=.int .i64 (-1):=DT;subst vA;have Zw:w.heap.size<=wr.heap.size:=(HE.out.trans I_).size;obtain ⟨row,hrow⟩:∃r,r=I4 S bc x:=⟨_,rfl⟩;have AX:row=⟨x.1,n.kind,n.mode,n.uid,n.gid,n.mtime,n.ctime,n.dev,((oA bc X:Nat):Int),n.data⟩:=by
       rw [hrow];unfold I4;rw [<-HX.out,<-Wv.out];dsimp only;rw [w_.out]
      obtain ⟨fi,hfi⟩:∃i:Int,i=((oA bc X:Nat):Int):=⟨_,rfl⟩;rw [<-hfi]at AX;have Zx:((mT bc X 0:Nat):Int)=fi:=by rw[hfi,Eo]
      rw [Zx];have Vh:=zH hrow;have Zy:=zH AX;obtain ⟨v8,w8,Wp,Wq,UR,fM⟩:=xO jQ wr (HN.out.ext I_) Zw n.no (by have:=nL.out;omega);have E28:Ext w w8:=((HE.out.trans I_).alloc _).grown UR (fun g hv=>((HN.out.ext I_).lt hv).1);have o8:Only (Value.slice An nn abH).ownBlock.toList wr w8:=(Only.jw _ _ _).then (Only.of_grownBy UR (fun g hv=>Option.mem_toList.2 hv));have SH:=HN.out.ext I_;have R8:dq I8 w8 w.heap.size (.slice Ao nl Zt) l0:=(HO.out.ext I_).only o8 (fun g hv hm=>(HO.out.ext I_).apart SH (by decide) g hv hm);have T8:kq w8 (some ⟨gt,ox,none⟩) t':=(QD.out.ext I_).only o8 (SH.NQ (by decide));have X8:Has w8 CC (.cells #[bs x.1,.int .i64 x.2] 153):=o8.has ((SD.out.ext E47).ext kD) (fun hm=>SH.NQ (by decide) _ hm ⟨_,_,(SD.out.ext E47).ext kD⟩);have N8:Has w8 dK (.cells #[n.no,n.dev,n.kind,n.mode,n.uid,n.gid,n.mtime,n.ctime,n.ag,n.up,bs n.data,.slice A6 n.af.length c6] 66):=o8.has (HN7.out.ext kD) (SH.vJ (HN7.out.ext kD) (by decide));have ok8:az w8 B n A6 c6:=(HOK.out.ext kD).only o8 (SH.cU hBw (by decide) (by decide)).apart;have NS:w.heap.size<=w8.heap.size:=E28.size;obtain ⟨v9,w9,hr9,JC,JD,_⟩:=xO I8 w8 R8 NS ⟨x.1,n.kind,n.mode,n.uid,n.gid,n.mtime,n.ctime,n.dev,fi,n.data⟩ (by have:=YM.out;have:=JJ.out;omega);have E29:Ext w w9:=(E28.alloc _).grown JD (fun g hv=>(R8.lt hv).1);have o9:Only (Value.slice Ao nl Zt).ownBlock.toList w8 w9:=(Only.jw _ _ _).then (Only.of_grownBy JD (fun g hv=>Option.mem_toList.2 hv));have O9:dq jQ w9 w.heap.size v8 (bc++[n.no]):=Wq.only o9 (fun g hv hm=>Wq.apart R8 (by decide) g hv hm);have T9:kq w9 (some ⟨gt,ox,none⟩) t':=T8.only o9 (R8.NQ (by decide));have X9:Has w9 CC (.cells #[bs x.1,.int .i64 x.2] 153):=o9.has X8 (R8.vJ X8 (by decide));have N9:Has w9 dK (.cells #[n.no,n.dev,n.kind,n.mode,n.uid,n.gid,n.mtime,n.ctime,n.ag,n.up,bs n.data,.slice A6 n.af.length c6] 66):=o9.has N8 (R8.vJ N8 (by decide))
      have ok9:az w9 B n A6 c6:=ok8.only o9 (R8.cU hBw (by decide) (by decide)).apart;have Zz:dq I8 w9 w.heap.size v9 (l0++[I4 S bc x]):=by rw[<-Vh.out,Zy.out];exact JC
      have k0:=(kD.cell nz).trans n0;have kz:dK<wr.heap.size:=by have:=kD.size;omega
      have HR8:=zH Wp;have HR9:=zH hr9;have Vi:=zH N8;have HX8:=zH X8;have XO:=zH O9;have abJ:=zH Zz;have YN:=zH T9;have HX9:=zH X9;have HN9:=zH N9;have abK:=zH ok9;have ZA:=zH E29;clear DT I_ kD hrow AX hfi Zx Wp Wq UR fM E28 o8 SH R8 T8 X8 N8 ok8 hr9 JC JD E29 o9 O9 T9 X9 N9 ok9 Zz n0 n1 n2 n3 n4 n5 n6 n7 n8 n9 G3 Do nz NS Zw AY;go_upto_region 16 with (at_builtin;refine Lib.wpList_append_run _ rfl _ _ 124 124 rfl _ _ rfl rfl _ _ HR8.out ?_);clear k0 kz;obtain ⟨n0,n1,n2,n3,n4,n5,n6,n7,n8,n9,G3,Do⟩:=Vi.out.cD;have nz:=Vi.out.lt;have y0:=HX8.out.cell 0;have yz:=HX8.out.lt;simp only[gA,gB]at y0;go_upto_region 17 with (at_builtin;refine Lib.wpList_append_run _ rfl _ _ 79 79 rfl _ _ rfl rfl _ _ HR9.out ?_);clear n0 n1 n2 n3 n4 n5 n6 n7 n8 n9 G3 Do nz y0 yz;obtain⟨m,hm⟩:=zE n.af.length;have Hj:=zH hm;have ES:m<=1000:=by rw[hm];exact abI.out
      have hKF:fF S x=n.af.map fun y=>(kY x.1 y.1,y.2):=by unfold fF;rw[<-HX.out,<-Wv.out]
      have HKF:=zH hKF;have dI:(fF S x).length=m:=by rw[hKF,List.length_map,hm]
      have Ww:=zH dI;have hpl:x.1.length<=100000:=by have:=HPX.out.1;omega
      have jA:∀y∈n.af,y.1.length<=100000:=fun y hy=>by
       rw [Wv.out]at hy
       cases po:aJ S.nodes X
       ·rw[(aU po).1]at hy;cases hy
       ·have:=(HT.out.names _ (ak po).2.2 y hy).2;omega
      have QS:=zH jA;clear hKF dI jA hm;go_wp2_with fail;go_loopw [14,15] (fun vin vi wr=>∃k:Nat,vi=.int .i64 k/\k<=m/\dq DZ wr w9.heap.size vin ((fF S x).take k)/\Ext w9 wr) (fun _ vi _=>m-(intOf vi).toNat)
      case atStart=>exact⟨0,rfl,Nat.zero_le _,dq.nil _ _ _,Ext.refl _⟩
      case round =>
       obtain ⟨k,rfl,hk,hO,tL⟩:=hrel;have k0:(0:Int)<=(k:Int):=Int.natCast_nonneg _;have NT:w9.cell? ⟨dK,11,none⟩=some (.slice A6 m c6):=by rw[Hj.out];exact HN9.out.cD.2.2.2.2.2.2.2.2.2.2.2
       have zz:=HN9.out.lt
       by_cases hlt:(k:Int)<m
       case pos =>
        have dI:k<n.af.length:=by have:=Hj.out;omega
        obtain ⟨be,oe,rfl,ZB,ea,eb⟩:=(abK.out.af.af).XL dI;have ng:(fF S x).take (k+1)=(fF S x).take k++[(kY x.1 n.af[k].1,n.af[k].2)]:=by
         have hk2:k<(fF S x).length:=by rw[Ww.out];omega
         rw [List.take_succ_eq_append_getElem hk2]
         congr 2
         have:=HKF.out;simp only[this,List.getElem_map]
        have hyl:=QS.out n.af[k] (List.getElem_mem dI);obtain⟨y,hy⟩:=zE (n.af[k]);rw [<-hy]at ea eb ng hyl;obtain ⟨yn,yo⟩:=y;have YS:w9.cell? ⟨be,oe+k*2,none⟩=some (.string (bs yn)):=ea;have YT:w9.cell? ⟨be,oe+k*2+1,none⟩=some (.int .i64 yo):=eb;have HTK:=zH ng;have Wh:IntKind.i64.wrap ((k:Int)+1)=(k:Int)+1:=IntWalk.i64_in _ (by omega);have KB:=zH (fun (u:World)=>Em x.1 yn u hpl hyl);have y0:=HX9.out.cell 0;have yz:=HX9.out.lt;simp only[gA,gB]at y0;have KS:Hid (∀w',Ext w9 w'->(Ext w9 w'/\w'.cell? ⟨CC,0,none⟩=some (.string (bs x.1))/\w'.cell? ⟨dK,11,none⟩=some (.slice (some ⟨be,oe,none⟩) m c6)/\w'.cell? ⟨be,oe+k*2,none⟩=some (.string (bs yn))/\w'.cell? ⟨be,oe+k*2+1,none⟩=some (.int .i64 yo))):=fun w' h'=>⟨h',(h'.cell yz).trans y0,(h'.cell zz).trans NT,(h'.cell ZB).trans YS,(h'.cell ZB).trans YT⟩
        have HO3:=zH hO;have QA:=zH tL;have XN:=zH ((Ext.refl wr).drew);have FC:((fF S x).take k).length<=2000000:=by have:=List.length_take_le k (fF S x);omega
        have bL:Ext w9 wr.drew:=tL.drew;have ZC:=(tL.cell zz).trans NT;have zzw:dK<wr.heap.size:=by have:=tL.size;omega
        clear ng hO tL hy ea eb YS YT y0 yz NT zz hyl dI ZB;go_upto_region 21 with fail;clear ZC zzw;go_region_held3 (fun w'=>Ext w9 w'/\w'.cell? ⟨CC,0,none⟩=some (.string (bs x.1))/\w'.cell? ⟨dK,11,none⟩=some (.slice (some ⟨be,oe,none⟩) m c6)/\w'.cell? ⟨be,oe+k*2,none⟩=some (.string (bs yn))/\w'.cell? ⟨be,oe+k*2+1,none⟩=some (.int .i64 yo))
         ((first|exact KS.out _ bL|exact KS.out _ (bL.trans zD)|exact KS.out _ ((bL.trans zD).alloc _)|exact KS.out _ Sg))
         ((first|(go_at_call 130;refine (KB.out _).mono ?_;rintro e wd ⟨rfl,zD⟩)|(refine ko _ (by rfl) _ _ 64 (by rfl) _ _ (by rfl) (by rfl) (xO DZ wd ((HO3.out.ext XN.out).ext zD) (bL.trans zD).size (kY x.1 yn,yo) FC) ?_;rintro v13 w13 ⟨ZE,ZF,_⟩;have Sg:Ext w9 w13:=((bL.trans zD).alloc _).grown ZF (fun g hv=>(((HO3.out.ext XN.out).ext zD).lt hv).1))))
        have abL:=zH ZE;clear ZE ZF;go_wp2_with fail;go_roundw
        case rel=>exact⟨k+1,by go_num,by omega,by rw[HTK.out];exact abL.out,Sg⟩
        case measure=>simp[intOf];omega
       case neg =>
        have hkm:(fF S x).take k=fF S x:=List.take_of_length_le (by rw[Ww.out];omega);rw [hkm]at hO;have hT3:=YN.out.ext tL;have hcells:∀i,(h:i<t'.length)->∀j,j<DZ.k->wr.cell? ⟨gt,ox+i*DZ.k+j,none⟩=(DZ.enc t'[i])[j]?:=by
         intro i hi j hj;rcases hT3 with h|⟨b,o,hA,_,_,hc⟩
         ·rw[h]at hi;cases hi
         ·injection hA with hA
          injection hA with h1 h2;subst h1 h2;have:=hc i hi;have Aa:j<2:=hj;have hj3:j=0\/j=1:=by omega
          rcases hj3 with rfl|rfl
          ·exact this.1
          ·exact this.2
        obtain ⟨Ai,ci,rfl,_,_,_,_⟩:=hO.at_;obtain ⟨Yg,w14,Im,Ms,Mt,_⟩:=M9 DZ wr hO tL.size t' gt ox (cap-1) hcells (by have:=Ww.out;omega) (by have:=Wu.out;have:=Vg.out;omega);rw [<-Wu.out]at Im;have Wf:Ext w9 w14:=tL.grown Mt (fun g hv=>(hO.lt hv).1);obtain ⟨A14,c14,rfl,ZG,ZH⟩:=Ms.todo;have Um:=zH Im;have abM:=zH ZH;have Vj:=zH Wf;have ZC:=(tL.cell zz).trans NT;have zzw:dK<wr.heap.size:=by have:=tL.size;omega
        have NU:(fF S x++t').length<=c14:=ZG;have abN:=zH NU;clear hkm hO hT3 hcells Im Ms Mt Wf ZH tL NT zz ZG NU;go_wp2_with (at_builtin;refine Lib.wpList_append_run _ rfl _ _ 64 64 rfl _ _ rfl rfl _ _ Um.out ?_);go_roundg (I5 S r c (fF S x++t'))
        case measure =>
         rw [HM.out];have:=FW HT.out Zs.out HK.out.up HR.out x;unfold I5 at this|-;rw [List.map_append,List.sum_append,List.map_cons,List.sum_cons];omega
        case rel =>
         refine ⟨l0++[I4 S bc x],bc++[n.no],fF S x++t',A14,c14,by rw[List.length_append],abN.out,?_,abM.out,abJ.out.ext Vj.out,XO.out.ext Vj.out,?_,ZA.out.trans Vj.out,?_,rfl,l2,?_,?_⟩
         ·have:=Ww.out;have:=Wu.out;have:=Vg.out;have:=nL.out
          rw [List.length_append,List.length_append,List.length_singleton];omega
         ·rw[List.length_append,List.length_append,<-YM.out,<-nL.out,JJ.out];rfl
         ·intro y hy
          rcases List.mem_append.1 hy with hy|hy
          ·exact tc HT.out Zs.out HK.out.up HR.out HPX.out y hy
          ·exact HPO.out y hy
         ·rw[w_.out];exact UZ.out
         ·rw[Wt.out,PZ.out,List.append_assoc];rfl
theorem Ep {S:ae} (h:jk 140 S):∃rows r,iC S [([47],1)] [] rows/\rows.length<=200/\ul S r/\oB S r ([47],1):=by
 obtain ⟨rows,hB⟩:=El h.iB.fE h.iB.JF h.iB.kids.up [([47],1)] [];obtain ⟨r,hr⟩:=h.iB.fE.Gw;refine ⟨rows,r,hB,?_,hr,?_,fun _=>?_⟩
 ·have:=I7 h.iB.fE h.iB.JF h.iB.kids hB
  have:=h.JP;omega
 ·show ([47]:List UInt8).length<=_
  simp only[List.length_cons,List.length_nil];omega
 ·show ([47]:List UInt8).length<=_
  simp only[List.length_cons,List.length_nil];omega
theorem Ja {w:World} {B:Nat} {f:cI} {s:av} (h:RS w B f s) (k:jk 140 s.t) (rows:List NM) (hB:iC s.t [([47],1)] [] rows) (hl:rows.length<=200) {r:Int->Nat} (hr:ul s.t r) (hp:oB s.t r ([47],1)) :
  Calls Tryz.prog 39 #[.pointer (some ⟨f.bF,0,none⟩)] w (fun e w'=>∃v,e=.returned v/\dq I8 w' w.heap.size v rows/\Ext w w'):=by
 obtain ⟨X,F⟩:=h.Sh;have KB:=zH (NR B f s.t X 1 [47] w F k.iB.fE k.iB.JF k.iB.kids (by omega) (by have:=k.iB.last;omega) rows hB (by omega) hr hp);clear F h k hB hl hr hp;go_enter Tryz.func39,Tryz.ntmps39;go_wp2_with fail;refine KB.out.mono ?_;rintro e w1 ⟨v,rfl,hO,hE⟩;have HO:=zH hO;clear hO;go_wp2_with fail;go_ret;exact ⟨v,rfl,HO.out,hE⟩
end Go.Proofs.YtpibnfdolojpcaaGreat
