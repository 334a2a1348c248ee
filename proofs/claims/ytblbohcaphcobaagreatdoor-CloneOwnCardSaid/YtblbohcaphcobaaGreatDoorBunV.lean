import Derived.Test.YtblbohcaphcobaaGreatDoorBunN
import Derived.Test.YtblbohcaphcobaaGreatDoorBunS
import Derived.Test.YtblbohcaphcobaaGreatDoorBunL
import Derived.Test.YtblbohcaphcobaaGreatDoorBunO
set_option maxHeartbeats 16000000
set_option maxRecDepth 100000
namespace Go.Proofs.YtblbohcaphcobaaGreatDoor
structure yG where
 path:List UInt8
 kind:Int
 mode:Int
 uid:Int
 gid:Int
 mtime:Int
 ctime:Int
 dev:Int
 first:Int
 data:List UInt8
def cX (s n:List UInt8):List UInt8:=l6 s++47::n
theorem Dx (s n:List UInt8):(cX s n).length<=s.length+1+n.length:=by
 unfold cX;have:=tW s;rw [List.length_append,List.length_cons];omega
def gL (aC:List Int) (no:Int):Nat:=aC.findIdx (· == no)
abbrev dB:=List UInt8×Int
def vO (S:aa) (aC:List Int) (x:dB):yG:=
 let n:=ac S.nodes (ar S.ag x.2)
 ⟨x.1,n.kind,n.mode,n.uid,n.gid,n.mtime,n.ctime,n.dev,gL aC n.no,n.data⟩
def cO (S:aa) (x:dB):List dB:=(ac S.nodes (ar S.ag x.2)).af.map fun y=>(cX x.1 y.1,y.2)
inductive dU (S:aa):List dB->List Int->List yG->Prop
 | nil (aC:List Int):dU S [] aC []
 | none {x:dB} {t:List dB} {aC:List Int} {l:List yG}:aK S.nodes (ar S.ag x.2)=false->dU S t aC l->dU S (x::t) aC l
 | step {x:dB} {t:List dB} {aC:List Int} {l:List yG}:aK S.nodes (ar S.ag x.2)=true->dU S (cO S x++t) (aC++[ar S.ag x.2]) l->dU S (x::t) aC (vO S aC x::l)
def vP (S:aa) (r:Int->Nat) (c:Nat) (l:List dB):Nat:=(l.map fun x=>BO S r c (ar S.ag x.2)).sum
theorem sD {c:Nat} {S:aa} (h:dC c S) (hn:bg S) (hl:oU S) {r:Int->Nat} (hr:tf S r) (x:dB):vP S r c (cO S x)<BO S r c (ar S.ag x.2):=by
 obtain⟨no,aU⟩:=aq (ar S.ag x.2);unfold cO;rw [<-aU]
 by_cases hk:(ac S.nodes no).kind=1
 ·obtain ⟨i1,i2,i3⟩:=bo hk
  have hrx:=hr.top no;have hs:=h.small _ i3;unfold vP;rw [List.map_map];have hle:∀y∈(ac S.nodes no).af,((fun x:dB=>BO S r c (ar S.ag x.2))∘fun y:aw=>(cX x.1 y.1,y.2)) y<=(c+2) ^ (S.nodes.length-r no):=by
   intro z hz;show BO S r c (ar S.ag z.2)<=_;unfold BO;split
   ·rename_i hk2
    obtain ⟨a1,a2⟩:=l7 h hl i3 hz hk2;rw [i2]at a1 a2;have hx1:=(h.aC.2 _ i3).1;rw [i2]at hx1;have h0:ar S.ag z.2≠0:=by
     intro e;rw[e]at hk2;have:=(bo hk2).1;rw [h.aC.zero (.inl (by decide))]at this;cases this
    have:=hr.step (ar S.ag z.2) h0 (by rw[a1];omega) (by rw[a1];exact Ne.symm a2);rw [a1]at this;exact Nat.pow_le_pow_right (by omega) (by omega)
   ·exact Nat.pow_pos (by omega)
  have h1:=Kl _ _ _ hle;have h2:BO S r c no=(c+2) ^ (S.nodes.length-r no)*(c+2):=by
   unfold BO;rw [if_pos hk,show S.nodes.length+1-r no=(S.nodes.length-r no)+1 by omega,Nat.pow_succ]
  rw [h2];have h3:0<(c+2) ^ (S.nodes.length-r no):=Nat.pow_pos (by omega)
  generalize (c+2) ^ (S.nodes.length-r no)=P at *
  have h4:(ac S.nodes no).af.length*P<=c*P:=Nat.mul_le_mul_right P hs;have h5:P*(c+2)=c*P+2*P:=by rw[Nat.mul_add,Nat.mul_comm P c,Nat.mul_comm P 2]
  refine Nat.lt_of_le_of_lt h1 ?_;omega
 ·have:(ac S.nodes no).af=[]:=by
   cases hi:aK S.nodes no
   ·rw[(aZ hi).1];rfl
   ·exact hn _ (aj hi).2.2 hk
  rw [this];exact oV S r c no
theorem Dy {c:Nat} {S:aa} (h:dC c S) (hn:bg S) (hl:oU S) (t:List dB) (aC:List Int):∃l,dU S t aC l:=by
 obtain ⟨r,hr⟩:=h.Jb;have key : ∀n t aC,vP S r c t<=n->∃l,dU S t aC l:=by
  intro n
  induction n with
  | zero =>
   intro t aC ht
   cases t with
   | nil=>exact⟨_,.nil _⟩
   | cons x t =>
    have:=oV S r c (ar S.ag x.2);unfold vP at ht;rw [List.map_cons,List.sum_cons]at ht;omega
  | succ n ih =>
   intro t aC ht
   cases t with
   | nil=>exact⟨_,.nil _⟩
   | cons x t =>
    have hp:=oV S r c (ar S.ag x.2);unfold vP at ht;rw [List.map_cons,List.sum_cons]at ht
    cases hi:aK S.nodes (ar S.ag x.2)
    ·obtain ⟨l,hd⟩:=ih t aC (by unfold vP;omega)
     exact ⟨_,.none hi hd⟩
    ·have hw:=sD h hn hl hr x
     obtain ⟨l,hd⟩:=ih (cO S x++t) (aC++[ar S.ag x.2]) (by
      unfold vP at hw|-;rw [List.map_append,List.sum_append];omega)
     exact ⟨_,.step hi hd⟩
 exact key _ t aC (Nat.le_refl _)
theorem LI {c:Nat} {S:aa} (h:dC c S) {j k:Nat} (hj:j<S.ag.length) (hk:k<S.ag.length) (e:S.ag[j].root=S.ag[k].root):j=k:=by
 obtain ⟨m,hm,m1,_,m3⟩:=h.eY j hj;obtain ⟨n,hn,n1,_,n3⟩:=h.eY k hk;have:=gw h.aC hm hn (by rw[m1,n1,e]);rw [this,n3]at m3;omega
theorem G6 {c:Nat} {S:aa} (h:dC c S) (k:Kids S) {m:ai} (hm:m∈S.nodes) {x y:aw} (hx:x∈m.af) (hy:y∈m.af) (hk:(ac S.nodes (ar S.ag x.2)).kind=1) (e:ar S.ag x.2=ar S.ag y.2):x=y:=by
 have px:=(h.pos _ hm x hx).1;have py:=(h.pos _ hm y hy).1;obtain ⟨_,kx,_⟩:=h.xR m hm x hx;obtain ⟨_,ky,_⟩:=h.xR m hm y hy;rcases gi h.oT (show 0<x.2 by omega) with e1|⟨i,hi,e1,e2⟩
 ·rcases gi h.oT (show 0<y.2 by omega) with f1|⟨j,hj,f1,f2⟩
  ·rw [e1]at hk
   obtain ⟨_,i2,i3⟩:=bo hk;exact k.once m hm x hx y hy _ i3 i2 hk (by rw[<-e1,<-f1,e])
  ·have:=kx _ (List.getElem_mem hj)
   exact absurd (by rw[<-e1,e,f2]) this
 ·rcases gi h.oT (show 0<y.2 by omega) with f1|⟨j,hj,f1,f2⟩
  ·have:=ky _ (List.getElem_mem hi)
   exact absurd (by rw[<-f1,<-e,e2]) this
  ·have hij:=LI h hi hj (by rw[<-e2,<-f2,e])
   have:i=j:=by omega
   subst this;obtain ⟨q,hq,q1,q2,_⟩:=h.lC i hi;exact k.once m hm x hx y hy q hq (by rw[q1,e1]) q2 (by rw[<-e1,<-f1])
theorem Bm {c:Nat} {S:aa} (h:dC c S) (hn:bg S) (k:Kids S) {r:Int->Nat} (hr:tf S r) (x0:Int) {t:List dB} {aC:List Int} {l:List yG} (hd:dU S t aC l) :
  ∀ E : List Int,E.Nodup->(∀y∈E,(ac S.nodes y).kind=1/\r x0<=r y/\(y=x0\/a_ S y∈E)) ->
   (∀z∈t,(ac S.nodes (ar S.ag z.2)).kind=1->ar S.ag z.2∉E/\r x0<=r (ar S.ag z.2)/\(ar S.ag z.2=x0\/a_ S (ar S.ag z.2)∈E)) ->
   t.Pairwise (fun a b=>(ac S.nodes (ar S.ag a.2)).kind=1->(ac S.nodes (ar S.ag b.2)).kind=1->ar S.ag a.2≠ar S.ag b.2) ->
   l.length+(E.map fun y=>(ac S.nodes y).af.length).sum<=t.length+bH S:=by
 induction hd with
 | nil =>
  intro E h1 h2 _ _;have:=qU S.nodes (fun n=>n.af.length) E h1 (fun y hy=>⟨_,(bo (h2 y hy).1).2.2,(bo (h2 y hy).1).2.1⟩) h.aC.1;unfold bH;simp only[List.length_nil];omega
 | none _ _ ih =>
  intro E h1 h2 h3 h4;rw [List.pairwise_cons]at h4;have:=ih E h1 h2 (fun z hz=>h3 z (List.mem_cons_of_mem _ hz)) h4.2;rw [List.length_cons];omega
 | @step x t aC l hi hd ih =>
  intro E h1 h2 h3 h4;rw [List.pairwise_cons]at h4;obtain⟨X,hX⟩:=aq (ar S.ag x.2);have hlen:(cO S x).length=(ac S.nodes X).af.length:=by unfold cO;rw[List.length_map,hX]
  by_cases hx:(ac S.nodes X).kind=1
  ·obtain ⟨x1,x2,x3⟩:=h3 x (List.mem_cons_self ..) (by rw[<-hX];exact hx)
   rw [<-hX]at x1 x2 x3;obtain ⟨iX,nX,mX⟩:=bo hx;have TC:=(h.aC.2 _ mX).1;rw [nX]at TC;have hch:∀y∈(ac S.nodes X).af,(ac S.nodes (ar S.ag y.2)).kind=1->a_ S (ar S.ag y.2)=X/\r X<r (ar S.ag y.2)/\ar S.ag y.2≠x0/\ar S.ag y.2∉X::E:=by
    intro y hy hk;obtain ⟨a1,a2⟩:=l7 h k.up mX hy hk;rw [nX]at a1 a2;have h0:ar S.ag y.2≠0:=by
     intro e;rw[e]at hk;have:=(bo hk).1;rw [h.aC.zero (.inl (by decide))]at this;cases this
    have hlt:=hr.step (ar S.ag y.2) h0 (by rw[a1];omega) (by rw[a1];exact Ne.symm a2);rw [a1]at hlt;have hne:ar S.ag y.2≠x0:=fun e=>by rw[e]at hlt;omega
    refine ⟨a1,hlt,hne,fun hm=>?_⟩;rcases List.mem_cons.1 hm with e|hm
    ·exact a2 e
    ·rcases (h2 _ hm).2.2 with e|e
     ·exact hne e
     ·rw[a1]at e;exact x1 e
   have := ih (X::E) (List.nodup_cons.2 ⟨x1,h1⟩)
    (fun y hy=>by
     rcases List.mem_cons.1 hy with rfl|hy
     ·exact⟨hx,x2,x3.imp id (List.mem_cons_of_mem _)⟩
     ·obtain ⟨a1,a2,a3⟩:=h2 y hy
      exact ⟨a1,a2,a3.imp id (List.mem_cons_of_mem _)⟩)
    (fun z hz hk=>by
     rcases List.mem_append.1 hz with hz|hz
     ·unfold cO at hz
      rw [<-hX,List.mem_map]at hz;obtain ⟨y,hy,rfl⟩:=hz;obtain ⟨c1,c2,c3,c4⟩:=hch y hy hk;exact ⟨c4,by show r x0<=r (ar S.ag y.2);omega,.inr (by show a_ S (ar S.ag y.2)∈_;rw[c1];exact List.mem_cons_self ..)⟩
     ·obtain ⟨a1,a2,a3⟩:=h3 z (List.mem_cons_of_mem _ hz) hk
      refine ⟨fun hm=>?_,a2,a3.imp id (List.mem_cons_of_mem _)⟩;rcases List.mem_cons.1 hm with e|hm
      ·exact h4.1 z hz (by rw[<-hX];exact hx) hk (by rw[<-hX];exact e.symm)
      ·exact a1 hm)
    (List.pairwise_append.2 ⟨?_,h4.2,fun a ha b hb ka kb e=>?_⟩)
   ·rw [List.map_cons,List.sum_cons,List.length_append,hlen]at this
    simp only[List.length_cons];omega
   ·unfold cO
    rw [<-hX,List.pairwise_map];refine List.Pairwise.imp_of_mem ?_ (h.mq _ mX);intro a b ha hb hab ka _ e;have e1:=G6 h k mX ha hb ka e;rw [e1,cD]at hab;cases hab
   ·unfold cO at ha
    rw [<-hX,List.mem_map]at ha;obtain ⟨y,hy,rfl⟩:=ha;obtain ⟨c1,c2,c3,c4⟩:=hch y hy ka;have e':ar S.ag y.2=ar S.ag b.2:=e;rcases (h3 b (List.mem_cons_of_mem _ hb) kb).2.2 with e1|e1
    ·exact c3 (e'.trans e1)
    ·rw[<-e',c1]at e1;exact x1 e1
  ·have hke:cO S x=[]:=by
    unfold cO;rw [<-hX,hn _ (aj (show aK S.nodes X=true by rw[hX];exact hi)).2.2 hx];rfl
   rw [hke]at ih;have:=ih E h1 h2 (fun z hz=>h3 z (List.mem_cons_of_mem _ hz)) h4.2;rw [List.nil_append]at this;simp only[List.length_cons];omega
theorem G7 {c:Nat} {S:aa} (h:dC c S) (hn:bg S) (k:Kids S) {x:dB} {l:List yG} (hd:dU S [x] [] l):l.length<=1+bH S:=by
 obtain ⟨r,hr⟩:=h.Jb;have:=Bm h hn k hr (ar S.ag x.2) hd [] List.nodup_nil (fun y hy=>by cases hy) (fun z hz _=>by rw[List.mem_singleton]at hz;subst hz;exact⟨by simp,Nat.le_refl _,.inl rfl⟩) (List.pairwise_singleton _ _);simpa using this
def kL (S:aa) (r:Int->Nat) (x:dB):Prop:=x.1.length<=300*(S.nodes.length+2)/\((ac S.nodes (ar S.ag x.2)).kind=1->x.1.length<=300*(r (ar S.ag x.2)+1))
theorem kY {c:Nat} {S:aa} (h:dC c S) (hn:bg S) (hl:oU S) {r:Int->Nat} (hr:tf S r) {x:dB} (hx:kL S r x):∀y∈cO S x,kL S r y:=by
 intro y hy;unfold cO at hy;rw [List.mem_map]at hy;obtain ⟨z,hz,rfl⟩:=hy;obtain⟨X,hX⟩:=aq (ar S.ag x.2);rw [<-hX]at hz;unfold kL at hx;rw [<-hX]at hx;have hk:(ac S.nodes X).kind=1:=by
  rcases Decidable.em ((ac S.nodes X).kind=1) with hk|hk
  ·exact hk
  ·exfalso
   cases hi:aK S.nodes X
   ·rw[(aZ hi).1]at hz;cases hz
   ·rw[hn _ (aj hi).2.2 hk]at hz;cases hz
 obtain ⟨iX,nX,mX⟩:=bo hk;have hx2:=hx.2 hk;have gP:=(h.names _ mX z hz).2;have hlen:=Dx x.1 z.1;have ach:=hr.top X;refine ⟨by show (cX x.1 z.1).length<=_;omega,fun hk2=>?_⟩;obtain ⟨a1,a2⟩:=l7 h hl mX hz hk2;rw [nX]at a1 a2;have TC:=(h.aC.2 _ mX).1;rw [nX]at TC;have h0:ar S.ag z.2≠0:=by
  intro e;have lr:(ac S.nodes (ar S.ag z.2)).kind=1:=hk2;rw [e]at lr;have:=(bo lr).1;rw [h.aC.zero (.inl (by decide))]at this;cases this
 have hlt:=hr.step (ar S.ag z.2) h0 (by rw[a1];omega) (by rw[a1];exact Ne.symm a2);rw [a1]at hlt;show (cX x.1 z.1).length<=300*(r (ar S.ag z.2)+1);omega
open Go.ChangeShapes Go.WideShapes Go.ChangeAt Go.RowKit
theorem LJ (l:List UInt8) (w:World) (hlen:l.length<=1000000):Calls Tryz.prog 77 #[bs l] w (aH w (.string (bs (l6 l)))):=by
 go_enter Tryz.func77,Tryz.ntmps77;go_wp2_with fail;go_loopw [0] (fun u wr=>∃m:List UInt8,u=.string (bs m)/\m.length<=l.length/\Hid (l6 m=l6 l)/\wr=w) (fun u _=>(strOf u).size)
 case atStart=>exact⟨l,rfl,Nat.le_refl _,rfl,rfl⟩
 case round =>
  obtain ⟨m,rfl,hm,hc,rfl⟩:=hrel;have z0:(bs m).size=m.length:=aR m;rcases CU m with h|⟨a,c,h⟩
  ·have HF:Hid (l6 l=m):=by show _=_;rw[<-hc.out,h];rfl
   have hm0:m.length=0:=by rw[h];rfl
   clear h;go_wp2_with fail;go_ret;exact aH.mk (si (by rw[HF.out])) (Ext.refl _)
  ·have M9:m.length=a.length+1:=by rw[h];simp
   have hks:a.length<(bs m).size:=by omega
   have hg:(bs m)[a.length]=c:=by
    rw [BU m a.length hks (by omega)];simp [h]
   have Vl:IntKind.i64.wrap (a.length:Int)=a.length:=bQ (by omega) (by omega)
   by_cases hcs:c=47
   ·have hs2:(((bs m)[a.length].toNat:Int) == 47)=true:=by rw[hg,hcs];rfl
    have hn:Hid (l6 a=l6 l):=by
     show _=_;rw [<-hc.out,h,hcs,Gn]
    have ha:(bs m).extract 0 a.length=bs a:=by rw[Vk,h];simp
    have wH:=J3 (P:=Tryz.prog) Tryz.underlying9 (bs m) (a.length:Int) a.length rfl (by omega) (bs a) ha;have za:(bs a).size=a.length:=aR a;clear hg hcs h ha;go_wp2_with fail;go_roundw
    case rel=>exact⟨a,rfl,by omega,hn,by first|trivial|rfl⟩
    case measure=>simp[strOf];omega
   ·have HF:Hid (l6 l=m):=by show _=_;rw[<-hc.out,h];exact Gp hcs
    have hs2:(((bs m)[a.length].toNat:Int) == 47)=false:=by
     rw [hg];exact (wO (c:=c) (d:=47)).trans (beq_eq_false_iff_ne.2 hcs)
    clear hg hcs h;go_wp2_with fail;go_ret;exact aH.mk (si (by rw[HF.out])) (Ext.refl _)
theorem Dz (a b:List UInt8) (w:World) (ha:a.length<=100000) (hb:b.length<=100000):Calls Tryz.prog 42 #[bs a,bs b] w (aH w (.string (bs (cX a b)))):=by
 have hcl:=tW a;have hf:Hid (cX a b=l6 a++47::b):=rfl;obtain⟨C,hC⟩:=aq (l6 a);rw [<-hC]at hcl hf;have z1:(bs C).size=C.length:=aR C;have z2:(bs b).size=b.length:=aR b;have z3:(bs (C++[47])).size=C.length+1:=by rw[aR];simp
 have c1:bs C++(⟨#[47]⟩:ByteArray)=bs (C++[47]):=lk C [47];have c2:bs (C++[47])++bs b=bs (C++47::b):=by rw[lk];simp
 have jO:¬9223372036854775807<C.length+1:=by omega
 have hb2:¬9223372036854775807<C.length+1+b.length:=by omega
 have HC:=zH hC;clear hC;go_enter Tryz.func42,Tryz.ntmps42;go_wp2_with fail;refine (LJ a _ (by omega)).mono ?_;rintro e w1 ⟨rfl,D_⟩;rw [<-HC.out];go_wp2_with fail;go_ret;exact aH.mk (si (by rw[hf.out])) D_
def l8:RowK yG:=⟨71,83,10,96,.agg #[.string ⟨#[]⟩,.int .i64 0,.int .i64 0,.int .i64 0,.int .i64 0,.int .i64 0,.int .i64 0,.int .i64 0,.int .i64 0,.string ⟨#[]⟩],
 fun x=>[.string (bs x.path),.int .i64 x.kind,.int .i64 x.mode,.int .i64 x.uid,.int .i64 x.gid,.int .i64 x.mtime,.int .i64 x.ctime,.int .i64 x.dev,.int .i64 x.first,.string (bs x.data)],by decide,Tryz.underlying71,by kernel_rfl,rfl,fun _=>rfl,fun x u hu=>by
 simp only[List.mem_cons,List.not_mem_nil,or_false]at hu;rcases hu with rfl|rfl|rfl|rfl|rfl|rfl|rfl|rfl|rfl|rfl<;>rfl,by decide⟩
theorem iG (a:Int) (l:List Int) (no:Int):gL (a::l) no=if (a == no)=true then 0 else gL l no+1:=by
 unfold gL;rw [List.findIdx_cons]
 cases a == no<;>rfl
def mj (aC:List Int) (no:Int) (p:Nat):Nat:=p+gL (aC.drop p) no
theorem G8 (aC:List Int) (no:Int):mj aC no aC.length=aC.length:=by unfold mj;rw[List.drop_length];rfl
theorem DA {aC:List Int} {no:Int} {p:Nat} (hp:p<aC.length):mj aC no p=if (aC[p] == no)=true then p else mj aC no (p+1):=by
 unfold mj;rw [List.drop_eq_getElem_cons hp,iG];split<;>omega
theorem DB (aC:List Int) (no:Int):mj aC no 0=gL aC no:=by unfold mj;rw[List.drop_zero,Nat.zero_add]
theorem Bn {w w':World} {b:Nat} {t:TypeId} {L:List Nat} (h:fS w b t) (o:Only L w w') (hn:b∉L):fS w' b t:=by
 obtain ⟨cs,f,e⟩:=h;have hb:b<w.heap.size:=by
  rcases Nat.lt_or_ge b w.heap.size with h'|h'
  ·exact h'
  ·simp[Array.getElem?_eq_none h']at e
 exact ⟨cs,f,(o.block b hb hn).trans e⟩
def jM (w:World) (A:Option Addr) (l:List dB):Prop:=l=[]\/∃b o,A=some ⟨b,o,none⟩/\b<w.heap.size/\fS w b 106/\∀k,(h:k<l.length)->w.cell? ⟨b,o+k*2,none⟩=some (.string (bs l[k].1))/\w.cell? ⟨b,o+k*2+1,none⟩=some (.int .i64 l[k].2)
theorem jM.only {w w':World} {A:Option Addr} {l:List dB} {L:List Nat} (h:jM w A l) (o:Only L w w') (hn:∀x∈L,¬fS w x 106):jM w' A l:=by
 rcases h with h|⟨b,f,hA,hb,ht,hc⟩
 ·exact .inl h
 ·have Nu:b∉L:=fun hx=>hn b hx ht
  refine .inr ⟨b,f,hA,by have:=o.size;omega,Bn ht o Nu,fun k hk=>?_⟩;have hcell:∀i,w'.cell? ⟨b,i,none⟩=w.cell? ⟨b,i,none⟩:=fun i=>GP (o.block b hb Nu) i
  rw [hcell,hcell];exact hc k hk
theorem jM.ext {w w':World} {A:Option Addr} {l:List dB} (h:jM w A l) (k:Ext w w'):jM w' A l:=h.only (Only.av (L:=[]) k) (by simp)
theorem bZ.LK {α:Type} {R:RowK α} {w:World} {base:Nat} {v:Value} {l:List α} (k:bZ R w base v l) (h1:R.t≠106):∀x∈v.ownBlock.toList,¬fS w x 106:=by
 intro x hx;have hx:=Option.mem_toList.1 hx;rintro ⟨cs,fr,e⟩;obtain ⟨cs2,fr2,e2⟩:=k.tag hx;rw [e2]at e;injection e with e;injection e with _ e;exact h1 e
theorem bZ.apart {α β:Type} {R:RowK α} {Q:RowK β} {w:World} {base WH:Nat} {v u:Value} {l:List α} {m:List β} (h:bZ R w base v l) (k:bZ Q w WH u m) (hne:R.t≠Q.t):∀g,v.ownBlock=some g->g∉u.ownBlock.toList:=by
 intro g hg hm;obtain ⟨cs,fr,e⟩:=h.tag hg;obtain ⟨cs2,fr2,e2⟩:=k.tag (Option.mem_toList.1 hm);rw [e2]at e;injection e with e;injection e with _ e;exact hne e.symm
theorem bZ.todo {w:World} {base:Nat} {v:Value} {l:List dB} (h:bZ Dj w base v l):∃A cap,v=.slice A l.length cap/\l.length<=cap/\jM w A l:=by
 rcases h.cases with⟨rfl,rfl⟩|⟨g,cap,cur,rfl,_,h3,h4,_,h6⟩
 ·exact⟨none,0,rfl,Nat.le_refl _,.inl rfl⟩
 ·refine ⟨_,cap,rfl,h4,.inr ⟨g,0,rfl,h3.lt,⟨_,_,h3⟩,fun k hk=>?_⟩⟩
  rw [Nat.zero_add];exact ⟨h6 k hk 0 (by decide),h6 k hk 1 (by decide)⟩
theorem LL {c : Nat} (B:Nat) (f:cE) (S:aa) (X:cQ) (no:Int) (path:List UInt8) (w:World) (F:gU w B f S X) (T:dC c S) (hE:bg S) (hK:Kids S) (hc:c<=900) (hl:S.last<=300) (rows:List yG) (hB:dU S [(path,no)] [] rows) (hlen:rows.length<=1000)
  {r:Int->Nat} (hr:tf S r) (hp:kL S r (path,no)) :
  Calls Tryz.prog 21 #[.pointer (some ⟨f.bF,0,none⟩),.int .i64 no,bs path] w (fun e w'=>∃v,e=.returned v/\bZ l8 w' w.heap.size v rows/\Ext w w'):=by
 have mB:S.nodes.length<=300:=by have:=T.count;omega
 have hBw:B<=w.heap.size:=by have h1:=(F.apart f.bF (by simp[cE.list])).1;have h2:=F.lt.1;omega
 have KO:Hid (∀(u:World) (n:Int),Ext w u->Calls Tryz.prog 16 #[.pointer (some ⟨f.bF,0,none⟩),.int .i64 n] u (aH u (.int .i64 (ar S.ag n)))):=fun u n hu=>jl B f S X n u (F.ext hu) (by have:=T.eight;omega)
 have KG:Hid (∀(u:World) (n:Int),Ext w u->Calls Tryz.prog 14 #[.pointer (some ⟨f.bF,0,none⟩),.int .i64 n] u (Ns u B S.nodes n)):=fun u n hu=>fc B f S X n u (F.ext hu) (by omega) T.aC
 obtain ⟨W1,bV⟩:∃W,W=w.alloc (.cells #[bs path,.int .i64 no] 106):=⟨_,rfl⟩;obtain ⟨b1,jO⟩:∃b,b=w.heap.size:=⟨_,rfl⟩;have E1:Ext w W1:=by rw[bV];exact (Ext.refl _).alloc _
 have B1:Has W1 b1 (.cells #[bs path,.int .i64 no] 106):=by rw[bV,jO];exact Has.new _ _
 have T1:Hid (jM W1 (some ⟨b1,0,none⟩) [(path,no)]):=.inr ⟨b1,0,rfl,B1.lt,⟨_,_,B1⟩,fun k hk=>by
  have:k=0:=by simpa using hk
  subst this;exact ⟨B1.cell 0,B1.cell 1⟩⟩
 have HB:=zH hB;have HP:=zH hp;have HT:=zH T;have Qs:=zH hE;have HK:=zH hK;have HR:=zH hr;have SN:=zH hlen;clear F hB hp T hE hK hr hlen B1;go_enter Tryz.func21,Tryz.ntmps21;go_upto_region 4 with fail;rw [<-bV,<-jO];clear bV jO;go_loopg [7,8,9] (vP S r c [(path,no)]) (fun m vo vn vt wr=>∃(l0:List yG) (aC:List Int) (t:List dB) (A:Option Addr) (cap:Nat),vt=.slice A t.length cap/\t.length<=cap/\t.length<=1+aC.length*1000/\jM wr A t/\bZ l8 wr w.heap.size vo l0/\bZ pW wr w.heap.size vn aC/\l0.length=aC.length/\Ext w wr/\(∀x∈t,kL S r x)/\m=vP S r c t/\∃l1,dU S t aC l1/\rows=l0++l1)
 case atStart=>exact⟨[],[],[(path,no)],_,1,rfl,Nat.le_refl _,by simp,T1.out,bZ.nil _ _ _,bZ.nil _ _ _,rfl,E1,fun x hx=>by rw[List.mem_singleton]at hx;subst hx;exact HP.out,rfl,rows,HB.out,rfl⟩
 case round =>
  clear T1;obtain⟨V,hV⟩:=aq wr;subst hV;obtain ⟨l0,aC,t,A,cap,rfl,hcap,pJ,hT,hO,hN,Hl,hE,Qt,hm,l1,OL,na⟩:=hrel;obtain ⟨Ao,OM,rfl,_,_,_,_⟩:=hO.at_;obtain ⟨An,aaU,rfl,_,_,SP,_⟩:=hN.at_;have hn0:aC.length<=1000:=by have:=SN.out;rw[na,List.length_append]at this;omega
  cases t with
  | nil =>
   have hf:Hid (rows=l0):=by show _=_;cases OL;rw[na,List.append_nil]
   have HO:=zH hO;have HE:=zH hE;obtain ⟨no',I1⟩:∃n,n=l0.length:=⟨_,rfl⟩;rw [<-I1]at HO|-;clear hcap pJ hT hO hN Hl hE Qt hm OL na SP I1;simp only[List.length_nil];go_wp2_with fail;go_ret;exact ⟨_,rfl,by rw[hf.out];exact HO.out,HE.out⟩
  | cons x t' =>
   obtain ⟨gt,ot,rfl,hgt,LM,hcell⟩:∃b o,A=some ⟨b,o,none⟩/\b<V.heap.size/\fS V b 106/\∀k,(h:k<(x::t').length)->V.cell? ⟨b,o+k*2,none⟩=some (.string (bs (x::t')[k].1))/\V.cell? ⟨b,o+k*2+1,none⟩=some (.int .i64 (x::t')[k].2):=by
    rcases hT with h|h
    ·cases h
    ·exact h
   have q0:V.cell? ⟨gt,ot,none⟩=some (.string (bs x.1)):=(hcell 0 (Nat.succ_pos _)).1;have q1:V.cell? ⟨gt,ot+1,none⟩=some (.int .i64 x.2):=(hcell 0 (Nat.succ_pos _)).2;obtain⟨T,Hu⟩:=aq t'.length;have e2:(x::t').length=T+1:=by rw[Hu];rfl
   rw [e2]at hcap pJ|-;obtain ⟨ox,WI⟩:∃ox,(cap=1/\ox=ot\/cap≠1/\ox=ot+2):=by
    by_cases QL:cap=1
    ·exact⟨_,.inl ⟨QL,rfl⟩⟩
    ·exact⟨_,.inr ⟨QL,rfl⟩⟩
   have hso:(if cap=1 then (some ⟨gt,ot,none⟩:Option Addr) else some ⟨gt,ot+2,none⟩)=some ⟨gt,ox,none⟩:=by
    rcases WI with⟨h1,h2⟩|⟨h1,h2⟩
    ·rw[if_pos h1,h2]
    ·rw[if_neg h1,h2]
   have yw:jM V (some ⟨gt,ox,none⟩) t':=by
    rcases WI with⟨h1,h2⟩|⟨h1,h2⟩
    ·left
     cases t' with
     | nil=>rfl
     | cons y t''=>exfalso;rw[Hu,List.length_cons]at hcap;omega
    ·refine .inr ⟨gt,ox,rfl,hgt,LM,fun k hk=>?_⟩
     have:=hcell (k+1) (by simpa using hk);rw [show ot+(k+1)*2=ot+2+k*2 by omega]at this;rw [h2];simpa using this
   have Rp:T+1<=cap:=hcap;have hpx:=Qt x (List.mem_cons_self ..);have WJ:=zH (fun y (hy:y∈t')=>Qt y (List.mem_cons_of_mem _ hy));have HPX:=zH hpx;have SQ:=zH OL;have MX:=zH na;have HM:=zH hm;have HO:=zH hO;have HN:=zH hN;have yt:=zH Hl;have HE:=zH hE;have BP:=zH yw;have Uc:=zH Hu;have aci:=zH LM;have acj:=zH SP;obtain ⟨nn,TF⟩:∃n,n=aC.length:=⟨_,rfl⟩;obtain ⟨nl,OO⟩:∃n,n=l0.length:=⟨_,rfl⟩;rw [<-TF,<-OO]at yt;rw [<-TF]at HN pJ hn0|-;rw [<-OO]at HO|-;have u9:=zH TF;have SR:=zH pJ;have SS:=zH OO;have Hm:nl=nn:=yt.out;obtain ⟨W4,fO⟩:∃W,W=V.alloc (.cells #[bs x.1,.int .i64 x.2] 106):=⟨_,rfl⟩;obtain ⟨jb,jC⟩:∃b,b=V.heap.size:=⟨_,rfl⟩;have E4:Ext V W4:=by rw[fO];exact (Ext.refl _).alloc _
   have X4:Has W4 jb (.cells #[bs x.1,.int .i64 x.2] 106):=by rw[fO,jC];exact Has.new _ _
   clear Qt hpx OL na hm hO hN Hl hE yw Hu LM SP hcell TF OO hcap e2 Hm pJ;go_upto_region 7 with fail;rw [<-fO,<-jC];clear fO jC q0 q1 hgt;have y1:=X4.cell 1;have yz:=X4.lt;simp only[gA,gB,gC]at y1;have Qo:=zH X4;clear X4;obtain⟨X,hX⟩:=aq (ar S.ag x.2);have KO4:=KO.out W4 x.2 (HE.out.trans E4);rw [<-hX]at KO4;have WK:=zH KO4;have HX:=zH hX;clear hX KO4;go_wp2_with fail;refine WK.out.mono ?_;rintro e w5 ⟨rfl,b5⟩;go_wp2_with fail;refine (KG.out w5 X ((HE.out.trans E4).trans b5)).mono ?_;rintro e w6 ⟨A6,c6,rfl,rZ,b6⟩;obtain⟨n,hn⟩:=aq (ac S.nodes X);rw [<-hn]at rZ|-;have Ud:=zH hn;clear y1 yz hn WK;obtain ⟨W7,G9⟩:∃W,W=w6.alloc (.cells #[n.no,n.dev,n.kind,n.mode,n.uid,n.gid,n.mtime,n.ctime,n.ah,n.up,bs n.data,.slice A6 n.af.length c6] 58):=⟨_,rfl⟩;obtain ⟨fR,vC⟩:∃b,b=w6.heap.size:=⟨_,rfl⟩;have N7:Has W7 fR (.cells #[n.no,n.dev,n.kind,n.mode,n.uid,n.gid,n.mtime,n.ctime,n.ah,n.up,bs n.data,.slice A6 n.af.length c6] 58):=by rw[G9,vC];exact Has.new _ _
   have E7:Ext V W7:=by rw[G9];exact ((E4.trans b5).trans b6).alloc _
   have E47:Ext W4 W7:=by rw[G9];exact (b5.trans b6).alloc _
   have xH:ax W7 B n A6 c6:=rZ.ext (by rw[G9];exact (Ext.refl _).alloc _);go_upto_region 8 with fail;rw [<-G9,<-vC];clear G9 vC rZ b5 b6;have HOK:=zH xH;have HN7:=zH N7;obtain ⟨n0,n1,n2,n3,n4,n5,n6,n7,n8,n9,CE,zT⟩:=N7.dP;have nz:=N7.lt;clear xH N7
   cases hi:aK S.nodes X with
   | false =>
    have aU:n.no=0:=by rw[Ud.out,(aZ hi).1];rfl
    have t0:(n.no == 0)=true:=by rw[aU];rfl
    obtain ⟨oP⟩:Nonempty (dU S t' aC l1):=by
     have h0:=SQ.out
     cases h0 with
     | none _ h=>exact⟨h⟩
     | step h _=>rw[<-HX.out,hi]at h;cases h
    have Ht:=zH oP;clear aU hi oP;go_wp2_with fail;go_roundg (vP S r c t')
    case measure =>
     rw [HM.out];have:=oV S r c (ar S.ag x.2);unfold vP;rw [List.map_cons,List.sum_cons];omega
    case rel=>exact⟨l0,aC,t',some ⟨gt,ox,none⟩,cap-1,by rw[Uc.out],by have:=Uc.out;omega,by have:=SR.out;have:=Uc.out;have:=u9.out;omega,BP.out.ext E7,HO.out.ext E7,HN.out.ext E7,by rw[<-SS.out,<-u9.out];exact yt.out,HE.out.trans E7,WJ.out,rfl,l1,Ht.out,MX.out⟩
   | true =>
    have aU:n.no=X:=by rw[Ud.out];exact (aj hi).2.1
    have hX0:X≠0:=by have:=(HT.out.aC.2 _ (aj hi).2.2).1;rw[(aj hi).2.1]at this;omega
    have t0:(n.no == 0)=false:=by rw[aU];simpa using hX0
    have Cy:n.af.length<=1000:=by rw[Ud.out];have:=HT.out.small _ (aj hi).2.2;omega
    obtain ⟨l2,qd,oP⟩:∃l2,l1=vO S aC x::l2/\dU S (cO S x++t') (aC++[X]) l2:=by
     have h0:=SQ.out
     cases h0 with
     | none h _=>rw[<-HX.out,hi]at h;cases h
     | step _ h=>exact⟨_,rfl,by rw[HX.out];exact h⟩
    have rR:=zH aU;have Ht:=zH oP;have Sk:=zH qd;have aaV:=zH Cy;clear aU hX0 qd oP hi Cy;have p0:(0:Int)<=(nn:Int):=Int.natCast_nonneg _;have BM:IntKind.i64.wrap ((nn:Int)-1)=(nn:Int)-1:=IntWalk.i64_in _ (by omega);go_wp2_with fail;go_loopw [12,13] (fun vf vi wr=>∃p:Nat,vi=.int .i64 ((p:Int)-1)/\p<=nn/\vf=.int .i64 (mj aC X p:Nat)/\Ext W7 wr) (fun _ vi _=>(intOf vi+1).toNat)
    case atStart=>exact⟨nn,rfl,Nat.le_refl _,by rw[u9.out,G8,<-u9.out];rw[<-yt.out],Ext.refl _⟩
    case round =>
     obtain ⟨p,MU,hp,rfl,kZ⟩:=hrel;have G_:Ext V wr:=E7.trans kZ;have ack:=zH G_;have y_:=zH kZ;rcases p with _|p
     case succ =>
      have Di:u13=.int .i64 (p:Int):=by rw[MU];simp
      subst Di;have hpl:p<aC.length:=by have:=u9.out;omega
      obtain ⟨gn,rfl,NM,qn⟩:∃gn,An=some ⟨gn,0,none⟩/\gn<wr.heap.size/\wr.cell? ⟨gn,p,none⟩=some (.int .i64 aC[p]):=by
       rcases (HN.out.ext G_).cases with⟨_,h2⟩|⟨gm,cap,cur,h2,_,h3,_,_,h4⟩
       ·rw[h2]at hpl;cases hpl
       ·injection h2 with h2
        have:=h4 p hpl 0 (by decide);exact ⟨gm,h2,h3.lt,by simpa [pW]using this⟩
      have hst:=DA (no:=X) hpl;obtain⟨y,hy⟩:=aq (aC[p]);rw [<-hy]at qn hst;have oD:=zH hst;have k0:=(kZ.cell nz).trans n0;have kz:fR<wr.heap.size:=by have:=kZ.size;omega
      have q0:(0:Int)<=(p:Int):=Int.natCast_nonneg _;have Yx:IntKind.i64.wrap ((p:Int)-1)=(p:Int)-1:=IntWalk.i64_in _ (by omega);have Ty:(p:Int)<nn:=by omega
      by_cases hyx:y=n.no
      ·have t1:(y == n.no)=true:=by simpa using hyx
       have hF:Hid (mj aC X p=p):=by show _=_;rw[oD.out,if_pos (by rw[<-rR.out];exact t1)]
       clear hst hy hyx MU G_ kZ n0 n1 n2 n3 n4 n5 n6 n7 n8 n9 CE zT nz hpl;go_upto_region 13 with fail;go_quiet (fail);have EQ:=zH (y_.out.drewN nq);go_wp2_with fail;go_roundw
       case rel=>exact⟨p,rfl,by omega,by rw[hF.out],EQ.out⟩
       case measure=>simp[intOf]
      ·have t1:(y == n.no)=false:=by simpa using hyx
       have hF:Hid (mj aC X p=mj aC X (p+1)):=by show _=_;rw[oD.out,if_neg (by rw[<-rR.out,t1];decide)]
       clear hst hy hyx MU G_ kZ n0 n1 n2 n3 n4 n5 n6 n7 n8 n9 CE zT nz hpl;go_upto_region 13 with fail;go_quiet (fail);have EQ:=zH (y_.out.drewN nq);go_wp2_with fail;go_roundw
       case rel=>exact⟨p,rfl,by omega,by rw[hF.out],EQ.out⟩
       case measure=>simp[intOf]
     case zero =>
      have Di:u13=.int .i64 (-1):=MU;subst Di;have WL:w.heap.size<=wr.heap.size:=(HE.out.trans G_).size;obtain ⟨row,hrow⟩:∃r,r=vO S aC x:=⟨_,rfl⟩;have rD:row=⟨x.1,n.kind,n.mode,n.uid,n.gid,n.mtime,n.ctime,n.dev,((gL aC X:Nat):Int),n.data⟩:=by
       rw [hrow];unfold vO;rw [<-HX.out,<-Ud.out];dsimp only;rw [rR.out]
      obtain ⟨fi,hfi⟩:∃i:Int,i=((gL aC X:Nat):Int):=⟨_,rfl⟩;rw [<-hfi]at rD;have WM:((mj aC X 0:Nat):Int)=fi:=by rw[hfi,DB]
      rw [WM];have OP:=zH hrow;have WN:=zH rD;obtain ⟨v8,w8,WO,ST,SU,fP⟩:=um pW wr (HN.out.ext G_) WL n.no (by have:=u9.out;omega);have E28:Ext w w8:=((HE.out.trans G_).alloc _).grown SU (fun g hv=>((HN.out.ext G_).lt hv).1);have o8:Only (Value.slice An nn aaU).ownBlock.toList wr w8:=(Only.gJ _ _ _).then (Only.of_grownBy SU (fun g hv=>Option.mem_toList.2 hv));have Qn:=HN.out.ext G_;have R8:bZ l8 w8 w.heap.size (.slice Ao nl OM) l0:=(HO.out.ext G_).only o8 (fun g hv hm=>(HO.out.ext G_).apart Qn (by decide) g hv hm);have T8:jM w8 (some ⟨gt,ox,none⟩) t':=(BP.out.ext G_).only o8 (Qn.LK (by decide));have X8:Has w8 jb (.cells #[bs x.1,.int .i64 x.2] 106):=o8.has ((Qo.out.ext E47).ext kZ) (fun hm=>Qn.LK (by decide) _ hm ⟨_,_,(Qo.out.ext E47).ext kZ⟩);have N8:Has w8 fR (.cells #[n.no,n.dev,n.kind,n.mode,n.uid,n.gid,n.mtime,n.ctime,n.ah,n.up,bs n.data,.slice A6 n.af.length c6] 58):=o8.has (HN7.out.ext kZ) (Qn.mY (HN7.out.ext kZ) (by decide));have Ya:ax w8 B n A6 c6:=(HOK.out.ext kZ).only o8 (Qn.cR hBw (by decide) (by decide)).apart;have LN:w.heap.size<=w8.heap.size:=E28.size;obtain ⟨v9,w9,hr9,Vp,TQ,_⟩:=um l8 w8 R8 LN ⟨x.1,n.kind,n.mode,n.uid,n.gid,n.mtime,n.ctime,n.dev,fi,n.data⟩ (by have:=SS.out;have:=yt.out;omega);have E29:Ext w w9:=(E28.alloc _).grown TQ (fun g hv=>(R8.lt hv).1);have o9:Only (Value.slice Ao nl OM).ownBlock.toList w8 w9:=(Only.gJ _ _ _).then (Only.of_grownBy TQ (fun g hv=>Option.mem_toList.2 hv));have O9:bZ pW w9 w.heap.size v8 (aC++[n.no]):=ST.only o9 (fun g hv hm=>ST.apart R8 (by decide) g hv hm);have T9:jM w9 (some ⟨gt,ox,none⟩) t':=T8.only o9 (R8.LK (by decide));have X9:Has w9 jb (.cells #[bs x.1,.int .i64 x.2] 106):=o9.has X8 (R8.mY X8 (by decide));have N9:Has w9 fR (.cells #[n.no,n.dev,n.kind,n.mode,n.uid,n.gid,n.mtime,n.ctime,n.ah,n.up,bs n.data,.slice A6 n.af.length c6] 58):=o9.has N8 (R8.mY N8 (by decide))
      have ok9:ax w9 B n A6 c6:=Ya.only o9 (R8.cR hBw (by decide) (by decide)).apart;have WP:bZ l8 w9 w.heap.size v9 (l0++[vO S aC x]):=by rw[<-OP.out,WN.out];exact Vp
      have k0:=(kZ.cell nz).trans n0;have kz:fR<wr.heap.size:=by have:=kZ.size;omega
      have YM:=zH WO;have HR9:=zH hr9;have SV:=zH N8;have Qu:=zH X8;have YN:=zH O9;have aaW:=zH WP;have YO:=zH T9;have HX9:=zH X9;have YP:=zH N9;have aaX:=zH ok9;have HE9:=zH E29;clear MU G_ kZ hrow rD hfi WM WO ST SU fP E28 o8 Qn R8 T8 X8 N8 Ya hr9 Vp TQ E29 o9 O9 T9 X9 N9 ok9 WP n0 n1 n2 n3 n4 n5 n6 n7 n8 n9 CE zT nz LN WL BM;go_upto_region 16 with (at_builtin;refine Lib.wpList_append_run _ rfl _ _ 123 123 rfl _ _ rfl rfl _ _ YM.out ?_);clear k0 kz;obtain ⟨n0,n1,n2,n3,n4,n5,n6,n7,n8,n9,CE,zT⟩:=SV.out.dP;have nz:=SV.out.lt;have y0:=Qu.out.cell 0;have yz:=Qu.out.lt;simp only[gA,gB]at y0;go_upto_region 17 with (at_builtin;refine Lib.wpList_append_run _ rfl _ _ 71 71 rfl _ _ rfl rfl _ _ HR9.out ?_);clear n0 n1 n2 n3 n4 n5 n6 n7 n8 n9 CE zT nz y0 yz;obtain⟨m,hm⟩:=aq n.af.length;have oo:=zH hm;have M9:m<=1000:=by rw[hm];exact aaV.out
      have SW:cO S x=n.af.map fun y=>(cX x.1 y.1,y.2):=by unfold cO;rw[<-HX.out,<-Ud.out]
      have MW:=zH SW;have dh:(cO S x).length=m:=by rw[SW,List.length_map,hm]
      have YQ:=zH dh;have hpl:x.1.length<=100000:=by have:=HPX.out.1;omega
      have gP:∀y∈n.af,y.1.length<=100000:=fun y hy=>by
       rw [Ud.out]at hy
       cases oh:aK S.nodes X
       ·rw[(aZ oh).1]at hy;cases hy
       ·have:=(HT.out.names _ (aj oh).2.2 y hy).2;omega
      have BQ:=zH gP;clear SW dh gP hm;go_wp2_with fail;go_loopw [14,15] (fun vin vi wr=>∃k:Nat,vi=.int .i64 k/\k<=m/\bZ Dj wr w9.heap.size vin ((cO S x).take k)/\Ext w9 wr) (fun _ vi _=>m-(intOf vi).toNat)
      case atStart=>exact⟨0,rfl,Nat.zero_le _,bZ.nil _ _ _,Ext.refl _⟩
      case round =>
       obtain ⟨k,rfl,hk,hO,mr⟩:=hrel;have k0:(0:Int)<=(k:Int):=Int.natCast_nonneg _;have WQ:w9.cell? ⟨fR,11,none⟩=some (.slice A6 m c6):=by rw[oo.out];exact YP.out.dP.2.2.2.2.2.2.2.2.2.2.2
       have zz:=YP.out.lt
       by_cases hlt:(k:Int)<m
       case pos =>
        have dh:k<n.af.length:=by have:=oo.out;omega
        obtain ⟨be,oe,rfl,hbe,ea,eb⟩:=(aaX.out.af.af).lt0 dh;have lM:(cO S x).take (k+1)=(cO S x).take k++[(cX x.1 n.af[k].1,n.af[k].2)]:=by
         have hk2:k<(cO S x).length:=by rw[YQ.out];omega
         rw [List.take_succ_eq_append_getElem hk2]
         congr 2
         have:=MW.out;simp only[this,List.getElem_map]
        have hyl:=BQ.out n.af[k] (List.getElem_mem dh);obtain⟨y,hy⟩:=aq (n.af[k]);rw [<-hy]at ea eb lM hyl;obtain ⟨yn,yo⟩:=y;have ea':w9.cell? ⟨be,oe+k*2,none⟩=some (.string (bs yn)):=ea;have eb':w9.cell? ⟨be,oe+k*2+1,none⟩=some (.int .i64 yo):=eb;have HTK:=zH lM;have Yx:IntKind.i64.wrap ((k:Int)+1)=(k:Int)+1:=IntWalk.i64_in _ (by omega);have KB:=zH (fun (u:World)=>Dz x.1 yn u hpl hyl);have y0:=HX9.out.cell 0;have yz:=HX9.out.lt;simp only[gA,gB]at y0;have KS:Hid (∀w',Ext w9 w'->(Ext w9 w'/\w'.cell? ⟨jb,0,none⟩=some (.string (bs x.1))/\w'.cell? ⟨fR,11,none⟩=some (.slice (some ⟨be,oe,none⟩) m c6)/\w'.cell? ⟨be,oe+k*2,none⟩=some (.string (bs yn))/\w'.cell? ⟨be,oe+k*2+1,none⟩=some (.int .i64 yo))):=fun w' h'=>⟨h',(h'.cell yz).trans y0,(h'.cell zz).trans WQ,(h'.cell hbe).trans ea',(h'.cell hbe).trans eb'⟩
        have HO3:=zH hO;have Ql:=zH mr;have HWR:=zH ((Ext.refl wr).drew);have Hm:((cO S x).take k).length<=2000000:=by have:=List.length_take_le k (cO S x);omega
        have bV:Ext w9 wr.drew:=mr.drew;have WR:=(mr.cell zz).trans WQ;have zzw:fR<wr.heap.size:=by have:=mr.size;omega
        clear lM hO mr hy ea eb ea' eb' y0 yz WQ zz hyl dh hbe;go_upto_region 21 with fail;clear WR zzw;go_region_held3 (fun w'=>Ext w9 w'/\w'.cell? ⟨jb,0,none⟩=some (.string (bs x.1))/\w'.cell? ⟨fR,11,none⟩=some (.slice (some ⟨be,oe,none⟩) m c6)/\w'.cell? ⟨be,oe+k*2,none⟩=some (.string (bs yn))/\w'.cell? ⟨be,oe+k*2+1,none⟩=some (.int .i64 yo))
         ((first|exact KS.out _ bV|exact KS.out _ (bV.trans Ue)|exact KS.out _ ((bV.trans Ue).alloc _)|exact KS.out _ hE9))
         ((first|(go_at_call 42;refine (KB.out _).mono ?_;rintro e wd ⟨rfl,Ue⟩)|(refine r_ _ (by rfl) _ _ 56 (by rfl) _ _ (by rfl) (by rfl) (um Dj wd ((HO3.out.ext HWR.out).ext Ue) (bV.trans Ue).size (cX x.1 yn,yo) Hm) ?_;rintro v13 w13 ⟨WS,WT,_⟩;have hE9:Ext w9 w13:=((bV.trans Ue).alloc _).grown WT (fun g hv=>(((HO3.out.ext HWR.out).ext Ue).lt hv).1))))
        have aaY:=zH WS;clear WS WT;go_wp2_with fail;go_roundw
        case rel=>exact⟨k+1,by go_num,by omega,by rw[HTK.out];exact aaY.out,hE9⟩
        case measure=>simp[intOf];omega
       case neg =>
        have hkm:(cO S x).take k=cO S x:=List.take_of_length_le (by rw[YQ.out];omega);rw [hkm]at hO;have WU:=YO.out.ext mr;have hcells:∀i,(h:i<t'.length)->∀j,j<Dj.k->wr.cell? ⟨gt,ox+i*Dj.k+j,none⟩=(Dj.enc t'[i])[j]?:=by
         intro i hi j hj;rcases WU with h|⟨b,o,hA,_,_,hc⟩
         ·rw[h]at hi;cases hi
         ·injection hA with hA
          injection hA with h1 h2;subst h1 h2;have:=hc i hi;have zo:j<2:=hj;have hj3:j=0\/j=1:=by omega
          rcases hj3 with rfl|rfl
          ·exact this.1
          ·exact this.2
        obtain ⟨Ai,ci,rfl,_,_,_,_⟩:=hO.at_;obtain ⟨Vz,w14,GA,Kh,Ki,_⟩:=KU Dj wr hO mr.size t' gt ox (cap-1) hcells (by have:=YQ.out;omega) (by have:=Uc.out;have:=SR.out;omega);rw [<-Uc.out]at GA;have Kj:Ext w9 w14:=mr.grown Ki (fun g hv=>(hO.lt hv).1);obtain ⟨A14,Yt,rfl,WV,WW⟩:=Kh.todo;have R7:=zH GA;have aaZ:=zH WW;have SX:=zH Kj;have WR:=(mr.cell zz).trans WQ;have zzw:fR<wr.heap.size:=by have:=mr.size;omega
        have LO:(cO S x++t').length<=Yt:=WV;have aa0:=zH LO;clear hkm hO WU hcells GA Kh Ki Kj WW mr WQ zz WV LO;go_wp2_with (at_builtin;refine Lib.wpList_append_run _ rfl _ _ 56 56 rfl _ _ rfl rfl _ _ R7.out ?_);go_roundg (vP S r c (cO S x++t'))
        case measure =>
         rw [HM.out];have:=sD HT.out Qs.out HK.out.up HR.out x;unfold vP at this|-;rw [List.map_append,List.sum_append,List.map_cons,List.sum_cons];omega
        case rel =>
         refine ⟨l0++[vO S aC x],aC++[n.no],cO S x++t',A14,Yt,by rw[List.length_append],aa0.out,?_,aaZ.out,aaW.out.ext SX.out,YN.out.ext SX.out,?_,HE9.out.trans SX.out,?_,rfl,l2,?_,?_⟩
         ·have:=YQ.out;have:=Uc.out;have:=SR.out;have:=u9.out
          rw [List.length_append,List.length_append,List.length_singleton];omega
         ·rw[List.length_append,List.length_append,<-SS.out,<-u9.out,yt.out];rfl
         ·intro y hy
          rcases List.mem_append.1 hy with hy|hy
          ·exact kY HT.out Qs.out HK.out.up HR.out HPX.out y hy
          ·exact WJ.out y hy
         ·rw[rR.out];exact Ht.out
         ·rw[MX.out,Sk.out,List.append_assoc];rfl
theorem uF {S:aa} (h:iL 140 S):∃rows r,dU S [([47],1)] [] rows/\rows.length<=200/\tf S r/\kL S r ([47],1):=by
 obtain ⟨rows,hB⟩:=Dy h.ee.eD h.ee.BN h.ee.kids.up [([47],1)] [];obtain ⟨r,hr⟩:=h.ee.eD.Jb;refine ⟨rows,r,hB,?_,hr,?_,fun _=>?_⟩
 ·have:=G7 h.ee.eD h.ee.BN h.ee.kids hB
  have:=h.Dk;omega
 ·show ([47]:List UInt8).length<=_
  simp only[List.length_cons,List.length_nil];omega
 ·show ([47]:List UInt8).length<=_
  simp only[List.length_cons,List.length_nil];omega
theorem xj {w:World} {B:Nat} {f:cE} {s:az} (h:RS w B f s) (k:iL 140 s.t) (rows:List yG) (hB:dU s.t [([47],1)] [] rows) (hl:rows.length<=200) {r:Int->Nat} (hr:tf s.t r) (hp:kL s.t r ([47],1)) :
  Calls Tryz.prog 29 #[.pointer (some ⟨f.bF,0,none⟩)] w (fun e w'=>∃v,e=.returned v/\bZ l8 w' w.heap.size v rows/\Ext w w'):=by
 obtain ⟨X,F⟩:=h.TM;have KB:=zH (LL B f s.t X 1 [47] w F k.ee.eD k.ee.BN k.ee.kids (by omega) (by have:=k.ee.last;omega) rows hB (by omega) hr hp);clear F h k hB hl hr hp;go_enter Tryz.func29,Tryz.ntmps29;go_wp2_with fail;refine KB.out.mono ?_;rintro e w1 ⟨v,rfl,hO,hE⟩;have HO:=zH hO;clear hO;go_wp2_with fail;go_ret;exact ⟨v,rfl,HO.out,hE⟩
end Go.Proofs.YtblbohcaphcobaaGreatDoor
