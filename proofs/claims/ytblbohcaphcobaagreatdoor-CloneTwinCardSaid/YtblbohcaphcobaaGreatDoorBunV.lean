import Derived.Test.YtblbohcaphcobaaGreatDoorBunN
import Derived.Test.YtblbohcaphcobaaGreatDoorBunS
import Derived.Test.YtblbohcaphcobaaGreatDoorBunL
import Derived.Test.YtblbohcaphcobaaGreatDoorBunO
set_option maxHeartbeats 16000000
set_option maxRecDepth 100000
namespace Go.Proofs.YtblbohcaphcobaaGreatDoor
structure qC where
 path:List UInt8
 kind:Int
 mode:Int
 uid:Int
 gid:Int
 mtime:Int
 ctime:Int
 dev:Int
 first:Int
 data:List UInt8
def dd (s n:List UInt8):List UInt8:=mr s++47::n
theorem Ef (s n:List UInt8):(dd s n).length<=s.length+1+n.length:=by
 unfold dd;have:=uE s;rw [List.length_append,List.length_cons];omega
def ft (aC:List Int) (no:Int):Nat:=aC.findIdx (· == no)
abbrev dE:=List UInt8×Int
def pk (S:ac) (aC:List Int) (x:dE):qC:=
 let n:=aa S.nodes (ak S.af x.2)
 ⟨x.1,n.kind,n.mode,n.uid,n.gid,n.mtime,n.ctime,n.dev,ft aC n.no,n.data⟩
def cy (S:ac) (x:dE):List dE:=(aa S.nodes (ak S.af x.2)).ae.map fun y=>(dd x.1 y.1,y.2)
inductive cC (S:ac):List dE->List Int->List qC->Prop
 | nil (aC:List Int):cC S [] aC []
 | none {x:dE} {t:List dE} {aC:List Int} {l:List qC}:aQ S.nodes (ak S.af x.2)=false->cC S t aC l->cC S (x::t) aC l
 | step {x:dE} {t:List dE} {aC:List Int} {l:List qC}:aQ S.nodes (ak S.af x.2)=true->cC S (cy S x++t) (aC++[ak S.af x.2]) l->cC S (x::t) aC (pk S aC x::l)
def wG (S:ac) (r:Int->Nat) (c:Nat) (l:List dE):Nat:=(l.map fun x=>Cy S r c (ak S.af x.2)).sum
theorem tq {c:Nat} {S:ac} (h:dI c S) (hn:bi S) (hl:nu S) {r:Int->Nat} (hr:pO S r) (x:dE):wG S r c (cy S x)<Cy S r c (ak S.af x.2):=by
 obtain⟨no,bc⟩:=ar (ak S.af x.2);unfold cy;rw [<-bc]
 by_cases hk:(aa S.nodes no).kind=1
 ·obtain ⟨i1,i2,i3⟩:=bh hk
  have hrx:=hr.top no;have hs:=h.small _ i3;unfold wG;rw [List.map_map];have hle:∀y∈(aa S.nodes no).ae,((fun x:dE=>Cy S r c (ak S.af x.2))∘fun y:ax=>(dd x.1 y.1,y.2)) y<=(c+2) ^ (S.nodes.length-r no):=by
   intro z hz;show Cy S r c (ak S.af z.2)<=_;unfold Cy;split
   ·rename_i hk2
    obtain ⟨a1,a2⟩:=kS h hl i3 hz hk2;rw [i2]at a1 a2;have hx1:=(h.aC.2 _ i3).1;rw [i2]at hx1;have h0:ak S.af z.2≠0:=by
     intro e;rw[e]at hk2;have:=(bh hk2).1;rw [h.aC.zero (.inl (by decide))]at this;cases this
    have:=hr.step (ak S.af z.2) h0 (by rw[a1];omega) (by rw[a1];exact Ne.symm a2);rw [a1]at this;exact Nat.pow_le_pow_right (by omega) (by omega)
   ·exact Nat.pow_pos (by omega)
  have h1:=LJ _ _ _ hle;have h2:Cy S r c no=(c+2) ^ (S.nodes.length-r no)*(c+2):=by
   unfold Cy;rw [if_pos hk,show S.nodes.length+1-r no=(S.nodes.length-r no)+1 by omega,Nat.pow_succ]
  rw [h2];have h3:0<(c+2) ^ (S.nodes.length-r no):=Nat.pow_pos (by omega)
  generalize (c+2) ^ (S.nodes.length-r no)=P at *
  have h4:(aa S.nodes no).ae.length*P<=c*P:=Nat.mul_le_mul_right P hs;have h5:P*(c+2)=c*P+2*P:=by rw[Nat.mul_add,Nat.mul_comm P c,Nat.mul_comm P 2]
  refine Nat.lt_of_le_of_lt h1 ?_;omega
 ·have:(aa S.nodes no).ae=[]:=by
   cases hi:aQ S.nodes no
   ·rw[(aV hi).1];rfl
   ·exact hn _ (aj hi).2.2 hk
  rw [this];exact pg S r c no
theorem vp {c:Nat} {S:ac} (h:dI c S) (hn:bi S) (hl:nu S) (t:List dE) (aC:List Int):∃l,cC S t aC l:=by
 obtain ⟨r,hr⟩:=h.AJ;have key : ∀n t aC,wG S r c t<=n->∃l,cC S t aC l:=by
  intro n
  induction n with
  | zero =>
   intro t aC ht
   cases t with
   | nil=>exact⟨_,.nil _⟩
   | cons x t =>
    have:=pg S r c (ak S.af x.2);unfold wG at ht;rw [List.map_cons,List.sum_cons]at ht;omega
  | succ n ih =>
   intro t aC ht
   cases t with
   | nil=>exact⟨_,.nil _⟩
   | cons x t =>
    have hp:=pg S r c (ak S.af x.2);unfold wG at ht;rw [List.map_cons,List.sum_cons]at ht
    cases hi:aQ S.nodes (ak S.af x.2)
    ·obtain ⟨l,hd⟩:=ih t aC (by unfold wG;omega)
     exact ⟨_,.none hi hd⟩
    ·have hw:=tq h hn hl hr x
     obtain ⟨l,hd⟩:=ih (cy S x++t) (aC++[ak S.af x.2]) (by
      unfold wG at hw|-;rw [List.map_append,List.sum_append];omega)
     exact ⟨_,.step hi hd⟩
 exact key _ t aC (Nat.le_refl _)
theorem MJ {c:Nat} {S:ac} (h:dI c S) {j k:Nat} (hj:j<S.af.length) (hk:k<S.af.length) (e:S.af[j].root=S.af[k].root):j=k:=by
 obtain ⟨m,hm,m1,_,m3⟩:=h.fc j hj;obtain ⟨n,hn,n1,_,n3⟩:=h.fc k hk;have:=gJ h.aC hm hn (by rw[m1,n1,e]);rw [this,n3]at m3;omega
theorem Ir {c:Nat} {S:ac} (h:dI c S) (k:Kids S) {m:ai} (hm:m∈S.nodes) {x y:ax} (hx:x∈m.ae) (hy:y∈m.ae) (hk:(aa S.nodes (ak S.af x.2)).kind=1) (e:ak S.af x.2=ak S.af y.2):x=y:=by
 have px:=(h.pos _ hm x hx).1;have py:=(h.pos _ hm y hy).1;obtain ⟨_,kx,_⟩:=h.zB m hm x hx;obtain ⟨_,ky,_⟩:=h.zB m hm y hy;rcases fG h.nt (show 0<x.2 by omega) with e1|⟨i,hi,e1,e2⟩
 ·rcases fG h.nt (show 0<y.2 by omega) with f1|⟨j,hj,f1,f2⟩
  ·rw [e1]at hk
   obtain ⟨_,i2,i3⟩:=bh hk;exact k.once m hm x hx y hy _ i3 i2 hk (by rw[<-e1,<-f1,e])
  ·have:=kx _ (List.getElem_mem hj)
   exact absurd (by rw[<-e1,e,f2]) this
 ·rcases fG h.nt (show 0<y.2 by omega) with f1|⟨j,hj,f1,f2⟩
  ·have:=ky _ (List.getElem_mem hi)
   exact absurd (by rw[<-f1,<-e,e2]) this
  ·have hij:=MJ h hi hj (by rw[<-e2,<-f2,e])
   have:i=j:=by omega
   subst this;obtain ⟨q,hq,q1,q2,_⟩:=h.kZ i hi;exact k.once m hm x hx y hy q hq (by rw[q1,e1]) q2 (by rw[<-e1,<-f1])
theorem BX {c:Nat} {S:ac} (h:dI c S) (hn:bi S) (k:Kids S) {r:Int->Nat} (hr:pO S r) (x0:Int) {t:List dE} {aC:List Int} {l:List qC} (hd:cC S t aC l) :
  ∀ E : List Int,E.Nodup->(∀y∈E,(aa S.nodes y).kind=1/\r x0<=r y/\(y=x0\/aJ S y∈E)) ->
   (∀z∈t,(aa S.nodes (ak S.af z.2)).kind=1->ak S.af z.2∉E/\r x0<=r (ak S.af z.2)/\(ak S.af z.2=x0\/aJ S (ak S.af z.2)∈E)) ->
   t.Pairwise (fun a b=>(aa S.nodes (ak S.af a.2)).kind=1->(aa S.nodes (ak S.af b.2)).kind=1->ak S.af a.2≠ak S.af b.2) ->
   l.length+(E.map fun y=>(aa S.nodes y).ae.length).sum<=t.length+cG S:=by
 induction hd with
 | nil =>
  intro E h1 h2 _ _;have:=rD S.nodes (fun n=>n.ae.length) E h1 (fun y hy=>⟨_,(bh (h2 y hy).1).2.2,(bh (h2 y hy).1).2.1⟩) h.aC.1;unfold cG;simp only[List.length_nil];omega
 | none _ _ ih =>
  intro E h1 h2 h3 h4;rw [List.pairwise_cons]at h4;have:=ih E h1 h2 (fun z hz=>h3 z (List.mem_cons_of_mem _ hz)) h4.2;rw [List.length_cons];omega
 | @step x t aC l hi hd ih =>
  intro E h1 h2 h3 h4;rw [List.pairwise_cons]at h4;obtain⟨X,hX⟩:=ar (ak S.af x.2);have hlen:(cy S x).length=(aa S.nodes X).ae.length:=by unfold cy;rw[List.length_map,hX]
  by_cases hx:(aa S.nodes X).kind=1
  ·obtain ⟨x1,x2,x3⟩:=h3 x (List.mem_cons_self ..) (by rw[<-hX];exact hx)
   rw [<-hX]at x1 x2 x3;obtain ⟨iX,nX,mX⟩:=bh hx;have Q7:=(h.aC.2 _ mX).1;rw [nX]at Q7;have hch:∀y∈(aa S.nodes X).ae,(aa S.nodes (ak S.af y.2)).kind=1->aJ S (ak S.af y.2)=X/\r X<r (ak S.af y.2)/\ak S.af y.2≠x0/\ak S.af y.2∉X::E:=by
    intro y hy hk;obtain ⟨a1,a2⟩:=kS h k.up mX hy hk;rw [nX]at a1 a2;have h0:ak S.af y.2≠0:=by
     intro e;rw[e]at hk;have:=(bh hk).1;rw [h.aC.zero (.inl (by decide))]at this;cases this
    have hlt:=hr.step (ak S.af y.2) h0 (by rw[a1];omega) (by rw[a1];exact Ne.symm a2);rw [a1]at hlt;have hne:ak S.af y.2≠x0:=fun e=>by rw[e]at hlt;omega
    refine ⟨a1,hlt,hne,fun hm=>?_⟩;rcases List.mem_cons.1 hm with e|hm
    ·exact a2 e
    ·rcases (h2 _ hm).2.2 with e|e
     ·exact hne e
     ·rw[a1]at e;exact x1 e
   have := ih (X::E) (List.nodup_cons.2 ⟨x1,h1⟩)
    (fun y hy=>by
     rcases List.mem_cons.1 hy with rfl|hy
     ·exact⟨hx,x2,x3.imp id (List.mem_cons_of_mem _)⟩
     ·obtain ⟨a1,a2,a3⟩:=h2 y hy
      exact ⟨a1,a2,a3.imp id (List.mem_cons_of_mem _)⟩)
    (fun z hz hk=>by
     rcases List.mem_append.1 hz with hz|hz
     ·unfold cy at hz
      rw [<-hX,List.mem_map]at hz;obtain ⟨y,hy,rfl⟩:=hz;obtain ⟨c1,c2,c3,c4⟩:=hch y hy hk;exact ⟨c4,by show r x0<=r (ak S.af y.2);omega,.inr (by show aJ S (ak S.af y.2)∈_;rw[c1];exact List.mem_cons_self ..)⟩
     ·obtain ⟨a1,a2,a3⟩:=h3 z (List.mem_cons_of_mem _ hz) hk
      refine ⟨fun hm=>?_,a2,a3.imp id (List.mem_cons_of_mem _)⟩;rcases List.mem_cons.1 hm with e|hm
      ·exact h4.1 z hz (by rw[<-hX];exact hx) hk (by rw[<-hX];exact e.symm)
      ·exact a1 hm)
    (List.pairwise_append.2 ⟨?_,h4.2,fun a ha b hb ka kb e=>?_⟩)
   ·rw [List.map_cons,List.sum_cons,List.length_append,hlen]at this
    simp only[List.length_cons];omega
   ·unfold cy
    rw [<-hX,List.pairwise_map];refine List.Pairwise.imp_of_mem ?_ (h.mF _ mX);intro a b ha hb hab ka _ e;have e1:=Ir h k mX ha hb ka e;rw [e1,cH]at hab;cases hab
   ·unfold cy at ha
    rw [<-hX,List.mem_map]at ha;obtain ⟨y,hy,rfl⟩:=ha;obtain ⟨c1,c2,c3,c4⟩:=hch y hy ka;have e':ak S.af y.2=ak S.af b.2:=e;rcases (h3 b (List.mem_cons_of_mem _ hb) kb).2.2 with e1|e1
    ·exact c3 (e'.trans e1)
    ·rw[<-e',c1]at e1;exact x1 e1
  ·have hke:cy S x=[]:=by
    unfold cy;rw [<-hX,hn _ (aj (show aQ S.nodes X=true by rw[hX];exact hi)).2.2 hx];rfl
   rw [hke]at ih;have:=ih E h1 h2 (fun z hz=>h3 z (List.mem_cons_of_mem _ hz)) h4.2;rw [List.nil_append]at this;simp only[List.length_cons];omega
theorem xQ {c:Nat} {S:ac} (h:dI c S) (hn:bi S) (k:Kids S) {x:dE} {l:List qC} (hd:cC S [x] [] l):l.length<=1+cG S:=by
 obtain ⟨r,hr⟩:=h.AJ;have:=BX h hn k hr (ak S.af x.2) hd [] List.nodup_nil (fun y hy=>by cases hy) (fun z hz _=>by rw[List.mem_singleton]at hz;subst hz;exact⟨by simp,Nat.le_refl _,.inl rfl⟩) (List.pairwise_singleton _ _);simpa using this
def jW (S:ac) (r:Int->Nat) (x:dE):Prop:=x.1.length<=300*(S.nodes.length+2)/\((aa S.nodes (ak S.af x.2)).kind=1->x.1.length<=300*(r (ak S.af x.2)+1))
theorem li {c:Nat} {S:ac} (h:dI c S) (hn:bi S) (hl:nu S) {r:Int->Nat} (hr:pO S r) {x:dE} (hx:jW S r x):∀y∈cy S x,jW S r y:=by
 intro y hy;unfold cy at hy;rw [List.mem_map]at hy;obtain ⟨z,hz,rfl⟩:=hy;obtain⟨X,hX⟩:=ar (ak S.af x.2);rw [<-hX]at hz;unfold jW at hx;rw [<-hX]at hx;have hk:(aa S.nodes X).kind=1:=by
  rcases Decidable.em ((aa S.nodes X).kind=1) with hk|hk
  ·exact hk
  ·exfalso
   cases hi:aQ S.nodes X
   ·rw[(aV hi).1]at hz;cases hz
   ·rw[hn _ (aj hi).2.2 hk]at hz;cases hz
 obtain ⟨iX,nX,mX⟩:=bh hk;have hx2:=hx.2 hk;have gY:=(h.names _ mX z hz).2;have hlen:=Ef x.1 z.1;have aco:=hr.top X;refine ⟨by show (dd x.1 z.1).length<=_;omega,fun hk2=>?_⟩;obtain ⟨a1,a2⟩:=kS h hl mX hz hk2;rw [nX]at a1 a2;have Q7:=(h.aC.2 _ mX).1;rw [nX]at Q7;have h0:ak S.af z.2≠0:=by
  intro e;have lF:(aa S.nodes (ak S.af z.2)).kind=1:=hk2;rw [e]at lF;have:=(bh lF).1;rw [h.aC.zero (.inl (by decide))]at this;cases this
 have hlt:=hr.step (ak S.af z.2) h0 (by rw[a1];omega) (by rw[a1];exact Ne.symm a2);rw [a1]at hlt;show (dd x.1 z.1).length<=300*(r (ak S.af z.2)+1);omega
open Go.ChangeShapes Go.WideShapes Go.ChangeAt Go.RowKit
theorem ML (l:List UInt8) (w:World) (hlen:l.length<=1000000):Calls Tryz.prog 77 #[bs l] w (aH w (.string (bs (mr l)))):=by
 go_enter Tryz.func77,Tryz.ntmps77;go_wp2_with fail;go_loopw [0] (fun u wr=>∃m:List UInt8,u=.string (bs m)/\m.length<=l.length/\Hid (mr m=mr l)/\wr=w) (fun u _=>(strOf u).size)
 case atStart=>exact⟨l,rfl,Nat.le_refl _,rfl,rfl⟩
 case round =>
  obtain ⟨m,rfl,hm,hc,rfl⟩:=hrel;have z0:(bs m).size=m.length:=aU m;rcases DB m with h|⟨a,c,h⟩
  ·have HF:Hid (mr l=m):=by show _=_;rw[<-hc.out,h];rfl
   have hm0:m.length=0:=by rw[h];rfl
   clear h;go_wp2_with fail;go_ret;exact aH.mk (sS (by rw[HF.out])) (Ext.refl _)
  ·have OG:m.length=a.length+1:=by rw[h];simp
   have hks:a.length<(bs m).size:=by omega
   have hg:(bs m)[a.length]=c:=by
    rw [CD m a.length hks (by omega)];simp [h]
   have Xh:IntKind.i64.wrap (a.length:Int)=a.length:=bV (by omega) (by omega)
   by_cases hcs:c=47
   ·have hs2:(((bs m)[a.length].toNat:Int) == 47)=true:=by rw[hg,hcs];rfl
    have hn:Hid (mr a=mr l):=by
     show _=_;rw [<-hc.out,h,hcs,Hf]
    have ha:(bs m).extract 0 a.length=bs a:=by rw[Xg,h];simp
    have xg:=Lq (P:=Tryz.prog) Tryz.underlying9 (bs m) (a.length:Int) a.length rfl (by omega) (bs a) ha;have za:(bs a).size=a.length:=aU a;clear hg hcs h ha;go_wp2_with fail;go_roundw
    case rel=>exact⟨a,rfl,by omega,hn,by first|trivial|rfl⟩
    case measure=>simp[strOf];omega
   ·have HF:Hid (mr l=m):=by show _=_;rw[<-hc.out,h];exact Hg hcs
    have hs2:(((bs m)[a.length].toNat:Int) == 47)=false:=by
     rw [hg];exact (xq (c:=c) (d:=47)).trans (beq_eq_false_iff_ne.2 hcs)
    clear hg hcs h;go_wp2_with fail;go_ret;exact aH.mk (sS (by rw[HF.out])) (Ext.refl _)
theorem Eg (a b:List UInt8) (w:World) (ha:a.length<=100000) (hb:b.length<=100000):Calls Tryz.prog 42 #[bs a,bs b] w (aH w (.string (bs (dd a b)))):=by
 have hcl:=uE a;have hf:Hid (dd a b=mr a++47::b):=rfl;obtain⟨C,hC⟩:=ar (mr a);rw [<-hC]at hcl hf;have z1:(bs C).size=C.length:=aU C;have z2:(bs b).size=b.length:=aU b;have z3:(bs (C++[47])).size=C.length+1:=by rw[aU];simp
 have c1:bs C++(⟨#[47]⟩:ByteArray)=bs (C++[47]):=lA C [47];have c2:bs (C++[47])++bs b=bs (C++47::b):=by rw[lA];simp
 have jZ:¬9223372036854775807<C.length+1:=by omega
 have hb2:¬9223372036854775807<C.length+1+b.length:=by omega
 have HC:=zH hC;clear hC;go_enter Tryz.func42,Tryz.ntmps42;go_wp2_with fail;refine (ML a _ (by omega)).mono ?_;rintro e w1 ⟨rfl,EL⟩;rw [<-HC.out];go_wp2_with fail;go_ret;exact aH.mk (sS (by rw[hf.out])) EL
def fU:RowK qC:=⟨71,83,10,96,.agg #[.string ⟨#[]⟩,.int .i64 0,.int .i64 0,.int .i64 0,.int .i64 0,.int .i64 0,.int .i64 0,.int .i64 0,.int .i64 0,.string ⟨#[]⟩],
 fun x=>[.string (bs x.path),.int .i64 x.kind,.int .i64 x.mode,.int .i64 x.uid,.int .i64 x.gid,.int .i64 x.mtime,.int .i64 x.ctime,.int .i64 x.dev,.int .i64 x.first,.string (bs x.data)],by decide,Tryz.underlying71,by kernel_rfl,rfl,fun _=>rfl,fun x u hu=>by
 simp only[List.mem_cons,List.not_mem_nil,or_false]at hu;rcases hu with rfl|rfl|rfl|rfl|rfl|rfl|rfl|rfl|rfl|rfl<;>rfl,by decide⟩
theorem iP (a:Int) (l:List Int) (no:Int):ft (a::l) no=if (a == no)=true then 0 else ft l no+1:=by
 unfold ft;rw [List.findIdx_cons]
 cases a == no<;>rfl
def mD (aC:List Int) (no:Int) (p:Nat):Nat:=p+ft (aC.drop p) no
theorem Iu (aC:List Int) (no:Int):mD aC no aC.length=aC.length:=by unfold mD;rw[List.drop_length];rfl
theorem Eh {aC:List Int} {no:Int} {p:Nat} (hp:p<aC.length):mD aC no p=if (aC[p] == no)=true then p else mD aC no (p+1):=by
 unfold mD;rw [List.drop_eq_getElem_cons hp,iP];split<;>omega
theorem Ei (aC:List Int) (no:Int):mD aC no 0=ft aC no:=by unfold mD;rw[List.drop_zero,Nat.zero_add]
theorem BZ {w w':World} {b:Nat} {t:TypeId} {L:List Nat} (h:gh w b t) (o:Only L w w') (hn:b∉L):gh w' b t:=by
 obtain ⟨cs,f,e⟩:=h;have hb:b<w.heap.size:=by
  rcases Nat.lt_or_ge b w.heap.size with h'|h'
  ·exact h'
  ·simp[Array.getElem?_eq_none h']at e
 exact ⟨cs,f,(o.block b hb hn).trans e⟩
def jX (w:World) (A:Option Addr) (l:List dE):Prop:=l=[]\/∃b o,A=some ⟨b,o,none⟩/\b<w.heap.size/\gh w b 106/\∀k,(h:k<l.length)->w.cell? ⟨b,o+k*2,none⟩=some (.string (bs l[k].1))/\w.cell? ⟨b,o+k*2+1,none⟩=some (.int .i64 l[k].2)
theorem jX.only {w w':World} {A:Option Addr} {l:List dE} {L:List Nat} (h:jX w A l) (o:Only L w w') (hn:∀x∈L,¬gh w x 106):jX w' A l:=by
 rcases h with h|⟨b,f,hA,hb,ht,hc⟩
 ·exact .inl h
 ·have Pb:b∉L:=fun hx=>hn b hx ht
  refine .inr ⟨b,f,hA,by have:=o.size;omega,BZ ht o Pb,fun k hk=>?_⟩;have hcell:∀i,w'.cell? ⟨b,i,none⟩=w.cell? ⟨b,i,none⟩:=fun i=>H_ (o.block b hb Pb) i
  rw [hcell,hcell];exact hc k hk
theorem jX.ext {w w':World} {A:Option Addr} {l:List dE} (h:jX w A l) (k:Ext w w'):jX w' A l:=h.only (Only.aw (L:=[]) k) (by simp)
theorem bJ.MN {α:Type} {R:RowK α} {w:World} {base:Nat} {v:Value} {l:List α} (k:bJ R w base v l) (h1:R.t≠106):∀x∈v.ownBlock.toList,¬gh w x 106:=by
 intro x hx;have hx:=Option.mem_toList.1 hx;rintro ⟨cs,fr,e⟩;obtain ⟨cs2,fr2,e2⟩:=k.tag hx;rw [e2]at e;injection e with e;injection e with _ e;exact h1 e
theorem bJ.apart {α β:Type} {R:RowK α} {Q:RowK β} {w:World} {base YH:Nat} {v u:Value} {l:List α} {m:List β} (h:bJ R w base v l) (k:bJ Q w YH u m) (hne:R.t≠Q.t):∀g,v.ownBlock=some g->g∉u.ownBlock.toList:=by
 intro g hg hm;obtain ⟨cs,fr,e⟩:=h.tag hg;obtain ⟨cs2,fr2,e2⟩:=k.tag (Option.mem_toList.1 hm);rw [e2]at e;injection e with e;injection e with _ e;exact hne e.symm
theorem bJ.todo {w:World} {base:Nat} {v:Value} {l:List dE} (h:bJ DU w base v l):∃A cap,v=.slice A l.length cap/\l.length<=cap/\jX w A l:=by
 rcases h.cases with⟨rfl,rfl⟩|⟨g,cap,cur,rfl,_,h3,h4,_,h6⟩
 ·exact⟨none,0,rfl,Nat.le_refl _,.inl rfl⟩
 ·refine ⟨_,cap,rfl,h4,.inr ⟨g,0,rfl,h3.lt,⟨_,_,h3⟩,fun k hk=>?_⟩⟩
  rw [Nat.zero_add];exact ⟨h6 k hk 0 (by decide),h6 k hk 1 (by decide)⟩
theorem B_ {c : Nat} (B:Nat) (f:cJ) (S:ac) (X:cM) (no:Int) (path:List UInt8) (w:World) (F:gV w B f S X) (T:dI c S) (hE:bi S) (hK:Kids S) (hc:c<=900) (hl:S.last<=300) (rows:List qC) (hB:cC S [(path,no)] [] rows) (hlen:rows.length<=1000)
  {r:Int->Nat} (hr:pO S r) (hp:jW S r (path,no)) :
  Calls Tryz.prog 21 #[.pointer (some ⟨f.bF,0,none⟩),.int .i64 no,bs path] w (fun e w'=>∃v,e=.returned v/\bJ fU w' w.heap.size v rows/\Ext w w'):=by
 have lJ:S.nodes.length<=300:=by have:=T.count;omega
 have hBw:B<=w.heap.size:=by have h1:=(F.apart f.bF (by simp[cJ.list])).1;have h2:=F.lt.1;omega
 have KO:Hid (∀(u:World) (n:Int),Ext w u->Calls Tryz.prog 16 #[.pointer (some ⟨f.bF,0,none⟩),.int .i64 n] u (aH u (.int .i64 (ak S.af n)))):=fun u n hu=>iD B f S X n u (F.ext hu) (by have:=T.eight;omega)
 have KG:Hid (∀(u:World) (n:Int),Ext w u->Calls Tryz.prog 14 #[.pointer (some ⟨f.bF,0,none⟩),.int .i64 n] u (OZ u B S.nodes n)):=fun u n hu=>eZ B f S X n u (F.ext hu) (by omega) T.aC
 obtain ⟨W1,b_⟩:∃W,W=w.alloc (.cells #[bs path,.int .i64 no] 106):=⟨_,rfl⟩;obtain ⟨b1,jZ⟩:∃b,b=w.heap.size:=⟨_,rfl⟩;have E1:Ext w W1:=by rw[b_];exact (Ext.refl _).alloc _
 have B1:Has W1 b1 (.cells #[bs path,.int .i64 no] 106):=by rw[b_,jZ];exact Has.new _ _
 have T1:Hid (jX W1 (some ⟨b1,0,none⟩) [(path,no)]):=.inr ⟨b1,0,rfl,B1.lt,⟨_,_,B1⟩,fun k hk=>by
  have:k=0:=by simpa using hk
  subst this;exact ⟨B1.cell 0,B1.cell 1⟩⟩
 have HB:=zH hB;have HP:=zH hp;have HT:=zH T;have VQ:=zH hE;have HK:=zH hK;have HR:=zH hr;have Uy:=zH hlen;clear F hB hp T hE hK hr hlen B1;go_enter Tryz.func21,Tryz.ntmps21;go_upto_region 4 with fail;rw [<-b_,<-jZ];clear b_ jZ;go_loopg [7,8,9] (wG S r c [(path,no)]) (fun m vo vn vt wr=>∃(l0:List qC) (aC:List Int) (t:List dE) (A:Option Addr) (cap:Nat),vt=.slice A t.length cap/\t.length<=cap/\t.length<=1+aC.length*1000/\jX wr A t/\bJ fU wr w.heap.size vo l0/\bJ qj wr w.heap.size vn aC/\l0.length=aC.length/\Ext w wr/\(∀x∈t,jW S r x)/\m=wG S r c t/\∃l1,cC S t aC l1/\rows=l0++l1)
 case atStart=>exact⟨[],[],[(path,no)],_,1,rfl,Nat.le_refl _,by simp,T1.out,bJ.nil _ _ _,bJ.nil _ _ _,rfl,E1,fun x hx=>by rw[List.mem_singleton]at hx;subst hx;exact HP.out,rfl,rows,HB.out,rfl⟩
 case round =>
  clear T1;obtain⟨V,hV⟩:=ar wr;subst hV;obtain ⟨l0,aC,t,A,cap,rfl,hcap,pW,hT,hO,hN,IZ,hE,RR,hm,l1,Qp,nC⟩:=hrel;obtain ⟨Ao,Qq,rfl,_,_,_,_⟩:=hO.at_;obtain ⟨An,abo,rfl,_,_,Uz,_⟩:=hN.at_;have hn0:aC.length<=1000:=by have:=Uy.out;rw[nC,List.length_append]at this;omega
  cases t with
  | nil =>
   have hf:Hid (rows=l0):=by show _=_;cases Qp;rw[nC,List.append_nil]
   have HO:=zH hO;have HE:=zH hE;obtain ⟨no',JZ⟩:∃n,n=l0.length:=⟨_,rfl⟩;rw [<-JZ]at HO|-;clear hcap pW hT hO hN IZ hE RR hm Qp nC Uz JZ;simp only[List.length_nil];go_wp2_with fail;go_ret;exact ⟨_,rfl,by rw[hf.out];exact HO.out,HE.out⟩
  | cons x t' =>
   obtain ⟨gt,ot,rfl,hgt,MO,hcell⟩:∃b o,A=some ⟨b,o,none⟩/\b<V.heap.size/\gh V b 106/\∀k,(h:k<(x::t').length)->V.cell? ⟨b,o+k*2,none⟩=some (.string (bs (x::t')[k].1))/\V.cell? ⟨b,o+k*2+1,none⟩=some (.int .i64 (x::t')[k].2):=by
    rcases hT with h|h
    ·cases h
    ·exact h
   have q0:V.cell? ⟨gt,ot,none⟩=some (.string (bs x.1)):=(hcell 0 (Nat.succ_pos _)).1;have q1:V.cell? ⟨gt,ot+1,none⟩=some (.int .i64 x.2):=(hcell 0 (Nat.succ_pos _)).2;obtain⟨T,I9⟩:=ar t'.length;have e2:(x::t').length=T+1:=by rw[I9];rfl
   rw [e2]at hcap pW|-;obtain ⟨ox,YI⟩:∃ox,(cap=1/\ox=ot\/cap≠1/\ox=ot+2):=by
    by_cases Sr:cap=1
    ·exact⟨_,.inl ⟨Sr,rfl⟩⟩
    ·exact⟨_,.inr ⟨Sr,rfl⟩⟩
   have hso:(if cap=1 then (some ⟨gt,ot,none⟩:Option Addr) else some ⟨gt,ot+2,none⟩)=some ⟨gt,ox,none⟩:=by
    rcases YI with⟨h1,h2⟩|⟨h1,h2⟩
    ·rw[if_pos h1,h2]
    ·rw[if_neg h1,h2]
   have yZ:jX V (some ⟨gt,ox,none⟩) t':=by
    rcases YI with⟨h1,h2⟩|⟨h1,h2⟩
    ·left
     cases t' with
     | nil=>rfl
     | cons y t''=>exfalso;rw[I9,List.length_cons]at hcap;omega
    ·refine .inr ⟨gt,ox,rfl,hgt,MO,fun k hk=>?_⟩
     have:=hcell (k+1) (by simpa using hk);rw [show ot+(k+1)*2=ot+2+k*2 by omega]at this;rw [h2];simpa using this
   have Ta:T+1<=cap:=hcap;have hpx:=RR x (List.mem_cons_self ..);have YJ:=zH (fun y (hy:y∈t')=>RR y (List.mem_cons_of_mem _ hy));have HPX:=zH hpx;have Qr:=zH Qp;have Ox:=zH nC;have HM:=zH hm;have HO:=zH hO;have HN:=zH hN;have yX:=zH IZ;have HE:=zH hE;have Cz:=zH yZ;have VR:=zH I9;have acp:=zH MO;have acq:=zH Uz;obtain ⟨nn,Vq⟩:∃n,n=aC.length:=⟨_,rfl⟩;obtain ⟨nl,Qs⟩:∃n,n=l0.length:=⟨_,rfl⟩;rw [<-Vq,<-Qs]at yX;rw [<-Vq]at HN pW hn0|-;rw [<-Qs]at HO|-;have vS:=zH Vq;have UA:=zH pW;have UB:=zH Qs;have I3:nl=nn:=yX.out;obtain ⟨W4,fN⟩:∃W,W=V.alloc (.cells #[bs x.1,.int .i64 x.2] 106):=⟨_,rfl⟩;obtain ⟨iU,iW⟩:∃b,b=V.heap.size:=⟨_,rfl⟩;have E4:Ext V W4:=by rw[fN];exact (Ext.refl _).alloc _
   have X4:Has W4 iU (.cells #[bs x.1,.int .i64 x.2] 106):=by rw[fN,iW];exact Has.new _ _
   clear RR hpx Qp nC hm hO hN IZ hE yZ I9 MO Uz hcell Vq Qs hcap e2 I3 pW;go_upto_region 7 with fail;rw [<-fN,<-iW];clear fN iW q0 q1 hgt;have y1:=X4.cell 1;have yz:=X4.lt;simp only[gA,gB,gC]at y1;have I_:=zH X4;clear X4;obtain⟨X,hX⟩:=ar (ak S.af x.2);have KO4:=KO.out W4 x.2 (HE.out.trans E4);rw [<-hX]at KO4;have YK:=zH KO4;have HX:=zH hX;clear hX KO4;go_wp2_with fail;refine YK.out.mono ?_;rintro e w5 ⟨rfl,b5⟩;go_wp2_with fail;refine (KG.out w5 X ((HE.out.trans E4).trans b5)).mono ?_;rintro e w6 ⟨A6,c6,rfl,sK,b6⟩;obtain⟨n,hn⟩:=ar (aa S.nodes X);rw [<-hn]at sK|-;have VS:=zH hn;clear y1 yz hn YK;obtain ⟨W7,Iw⟩:∃W,W=w6.alloc (.cells #[n.no,n.dev,n.kind,n.mode,n.uid,n.gid,n.mtime,n.ctime,n.ah,n.up,bs n.data,.slice A6 n.ae.length c6] 58):=⟨_,rfl⟩;obtain ⟨f_,wo⟩:∃b,b=w6.heap.size:=⟨_,rfl⟩;have N7:Has W7 f_ (.cells #[n.no,n.dev,n.kind,n.mode,n.uid,n.gid,n.mtime,n.ctime,n.ah,n.up,bs n.data,.slice A6 n.ae.length c6] 58):=by rw[Iw,wo];exact Has.new _ _
   have E7:Ext V W7:=by rw[Iw];exact ((E4.trans b5).trans b6).alloc _
   have E47:Ext W4 W7:=by rw[Iw];exact (b5.trans b6).alloc _
   have tK:ay W7 B n A6 c6:=sK.ext (by rw[Iw];exact (Ext.refl _).alloc _);go_upto_region 8 with fail;rw [<-Iw,<-wo];clear Iw wo sK b5 b6;have HOK:=zH tK;have HN7:=zH N7;obtain ⟨n0,n1,n2,n3,n4,n5,n6,n7,n8,n9,Dk,AU⟩:=N7.dS;have nz:=N7.lt;clear tK N7
   cases hi:aQ S.nodes X with
   | false =>
    have bc:n.no=0:=by rw[VS.out,(aV hi).1];rfl
    have t0:(n.no == 0)=true:=by rw[bc];rfl
    obtain ⟨oZ⟩:Nonempty (cC S t' aC l1):=by
     have h0:=Qr.out
     cases h0 with
     | none _ h=>exact⟨h⟩
     | step h _=>rw[<-HX.out,hi]at h;cases h
    have I8:=zH oZ;clear bc hi oZ;go_wp2_with fail;go_roundg (wG S r c t')
    case measure =>
     rw [HM.out];have:=pg S r c (ak S.af x.2);unfold wG;rw [List.map_cons,List.sum_cons];omega
    case rel=>exact⟨l0,aC,t',some ⟨gt,ox,none⟩,cap-1,by rw[VR.out],by have:=VR.out;omega,by have:=UA.out;have:=VR.out;have:=vS.out;omega,Cz.out.ext E7,HO.out.ext E7,HN.out.ext E7,by rw[<-UB.out,<-vS.out];exact yX.out,HE.out.trans E7,YJ.out,rfl,l1,I8.out,Ox.out⟩
   | true =>
    have bc:n.no=X:=by rw[VS.out];exact (aj hi).2.1
    have Jc:X≠0:=by have:=(HT.out.aC.2 _ (aj hi).2.2).1;rw[(aj hi).2.1]at this;omega
    have t0:(n.no == 0)=false:=by rw[bc];simpa using Jc
    have De:n.ae.length<=1000:=by rw[VS.out];have:=HT.out.small _ (aj hi).2.2;omega
    obtain ⟨l2,rO,oZ⟩:∃l2,l1=pk S aC x::l2/\cC S (cy S x++t') (aC++[X]) l2:=by
     have h0:=Qr.out
     cases h0 with
     | none h _=>rw[<-HX.out,hi]at h;cases h
     | step _ h=>exact⟨_,rfl,by rw[HX.out];exact h⟩
    have sC:=zH bc;have I8:=zH oZ;have TW:=zH rO;have abp:=zH De;clear bc Jc rO oZ hi De;have p0:(0:Int)<=(nn:Int):=Int.natCast_nonneg _;have Du:IntKind.i64.wrap ((nn:Int)-1)=(nn:Int)-1:=IntWalk.i64_in _ (by omega);go_wp2_with fail;go_loopw [12,13] (fun vf vi wr=>∃p:Nat,vi=.int .i64 ((p:Int)-1)/\p<=nn/\vf=.int .i64 (mD aC X p:Nat)/\Ext W7 wr) (fun _ vi _=>(intOf vi+1).toNat)
    case atStart=>exact⟨nn,rfl,Nat.le_refl _,by rw[vS.out,Iu,<-vS.out];rw[<-yX.out],Ext.refl _⟩
    case round =>
     obtain ⟨p,Ou,hp,rfl,lj⟩:=hrel;have Iy:Ext V wr:=E7.trans lj;have acr:=zH Iy;have zM:=zH lj;rcases p with _|p
     case succ =>
      have DT:u13=.int .i64 (p:Int):=by rw[Ou];simp
      subst DT;have hpl:p<aC.length:=by have:=vS.out;omega
      obtain ⟨gn,rfl,Pu,qn⟩:∃gn,An=some ⟨gn,0,none⟩/\gn<wr.heap.size/\wr.cell? ⟨gn,p,none⟩=some (.int .i64 aC[p]):=by
       rcases (HN.out.ext Iy).cases with⟨_,h2⟩|⟨gm,cap,cur,h2,_,h3,_,_,h4⟩
       ·rw[h2]at hpl;cases hpl
       ·injection h2 with h2
        have:=h4 p hpl 0 (by decide);exact ⟨gm,h2,h3.lt,by simpa [qj]using this⟩
      have hst:=Eh (no:=X) hpl;obtain⟨y,hy⟩:=ar (aC[p]);rw [<-hy]at qn hst;have ou:=zH hst;have k0:=(lj.cell nz).trans n0;have kz:f_<wr.heap.size:=by have:=lj.size;omega
      have q0:(0:Int)<=(p:Int):=Int.natCast_nonneg _;have VM:IntKind.i64.wrap ((p:Int)-1)=(p:Int)-1:=IntWalk.i64_in _ (by omega);have Vk:(p:Int)<nn:=by omega
      by_cases hyx:y=n.no
      ·have t1:(y == n.no)=true:=by simpa using hyx
       have hF:Hid (mD aC X p=p):=by show _=_;rw[ou.out,if_pos (by rw[<-sC.out];exact t1)]
       clear hst hy hyx Ou Iy lj n0 n1 n2 n3 n4 n5 n6 n7 n8 n9 Dk AU nz hpl;go_upto_region 13 with fail;go_quiet (fail);have EQ:=zH (zM.out.drewN nq);go_wp2_with fail;go_roundw
       case rel=>exact⟨p,rfl,by omega,by rw[hF.out],EQ.out⟩
       case measure=>simp[intOf]
      ·have t1:(y == n.no)=false:=by simpa using hyx
       have hF:Hid (mD aC X p=mD aC X (p+1)):=by show _=_;rw[ou.out,if_neg (by rw[<-sC.out,t1];decide)]
       clear hst hy hyx Ou Iy lj n0 n1 n2 n3 n4 n5 n6 n7 n8 n9 Dk AU nz hpl;go_upto_region 13 with fail;go_quiet (fail);have EQ:=zH (zM.out.drewN nq);go_wp2_with fail;go_roundw
       case rel=>exact⟨p,rfl,by omega,by rw[hF.out],EQ.out⟩
       case measure=>simp[intOf]
     case zero =>
      have DT:u13=.int .i64 (-1):=Ou;subst DT;have YL:w.heap.size<=wr.heap.size:=(HE.out.trans Iy).size;obtain ⟨row,hrow⟩:∃r,r=pk S aC x:=⟨_,rfl⟩;have rY:row=⟨x.1,n.kind,n.mode,n.uid,n.gid,n.mtime,n.ctime,n.dev,((ft aC X:Nat):Int),n.data⟩:=by
       rw [hrow];unfold pk;rw [<-HX.out,<-VS.out];dsimp only;rw [sC.out]
      obtain ⟨fi,hfi⟩:∃i:Int,i=((ft aC X:Nat):Int):=⟨_,rfl⟩;rw [<-hfi]at rY;have YM:((mD aC X 0:Nat):Int)=fi:=by rw[hfi,Ei]
      rw [YM];have Qt:=zH hrow;have YN:=zH rY;obtain ⟨v8,w8,RT,MP,Oy,fZ⟩:=sf qj wr (HN.out.ext Iy) YL n.no (by have:=vS.out;omega);have E28:Ext w w8:=((HE.out.trans Iy).alloc _).grown Oy (fun g hv=>((HN.out.ext Iy).lt hv).1);have o8:Only (Value.slice An nn abo).ownBlock.toList wr w8:=(Only.gS _ _ _).then (Only.of_grownBy Oy (fun g hv=>Option.mem_toList.2 hv));have RN:=HN.out.ext Iy;have R8:bJ fU w8 w.heap.size (.slice Ao nl Qq) l0:=(HO.out.ext Iy).only o8 (fun g hv hm=>(HO.out.ext Iy).apart RN (by decide) g hv hm);have T8:jX w8 (some ⟨gt,ox,none⟩) t':=(Cz.out.ext Iy).only o8 (RN.MN (by decide));have X8:Has w8 iU (.cells #[bs x.1,.int .i64 x.2] 106):=o8.has ((I_.out.ext E47).ext lj) (fun hm=>RN.MN (by decide) _ hm ⟨_,_,(I_.out.ext E47).ext lj⟩);have N8:Has w8 f_ (.cells #[n.no,n.dev,n.kind,n.mode,n.uid,n.gid,n.mtime,n.ctime,n.ah,n.up,bs n.data,.slice A6 n.ae.length c6] 58):=o8.has (HN7.out.ext lj) (RN.ny (HN7.out.ext lj) (by decide));have ZV:ay w8 B n A6 c6:=(HOK.out.ext lj).only o8 (RN.cV hBw (by decide) (by decide)).apart;have MQ:w.heap.size<=w8.heap.size:=E28.size;obtain ⟨v9,w9,hr9,Xl,VB,_⟩:=sf fU w8 R8 MQ ⟨x.1,n.kind,n.mode,n.uid,n.gid,n.mtime,n.ctime,n.dev,fi,n.data⟩ (by have:=UB.out;have:=yX.out;omega);have E29:Ext w w9:=(E28.alloc _).grown VB (fun g hv=>(R8.lt hv).1);have o9:Only (Value.slice Ao nl Qq).ownBlock.toList w8 w9:=(Only.gS _ _ _).then (Only.of_grownBy VB (fun g hv=>Option.mem_toList.2 hv));have O9:bJ qj w9 w.heap.size v8 (aC++[n.no]):=MP.only o9 (fun g hv hm=>MP.apart R8 (by decide) g hv hm);have T9:jX w9 (some ⟨gt,ox,none⟩) t':=T8.only o9 (R8.MN (by decide));have X9:Has w9 iU (.cells #[bs x.1,.int .i64 x.2] 106):=o9.has X8 (R8.ny X8 (by decide));have N9:Has w9 f_ (.cells #[n.no,n.dev,n.kind,n.mode,n.uid,n.gid,n.mtime,n.ctime,n.ah,n.up,bs n.data,.slice A6 n.ae.length c6] 58):=o9.has N8 (R8.ny N8 (by decide))
      have ok9:ay w9 B n A6 c6:=ZV.only o9 (R8.cV hBw (by decide) (by decide)).apart;have YO:bJ fU w9 w.heap.size v9 (l0++[pk S aC x]):=by rw[<-Qt.out,YN.out];exact Xl
      have k0:=(lj.cell nz).trans n0;have kz:f_<wr.heap.size:=by have:=lj.size;omega
      have VT:=zH RT;have HR9:=zH hr9;have UC:=zH N8;have RU:=zH X8;have HO9:=zH O9;have abq:=zH YO;have HT9:=zH T9;have HX9:=zH X9;have HN9:=zH N9;have abr:=zH ok9;have HE9:=zH E29;clear Ou Iy lj hrow rY hfi YM RT MP Oy fZ E28 o8 RN R8 T8 X8 N8 ZV hr9 Xl VB E29 o9 O9 T9 X9 N9 ok9 YO n0 n1 n2 n3 n4 n5 n6 n7 n8 n9 Dk AU nz MQ YL Du;go_upto_region 16 with (at_builtin;refine Lib.wpList_append_run _ rfl _ _ 123 123 rfl _ _ rfl rfl _ _ VT.out ?_);clear k0 kz;obtain ⟨n0,n1,n2,n3,n4,n5,n6,n7,n8,n9,Dk,AU⟩:=UC.out.dS;have nz:=UC.out.lt;have y0:=RU.out.cell 0;have yz:=RU.out.lt;simp only[gA,gB]at y0;go_upto_region 17 with (at_builtin;refine Lib.wpList_append_run _ rfl _ _ 71 71 rfl _ _ rfl rfl _ _ HR9.out ?_);clear n0 n1 n2 n3 n4 n5 n6 n7 n8 n9 Dk AU nz y0 yz;obtain⟨m,hm⟩:=ar n.ae.length;have oM:=zH hm;have OG:m<=1000:=by rw[hm];exact abp.out
      have UD:cy S x=n.ae.map fun y=>(dd x.1 y.1,y.2):=by unfold cy;rw[<-HX.out,<-VS.out]
      have Ov:=zH UD;have dq:(cy S x).length=m:=by rw[UD,List.length_map,hm]
      have HKL:=zH dq;have hpl:x.1.length<=100000:=by have:=HPX.out.1;omega
      have gY:∀y∈n.ae,y.1.length<=100000:=fun y hy=>by
       rw [VS.out]at hy
       cases pB:aQ S.nodes X
       ·rw[(aV pB).1]at hy;cases hy
       ·have:=(HT.out.names _ (aj pB).2.2 y hy).2;omega
      have CA:=zH gY;clear UD dq gY hm;go_wp2_with fail;go_loopw [14,15] (fun vin vi wr=>∃k:Nat,vi=.int .i64 k/\k<=m/\bJ DU wr w9.heap.size vin ((cy S x).take k)/\Ext w9 wr) (fun _ vi _=>m-(intOf vi).toNat)
      case atStart=>exact⟨0,rfl,Nat.zero_le _,bJ.nil _ _ _,Ext.refl _⟩
      case round =>
       obtain ⟨k,rfl,hk,hO,mG⟩:=hrel;have k0:(0:Int)<=(k:Int):=Int.natCast_nonneg _;have YP:w9.cell? ⟨f_,11,none⟩=some (.slice A6 m c6):=by rw[oM.out];exact HN9.out.dS.2.2.2.2.2.2.2.2.2.2.2
       have zz:=HN9.out.lt
       by_cases hlt:(k:Int)<m
       case pos =>
        have dq:k<n.ae.length:=by have:=oM.out;omega
        obtain ⟨be,oe,rfl,hbe,ea,eb⟩:=(abr.out.ae.ae).lt0 dq;have lk:(cy S x).take (k+1)=(cy S x).take k++[(dd x.1 n.ae[k].1,n.ae[k].2)]:=by
         have hk2:k<(cy S x).length:=by rw[HKL.out];omega
         rw [List.take_succ_eq_append_getElem hk2]
         congr 2
         have:=Ov.out;simp only[this,List.getElem_map]
        have hyl:=CA.out n.ae[k] (List.getElem_mem dq);obtain⟨y,hy⟩:=ar (n.ae[k]);rw [<-hy]at ea eb lk hyl;obtain ⟨yn,yo⟩:=y;have ea':w9.cell? ⟨be,oe+k*2,none⟩=some (.string (bs yn)):=ea;have eb':w9.cell? ⟨be,oe+k*2+1,none⟩=some (.int .i64 yo):=eb;have HTK:=zH lk;have VM:IntKind.i64.wrap ((k:Int)+1)=(k:Int)+1:=IntWalk.i64_in _ (by omega);have KB:=zH (fun (u:World)=>Eg x.1 yn u hpl hyl);have y0:=HX9.out.cell 0;have yz:=HX9.out.lt;simp only[gA,gB]at y0;have KS:Hid (∀w',Ext w9 w'->(Ext w9 w'/\w'.cell? ⟨iU,0,none⟩=some (.string (bs x.1))/\w'.cell? ⟨f_,11,none⟩=some (.slice (some ⟨be,oe,none⟩) m c6)/\w'.cell? ⟨be,oe+k*2,none⟩=some (.string (bs yn))/\w'.cell? ⟨be,oe+k*2+1,none⟩=some (.int .i64 yo))):=fun w' h'=>⟨h',(h'.cell yz).trans y0,(h'.cell zz).trans YP,(h'.cell hbe).trans ea',(h'.cell hbe).trans eb'⟩
        have HO3:=zH hO;have RJ:=zH mG;have HWR:=zH ((Ext.refl wr).drew);have I3:((cy S x).take k).length<=2000000:=by have:=List.length_take_le k (cy S x);omega
        have b_:Ext w9 wr.drew:=mG.drew;have YQ:=(mG.cell zz).trans YP;have zzw:f_<wr.heap.size:=by have:=mG.size;omega
        clear lk hO mG hy ea eb ea' eb' y0 yz YP zz hyl dq hbe;go_upto_region 21 with fail;clear YQ zzw;go_region_held3 (fun w'=>Ext w9 w'/\w'.cell? ⟨iU,0,none⟩=some (.string (bs x.1))/\w'.cell? ⟨f_,11,none⟩=some (.slice (some ⟨be,oe,none⟩) m c6)/\w'.cell? ⟨be,oe+k*2,none⟩=some (.string (bs yn))/\w'.cell? ⟨be,oe+k*2+1,none⟩=some (.int .i64 yo))
         ((first|exact KS.out _ b_|exact KS.out _ (b_.trans VU)|exact KS.out _ ((b_.trans VU).alloc _)|exact KS.out _ hE9))
         ((first|(go_at_call 42;refine (KB.out _).mono ?_;rintro e wd ⟨rfl,VU⟩)|(refine sM _ (by rfl) _ _ 56 (by rfl) _ _ (by rfl) (by rfl) (sf DU wd ((HO3.out.ext HWR.out).ext VU) (b_.trans VU).size (dd x.1 yn,yo) I3) ?_;rintro v13 VH ⟨YR,YS,_⟩;have hE9:Ext w9 VH:=((b_.trans VU).alloc _).grown YS (fun g hv=>(((HO3.out.ext HWR.out).ext VU).lt hv).1))))
        have abt:=zH YR;clear YR YS;go_wp2_with fail;go_roundw
        case rel=>exact⟨k+1,by go_num,by omega,by rw[HTK.out];exact abt.out,hE9⟩
        case measure=>simp[intOf];omega
       case neg =>
        have YT:(cy S x).take k=cy S x:=List.take_of_length_le (by rw[HKL.out];omega);rw [YT]at hO;have hT3:=HT9.out.ext mG;have hcells:∀i,(h:i<t'.length)->∀j,j<DU.k->wr.cell? ⟨gt,ox+i*DU.k+j,none⟩=(DU.enc t'[i])[j]?:=by
         intro i hi j hj;rcases hT3 with h|⟨b,o,hA,_,_,hc⟩
         ·rw[h]at hi;cases hi
         ·injection hA with hA
          injection hA with h1 h2;subst h1 h2;have:=hc i hi;have Ac:j<2:=hj;have hj3:j=0\/j=1:=by omega
          rcases hj3 with rfl|rfl
          ·exact this.1
          ·exact this.2
        obtain ⟨Ai,ci,rfl,_,_,_,_⟩:=hO.at_;obtain ⟨Xx,w14,Hs,LG,LH,_⟩:=L6 DU wr hO mG.size t' gt ox (cap-1) hcells (by have:=HKL.out;omega) (by have:=VR.out;have:=UA.out;omega);rw [<-VR.out]at Hs;have Fl:Ext w9 w14:=mG.grown LH (fun g hv=>(hO.lt hv).1);obtain ⟨A14,c14,rfl,YU,YV⟩:=LG.todo;have TL:=zH Hs;have abu:=zH YV;have Iz:=zH Fl;have YQ:=(mG.cell zz).trans YP;have zzw:f_<wr.heap.size:=by have:=mG.size;omega
        have MR:(cy S x++t').length<=c14:=YU;have abv:=zH MR;clear YT hO hT3 hcells Hs LG LH Fl YV mG YP zz YU MR;go_wp2_with (at_builtin;refine Lib.wpList_append_run _ rfl _ _ 56 56 rfl _ _ rfl rfl _ _ TL.out ?_);go_roundg (wG S r c (cy S x++t'))
        case measure =>
         rw [HM.out];have:=tq HT.out VQ.out HK.out.up HR.out x;unfold wG at this|-;rw [List.map_append,List.sum_append,List.map_cons,List.sum_cons];omega
        case rel =>
         refine ⟨l0++[pk S aC x],aC++[n.no],cy S x++t',A14,c14,by rw[List.length_append],abv.out,?_,abu.out,abq.out.ext Iz.out,HO9.out.ext Iz.out,?_,HE9.out.trans Iz.out,?_,rfl,l2,?_,?_⟩
         ·have:=HKL.out;have:=VR.out;have:=UA.out;have:=vS.out
          rw [List.length_append,List.length_append,List.length_singleton];omega
         ·rw[List.length_append,List.length_append,<-UB.out,<-vS.out,yX.out];rfl
         ·intro y hy
          rcases List.mem_append.1 hy with hy|hy
          ·exact li HT.out VQ.out HK.out.up HR.out HPX.out y hy
          ·exact YJ.out y hy
         ·rw[sC.out];exact I8.out
         ·rw[Ox.out,TW.out,List.append_assoc];rfl
theorem vq {S:ac} (h:iM 140 S):∃rows r,cC S [([47],1)] [] rows/\rows.length<=200/\pO S r/\jW S r ([47],1):=by
 obtain ⟨rows,hB⟩:=vp h.dL.eE h.dL.xo h.dL.kids.up [([47],1)] [];obtain ⟨r,hr⟩:=h.dL.eE.AJ;refine ⟨rows,r,hB,?_,hr,?_,fun _=>?_⟩
 ·have:=xQ h.dL.eE h.dL.xo h.dL.kids hB
  have:=h.I7;omega
 ·show ([47]:List UInt8).length<=_
  simp only[List.length_cons,List.length_nil];omega
 ·show ([47]:List UInt8).length<=_
  simp only[List.length_cons,List.length_nil];omega
theorem xR {w:World} {B:Nat} {f:cJ} {s:aA} (h:RS w B f s) (k:iM 140 s.t) (rows:List qC) (hB:cC s.t [([47],1)] [] rows) (hl:rows.length<=200) {r:Int->Nat} (hr:pO s.t r) (hp:jW s.t r ([47],1)) :
  Calls Tryz.prog 29 #[.pointer (some ⟨f.bF,0,none⟩)] w (fun e w'=>∃v,e=.returned v/\bJ fU w' w.heap.size v rows/\Ext w w'):=by
 obtain ⟨X,F⟩:=h.PG;have KB:=zH (B_ B f s.t X 1 [47] w F k.dL.eE k.dL.xo k.dL.kids (by omega) (by have:=k.dL.last;omega) rows hB (by omega) hr hp);clear F h k hB hl hr hp;go_enter Tryz.func29,Tryz.ntmps29;go_wp2_with fail;refine KB.out.mono ?_;rintro e w1 ⟨v,rfl,hO,hE⟩;have HO:=zH hO;clear hO;go_wp2_with fail;go_ret;exact ⟨v,rfl,HO.out,hE⟩
end Go.Proofs.YtblbohcaphcobaaGreatDoor
