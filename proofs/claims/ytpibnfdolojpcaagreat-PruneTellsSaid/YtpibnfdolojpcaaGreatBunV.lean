import Derived.Test.YtpibnfdolojpcaaGreatBunN
import Derived.Test.YtpibnfdolojpcaaGreatBunS
import Derived.Test.YtpibnfdolojpcaaGreatBunL
import Derived.Test.YtpibnfdolojpcaaGreatBunO
set_option maxHeartbeats 16000000
set_option maxRecDepth 100000
namespace Go.Proofs.YtpibnfdolojpcaaGreat
open Go.Proofs.Tryz
open Go.ChangeShapes Go.WideShapes Go.ChangeAt Go.RowKit
variable {c base:Nat} {S:ag} {w w':World} {v:Value}
structure Vt where
 path:List UInt8
 kind:Int
 mode:Int
 uid:Int
 gid:Int
 mtime:Int
 ctime:Int
 dev:Int
 first:Int
 data:List UInt8
def nU (s n:List UInt8):List UInt8:=rV s++47::n
theorem LN (s n:List UInt8):(nU s n).length<=s.length+1+n.length:=by
 unfold nU;have:=Hu s;rw[aZ,bk];omega
def r9 (bL:List Int) (no:Int):Nat:=bL.findIdx (· == no)
abbrev jK:=List UInt8×Int
def QB (S:ag) (bL:List Int) (x:jK):Vt:=
 let n:=aa S.nodes (aw S.ae x.2)
 ⟨x.1,n.kind,n.mode,n.uid,n.gid,n.mtime,n.ctime,n.dev,r9 bL n.no,n.data⟩
def ib (S:ag) (x:jK):List jK:=(aa S.nodes (aw S.ae x.2)).ah.map fun y=>(nU x.1 y.1,y.2)
inductive jW (S:ag):List jK->List Int->List Vt->Prop
 | nil (bL:List Int):jW S [] bL []
 | none {x:jK} {t:List jK} {bL:List Int} {l:List Vt}:aW S.nodes (aw S.ae x.2)=false->jW S t bL l->jW S (x::t) bL l
 | step {x:jK} {t:List jK} {bL:List Int} {l:List Vt}:aW S.nodes (aw S.ae x.2)=true->jW S (ib S x++t) (bL++[aw S.ae x.2]) l->jW S (x::t) bL (QB S bL x::l)
def QC (S:ag) (r:Int->Nat) (c:Nat) (l:List jK):Nat:=(l.map fun x=>Jj S r c (aw S.ae x.2)).sum
theorem Nr (h:eB c S) (hn:bZ S) (hl:tW S) {r:Int->Nat} (hr:pG S r) (x:jK):QC S r c (ib S x)<Jj S r c (aw S.ae x.2):=by
 obtain⟨no,bB⟩:=ai (aw S.ae x.2);unfold ib;rw[<-bB]
 by_cases hk:(aa S.nodes no).kind=1
 ·obtain ⟨i1,i2,i3⟩:=bP hk
  have hrx:=hr.top no;have hs:=h.small _ i3;unfold QC;rw[vW];have hle:∀y∈(aa S.nodes no).ah,((fun x:jK=>Jj S r c (aw S.ae x.2))∘fun y:aK=>(nU x.1 y.1,y.2)) y<=(c+2) ^ (S.nodes.length-r no):=by
   intro z hz;show Jj S r c (aw S.ae z.2)<=_;unfold Jj;split
   ·rename_i hk2
    obtain ⟨a1,a2⟩:=nQ h hl i3 hz hk2;rw[i2]at a1 a2;have ue:=(h.bL.2 _ i3).1;rw[i2]at ue;have h0:aw S.ae z.2≠0:=by
     intro e;rw[e]at hk2;have:=(bP hk2).1;rw[h.bL.zero (.inl (by decide))]at this;cases this
    have:=hr.step (aw S.ae z.2) h0 (by rw[a1];omega) (by rw[a1];exact dA a2);rw[a1]at this;exact WG (by omega) (by omega)
   ·exact zI (by omega)
  have h1:=Uq _ _ _ hle;have h2:Jj S r c no=(c+2) ^ (S.nodes.length-r no)*(c+2):=by
   unfold Jj;rw[af hk,show S.nodes.length+1-r no=(S.nodes.length-r no)+1 by omega,Nat.pow_succ]
  rw[h2];have h3:0<(c+2) ^ (S.nodes.length-r no):=zI (by omega)
  generalize (c+2) ^ (S.nodes.length-r no)=P at *
  have h4:(aa S.nodes no).ah.length*P<=c*P:=zA P hs;have h5:P*(c+2)=c*P+2*P:=by rw[Nat.mul_add,wo P c,wo P 2]
  refine JA h1 ?_;omega
 ·have:(aa S.nodes no).ah=[]:=by
   cases hi:aW S.nodes no
   ·rw[(aP hi).1];rfl
   ·exact hn _ (ap hi).2.2 hk
  rw[this];exact xm S r c no
theorem LO (h:eB c S) (hn:bZ S) (hl:tW S) (t:List jK) (bL:List Int):∃l,jW S t bL l:=by
 obtain ⟨r,hr⟩:=h.GK;have key : ∀n t bL,QC S r c t<=n->∃l,jW S t bL l:=by
  intro n
  induction n with
  | zero =>
   intro t bL ht
   cases t with
   | nil=>exact⟨_,.nil _⟩
   | cons x t =>
    have:=xm S r c (aw S.ae x.2);unfold QC at ht;rw[dM,dV]at ht;omega
  | succ n ih =>
   intro t bL ht
   cases t with
   | nil=>exact⟨_,.nil _⟩
   | cons x t =>
    have hp:=xm S r c (aw S.ae x.2);unfold QC at ht;rw[dM,dV]at ht
    cases hi:aW S.nodes (aw S.ae x.2)
    ·obtain ⟨l,hd⟩:=ih t bL (by unfold QC;omega)
     exact⟨_,.none hi hd⟩
    ·have hw:=Nr h hn hl hr x
     obtain ⟨l,hd⟩:=ih (ib S x++t) (bL++[aw S.ae x.2]) (by
      unfold QC at hw|-;rw[lG,zJ];omega)
     exact⟨_,.step hi hd⟩
 exact key _ t bL (aE _)
theorem Vu (h:eB c S) {j k:Nat} (hj:j<S.ae.length) (hk:k<S.ae.length) (e:S.ae[j].root=S.ae[k].root):j=k:=by
 obtain⟨m,hm,m1,_,m3⟩:=h.ii j hj;obtain⟨n,hn,n1,_,n3⟩:=h.ii k hk;have:=jz h.bL hm hn (by rw[m1,n1,e]);rw[this,n3]at m3;omega
theorem QD (h:eB c S) (k:Kids S) {m:ak} (hm:m∈S.nodes) {x y:aK} (hx:x∈m.ah) (hy:y∈m.ah) (hk:(aa S.nodes (aw S.ae x.2)).kind=1) (e:aw S.ae x.2=aw S.ae y.2):x=y:=by
 have px:=(h.pos _ hm x hx).1;have py:=(h.pos _ hm y hy).1;obtain⟨_,kx,_⟩:=h.FO m hm x hx;obtain⟨_,ky,_⟩:=h.FO m hm y hy;rcases kM h.xk (show 0<x.2 by omega) with e1|⟨i,hi,e1,e2⟩
 ·rcases kM h.xk (show 0<y.2 by omega) with f1|⟨j,hj,f1,f2⟩
  ·rw [e1]at hk
   obtain⟨_,i2,i3⟩:=bP hk;exact k.once m hm x hx y hy _ i3 i2 hk (by rw[<-e1,<-f1,e])
  ·have:=kx _ (jh hj)
   exact absurd (by rw[<-e1,e,f2]) this
 ·rcases kM h.xk (show 0<y.2 by omega) with f1|⟨j,hj,f1,f2⟩
  ·have:=ky _ (jh hi)
   exact absurd (by rw[<-f1,<-e,e2]) this
  ·have hij:=Vu h hi hj (by rw[<-e2,<-f2,e])
   have:i=j:=by omega
   subst this;obtain⟨q,hq,q1,q2,_⟩:=h.qK i hi;exact k.once m hm x hx y hy q hq (by rw[q1,e1]) q2 (by rw[<-e1,<-f1])
theorem IG (h:eB c S) (hn:bZ S) (k:Kids S) {r:Int->Nat} (hr:pG S r) (x0:Int) {t:List jK} {bL:List Int} {l:List Vt} (hd:jW S t bL l) :
  ∀ E : List Int,E.Nodup->(∀y∈E,(aa S.nodes y).kind=1/\r x0<=r y/\(y=x0\/aC S y∈E)) ->
   (∀z∈t,(aa S.nodes (aw S.ae z.2)).kind=1->aw S.ae z.2∉E/\r x0<=r (aw S.ae z.2)/\(aw S.ae z.2=x0\/aC S (aw S.ae z.2)∈E)) ->
   t.Pairwise (fun a b=>(aa S.nodes (aw S.ae a.2)).kind=1->(aa S.nodes (aw S.ae b.2)).kind=1->aw S.ae a.2≠aw S.ae b.2) ->
   l.length+(E.map fun y=>(aa S.nodes y).ah.length).sum<=t.length+bj S:=by
 induction hd with
 | nil =>
  intro E h1 h2 _ _;have:=xq S.nodes (fun n=>n.ah.length) E h1 (fun y hy=>⟨_,(bP (h2 y hy).1).2.2,(bP (h2 y hy).1).2.1⟩) h.bL.1;unfold bj;simp only[gj];omega
 | none _ _ ih =>
  intro E h1 h2 h3 h4;rw[oc]at h4;have:=ih E h1 h2 (fun z hz=>h3 z (cf _ hz)) h4.2;rw[bk];omega
 | @step x t bL l hi hd ih =>
  intro E h1 h2 h3 h4;rw[oc]at h4;obtain⟨X,hX⟩:=ai (aw S.ae x.2);have hlen:(ib S x).length=(aa S.nodes X).ah.length:=by unfold ib;rw[jP,hX]
  by_cases hx:(aa S.nodes X).kind=1
  ·obtain ⟨x1,x2,x3⟩:=h3 x (bY ..) (by rw[<-hX];exact hx)
   rw [<-hX]at x1 x2 x3;obtain⟨iX,nX,mX⟩:=bP hx;have Z_:=(h.bL.2 _ mX).1;rw[nX]at Z_;have hch:∀y∈(aa S.nodes X).ah,(aa S.nodes (aw S.ae y.2)).kind=1->aC S (aw S.ae y.2)=X/\r X<r (aw S.ae y.2)/\aw S.ae y.2≠x0/\aw S.ae y.2∉X::E:=by
    intro y hy hk;obtain⟨a1,a2⟩:=nQ h k.up mX hy hk;rw[nX]at a1 a2;have h0:aw S.ae y.2≠0:=by
     intro e;rw[e]at hk;have:=(bP hk).1;rw[h.bL.zero (.inl (by decide))]at this;cases this
    have hlt:=hr.step (aw S.ae y.2) h0 (by rw[a1];omega) (by rw[a1];exact dA a2);rw[a1]at hlt;have hne:aw S.ae y.2≠x0:=fun e=>by rw[e]at hlt;omega
    refine⟨a1,hlt,hne,fun hm=>?_⟩;rcases aR.1 hm with e|hm
    ·exact a2 e
    ·rcases (h2 _ hm).2.2 with e|e
     ·exact hne e
     ·rw[a1]at e;exact x1 e
   have := ih (X::E) (JD.2 ⟨x1,h1⟩)
    (fun y hy=>by
     rcases aR.1 hy with rfl|hy
     ·exact⟨hx,x2,x3.imp id (cf _)⟩
     ·obtain ⟨a1,a2,a3⟩:=h2 y hy
      exact⟨a1,a2,a3.imp id (cf _)⟩)
    (fun z hz hk=>by
     rcases dn.1 hz with hz|hz
     ·unfold ib at hz
      rw[<-hX,fH]at hz;obtain⟨y,hy,rfl⟩:=hz;obtain⟨c1,c2,c3,c4⟩:=hch y hy hk;exact⟨c4,by show r x0<=r (aw S.ae y.2);omega,.inr (by show aC S (aw S.ae y.2)∈_;rw[c1];exact bY ..)⟩
     ·obtain ⟨a1,a2,a3⟩:=h3 z (cf _ hz) hk
      refine⟨fun hm=>?_,a2,a3.imp id (cf _)⟩;rcases aR.1 hm with e|hm
      ·exact h4.1 z hz (by rw[<-hX];exact hx) hk (by rw[<-hX];exact e.symm)
      ·exact a1 hm)
    (zh.2 ⟨?_,h4.2,fun a ha b hb ka kb e=>?_⟩)
   ·rw [dM,dV,aZ,hlen]at this
    simp only[bk];omega
   ·unfold ib
    rw[<-hX,zi];refine List.Pairwise.imp_of_mem ?_ (h.qO _ mX);intro a b ha hb hab ka _ e;have e1:=QD h k mX ha hb ka e;rw[e1,dD]at hab;cases hab
   ·unfold ib at ha
    rw[<-hX,fH]at ha;obtain⟨y,hy,rfl⟩:=ha;obtain⟨c1,c2,c3,c4⟩:=hch y hy ka;have e':aw S.ae y.2=aw S.ae b.2:=e;rcases (h3 b (cf _ hb) kb).2.2 with e1|e1
    ·exact c3 (e'.trans e1)
    ·rw[<-e',c1]at e1;exact x1 e1
  ·have hke:ib S x=[]:=by
    unfold ib;rw[<-hX,hn _ (ap (show aW S.nodes X=true by rw[hX];exact hi)).2.2 hx];rfl
   rw[hke]at ih;have:=ih E h1 h2 (fun z hz=>h3 z (cf _ hz)) h4.2;rw[jG]at this;simp only[bk];omega
theorem QE (h:eB c S) (hn:bZ S) (k:Kids S) {x:jK} {l:List Vt} (hd:jW S [x] [] l):l.length<=1+bj S:=by
 obtain⟨r,hr⟩:=h.GK;have:=IG h hn k hr (aw S.ae x.2) hd [] List.nodup_nil (fun y hy=>by cases hy) (fun z hz _=>by rw[ax]at hz;subst hz;exact⟨by simp,aE _,.inl rfl⟩) (DT _ _);simpa using this
def r_ (S:ag) (r:Int->Nat) (x:jK):Prop:=x.1.length<=300*(S.nodes.length+2)/\((aa S.nodes (aw S.ae x.2)).kind=1->x.1.length<=300*(r (aw S.ae x.2)+1))
theorem yi (h:eB c S) (hn:bZ S) (hl:tW S) {r:Int->Nat} (hr:pG S r) {x:jK} (hx:r_ S r x):∀y∈ib S x,r_ S r y:=by
 intro y hy;unfold ib at hy;rw[fH]at hy;obtain⟨z,hz,rfl⟩:=hy;obtain⟨X,hX⟩:=ai (aw S.ae x.2);rw[<-hX]at hz;unfold r_ at hx;rw[<-hX]at hx;have hk:(aa S.nodes X).kind=1:=by
  rcases Decidable.em ((aa S.nodes X).kind=1) with hk|hk
  ·exact hk
  ·exfalso
   cases hi:aW S.nodes X
   ·rw[(aP hi).1]at hz;cases hz
   ·rw[hn _ (ap hi).2.2 hk]at hz;cases hz
 obtain ⟨iX,nX,mX⟩:=bP hk;have xK:=hx.2 hk;have ie:=(h.names _ mX z hz).2;have hlen:=LN x.1 z.1;have aan:=hr.top X;refine⟨by show (nU x.1 z.1).length<=_;omega,fun hk2=>?_⟩;obtain⟨a1,a2⟩:=nQ h hl mX hz hk2;rw[nX]at a1 a2;have Z_:=(h.bL.2 _ mX).1;rw[nX]at Z_;have h0:aw S.ae z.2≠0:=by
  intro e;have qg:(aa S.nodes (aw S.ae z.2)).kind=1:=hk2;rw[e]at qg;have:=(bP qg).1;rw[h.bL.zero (.inl (by decide))]at this;cases this
 have hlt:=hr.step (aw S.ae z.2) h0 (by rw[a1];omega) (by rw[a1];exact dA a2);rw[a1]at hlt;show (nU x.1 z.1).length<=300*(r (aw S.ae z.2)+1);omega
theorem Vv (l:List UInt8) (w:World) (hlen:l.length<=1000000):Calls prog 168 #[bs l] w (aO w (.string (bs (rV l)))):=by
 go_in;go_wp2_with fail;go_loopw [0] (fun u wr=>∃m:List UInt8,u=.string (bs m)/\m.length<=l.length/\Hid (rV m=rV l)/\wr=w) (fun u _=>(strOf u).size)
 case atStart=>exact⟨l,rfl,aE _,rfl,rfl⟩
 case round =>
  obtain⟨m,rfl,hm,hc,rfl⟩:=hrel;have z0:(bs m).size=m.length:=bo m;rcases La m with h|⟨a,c,h⟩
  ·have HF:Hid (rV l=m):=by show _=_;rw[<-hc.o,h];rfl
   have hm0:m.length=0:=by rw[h];rfl
   clear h;go_wp2;go_ret;exact aO.mk (Em (by rw[HF.o])) (Ext.refl _)
  ·have Mq:m.length=a.length+1:=by rw[h];simp
   have hks:a.length<(bs m).size:=by omega
   have hg:(bs m)[a.length]=c:=by
    rw[JK m a.length hks (by omega)];simp[h]
   have hw1:IntKind.i64.wrap (a.length:Int)=a.length:=aU (by omega) (by omega)
   by_cases hcs:c=47
   ·have qN:(((bs m)[a.length].toNat:Int) == 47)=true:=by rw[hg,hcs];rfl
    have hn:Hid (rV a=rV l):=by
     show _=_;rw[<-hc.o,h,hcs,PH]
    have ha:(bs m).extract 0 a.length=bs a:=by rw[acA,h];simp
    have CU:=TZ (P:=prog) underlying9 (bs m) (a.length:Int) a.length rfl (by omega) (bs a) ha;have za:(bs a).size=a.length:=bo a;clear hg hcs h ha;go_wp2_with fail;go_roundw
    case rel=>exact⟨a,rfl,by omega,hn,by first|trivial|rfl⟩
    case measure=>simp[strOf];omega
   ·have HF:Hid (rV l=m):=by show _=_;rw[<-hc.o,h];exact PI hcs
    have qN:(((bs m)[a.length].toNat:Int) == 47)=false:=by
     rw[hg];exact (Dk (c:=c) (d:=47)).trans (ji.2 hcs)
    clear hg hcs h;go_wp2;go_ret;exact aO.mk (Em (by rw[HF.o])) (Ext.refl _)
theorem LQ (a b:List UInt8) (w:World) (ha:a.length<=100000) (hb:b.length<=100000):Calls prog 130 #[bs a,bs b] w (aO w (.string (bs (nU a b)))):=by
 have hcl:=Hu a;have hf:Hid (nU a b=rV a++47::b):=rfl;obtain⟨C,hC⟩:=ai (rV a);rw[<-hC]at hcl hf;have z1:(bs C).size=C.length:=bo C;have z2:(bs b).size=b.length:=bo b;have z3:(bs (C++[47])).size=C.length+1:=by rw[bo];simp
 have c1:bs C++(⟨#[47]⟩:ByteArray)=bs (C++[47]):=mW C [47];have c2:bs (C++[47])++bs b=bs (C++47::b):=by rw[mW];simp
 have j_:¬9223372036854775807<C.length+1:=by omega
 have hb2:¬9223372036854775807<C.length+1+b.length:=by omega
 have HC:=zH hC;clear hC;go_in;go_wp2_with fail;refine (Vv a _ (by omega)).mono ?_;rintro e w1 ⟨rfl,Et⟩;rw[<-HC.o];go_wp2;go_ret;exact aO.mk (Em (by rw[hf.o])) Et
def QF:je Vt:=⟨79,86,10,96,.agg #[.string ⟨#[]⟩,(),(),(),(),(),(),(),(),.string ⟨#[]⟩],
 fun x=>[.string (bs x.path),.int .i64 x.kind,.int .i64 x.mode,.int .i64 x.uid,.int .i64 x.gid,.int .i64 x.mtime,.int .i64 x.ctime,.int .i64 x.dev,.int .i64 x.first,.string (bs x.data)],by decide,underlying79,by kernel_rfl,rfl,fun _=>rfl,fun x u hu=>by
 simp only[aR,bg,bh]at hu;rcases hu with rfl|rfl|rfl|rfl|rfl|rfl|rfl|rfl|rfl|rfl<;>rfl,by decide⟩
theorem IH (a:Int) (l:List Int) (no:Int):r9 (a::l) no=if (a == no)=true then 0 else r9 l no+1:=by
 unfold r9;rw[List.findIdx_cons]
 cases a == no<;>rfl
def qM (bL:List Int) (no:Int) (p:Nat):Nat:=p+r9 (bL.drop p) no
theorem QG (bL:List Int) (no:Int):qM bL no bL.length=bL.length:=by unfold qM;rw[uo];rfl
theorem LR {bL:List Int} {no:Int} {p:Nat} (hp:p<bL.length):qM bL no p=if (bL[p] == no)=true then p else qM bL no (p+1):=by
 unfold qM;rw[jg hp,IH];split<;>omega
theorem LS (bL:List Int) (no:Int):qM bL no 0=r9 bL no:=by unfold qM;rw[jN,eY]
theorem II {b:Nat} {t:TypeId} {L:List Nat} (h:e7 w b t) (o:Only L w w') (hn:b∉L):e7 w' b t:=by
 obtain ⟨cs,f,e⟩:=h;have hb:b<w.heap.size:=by
  rcases lq b w.heap.size with h'|h'
  ·exact h'
  ·simp[rf h']at e
 exact⟨cs,f,(o.block b hb hn).trans e⟩
def mA (w:World) (A:Option Addr) (l:List jK):Prop:=l=[]\/∃b o,A=some ⟨b,o,none⟩/\b<w.heap.size/\e7 w b 153/\∀k,(h:k<l.length)->w.cell? ⟨b,o+k*2,none⟩=some (.string (bs l[k].1))/\w.cell? ⟨b,o+k*2+1,none⟩=some (.int .i64 l[k].2)
theorem mA.only {A:Option Addr} {l:List jK} {L:List Nat} (h:mA w A l) (o:Only L w w') (hn:∀x∈L,¬e7 w x 153):mA w' A l:=by
 rcases h with h|⟨b,f,hA,hb,ht,hc⟩
 ·exact .inl h
 ·have MF:b∉L:=fun hx=>hn b hx ht
  refine .inr ⟨b,f,hA,by have:=o.size;omega,II ht o MF,fun k hk=>?_⟩;have hcell:∀i,w'.cell? ⟨b,i,none⟩=w.cell? ⟨b,i,none⟩:=fun i=>jE (o.block b hb MF) i
  rw[hcell,hcell];exact hc k hk
theorem mA.ext {A:Option Addr} {l:List jK} (h:mA w A l) (k:Ext w w'):mA w' A l:=h.only (Only.az (L:=[]) k) (by simp)
theorem en.Vw {α:Type} {R:je α} {l:List α} (k:en R w base v l) (h1:R.t≠153):∀x∈v.ownBlock.toList,¬e7 w x 153:=by
 intro x hx;have hx:=cR.1 hx;rintro ⟨cs,fr,e⟩;obtain⟨cs2,fr2,e2⟩:=k.tag hx;rw[e2]at e;injection e with e;injection e with _ e;exact h1 e
theorem en.apart {α β:Type} {R:je α} {Q:je β} {adh:Nat} {u:Value} {l:List α} {m:List β} (h:en R w base v l) (k:en Q w adh u m) (hne:R.t≠Q.t):∀g,v.ownBlock=some g->g∉u.ownBlock.toList:=by
 intro g hg hm;obtain⟨cs,fr,e⟩:=h.tag hg;obtain⟨cs2,fr2,e2⟩:=k.tag (cR.1 hm);rw[e2]at e;injection e with e;injection e with _ e;exact hne e.symm
theorem en.todo {l:List jK} (h:en Lx w base v l):∃A cap,v=.slice A l.length cap/\l.length<=cap/\mA w A l:=by
 rcases h.cases with⟨rfl,rfl⟩|⟨g,cap,cur,rfl,_,h3,h4,_,h6⟩
 ·exact⟨none,0,rfl,aE _,.inl rfl⟩
 ·refine ⟨_,cap,rfl,h4,.inr ⟨g,0,rfl,h3.lt,⟨_,_,h3⟩,fun k hk=>?_⟩⟩
  rw[eY];exact⟨h6 k hk 0 (by decide),h6 k hk 1 (by decide)⟩
theorem Vx (B:Nat) (f:cI) (S:ag) (X:cY) (no:Int) (path:List UInt8) (w:World) (F:gv w B f S X) (T:eB c S) (hE:bZ S) (hK:Kids S) (hc:c<=900) (hl:S.last<=300) (rows:List Vt) (hB:jW S [(path,no)] [] rows) (hlen:rows.length<=1000)
  {r:Int->Nat} (hr:pG S r) (hp:r_ S r (path,no)) :
  Calls prog 79 #[((),f.bF),no,bs path] w (fun e w'=>∃v,e=.returned v/\en QF w' w.heap.size v rows/\Ext w w'):=by
 have nE:S.nodes.length<=300:=by have:=T.count;omega
 have hBw:B<=w.heap.size:=by have h1:=(F.apart f.bF (by simp[cI.list])).1;have h2:=F.lt.1;omega
 have KO:Hid (∀(u:World) (n:Int),Ext w u->Calls prog 84 #[((),f.bF),n] u (aO u (.int .i64 (aw S.ae n)))):=fun u n hu=>iy B f S X n u (F.ext hu) (by have:=T.eight;omega)
 have KG:Hid (∀(u:World) (n:Int),Ext w u->Calls prog 30 #[((),f.bF),n] u (WW u B S.nodes n)):=fun u n hu=>eE B f S X n u (F.ext hu) (by omega) T.bL
 obtain⟨W1,cA⟩:=ai (w.alloc (.cells #[bs path,no] 153));obtain⟨b1,j_⟩:=ai w.heap.size;have E1:Ext w W1:=by rw[cA];exact (Ext.refl _).alloc _
 have B1:Has W1 b1 (.cells #[bs path,no] 153):=by rw[cA,j_];exact Has.new _ _
 have T1:Hid (mA W1 (some ⟨b1,0,none⟩) [(path,no)]):=.inr ⟨b1,0,rfl,B1.lt,⟨_,_,B1⟩,fun k hk=>by
  have:k=0:=by simpa using hk
  subst this;exact⟨B1.cell 0,B1.cell 1⟩⟩
 have HB:=zH hB;have HP:=zH hp;have HT:=zH T;have HNE:=zH hE;have HK:=zH hK;have HR:=zH hr;have afa:=zH hlen;clear F hB hp T hE hK hr hlen B1;go_in;go_upto_region 4 with fail;rw[<-cA,<-j_];clear cA j_;go_loopg [7,8,9] (QC S r c [(path,no)]) (fun m vo vn vt wr=>∃(l0:List Vt) (bL:List Int) (t:List jK) (A:Option Addr) (cap:Nat),vt=.slice A t.length cap/\t.length<=cap/\t.length<=1+bL.length*1000/\mA wr A t/\en QF wr w.heap.size vo l0/\en lP wr w.heap.size vn bL/\l0.length=bL.length/\Ext w wr/\(∀x∈t,r_ S r x)/\m=QC S r c t/\∃l1,jW S t bL l1/\rows=l0++l1)
 case atStart=>exact⟨[],[],[(path,no)],_,1,rfl,aE _,by simp,T1.o,en.nil _ _ _,en.nil _ _ _,rfl,E1,fun x hx=>by rw[ax]at hx;subst hx;exact HP.o,rfl,rows,HB.o,rfl⟩
 case round =>
  clear T1;obtain⟨V,hV⟩:=ai wr;subst hV;obtain⟨l0,bL,t,A,cap,rfl,hcap,sO,hT,hO,hN,XC,hE,hPO,hm,l1,hBl,IJ⟩:=hrel;obtain⟨Ao,adi,rfl,_,_,_,_⟩:=hO.at_;obtain⟨An,afb,rfl,_,_,abx,_⟩:=hN.at_;have hn0:bL.length<=1000:=by have:=afa.o;rw[IJ,aZ]at this;omega
  cases t with
  | nil =>
   have hf:Hid (rows=l0):=by show _=_;cases hBl;rw[IJ,iR]
   have HO:=zH hO;have HE:=zH hE;obtain⟨no',SC⟩:=ai l0.length;rw[<-SC]at HO|-;clear hcap sO hT hO hN XC hE hPO hm hBl IJ abx SC;simp only[gj];go_wp2;go_ret;exact⟨_,rfl,by rw[hf.o];exact HO.o,HE.o⟩
  | cons x t' =>
   obtain ⟨gt,ot,rfl,hgt,aby,hcell⟩:∃b o,A=some ⟨b,o,none⟩/\b<V.heap.size/\e7 V b 153/\∀k,(h:k<(x::t').length)->V.cell? ⟨b,o+k*2,none⟩=some (.string (bs (x::t')[k].1))/\V.cell? ⟨b,o+k*2+1,none⟩=some (.int .i64 (x::t')[k].2):=by
    rcases hT with h|h
    ·cases h
    ·exact h
   have q0:V.cell? (gt,ot)=some (.string (bs x.1)):=(hcell 0 (tG _)).1;have q1:V.cell? (gt,ot+1)=some (.int .i64 x.2):=(hcell 0 (tG _)).2;obtain⟨T,Rx⟩:=ai t'.length;have e2:(x::t').length=T+1:=by rw[Rx];rfl
   rw [e2]at hcap sO|-;obtain⟨ox,adj⟩:∃ox,(cap=1/\ox=ot\/cap≠1/\ox=ot+2):=by
    by_cases V6:cap=1
    ·exact⟨_,.inl ⟨V6,rfl⟩⟩
    ·exact⟨_,.inr ⟨V6,rfl⟩⟩
   have hso:(if cap=1 then (some ⟨gt,ot,none⟩:Option Addr) else some ⟨gt,ot+2,none⟩)=some ⟨gt,ox,none⟩:=by
    rcases adj with⟨h1,h2⟩|⟨h1,h2⟩
    ·rw[af h1,h2]
    ·rw[ac h1,h2]
   have Ft:mA V (some ⟨gt,ox,none⟩) t':=by
    rcases adj with⟨h1,h2⟩|⟨h1,h2⟩
    ·left
     cases t' with
     | nil=>rfl
     | cons y t''=>exfalso;rw[Rx,bk]at hcap;omega
    ·refine .inr ⟨gt,ox,rfl,hgt,aby,fun k hk=>?_⟩
     have:=hcell (k+1) (by simpa using hk);rw[show ot+(k+1)*2=ot+2+k*2 by omega]at this;rw[h2];simpa using this
   have Xx:T+1<=cap:=hcap;have hpx:=hPO x (bY ..);have HPO:=zH (fun y (hy:y∈t')=>hPO y (cf _ hy));have HPX:=zH hpx;have HBL:=zH hBl;have HRW:=zH IJ;have HM:=zH hm;have HO:=zH hO;have HN:=zH hN;have Rp:=zH XC;have HE:=zH hE;have Yd:=zH Ft;have HTT:=zH Rx;have agb:=zH aby;have agc:=zH abx;obtain⟨nn,Re⟩:=ai bL.length;obtain⟨nl,YE⟩:=ai l0.length;rw[<-Re,<-YE]at Rp;rw[<-Re]at HN sO hn0|-;rw[<-YE]at HO|-;have qP:=zH Re;have abz:=zH sO;have HNL:=zH YE;have M8:nl=nn:=Rp.o;obtain⟨W4,gb⟩:=ai (V.alloc (.cells #[bs x.1,x.2] 153));obtain⟨CN,lK⟩:=ai V.heap.size;have E4:Ext V W4:=by rw[gb];exact (Ext.refl _).alloc _
   have X4:Has W4 CN (.cells #[bs x.1,x.2] 153):=by rw[gb,lK];exact Has.new _ _
   clear hPO hpx hBl IJ hm hO hN XC hE Ft Rx aby abx hcell Re YE hcap e2 M8 sO;go_upto_region 7 with fail;rw[<-gb,<-lK];clear gb lK q0 q1 hgt;have y1:=aA X4 1 rfl;have yz:=X4.lt;have ZV:=zH X4;clear X4;obtain⟨X,hX⟩:=ai (aw S.ae x.2);have KO4:=KO.o W4 x.2 (HE.o.trans E4);rw[<-hX]at KO4;have adk:=zH KO4;have HX:=zH hX;clear hX KO4;go_wp2_with fail;refine adk.o.mono ?_;rintro e w5 ⟨rfl,b5⟩;go_wp2_with fail;refine (KG.o w5 X ((HE.o.trans E4).trans b5)).mono ?_;rintro e w6 ⟨A6,c6,rfl,uj,b6⟩;obtain⟨n,hn⟩:=ai (aa S.nodes X);rw[<-hn]at uj|-;have HNo:=zH hn;clear y1 yz hn adk;obtain⟨W7,Rz⟩:=ai (w6.alloc (.cells (n,A6,c6) 66));obtain⟨dI,fj⟩:=ai w6.heap.size;have N7:Has W7 dI (.cells (n,A6,c6) 66):=by rw[Rz,fj];exact Has.new _ _
   have E7:Ext V W7:=by rw[Rz];exact ((E4.trans b5).trans b6).alloc _
   have E47:Ext W4 W7:=by rw[Rz];exact (b5.trans b6).alloc _
   have wF:aD W7 B n A6 c6:=uj.ext (by rw[Rz];exact (Ext.refl _).alloc _);go_upto_region 8 with fail;rw[<-Rz,<-fj];clear Rz fj uj b5 b6;have HOK:=zH wF;have HN7:=zH N7;obtain⟨n0,n1,n2,n3,n4,n5,n6,n7,n8,n9,OZ,Kq⟩:=N7.da;have nz:=N7.lt;clear wF N7
   cases hi:aW S.nodes X with
   | false =>
    have bB:n.no=0:=by rw[HNo.o,(aP hi).1];rfl
    have t0:(n.no == 0)=true:=by rw[bB];rfl
    obtain ⟨Kz⟩:Nonempty (jW S t' bL l1):=by
     have h0:=HBL.o
     cases h0 with
     | none _ h=>exact⟨h⟩
     | step h _=>rw[<-HX.o,hi]at h;cases h
    have Rw:=zH Kz;clear bB hi Kz;go_wp2_with fail;go_roundg (QC S r c t')
    case measure =>
     rw[HM.o];have:=xm S r c (aw S.ae x.2);unfold QC;rw[dM,dV];omega
    case rel=>exact⟨l0,bL,t',some ⟨gt,ox,none⟩,cap-1,by rw[HTT.o],by have:=HTT.o;omega,by have:=abz.o;have:=HTT.o;have:=qP.o;omega,Yd.o.ext E7,HO.o.ext E7,HN.o.ext E7,by rw[<-HNL.o,<-qP.o];exact Rp.o,HE.o.trans E7,HPO.o,rfl,l1,Rw.o,HRW.o⟩
   | true =>
    have bB:n.no=X:=by rw[HNo.o];exact (ap hi).2.1
    have hX0:X≠0:=by have:=(HT.o.bL.2 _ (ap hi).2.2).1;rw[(ap hi).2.1]at this;omega
    have t0:(n.no == 0)=false:=by rw[bB];simpa using hX0
    have Tm:n.ah.length<=1000:=by rw[HNo.o];have:=HT.o.small _ (ap hi).2.2;omega
    obtain ⟨l2,xH,Kz⟩:∃l2,l1=QB S bL x::l2/\jW S (ib S x++t') (bL++[X]) l2:=by
     have h0:=HBL.o
     cases h0 with
     | none h _=>rw[<-HX.o,hi]at h;cases h
     | step _ h=>exact⟨_,rfl,by rw[HX.o];exact h⟩
    have uh:=zH bB;have Rw:=zH Kz;have Xw:=zH xH;have afc:=zH Tm;clear bB hX0 xH Kz hi Tm;have p0:(0:Int)<=(nn:Int):=cO _;have BS:IntKind.i64.wrap ((nn:Int)-1)=(nn:Int)-1:=cB _ (by omega);go_wp2_with fail;go_loopw [12,13] (fun vf vi wr=>∃p:Nat,vi=.int .i64 ((p:Int)-1)/\p<=nn/\vf=.int .i64 (qM bL X p:Nat)/\Ext W7 wr) (fun _ vi _=>(intOf vi+1).toNat)
    case atStart=>exact⟨nn,rfl,aE _,by rw[qP.o,QG,<-qP.o];rw[<-Rp.o],Ext.refl _⟩
    case round =>
     obtain⟨p,Ls,hp,rfl,j0⟩:=hrel;have QH:Ext V wr:=E7.trans j0;have QI:=zH QH;have yj:=zH j0;rcases p with _|p
     case succ =>
      have Bl:u13=.int .i64 (p:Int):=by rw[Ls];simp
      subst Bl;have hpl:p<bL.length:=by have:=qP.o;omega
      obtain ⟨gn,rfl,Xp,qn⟩:∃gn,An=some ⟨gn,0,none⟩/\gn<wr.heap.size/\wr.cell? ⟨gn,p,none⟩=some (.int .i64 bL[p]):=by
       rcases (HN.o.ext QH).cases with⟨_,h2⟩|⟨gm,cap,cur,h2,_,h3,_,_,h4⟩
       ·rw[h2]at hpl;cases hpl
       ·injection h2 with h2
        have:=h4 p hpl 0 (by decide);exact⟨gm,h2,h3.lt,by simpa [lP]using this⟩
      have hst:=LR (no:=X) hpl;obtain⟨y,hy⟩:=ai (bL[p]);rw[<-hy]at qn hst;have qQ:=zH hst;have k0:=(j0.cell nz).trans n0;have kz:dI<wr.heap.size:=by have:=j0.size;omega
      have q0:(0:Int)<=(p:Int):=cO _;have w2w:IntKind.i64.wrap ((p:Int)-1)=(p:Int)-1:=cB _ (by omega);have Z9:(p:Int)<nn:=by omega
      by_cases hyx:y=n.no
      ·have t1:(y == n.no)=true:=by simpa using hyx
       have hF:Hid (qM bL X p=p):=by show _=_;rw[qQ.o,af (by rw[<-uh.o];exact t1)]
       clear hst hy hyx Ls QH j0 n0 n1 n2 n3 n4 n5 n6 n7 n8 n9 OZ Kq nz hpl;go_upto_region 13 with fail;go_quiet (fail);have EQ:=zH (yj.o.drewN nq);go_wp2_with fail;go_roundw
       case rel=>exact⟨p,rfl,by omega,by rw[hF.o],EQ.o⟩
       case measure=>simp[intOf]
      ·have t1:(y == n.no)=false:=by simpa using hyx
       have hF:Hid (qM bL X p=qM bL X (p+1)):=by show _=_;rw[qQ.o,ac (by rw[<-uh.o,t1];decide)]
       clear hst hy hyx Ls QH j0 n0 n1 n2 n3 n4 n5 n6 n7 n8 n9 OZ Kq nz hpl;go_upto_region 13 with fail;go_quiet (fail);have EQ:=zH (yj.o.drewN nq);go_wp2_with fail;go_roundw
       case rel=>exact⟨p,rfl,by omega,by rw[hF.o],EQ.o⟩
       case measure=>simp[intOf]
     case zero =>
      have Bl:u13=.int .i64 (-1):=Ls;subst Bl;have adl:w.heap.size<=wr.heap.size:=(HE.o.trans QH).size;obtain⟨row,hrow⟩:=ai (QB S bL x);have Hf:row=⟨x.1,n.kind,n.mode,n.uid,n.gid,n.mtime,n.ctime,n.dev,((r9 bL X:Nat):Int),n.data⟩:=by
       rw[hrow];unfold QB;rw[<-HX.o,<-HNo.o];dsimp only;rw[uh.o]
      obtain⟨fi,hfi⟩:∃i:Int,i=((r9 bL X:Nat):Int):=⟨_,rfl⟩;rw[<-hfi]at Hf;have adm:((qM bL X 0:Nat):Int)=fi:=by rw[hfi,LS]
      rw[adm];have afd:=zH hrow;have adn:=zH Hf;obtain⟨v8,w8,hr8,hO8,UT,gH⟩:=DB lP wr (HN.o.ext QH) adl n.no (by have:=qP.o;omega);have E28:Ext w w8:=((HE.o.trans QH).alloc _).grown UT (fun g hv=>((HN.o.ext QH).lt hv).1);have o8:Only (Value.slice An nn afb).ownBlock.toList wr w8:=(Only.lh _ _ _).then (Only.of_grownBy UT (fun g hv=>cR.2 hv));have ZZ:=HN.o.ext QH;have R8:en QF w8 w.heap.size (.slice Ao nl adi) l0:=(HO.o.ext QH).only o8 (fun g hv hm=>(HO.o.ext QH).apart ZZ (by decide) g hv hm);have T8:mA w8 (some ⟨gt,ox,none⟩) t':=(Yd.o.ext QH).only o8 (ZZ.Vw (by decide));have X8:Has w8 CN (.cells #[bs x.1,x.2] 153):=o8.has ((ZV.o.ext E47).ext j0) (fun hm=>ZZ.Vw (by decide) _ hm ⟨_,_,(ZV.o.ext E47).ext j0⟩);have N8:Has w8 dI (.cells (n,A6,c6) 66):=o8.has (HN7.o.ext j0) (ZZ.Bu (HN7.o.ext j0) (by decide));have ok8:aD w8 B n A6 c6:=(HOK.o.ext j0).only o8 (ZZ.dJ hBw (by decide) (by decide)).apart;have Vy:w.heap.size<=w8.heap.size:=E28.size;obtain⟨v9,w9,hr9,Rl,Rm,_⟩:=DB QF w8 R8 Vy ⟨x.1,n.kind,n.mode,n.uid,n.gid,n.mtime,n.ctime,n.dev,fi,n.data⟩ (by have:=HNL.o;have:=Rp.o;omega);have E29:Ext w w9:=(E28.alloc _).grown Rm (fun g hv=>(R8.lt hv).1);have o9:Only (Value.slice Ao nl adi).ownBlock.toList w8 w9:=(Only.lh _ _ _).then (Only.of_grownBy Rm (fun g hv=>cR.2 hv));have O9:en lP w9 w.heap.size v8 (bL++[n.no]):=hO8.only o9 (fun g hv hm=>hO8.apart R8 (by decide) g hv hm);have T9:mA w9 (some ⟨gt,ox,none⟩) t':=T8.only o9 (R8.Vw (by decide));have X9:Has w9 CN (.cells #[bs x.1,x.2] 153):=o9.has X8 (R8.Bu X8 (by decide));have N9:Has w9 dI (.cells (n,A6,c6) 66):=o9.has N8 (R8.Bu N8 (by decide))
      have ok9:aD w9 B n A6 c6:=ok8.only o9 (R8.dJ hBw (by decide) (by decide)).apart;have ado:en QF w9 w.heap.size v9 (l0++[QB S bL x]):=by rw[<-afd.o,adn.o];exact Rl
      have k0:=(j0.cell nz).trans n0;have kz:dI<wr.heap.size:=by have:=j0.size;omega
      have HR8:=zH hr8;have HR9:=zH hr9;have Wy:=zH N8;have HX8:=zH X8;have HO9:=zH O9;have afe:=zH ado;have HT9:=zH T9;have HX9:=zH X9;have HN9:=zH N9;have aff:=zH ok9;have HE9:=zH E29;clear Ls QH j0 hrow Hf hfi adm hr8 hO8 UT gH E28 o8 ZZ R8 T8 X8 N8 ok8 hr9 Rl Rm E29 o9 O9 T9 X9 N9 ok9 ado n0 n1 n2 n3 n4 n5 n6 n7 n8 n9 OZ Kq nz Vy adl BS;go_upto_region 16 with (at_builtin;refine nj _ rfl _ _ 124 124 rfl _ _ rfl rfl _ _ HR8.o ?_);clear k0 kz;obtain⟨n0,n1,n2,n3,n4,n5,n6,n7,n8,n9,OZ,Kq⟩:=Wy.o.da;have nz:=Wy.o.lt;have y0:=HX8.o.cell 0;have yz:=HX8.o.lt;simp only[gA,gB]at y0;go_upto_region 17 with (at_builtin;refine nj _ rfl _ _ 79 79 rfl _ _ rfl rfl _ _ HR9.o ?_);clear n0 n1 n2 n3 n4 n5 n6 n7 n8 n9 OZ Kq nz y0 yz;obtain⟨m,hm⟩:=ai n.ah.length;have Pw:=zH hm;have Mq:m<=1000:=by rw[hm];exact afc.o
      have hKF:ib S x=n.ah.map fun y=>(nU x.1 y.1,y.2):=by unfold ib;rw[<-HX.o,<-HNo.o]
      have HKF:=zH hKF;have dN:(ib S x).length=m:=by rw[hKF,jP,hm]
      have HKL:=zH dN;have hpl:x.1.length<=100000:=by have:=HPX.o.1;omega
      have ie:∀y∈n.ah,y.1.length<=100000:=fun y hy=>by
       rw[HNo.o]at hy
       cases tm:aW S.nodes X
       ·rw[(aP tm).1]at hy;cases hy
       ·have:=(HT.o.names _ (ap tm).2.2 y hy).2;omega
      have Yv:=zH ie;clear hKF dN ie hm;go_wp2_with fail;go_loopw [14,15] (fun vin vi wr=>∃k:Nat,vi=.int .i64 k/\k<=m/\en Lx wr w9.heap.size vin ((ib S x).take k)/\Ext w9 wr) (fun _ vi _=>m-(intOf vi).toNat)
      case atStart=>exact⟨0,rfl,bC _,en.nil _ _ _,Ext.refl _⟩
      case round =>
       obtain⟨k,rfl,hk,hO,yK⟩:=hrel;have k0:(0:Int)<=(k:Int):=cO _;have z11:w9.cell? (dI,11)=some (.slice A6 m c6):=by rw[Pw.o];exact HN9.o.da.2.2.2.2.2.2.2.2.2.2.2
       have zz:=HN9.o.lt
       by_cases hlt:(k:Int)<m
       case pos =>
        have dN:k<n.ah.length:=by have:=Pw.o;omega
        obtain ⟨be,oe,rfl,hbe,ea,eb⟩:=(aff.o.ah.ah).lt0 dN;have q7:(ib S x).take (k+1)=(ib S x).take k++[(nU x.1 n.ah[k].1,n.ah[k].2)]:=by
         have hk2:k<(ib S x).length:=by rw[HKL.o];omega
         rw[mC hk2]
         congr 2
         have:=HKF.o;simp only[this,DR]
        have hyl:=Yv.o n.ah[k] (jh dN);obtain⟨y,hy⟩:=ai (n.ah[k]);rw[<-hy]at ea eb q7 hyl;obtain⟨yn,yo⟩:=y;have ea':w9.cell? (be,oe+k*2)=some (.string (bs yn)):=ea;have eb':w9.cell? (be,oe+k*2+1)=some (.int .i64 yo):=eb;have HTK:=zH q7;have w2w:IntKind.i64.wrap ((k:Int)+1)=(k:Int)+1:=cB _ (by omega);have KB:=zH (fun (u:World)=>LQ x.1 yn u hpl hyl);have y0:=HX9.o.cell 0;have yz:=HX9.o.lt;simp only[gA,gB]at y0;have KS:Hid (∀w',Ext w9 w'->(Ext w9 w'/\w'.cell? (CN,0)=some (.string (bs x.1))/\w'.cell? (dI,11)=some (.slice (some ⟨be,oe,none⟩) m c6)/\w'.cell? (be,oe+k*2)=some (.string (bs yn))/\w'.cell? (be,oe+k*2+1)=some (.int .i64 yo))):=fun w' h'=>⟨h',(h'.cell yz).trans y0,(h'.cell zz).trans z11,(h'.cell hbe).trans ea',(h'.cell hbe).trans eb'⟩
        have HO3:=zH hO;have HE3:=zH yK;have HWR:=zH ((Ext.refl wr).drew);have M8:((ib S x).take k).length<=2000000:=by have:=List.length_take_le k (ib S x);omega
        have cA:Ext w9 wr.drew:=yK.drew;have adp:=(yK.cell zz).trans z11;have zzw:dI<wr.heap.size:=by have:=yK.size;omega
        clear q7 hO yK hy ea eb ea' eb' y0 yz z11 zz hyl dN hbe;go_upto_region 21 with fail;clear adp zzw;go_region_held3 (fun w'=>Ext w9 w'/\w'.cell? (CN,0)=some (.string (bs x.1))/\w'.cell? (dI,11)=some (.slice (some ⟨be,oe,none⟩) m c6)/\w'.cell? (be,oe+k*2)=some (.string (bs yn))/\w'.cell? (be,oe+k*2+1)=some (.int .i64 yo))
         ((first|exact KS.o _ cA|exact KS.o _ (cA.trans Az)|exact KS.o _ ((cA.trans Az).alloc _)|exact KS.o _ Rf))
         ((first|(go_at_call 130;refine (KB.o _).mono ?_;rintro e wd ⟨rfl,Az⟩)|(refine mz _ (by rfl) _ _ 64 (by rfl) _ _ (by rfl) (by rfl) (DB Lx wd ((HO3.o.ext HWR.o).ext Az) (cA.trans Az).size (nU x.1 yn,yo) M8) ?_;rintro v13 w13 ⟨adq,adr,_⟩;have Rf:Ext w9 w13:=((cA.trans Az).alloc _).grown adr (fun g hv=>(((HO3.o.ext HWR.o).ext Az).lt hv).1))))
        have afg:=zH adq;clear adq adr;go_wp2_with fail;go_roundw
        case rel=>exact⟨k+1,by go_num,by omega,by rw[HTK.o];exact afg.o,Rf⟩
        case measure=>simp[intOf];omega
       case neg =>
        have hkm:(ib S x).take k=ib S x:=lw (by rw[HKL.o];omega);rw[hkm]at hO;have hT3:=HT9.o.ext yK;have hcells:∀i,(h:i<t'.length)->∀j,j<Lx.k->wr.cell? ⟨gt,ox+i*Lx.k+j,none⟩=(Lx.enc t'[i])[j]?:=by
         intro i hi j hj;rcases hT3 with h|⟨b,o,hA,_,_,hc⟩
         ·rw[h]at hi;cases hi
         ·injection hA with hA
          injection hA with h1 h2;subst h1 h2;have:=hc i hi;have xL:j<2:=hj;have hj3:j=0\/j=1:=by omega
          rcases hj3 with rfl|rfl
          ·exact this.1
          ·exact this.2
        obtain⟨Ai,ci,rfl,_,_,_,_⟩:=hO.at_;obtain⟨v14,w14,PU,Ui,Uj,_⟩:=UU Lx wr hO yK.size t' gt ox (cap-1) hcells (by have:=HKL.o;omega) (by have:=HTT.o;have:=abz.o;omega);rw[<-HTT.o]at PU;have Wu:Ext w9 w14:=yK.grown Uj (fun g hv=>(hO.lt hv).1);obtain⟨A14,c14,rfl,ads,adt⟩:=Ui.todo;have aa4:=zH PU;have afh:=zH adt;have YF:=zH Wu;have adp:=(yK.cell zz).trans z11;have zzw:dI<wr.heap.size:=by have:=yK.size;omega
        have Vz:(ib S x++t').length<=c14:=ads;have afi:=zH Vz;clear hkm hO hT3 hcells PU Ui Uj Wu adt yK z11 zz ads Vz;go_wp2_with (at_builtin;refine nj _ rfl _ _ 64 64 rfl _ _ rfl rfl _ _ aa4.o ?_);go_roundg (QC S r c (ib S x++t'))
        case measure =>
         rw[HM.o];have:=Nr HT.o HNE.o HK.o.up HR.o x;unfold QC at this|-;rw[lG,zJ,dM,dV];omega
        case rel =>
         refine⟨l0++[QB S bL x],bL++[n.no],ib S x++t',A14,c14,by rw[aZ],afi.o,?_,afh.o,afe.o.ext YF.o,HO9.o.ext YF.o,?_,HE9.o.trans YF.o,?_,rfl,l2,?_,?_⟩
         ·have:=HKL.o;have:=HTT.o;have:=abz.o;have:=qP.o
          rw[aZ,aZ,lF];omega
         ·rw[aZ,aZ,<-HNL.o,<-qP.o,Rp.o];rfl
         ·intro y hy
          rcases dn.1 hy with hy|hy
          ·exact yi HT.o HNE.o HK.o.up HR.o HPX.o y hy
          ·exact HPO.o y hy
         ·rw[uh.o];exact Rw.o
         ·rw[HRW.o,Xw.o,l6];rfl
theorem LU (h:lj 140 S):∃rows r,jW S [([47],1)] [] rows/\rows.length<=200/\pG S r/\r_ S r ([47],1):=by
 obtain⟨rows,hB⟩:=LO h.jr.fN h.jr.Na h.jr.kids.up [([47],1)] [];obtain⟨r,hr⟩:=h.jr.fN.GK;refine⟨rows,r,hB,?_,hr,?_,fun _=>?_⟩
 ·have:=QE h.jr.fN h.jr.Na h.jr.kids hB
  have:=h.U0;omega
 ·show ([47]:List UInt8).length<=_
  simp only[bk,gj];omega
 ·show ([47]:List UInt8).length<=_
  simp only[bk,gj];omega
theorem QJ {B:Nat} {f:cI} {s:aH} (h:RS w B f s) (k:lj 140 s.t) (rows:List Vt) (hB:jW s.t [([47],1)] [] rows) (hl:rows.length<=200) {r:Int->Nat} (hr:pG s.t r) (hp:r_ s.t r ([47],1)) :
  Calls prog 39 #[((),f.bF)] w (fun e w'=>∃v,e=.returned v/\en QF w' w.heap.size v rows/\Ext w w'):=by
 obtain⟨X,F⟩:=h.Wj;have KB:=zH (Vx B f s.t X 1 [47] w F k.jr.fN k.jr.Na k.jr.kids (by omega) (by have:=k.jr.last;omega) rows hB (by omega) hr hp);clear F h k hB hl hr hp;go_in;go_wp2_with fail;refine KB.o.mono ?_;rintro e w1 ⟨v,rfl,hO,hE⟩;have HO:=zH hO;clear hO;go_wp2;go_ret;exact⟨v,rfl,HO.o,hE⟩
end Go.Proofs.YtpibnfdolojpcaaGreat
