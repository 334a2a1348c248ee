import Derived.Test.YtpibnfdolojpcaaGreatBunL
import Derived.Test.YtpibnfdolojpcaaGreatBunN
import Derived.Test.YtpibnfdolojpcaaGreatBunI
import Derived.Test.YtpibnfdolojpcaaGreatBunS
import Derived.Test.YtpibnfdolojpcaaGreatBunR
import Derived.Test.YtpibnfdolojpcaaGreatBunV
import Derived.Test.YtpibnfdolojpcaaGreatBunC
import Derived.Test.YtpibnfdolojpcaaGreatBunU
import Derived.Test.YtpibnfdolojpcaaGreatBunQ
import Derived.Test.YtpibnfdolojpcaaGreatBunX
import Derived.Test.YtpibnfdolojpcaaGreatBunP
import Derived.Test.YtpibnfdolojpcaaGreatBunJ
import Derived.Test.YtpibnfdolojpcaaGreatBunO
import Derived.Test.YtpibnfdolojpcaaGreatBunE
import Derived.Test.YtpibnfdolojpcaaGreatBunK
import Derived.OpenShut
set_option maxHeartbeats 16000000
set_option maxRecDepth 100000
namespace Go.Proofs.YtpibnfdolojpcaaGreat
open Go.Proofs.Tryz
open Go.ChangeShapes Go.WideShapes Go.ChangeAt Go.RowKit
variable {s s' s1:aH} {cu cg e dir no dev now:Int} {S T S0:ag} {c k B b N c0 i:Nat} {w:World} {nm:List UInt8} {L:List (au×Int)} {x:au} {t:List Int} {g:dL} {f:cI} {n:ak} {l:List au} {ns:List ak} {P:Program} {a:Act}
section
def BB (S:ag) (cu cg:Int) (gh:Bool):Nat->Int->List (List UInt8)->Nat->Bool->Option (jU×Int)
 | 0,_,_,_,_=>none
 | _+1,at_,[],_,_=>some (⟨0,[],at_,true⟩,0)
 | n + 1,at_,p::l,h,m =>
  if fO S cu cg at_ p≠0 then some (cF,fO S cu cg at_ p)
  else if p=[46,46] then BB S cu cg gh n (aC S at_) l h m
  else if aW S.nodes (cv S at_ p)=false then (if l=[] then some (⟨at_,p,0,m⟩,0) else some (cF,5))
  else if (aa S.nodes (cv S at_ p)).kind=3/\(l≠[]\/m=true\/gh=true) then
   (if 8<h+1 then some (cF,12) else if (aa S.nodes (cv S at_ p)).data=[] then some (cF,5)
    else BB S cu cg gh n (if (aa S.nodes (cv S at_ p)).data.head?=some 47 then 1 else at_) (bX (aa S.nodes (cv S at_ p)).data++l) (h+1) (m || (l.isEmpty&&gM (aa S.nodes (cv S at_ p)).data)))
  else if (aa S.nodes (cv S at_ p)).kind≠1/\(l≠[]\/m=true) then some (cF,9)
  else if l=[] then some (⟨at_,p,cv S at_ p,m⟩,0)
  else BB S cu cg gh n (cv S at_ p) l h m
theorem vP {S:ag} {cu cg:Int} {gh:Bool} {r:jU×Int}:∀(n:Nat) (at_:Int) (l:List (List UInt8)) (h:Nat) (m:Bool),BB S cu cg gh n at_ l h m=some r->dY S cu cg gh at_ l h m=r
 | 0,_,_,_,_,k=>by cases k
 | n+1,at_,[],h,m,k=>by rw[vq];unfold BB at k;injection k
 | n + 1, at_, p::l,h,m,k=>by
  unfold BB at k;rw[dY];split at k
  ·rename_i c1;rw[af c1];injection k
  ·rename_i c1
   rw[ac c1];split at k
   ·rename_i c2;rw[af c2];exact vP n _ _ _ _ k
   ·rename_i c2
    rw[ac c2];split at k
    ·rename_i c3
     rw[af c3];split at k
     ·rename_i c4;rw[af c4];injection k
     ·rename_i c4;rw[ac c4];injection k
    ·rename_i c3
     rw[ac c3];split at k
     ·rename_i c4
      rw[af c4];split at k
      ·rename_i c5;rw[yY c5];injection k
      ·rename_i c5
       rw[dif_neg c5];split at k
       ·rename_i c6;rw[af c6];injection k
       ·rename_i c6;rw[ac c6];exact vP n _ _ _ _ k
     ·rename_i c4
      rw[ac c4];split at k
      ·rename_i c5;rw[af c5];injection k
      ·rename_i c5
       rw[ac c5];split at k
       ·rename_i c6;rw[af c6];injection k
       ·rename_i c6;rw[ac c6];exact vP n _ _ _ _ k
def adu:xM:=⟨0,[100],1,448,0,0,[],0⟩
def adv:xM:=⟨0,[108],3,0,0,0,[100,47],0⟩
def adw:xM:=⟨1,[120],2,0,0,0,[],0⟩
def xS:ag:=W9 (aal 99 99) [adu,adv,adw]
def IK (S:ag) (cu cg:Int) (p:List UInt8) (gh:Bool):Option (jU×Int):=if mH p=0 then BB S cu cg gh 40 1 (bX p) 0 (gM p) else some (cF,mH p)
theorem BC {p:List UInt8} {gh:Bool} {r:jU×Int} (h:IK S cu cg p gh=some r):fq S cu cg p gh=r:=by
 unfold IK at h;unfold fq;split
 ·rename_i h1;rw[af h1]at h;exact vP _ _ _ _ _ h
 ·rename_i h1;rw[ac h1]at h;injection h
def abA (S:ag) (m:gi):Option ag:=
 match IK S 0 0 m.path false with
 | none=>none
 | some r=>some (if r.2≠0 then S
  else if r.1.no=0 then (if gL S 0 0 0 (.dS r.1.dir r.1.name 493)=0 then dB (di S 0 0 0 (.dS r.1.dir r.1.name 493)) (mT S 0 0 0 (.dS r.1.dir r.1.name 493)) m.b m.n else di S 0 0 0 (.dS r.1.dir r.1.name 493))
  else dB S r.1.no m.b m.n)
theorem YG {m:gi} (h:abA S m=some T):jV S m=T:=by
 unfold abA at h;split at h
 ·cases h
 ·rename_i r hr
  injection h with h;have hp:qU S m=r:=BC hr;unfold jV xu;rw[hp];exact h
def IM (S:ag):List gi->Option ag
 | []=>some S
 | m::l=>if qV m=true then IM S l else match abA S m with|none=>none|some T=>IM T l
theorem VA {l:List gi} (h:IM S l=some T):fG S l=T:=by
 induction l generalizing S with
 | nil=>injection h
 | cons m l ih =>
  unfold IM at h;unfold fG;rw[nv];split at h
  ·rename_i h1;rw[af h1];exact ih h
  ·rename_i h1
   rw[ac h1];split at h
   ·cases h
   ·rename_i T1 h2;rw[YG h2];exact ih h
def abB (S:ag) (it:fk):Option (ag×Int):=
 match IK S 0 0 it.path false,(if it.kind=4 then IK S 0 0 it.data false else some (cF,1)) with
 | some r,some y =>
  let c:Option pZ:=if r.2≠0 then none else if r.1.no≠0 then none
   else if it.kind=1 then some (.dS r.1.dir r.1.name 493)
   else if it.kind=2 then some (.dH r.1.dir r.1.name 420 it.data)
   else if it.kind=3 then some (.symlink r.1.dir r.1.name it.data)
   else if it.kind=4 then (if y.2=0 then some (.link y.1.no r.1.dir r.1.name) else none)
   else none
  let T:=match c with|some x=>di S 0 0 0 x|none=>S
  let n:=match c with|some x=>mT S 0 0 0 x|none=>if r.2=0/\r.1.no≠0/\it.kind=1/\(aa S.nodes r.1.no).kind=1 then r.1.no else 0
  some (iO T n it,n)
 | _,_=>none
theorem YH {it:fk} {r:ag×Int} (h:abB S it=some r):iO (lv S it) (kv S it) it=r.1/\kv S it=r.2:=by
 unfold abB at h;split at h
 case h_2=>cases h
 rename_i r1 y h1 h2;have hp:fT S it=r1:=BC h1;have hc:j9 S it=(if r1.2≠0 then none else if r1.1.no≠0 then none
   else if it.kind=1 then some (.dS r1.1.dir r1.1.name 493)
   else if it.kind=2 then some (.dH r1.1.dir r1.1.name 420 it.data)
   else if it.kind=3 then some (.symlink r1.1.dir r1.1.name it.data)
   else if it.kind=4 then (if y.2=0 then some (.link y.1.no r1.1.dir r1.1.name) else none)
   else none):=by
  unfold j9;rw[hp]
  by_cases h4:it.kind=4
  ·rw [af h4]at h2
   have hl:Bm S it=y:=BC h2;rw[hl]
  ·rw[ac h4,ac h4]
 injection h with h;unfold lv kv;rw[hc,hp,<-h];exact⟨rfl,rfl⟩
def FC (S:ag) (ns:List Int):List fk->Option (ag×List Int)
 | []=>some (S,ns)
 | it::l=>match abB S it with|none=>none|some r=>FC r.1 (ns++[r.2]) l
theorem QK {ns:List Int} {l:List fk} {r:ag×List Int} (h:FC S ns l=some r):eS (S,ns) l=r:=by
 induction l generalizing S ns with
 | nil=>injection h
 | cons it l ih =>
  unfold FC at h;unfold eS;rw[nv];split at h
  ·cases h
  ·rename_i r1 h1
   obtain⟨k1,k2⟩:=YH h1;have:yd (S,ns) it=(r1.1,ns++[r1.2]):=by unfold yd;rw[k1,k2]
   rw[this];exact ih h
def LV (ms:List gi) (is:List fk):Option ag:=
 match IM (jo ms) ms with
 | none=>none
 | some T=>match FC T [] is with|none=>none|some r=>some (fA r.1 (r.2.zip is))
theorem QL {ms:List gi} {is:List fk} (h:LV ms is=some T):jf ms is=T:=by
 unfold LV at h;split at h
 ·cases h
 ·rename_i T1 h1
  split at h
  ·cases h
  ·rename_i r h2
   injection h with h;unfold jf DC;rw[VA h1,QK h2,h]
def VB (S:ag) (cu cg:Int):Nat->List au->Option (List au×au×Int)
 | 0,_=>none
 | _+1,[]=>some ([],mJ,0)
 | n+1,x::t=>if iW S cu cg x≠0 then some ([],x,iW S cu cg x) else
  match VB S cu cg n (ia S cu cg x++t) with|none=>none|some r=>some (x::r.1,r.2)
theorem IP {S:ag} {cu cg:Int}:∀{n:Nat} {t:List au} {r:List au×au×Int},VB S cu cg n t=some r->lE S cu cg t r.1 r.2.1 r.2.2
 | 0,_,_,h=>by cases h
 | n+1,[],r,h=>by injection h with h;subst h;exact .nil
 | n + 1,x::t,r,h=>by
  unfold VB at h;split at h
  ·rename_i h1;injection h with h;subst h;exact .bad h1
  ·rename_i h1
   split at h
   ·cases h
   ·rename_i r1 h2;injection h with h;subst h;exact .step (bR.1 h1) (IP h2)
theorem fY.abC {α:Type} {R:je α} {l:List α} (h:Has w b (.cells (R.cells l).toArray R.t)):fY R w (some ⟨b,0,none⟩) l:=.inr ⟨b,0,rfl,h.lt,fun i hi j hj=>by rw[eY,h.cell,gA];exact R.xt l i hi j hj⟩
theorem IQ (h:eB c S) (hn:bZ S) (hl:tW S) {r:Int->Nat} (hr:pG S r) {t:List jK} {bL:List Int} {l:List Vt} (hd:jW S t bL l):(∀x∈t,r_ S r x)->∀y∈l,y.path.length<=300*(S.nodes.length+2):=by
 induction hd with
 | nil=>intro _ y hy;cases hy
 | none _ _ ih=>intro hp y hy;exact ih (fun x hx=>hp x (cf _ hx)) y hy
 | @step x t bL l _ _ ih =>
  intro hp y hy;rcases aR.1 hy with rfl|hy
  ·exact (hp x (bY ..)).1
  ·refine ih (fun z hz=>?_) y hy
   rcases dn.1 hz with hz|hz
   ·exact yi h hn hl hr (hp x (bY ..)) z hz
   ·exact hp z (cf _ hz)
def Z0 (S:ag) (w:World) (e:Ending) (w':World):Prop:=∃(dir:Int) (nm:List UInt8) (is:Bool),e=.returned (.tuple #[dir,bs nm,.bool is])/\nm.length<=255/\(is=true->nm≠[]/\∃p,(fq S 0 0 p false).2=0/\(fq S 0 0 p false).1.dir=dir/\(fq S 0 0 p false).1.name=nm)/\Ext w w'
theorem VC (h:RS w B f s) (k:lj 140 s.t) (a:Int) :
  Calls prog 13 #[((),f.bF),a] w (Z0 s.t w):=by
 obtain⟨rows,r,hB,hl,hr,hp⟩:=LU k;have KR:=zH (QJ h k rows hB hl hr hp);have hpl:=IQ k.jr.fN k.jr.Na k.jr.kids.up hr hB (fun x hx=>by rw[ax]at hx;subst hx;exact hp);have nE:s.t.nodes.length<=200:=by have:=k.jr.fN.count;have:=k.jr.last;omega
 obtain⟨Xt,F⟩:=h.Wj;have KP:Hid (∀(u:World) (p:List UInt8),Ext w u->p.length<=1000000->Calls prog 40 #[((),f.bF),.agg #[(),()],bs p,.bool false] u (ku u (fq s.t 0 0 p false))):=fun u p hu hp=>x_ B f s.t Xt 0 0 p false u (F.ext hu) k.jr.fN (by omega) (by have:=k.jr.last;omega) hp
 have Uf:=zH hpl;have HL:=zH hl;clear h F hB hl hr hp hpl;go_in;go_wp2_with fail;refine KR.o.mono ?_;rintro e w1 ⟨v,rfl,hO,hE⟩;obtain⟨A,cap,rfl,_,_,hat,_⟩:=hO.at_;obtain⟨n,hn⟩:=ai rows.length;rw[<-hn];have HN:=zH hn;have Fg:=zH hat;have HE:=zH hE;clear KR hO hE hn hat
 by_cases h2:(n:Int)<2
 case pos =>
  have t2:decide ((n:Int)<2)=true:=cj h2;clear h2;go_wp2_with fail;refine aT (v:=.tuple #[.int .i64 1,.string ⟨#[110,111,110,101]⟩,.bool false]) (by simp[results,results13,go_sem]) rfl ?_;exact⟨1,[110,111,110,101],false,rfl,by decide,(fun h=>by cases h),HE.o⟩
 case neg =>
  have t2:decide ((n:Int)<2)=false:=cG h2;obtain⟨d,hd⟩:∃d,n=d+1:=⟨n-1,by omega⟩;have Y9:1<=d:=by omega
  have mP:d<=200:=by have:=HL.o;have:=HN.o;omega
  subst hd;obtain⟨q,hq⟩:∃q:Nat,((q:Nat):Int)=a % 18446744073709551616 % (d:Int):=⟨(a % 18446744073709551616 % (d:Int)).toNat,WE (RC _ (by omega))⟩;have hqd:q<d:=by have:=Int.emod_lt_of_pos (a % 18446744073709551616) (show (0:Int)<d by omega);omega
  have y1:(IntKind.u64.wrap a).tmod (d:Int)=(q:Int):=by
   rw[uQ,Int.tmod_eq_emod_of_nonneg (RC _ (by decide)),hq]
  have y2:IntKind.u64.wrap (d:Int)=(d:Int):=by rw[uQ];omega
  have y3:IntKind.i64.wrap (((d+1:Nat):Int)-1)=(d:Int):=by rw[cB _ (by omega)];omega
  have y3':IntKind.i64.wrap ((d:Int)+1-1)=(d:Int):=by rw[cB _ (by omega)];omega
  have y4:IntKind.i64.wrap (q:Int)=(q:Int):=cB _ (by omega);obtain⟨j,hj⟩:=ai (1+q);have y5:IntKind.i64.wrap (1+(q:Int))=(j:Int):=by rw[cB _ (by omega)];omega
  have y6:(0:Int)<=(j:Int):=cO _;have y7:(j:Int)<(d:Int)+1:=by omega
  have y8:((d:Int) == 0)=false:=by simp;omega
  have y9:(d:Int)≠0:=by omega
  have hjl:j<rows.length:=by have:=HN.o;omega
  obtain ⟨g,o,rfl,hg,hc⟩:∃b o,A=some ⟨b,o,none⟩/\b<w1.heap.size/\w1.cell? ⟨b,o+j*10,none⟩=some (.string (bs rows[j].path)):=by
   rcases Fg.o with h|⟨b,o,hA,hb,hc⟩
   ·rw[h]at hjl;cases hjl
   ·exact⟨b,o,hA,hb,hc j hjl 0 (by decide)⟩
  have hpj:=Uf.o rows[j] (jh hjl);obtain⟨p,hp⟩:=ai (rows[j].path);rw[<-hp]at hc hpj;obtain⟨R,hR⟩:=ai (fq s.t 0 0 p false);have KF:=KP.o w1 p HE.o (by omega);rw[<-hR]at KF;have Jn:Hid (Calls prog 40 #[((),f.bF),.agg #[(),()],bs p,.bool false] w1 (aO w1 (.tuple #[.agg #[R.1.dir,bs R.1.name,R.1.no,.bool R.1.iE],R.2]))):=KF;have FQ:=zH hR;have ie:Hid (R.1.name.length<=255):=by show _<=_;rw[hR];exact nh _ _ _ _ _
  clear h2 hq hqd hj hjl hp hpj KF hR Y9;go_wp2_with fail;refine Jn.o.mono ?_;rintro e w2 ⟨rfl,b2⟩;go_upto_region 5 with fail;obtain⟨W3,cJ⟩:=ai (w2.alloc (.cells #[R.1.dir,bs R.1.name,R.1.no,.bool R.1.iE] 82));obtain⟨b8,gH⟩:=ai w2.heap.size;have E3:Ext w1 W3:=by rw[cJ];exact b2.alloc _
  have X3:Has W3 b8 (.cells #[R.1.dir,bs R.1.name,R.1.no,.bool R.1.iE] 82):=by rw[cJ,gH];exact Has.new _ _
  rw [<-cJ,<-gH];clear cJ gH b2 hc y1 y2 y3 y3' y4 y5 y6 y7 y8 y9 hg t2 Jn;have x0:=aA X3 0 rfl;have x1:=aA X3 1 rfl;have xz:=X3.lt;obtain⟨t0,_,_,t3⟩:=jD (p:=R.1.name);obtain⟨P,hP⟩:=ai (bs R.1.name);rw[<-hP]at x1 t0 t3;have HPP:=zH hP;clear hP X3;have fin:Hid (∀(is:Bool) (u:World),Ext W3 u->(is=true->R.2=0/\R.1.name≠[])->Z0 s.t w (.returned (.tuple #[R.1.dir,.string P,.bool is])) u):=by
   show ∀_ _,_;intro is u hu hi;refine⟨R.1.dir,R.1.name,is,by rw[HPP.o],ie.o,fun Wl=>?_,HE.o.trans (E3.trans hu)⟩;obtain⟨h5,h6⟩:=hi Wl;exact⟨h6,p,by rw[<-FQ.o];exact h5,by rw[<-FQ.o],by rw[<-FQ.o]⟩
  by_cases h5:R.2=0
  case neg =>
   have t5:(R.2 == 0)=false:=by simpa using h5
   clear h5;go_quiet (fail);go_wp2;go_ret3;exact fin.o false _ ((Ext.refl _).drewN nq) (fun h=>by cases h)
  case pos =>
   have t5:(R.2 == 0)=true:=by simpa using h5
   have H5:=zH h5
   by_cases h6:R.1.name=[]
   ·have t6:(R.1.name == [])=true:=by rw[h6];rfl
    rw[t6]at t0 t3;clear h5 h6 t6;go_quiet (fail);go_wp2;go_ret3;exact fin.o false _ ((Ext.refl _).drewN nq) (fun h=>by cases h)
   ·have t6:(R.1.name == [])=false:=by simpa using h6
    have H6:=zH h6;rw[t6]at t0 t3;clear h5 h6 t6;go_quiet (fail);go_wp2;go_ret3;exact fin.o true _ ((Ext.refl _).drewN nq) (fun _=>⟨H5.o,H6.o⟩)
theorem oT.ext {w w':World} {x:r7} {cs:Array Value} (h:oT w x cs) (E:Ext w w'):oT w' x cs:=by
 obtain⟨Am,cm,Ai,ci,Ap,cp,h0,h1,h2,h3,h4⟩:=h;exact⟨Am,cm,Ai,ci,Ap,cp,h0,h1.ext E,h2.ext E,h3.ext E,h4⟩
theorem oT.cells {x:r7} {cs:Array Value} (h:oT w x cs):∃Am cm Ai ci Ap cp,cs=#[.slice Am x.ms.length cm,.slice Ai x.is.length ci,.int .i64 x.uid,.int .i64 x.gid,.int .i64 x.at_,.int .i64 x.iN,.string (bs x.name),.slice Ap x.plan.length cp,.bool x.keep]:=by
 obtain⟨Am,cm,Ai,ci,Ap,cp,h0,_⟩:=h;exact⟨Am,cm,Ai,ci,Ap,cp,h0⟩
theorem FE {x:r7} (h:Vq x):lj 140 (jf x.ms x.is)/\d_ 140 ⟨jf x.ms x.is,0,0,x.plan,false⟩:=by
 have k:=DD h.1.1.1 h.1.1.2;refine⟨k,k.jr.fN,k.jr.Na,k.jr.last,gE _,by show (0:Int)<=_;omega,?_⟩;have:=h.2.2;show x.plan.length<=1000;omega
def IR (s:aH) (x:au):pZ:=if (aa s.t.nodes x.no).kind=1 then .j8 x.dir x.name else .unlink x.dir x.name
def kS (s:aH) (cu cg:Int) (x:au):Int:=if gY s (dQ s.t x.no)≠0 then gY s (dQ s.t x.no) else yw s cu cg (IR s x)
def jX (s:aH) (cu cg:Int) (x:au):aH:=if gY s (dQ s.t x.no)≠0 then s else ul s cu cg (IR s x)
inductive sa (cu cg:Int):aH->List au->aH->Int->List (au×Int)->Nat->Prop
 | nil (s:_):sa cu cg s [] s 0 [] 0
 | bad {s:_} {x:_} {t:_}:ln s cu cg x≠0->sa cu cg s (x::t) s (ln s cu cg x) [(x,ln s cu cg x)] 1
 | kids {s:_} {x:_} {t:_} {s1:_} {e:_} {L:_} {k:_}:ln s cu cg x=0->sa cu cg s (oY s cu cg x) s1 e L k->e≠0->sa cu cg s (x::t) s1 e L (k+1)
 | one {s:_} {x:_} {t:_} {s1:_} {L:_} {k:_}:ln s cu cg x=0->sa cu cg s (oY s cu cg x) s1 0 L k->kS s1 cu cg x≠0->sa cu cg s (x::t) (jX s1 cu cg x) (kS s1 cu cg x) (L++[(x,0)]) (k+2)
 | step {s x t s1 L k s2 e L2 k2}:ln s cu cg x=0->sa cu cg s (oY s cu cg x) s1 0 L k->kS s1 cu cg x=0->sa cu cg (jX s1 cu cg x) t s2 e L2 k2->sa cu cg s (x::t) s2 e (L++(x,0)::L2) (k+2+k2)
def oD (cu cg:Int) (s:aH) (pre:List (au×Int)):aH:=pre.foldl (fun s x=>jX s cu cg x.1) s
def FV (cu cg:Int):aH->List (au×Int)->Prop
 | _,[]=>True
 | s,x::l=>kS s cu cg x.1=0/\FV cu cg (jX s cu cg x.1) l
theorem lQ (cu cg:Int) (s:aH) (a b:List (au×Int)):oD cu cg s (a++b)=oD cu cg (oD cu cg s a) b:=by unfold oD;rw[List.foldl_append]
theorem jx (cu cg:Int) (s:aH) (a b:List (au×Int)):FV cu cg s (a++b)↔FV cu cg s a/\FV cu cg (oD cu cg s a) b:=by
 induction a generalizing s with
 | nil=>exact⟨fun h=>⟨trivial,h⟩,fun h=>h.2⟩
 | cons x a ih =>
  show _/\FV cu cg (jX s cu cg x.1) (a++b)↔(_/\_)/\_;rw[ih];exact and_assoc.symm
def yB (cu cg:Int) (s:aH) (L:List (au×Int)) (s':aH) (e:Int):Prop:=
 (e=0/\FV cu cg s L/\oD cu cg s L=s'/\∀y∈L,y.2=0) \/
 (e≠0/\∃q y,L=q++[y]/\FV cu cg s q/\(∀z∈q,z.2=0)/\((y.2=e/\s'=oD cu cg s q)\/(y.2=0/\kS (oD cu cg s q) cu cg y.1=e/\s'=jX (oD cu cg s q) cu cg y.1)))
theorem yB.pre {P:List (au×Int)} (hg:FV cu cg s P) (hz:∀y∈P,y.2=0) (h:yB cu cg (oD cu cg s P) L s' e):yB cu cg s (P++L) s' e:=by
 rcases h with⟨h0,h1,h2,h3⟩|⟨h0,q,y,h1,h2,h3,h4⟩
 ·refine .inl ⟨h0,(jx ..).2 ⟨hg,h1⟩,by rw[lQ];exact h2,fun y hy=>?_⟩
  rcases dn.1 hy with hy|hy
  ·exact hz y hy
  ·exact h3 y hy
 ·refine .inr ⟨h0,P++q,y,by rw[h1,l6],(jx ..).2 ⟨hg,h2⟩,fun z hz2=>?_,by rw[lQ];exact h4⟩
  rcases dn.1 hz2 with hz2|hz2
  ·exact hz z hz2
  ·exact h3 z hz2
theorem yB.zero (h:yB cu cg s L s' 0):FV cu cg s L/\oD cu cg s L=s'/\∀y∈L,y.2=0:=by
 rcases h with⟨_,h⟩|⟨h,_⟩
 ·exact h
 ·exact absurd rfl h
theorem mU {t:List au} (h:sa cu cg s t s' e L k):yB cu cg s L s' e:=by
 induction h with
 | nil s=>exact .inl ⟨rfl,trivial,rfl,fun y hy=>by cases hy⟩
 | bad h=>exact .inr ⟨h,[],_,rfl,trivial,fun z hz=>(by cases hz),.inl ⟨rfl,rfl⟩⟩
 | kids h1 _ h3 ih=>exact ih
 | @one s x t s1 L k h1 _ h3 ih =>
  obtain⟨g1,g2,g3⟩:=ih.zero;exact yB.pre g1 g3 (.inr ⟨h3,[],(x,0),rfl,trivial,fun z hz=>(by cases hz),.inr ⟨rfl,by rw[g2];rfl,by rw[g2];rfl⟩⟩)
 | @step s x t s1 L k s2 e L2 k2 h1 _ h3 _ ih VD =>
  obtain⟨g1,g2,g3⟩:=ih.zero;have hx:yB cu cg s1 ([(x,0)]++L2) s2 e:=yB.pre ⟨h3,trivial⟩ (fun y hy=>by rw[ax]at hy;subst hy;rfl) VD;exact yB.pre g1 g3 (by rw[g2];exact hx)
theorem LW {t:List au} (h:sa cu cg s t s' e L k) :
  ∀ (s0:aH) (pre:List (au×Int)) (x:au) (way:List (au×List au)) (m:Nat) (Lr:List (au×Int)),oD cu cg s0 pre=s ->
   (e=0->Lt (oD cu cg s0) (FV cu cg s0) cu cg (pre++L) ((x,[])::way) m Lr) ->
   ∃ M,Lt (oD cu cg s0) (FV cu cg s0) cu cg pre ((x,t)::way) M (L++if e=0 then Lr else [])/\M<=k+(if e=0 then m else 0):=by
 induction h with
 | nil s =>
  intro s0 pre x way m Lr hs hr;rw[af rfl,af rfl];refine⟨m,?_,by omega⟩;have:=hr rfl;rw[iR]at this;exact this
 | @bad s y t h =>
  intro s0 pre x way m Lr hs hr;rw[ac h,ac h,iR,<-hs];exact⟨0+1,.bad (by rw[hs];exact h),by omega⟩
 | @kids s y t s1 e L k h1 hk h3 ih =>
  intro s0 pre x way m Lr hs hr;obtain⟨M,g1,g2⟩:=ih s0 pre y ((x,t)::way) 0 [] hs (fun he=>absurd he h3);rw[ac h3]at g1 g2|-;rw[ac h3];rw[<-hs]at g1;exact⟨M+1,.push (by rw[hs];exact h1) g1,by omega⟩
 | @one s y t s1 L k h1 hk h3 ih =>
  intro s0 pre x way m Lr hs hr;have hst:oD cu cg s0 (pre++L)=s1:=by rw[lQ,hs];exact (mU hk).zero.2.1
  obtain ⟨M,g1,g2⟩:=ih s0 pre y ((x,t)::way) (0+1) [(y,0)] hs (fun _=>.take fun hgo=>by
   have:=((jx ..).1 hgo).2.1;rw[hst]at this;exact absurd this h3)
  rw[af rfl]at g1 g2;rw[ac h3,ac h3,iR];rw[<-hs]at g1;exact⟨M+1,.push (by rw[hs];exact h1) g1,by omega⟩
 | @step s y t s1 L k s2 e L2 k2 h1 hk h3 h4 ih VD =>
  intro s0 pre x way m Lr hs hr;have hst:oD cu cg s0 (pre++L)=s1:=by rw[lQ,hs];exact (mU hk).zero.2.1
  have Ch:oD cu cg s0 (pre++L++[(y,0)])=jX s1 cu cg y:=by rw[lQ,hst];rfl
  obtain ⟨M2,g3,g4⟩:=VD s0 (pre++L++[(y,0)]) x way m Lr Ch (fun he=>by
   have:=hr he;rw[show pre++L++[(y,0)]++L2=pre++(L++(y,0)::L2) by simp];exact this)
  obtain⟨M,g1,g2⟩:=ih s0 pre y ((x,t)::way) (M2+1) ((y,0)::(L2++if e=0 then Lr else [])) hs (fun _=>.take fun _=>g3);rw[af rfl]at g1 g2;rw[<-hs]at g1;refine⟨M+1,?_,by omega⟩;rw[show L++(y,0)::L2++(if e=0 then Lr else [])=L++(y,0)::(L2++if e=0 then Lr else []) by simp];exact .push (by rw[hs];exact h1) g1
def xB (s:aH) (cu cg dir:Int) (nm:List UInt8) (s':aH) (e:Int) (L:List (au×Int)) (k:Nat):Prop:=
 (dw s cu cg dir nm≠0/\s'=s/\e=dw s cu cg dir nm/\L=[(du s cu cg dir nm,e)])\/(dw s cu cg dir nm=0/\sa cu cg s [du s cu cg dir nm] s' e L k)
theorem xB.LX (h:xB s cu cg dir nm s' e L k):yB cu cg s L s' e:=by
 rcases h with⟨h1,rfl,rfl,rfl⟩|⟨_,h⟩
 ·exact .inr ⟨h1,[],_,rfl,trivial,fun z hz=>(by cases hz),.inl ⟨rfl,rfl⟩⟩
 ·exact mU h
theorem xB.up (h:xB s cu cg dir nm s' e L k):∃M,UpT (oD cu cg s) (FV cu cg s) cu cg dir nm M L/\M<=k:=by
 rcases h with⟨h1,rfl,rfl,rfl⟩|⟨h1,h⟩
 ·exact⟨0,.inl ⟨h1,rfl⟩,bC _⟩
 ·have e0:oD cu cg s []=s:=rfl
  cases h with
  | bad h2=>exact⟨0,.inr (.inl ⟨h1,h2,rfl⟩),bC _⟩
  | kids h2 hk h3 =>
   obtain⟨M,g1,g2⟩:=LW hk s [] (du s cu cg dir nm) [] 0 [] rfl (fun he=>absurd he h3);rw[ac h3,iR]at g1;rw[ac h3]at g2;exact⟨M,.inr (.inr ⟨h1,h2,g1⟩),by omega⟩
  | one h2 hk h3 =>
   have hst:=(mU hk).zero.2.1;obtain⟨M,g1,g2⟩:=LW hk s [] (du s cu cg dir nm) [] (0+1) [(du s cu cg dir nm,0)] rfl (fun _=>.take fun hgo=>by
    have:=((jx ..).1 hgo).2.1;rw[jG,hst]at this;exact absurd this h3)
   rw[af rfl]at g1 g2;exact⟨M,.inr (.inr ⟨h1,h2,g1⟩),by omega⟩
  | step h2 hk h3 h4 =>
   cases h4
   obtain⟨M,g1,g2⟩:=LW hk s [] (du s cu cg dir nm) [] (0+1) [(du s cu cg dir nm,0)] rfl (fun _=>.take fun hgo=>.nil _);rw[af rfl]at g1 g2;exact⟨M,.inr (.inr ⟨h1,h2,g1⟩),by omega⟩
structure Left (S0 S:ag):Prop where
 mem:∀m∈S.nodes,∃m'∈S0.nodes,m'.no=m.no/\m.kind=m'.kind/\m.up=m'.up/\m.dev=m'.dev/\m.mode=m'.mode/\m.uid=m'.uid/\m.gid=m'.gid/\m.data=m'.data/\∀x∈m.ah,x∈m'.ah
 over:∀no,aw S.ae no=aw S0.ae no
theorem Left.refl (S:ag):Left S S:=⟨fun m hm=>⟨m,hm,rfl,rfl,rfl,rfl,rfl,rfl,rfl,rfl,fun _ h=>h⟩,fun _=>rfl⟩
theorem Left.trans {A B C:ag} (h:Left A B) (k:Left B C):Left A C:=by
 refine⟨fun m hm=>?_,fun no=>(k.over no).trans (h.over no)⟩;obtain⟨b,hb,b1,b2,b3,b4,b5,b6,b7,b8,b9⟩:=k.mem m hm;obtain⟨a,ha,a1,a2,a3,a4,a5,a6,a7,a8,a9⟩:=h.mem b hb;exact⟨a,ha,a1.trans b1,b2.trans a2,b3.trans a3,b4.trans a4,b5.trans a5,b6.trans a6,b7.trans a7,b8.trans a8,fun x hx=>a9 x (b9 x hx)⟩
theorem adx (ds:List fP) (d:Int) (q:dW) (no:Int):aw (jb ds d q) no=aw ds no:=by
 unfold aw jb;have key:∀(l:List fP) (k:Nat),(match (l.modify k fun x=>{x with q:=q}).find? (fun d=>d.over == no) with|some d=>d.root|none=>no)=(match l.find? (fun d=>d.over == no) with|some d=>d.root|none=>no):=by
  intro l
  induction l with
  | nil=>intro k;cases k<;>rfl
  | cons a l ih =>
   intro k
   cases k with
   | zero =>
    rw[List.modify_zero_cons,gD,gD]
    cases a.over == no<;>rfl
   | succ k =>
    rw[List.modify_succ_cons,gD,gD]
    cases a.over == no
    ·exact ih k
    ·rfl
 split
 ·exact key _ _
 ·rfl
theorem QM (hi:aW S.nodes dir=true) (lm:aW S.nodes no=true):Left S (gU S now (aa S.nodes dir) (aa S.nodes no) nm):=by
 obtain ⟨_,lr,jJ⟩:=ap hi;obtain⟨_,bB,hmem⟩:=ap lm;obtain⟨M,hM⟩:∃M:ak,M=jd S (aa S.nodes dir).no now (eU (aa S.nodes dir).ah nm):=⟨_,rfl⟩;have key:∀m∈(aV (aV S M) (gT now (aa S.nodes no))).nodes,∃m'∈S.nodes,m'.no=m.no/\m.kind=m'.kind/\m.up=m'.up/\m.dev=m'.dev/\m.mode=m'.mode/\m.uid=m'.uid/\m.gid=m'.gid/\m.data=m'.data/\∀x∈m.ah,x∈m'.ah:=fun m hm=>by
  rcases bq hm with⟨hm,_⟩|rfl
  ·rcases bq hm with⟨hm,_⟩|rfl
   ·exact⟨m,hm,rfl,rfl,rfl,rfl,rfl,rfl,rfl,rfl,fun _ h=>h⟩
   ·refine ⟨_,jJ,?_⟩
    rw[hM,lr];exact⟨lr.symm,rfl,rfl,rfl,rfl,rfl,rfl,rfl,fun x hx=>(lN hx).1⟩
  ·exact⟨_,hmem,rfl,rfl,rfl,rfl,rfl,rfl,rfl,rfl,fun _ h=>h⟩
 have k2:Left S (aV (aV S M) (gT now (aa S.nodes no))):=⟨key,fun _=>rfl⟩;unfold gU dC;rw[<-hM];unfold jm;split
 ·unfold gS
  split
  ·exact⟨fun m hm=>key m (eR hm).1,fun no'=>adx _ _ _ _⟩
  ·exact k2
 ·exact k2
theorem vQ (h:bJ S cu cg dir nm=0):aW S.nodes dir=true/\aW S.nodes (aY (aa S.nodes dir).ah nm)=true/\cL S cu cg dir nm=aa S.nodes dir/\bQ S cu cg dir nm=aa S.nodes (aY (aa S.nodes dir).ah nm):=by
 obtain⟨z1,z2,_,z4,z5⟩:=eu h;exact⟨(a_ z1).1,z2,z4,z5⟩
theorem Cs (h:ey S cu cg dir nm=0):bJ S cu cg dir nm=0:=by
 unfold ey at h;split at h
 ·rename_i h1;exact absurd h h1
 ·rename_i h1;exact bR.1 h1
theorem FF (h:fc S cu cg dir nm=0):bJ S cu cg dir nm=0:=by
 unfold fc at h;split at h
 ·rename_i h1;exact absurd h h1
 ·rename_i h1;exact bR.1 h1
theorem Ns (h:gL s.t cu cg s.now (IR s x)=0):bJ s.t cu cg x.dir x.name=0/\di s.t cu cg s.now (IR s x)=gU s.t s.now (aa s.t.nodes x.dir) (aa s.t.nodes (aY (aa s.t.nodes x.dir).ah x.name)) x.name:=by
 unfold IR at h|-;split at h
 ·rename_i hk
  rw[af hk];have h':fc s.t cu cg x.dir x.name=0:=h;have hl:=FF h';obtain⟨_,_,z4,z5⟩:=vQ hl;refine⟨hl,?_⟩;show gJ s.t cu cg s.now x.dir x.name=_;unfold gJ;rw[af h',z4,z5]
 ·rename_i hk
  rw[ac hk];have h':ey s.t cu cg x.dir x.name=0:=h;have hl:=Cs h';obtain⟨_,_,z4,z5⟩:=vQ hl;refine⟨hl,?_⟩;show eQ s.t cu cg s.now x.dir x.name=_;unfold eQ;rw[af h',z4,z5]
theorem YI (h:gL s.t cu cg s.now (IR s x)≠0):di s.t cu cg s.now (IR s x)=s.t:=by
 unfold IR at h|-;split at h
 ·rename_i hk
  rw[af hk];exact ac h
 ·rename_i hk
  rw[ac hk];exact ac h
theorem YJ (s:aH) (cu cg:Int) (x:au):Left s.t (di s.t cu cg s.now (IR s x)):=by
 by_cases h:gL s.t cu cg s.now (IR s x)=0
 ·obtain ⟨h1,h2⟩:=Ns h
  obtain⟨z1,z2,_⟩:=vQ h1;rw[h2];exact QM z1 z2
 ·rw [YI h]
  exact .refl _
theorem IU (s:aH):(yP s).t=s.t/\(yP s).plan=s.plan/\(yP s).now=s.now:=by unfold yP;split<;>exact⟨rfl,rfl,rfl⟩
theorem BD (s:aH) (cu cg:Int) (x:au):Left s.t (jX s cu cg x).t:=by
 unfold jX;split
 ·exact .refl _
 ·unfold ul
  split
  ·rw[(IU s).1];exact .refl _
  ·exact YJ s cu cg x
structure Pl (c:Nat) (s:aH):Prop where
 jr:ik c s.t
 c0:0<=s.count
 c1:s.count<=c
 plan:s.plan.length<=1000
theorem Pl.fU (h:Pl c s):d_ c s:=⟨h.jr.fN,h.jr.Na,h.jr.last,h.c0,h.c1,h.plan⟩
theorem Pl.mono {c d:Nat} {s:aH} (h:Pl c s) (M0:c<=d):Pl d s:=⟨h.jr.mono M0,h.c0,by have:=h.c1;omega,h.plan⟩
theorem Pl.go (h:Pl c s):Pl (c+1) (yP s):=by
 have:=h.c0;have:=h.c1;refine⟨by rw[(IU s).1];exact h.jr.mono (by omega),?_,?_,by rw[(IU s).2.1];exact h.plan⟩<;>unfold yP<;>split
 ·omega
 ·show 0<=s.count+1;omega
 ·omega
 ·show s.count+1<=((c+1:Nat):Int);omega
theorem Pl.qT {c:Nat} {s:aH} (h:Pl c s) (cu cg:Int) (x:pZ) (hx:∀fr a iN b,x≠.rename fr a iN b):Pl (c+1) (ul s cu cg x):=by
 unfold ul;split
 ·exact h.go
 ·have:=h.go
  exact⟨h.jr.qT _ _ _ _ hx,this.c0,this.c1,this.plan⟩
theorem VE (s:aH) (x:au):∀fr a iN b,IR s x≠.rename fr a iN b:=by
 intro fr a iN b;unfold IR;split<;>exact fun e=>by cases e
theorem Pl.one (h:Pl c s) (cu cg:Int) (x:au):Pl (c+1) (jX s cu cg x):=by
 unfold jX;split
 ·exact h.mono (by omega)
 ·exact h.qT cu cg _ (VE s x)
theorem IV (hp:ns.Pairwise (fun a b=>a.no<b.no)) (hi:aW ns n.no=true) (hle:n.ah.length<(aa ns n.no).ah.length):pS (cP ns n)<pS ns:=by
 induction ns with
 | nil=>cases hi
 | cons a ns ih =>
  rw[oc]at hp
  by_cases he:a.no=n.no
  ·have h1:cP ns n=ns:=xv fun m hm=>by have:=hp.1 m hm;omega
   have h2:aa (a::ns) n.no=a:=by unfold aa gF;rw[gD];simp[he]
   have h3:cP (a::ns) n=n::cP ns n:=by unfold cP;rw[dM,af (by simpa using he)]
   rw[h3,h1];rw[h2]at hle;unfold pS;rw[dM,dV,dM,dV];omega
  ·have h2:aa (a::ns) n.no=aa ns n.no:=by
    unfold aa gF;rw[gD];have:(a.no == n.no)=false:=by simpa using he
    rw[this]
   have h3:cP (a::ns) n=a::cP ns n:=by unfold cP;rw[dM,ac (by simpa using he)]
   have tm:aW ns n.no=true:=by
    cases hb:aW ns n.no with
    | true=>rfl
    | false =>
     rw[h2,(aP hb).1]at hle;exact absurd hle (Nat.not_lt_zero _)
   rw[h2]at hle;have:=ih hp.2 tm hle;rw[h3];unfold pS at this|-;rw[dM,dV,dM,dV];omega
theorem VF (ns:List ak) (no:Int):pS (dO ns no)<=pS ns:=by
 unfold dO
 induction ns with
 | nil=>exact aE _
 | cons a ns ih =>
  rw[jH];split
  ·unfold pS at ih|-
   rw[dM,dV,dM,dV];omega
  ·unfold pS at ih|-
   rw[dM,dV];omega
theorem VG {l:List aK} {x:aK} (hx:x∈l) (he:x.1=nm):(eU l nm).length<l.length:=Ev (by unfold has;rw[zg];exact⟨x,hx,by simpa using he⟩)
theorem VH (h:eB c S) (hl:bJ S cu cg dir nm=0):bj (gU S now (aa S.nodes dir) (aa S.nodes (aY (aa S.nodes dir).ah nm)) nm)<bj S:=by
 obtain⟨hi,lm,_⟩:=vQ hl;obtain⟨_,lr,jJ⟩:=ap hi;obtain⟨no,hn⟩:=ai (aY (aa S.nodes dir).ah nm);rw[<-hn]at lm|-;obtain⟨_,bB,hmem⟩:=ap lm;have hpos:=(h.bL.2 _ hmem).1;rw[bB]at hpos;obtain⟨x,hx,ue,xK⟩:=vk (l:=(aa S.nodes dir).ah) (nm:=nm) (by rw[<-hn];omega);have hK:=h.FO _ jJ x hx;rw[xK,<-hn,lr]at hK;have hnd:no≠dir:=hK.1;obtain⟨M,hM⟩:∃M:ak,M=jd S (aa S.nodes dir).no now (eU (aa S.nodes dir).ah nm):=⟨_,rfl⟩;have mf:M.no=dir:=by rw[hM,lr];exact lr
 have Jl:M.ah=eU (aa S.nodes dir).ah nm:=by rw[hM];rfl
 have a1:bj (aV S M)<bj S:=by
  refine IV h.bL.1 (by rw[mf];exact hi) ?_;rw[mf,Jl];exact VG hx ue
 have a2:bj (aV (aV S M) (gT now (aa S.nodes no)))<=bj (aV S M):=by
  have e1:(gT now (aa S.nodes no)).no=no:=bB;have e2:aa (aV S M).nodes no=aa S.nodes no:=sC (by rw[mf];exact hnd);have:=vH (S:=aV S M) (n:=gT now (aa S.nodes no)) (d:=0) (h.bL.set _) (by rw[e1,e2];exact aE _);omega
 unfold gU dC;rw[<-hM];unfold jm;split
 ·unfold gS
  split
  ·exact JA (nk (VF _ _) a2) a1
  ·omega
 ·omega
theorem VI (h:kS s cu cg x=0):s.dead=false/\aW s.t.nodes x.no=true/\vU s=0/\gL s.t cu cg s.now (IR s x)=0/\jX s cu cg x={s with count:=s.count+1,t:=gU s.t s.now (aa s.t.nodes x.dir) (aa s.t.nodes (aY (aa s.t.nodes x.dir).ah x.name)) x.name}/\bJ s.t cu cg x.dir x.name=0:=by
 unfold kS at h;split at h
 ·rename_i h1;exact absurd h h1
 rename_i h1;have h1':=bR.1 h1;have hst:s.dead=false/\aW s.t.nodes x.no=true:=by
  rcases fy s x.no with⟨_,h2⟩|⟨h2,_⟩
  ·exact h2
  ·exact absurd h1' h2
 unfold yw at h;split at h
 ·rename_i h2;exact absurd h h2
 rename_i h2;have mS:=bR.1 h2;obtain⟨g1,g2⟩:=Ns h;refine⟨hst.1,hst.2,mS,h,?_,g1⟩;unfold jX ul;rw[ac h1,ac h2,g2,(nc mS).2]
theorem sb (h:Pl c s) (cu cg:Int) (L:List (au×Int)) (hg:FV cu cg s L):Pl (c+L.length) (oD cu cg s L)/\L.length+bj (oD cu cg s L).t<=bj s.t:=by
 induction L generalizing s c with
 | nil=>exact⟨h,by show 0+bj s.t<=bj s.t;omega⟩
 | cons x L ih =>
  obtain ⟨h1,h2⟩:=hg;obtain⟨k1,k2⟩:=ih (h.one cu cg x.1) h2;have e:bj (jX s cu cg x.1).t<bj s.t:=by
   obtain⟨_,_,_,_,e1,e2⟩:=VI h1;rw[e1];exact VH h.jr.fN e2
  refine⟨k1.mono (by rw[bk];omega),?_⟩;rw[bk];have Kk:L.length+bj (oD cu cg s (x::L)).t<=bj (jX s cu cg x.1).t:=k2;omega
theorem pT (h:Pl c s) (hE:yB cu cg s L s' e):Pl (c+L.length) s'/\L.length<=1+bj s.t:=by
 rcases hE with⟨_,h1,rfl,_⟩|⟨_,q,y,rfl,h1,_,h2⟩
 ·obtain ⟨k1,k2⟩:=sb h cu cg L h1
  exact⟨k1,by omega⟩
 ·obtain ⟨k1,k2⟩:=sb h cu cg q h1
  rw[aZ,lF];refine⟨?_,by omega⟩;rcases h2 with⟨_,rfl⟩|⟨_,_,rfl⟩
  ·exact k1.mono (by omega)
  ·exact (k1.one cu cg y.1).mono (by omega)
theorem IW (h0:eB c0 S0) (k0:Kids S0) (h:eB c S) {r:Int->Nat} (hr:pG S0 r) (hl:Left S0 S) {y:au} (hy:y∈ia S cu cg x) (hk:(aa S0.nodes y.no).kind=1):(aa S.nodes x.no).kind=1/\r x.no<r y.no:=by
 unfold ia at hy;split at hy
 case isFalse=>cases hy
 rename_i hx;obtain⟨_,hkx⟩:=hx;obtain⟨i1,i2,i3⟩:=bP hkx;rw[fH]at hy;obtain⟨z',hz',rfl⟩:=hy;unfold b_ at hz';rw[fH]at hz';obtain⟨z,hz,rfl⟩:=hz';obtain⟨m',hm',e1,_,_,_,_,_,_,_,he⟩:=hl.mem _ i3;have zM:aw S.ae z.2=aw S0.ae z.2:=hl.over _;have hk':(aa S0.nodes (aw S.ae z.2)).kind=1:=hk;rw[zM]at hk';obtain⟨a1,a2⟩:=nQ h0 k0.up hm' (he z hz) hk';rw[i2]at e1;rw[e1]at a1 a2;refine⟨hkx,?_⟩;show r x.no<r (aw S.ae z.2);rw[zM];have ue:=(h.bL.2 _ i3).1;rw[i2]at ue;have hn0:aw S0.ae z.2≠0:=by
  intro e;rw[e]at hk';have:=(bP hk').1;rw[h0.bL.zero (.inl (by decide))]at this;cases this
 have:=hr.step (aw S0.ae z.2) hn0 (by rw[a1];omega) (by rw[a1];exact dA a2);rw[a1]at this;exact this
theorem DI (h0:eB c0 S0) (_:eB c S) (hl:Left S0 S) (hk:(aa S.nodes no).kind=1):(aa S0.nodes no).kind=1:=by
 obtain⟨i1,i2,i3⟩:=bP hk;obtain⟨m',hm',e1,e2,_⟩:=hl.mem _ i3;have:=(ep h0.bL hm').1;rw[e1,i2]at this;rw[this,<-e2];exact hk
theorem ady {t:List au} (h:sa cu cg s t s' e L k):e=0->k=2*L.length:=by
 induction h with
 | nil=>intro _;rfl
 | bad h=>intro he;exact absurd he h
 | kids _ _ h3=>intro he;exact absurd he h3
 | one _ _ h3=>intro he;exact absurd he h3
 | step _ _ _ _ ih VD =>
  intro he;have:=ih rfl;have:=VD he;simp only[aZ,bk];omega
theorem VJ (h0:eB c0 S0) (k0:Kids S0) {r:Int->Nat} (hr:pG S0 r) (cu cg:Int):∀(n:Nat) (t:List au) (c:Nat) (s:aH),Pl c s->Left S0 s.t->(∀y∈t,(aa S0.nodes y.no).kind=1->S0.nodes.length+1<=r y.no+n) ->
  ∃ s' e L k,sa cu cg s t s' e L k/\k<=2*L.length+n:=by
 intro n
 induction n with
 | zero =>
  intro t
  induction t with
  | nil=>intro c s _ _ _;exact⟨_,_,_,_,.nil s,by omega⟩
  | cons x t ih =>
   intro c s h hl ht;have hk:(aa s.t.nodes x.no).kind≠1:=fun hk=>by
    have:=ht x (bY ..) (DI h0 h.jr.fN hl hk);have:=hr.top x.no;omega
   have hL:oY s cu cg x=[]:=by
    unfold oY tV;split
    ·rfl
    ·exact Bg hk
   by_cases hi:ln s cu cg x=0
   ·by_cases ho:kS s cu cg x=0
    ·obtain ⟨s',e,L,k,g1,g2⟩:=ih _ _ (h.one cu cg x) (hl.trans (BD s cu cg x)) (fun y hy=>ht y (cf _ hy))
     exact⟨_,_,_,_,.step (L:=[]) (k:=0) hi (by rw[hL];exact .nil s) ho g1,by simp only[jG,bk];omega⟩
    ·exact⟨_,_,_,_,.one (L:=[]) (k:=0) hi (by rw[hL];exact .nil s) ho,by simp⟩
   ·exact⟨_,_,_,_,.bad hi,by simp⟩
 | succ n ihn =>
  intro t
  induction t with
  | nil=>intro c s _ _ _;exact⟨_,_,_,_,.nil s,by omega⟩
  | cons x t ih =>
   intro c s h hl ht
   by_cases hi:ln s cu cg x=0
   ·obtain ⟨s1,e1,L1,k1,g1,g2⟩:=ihn (oY s cu cg x) c s h hl (fun y hy hk=>by
     have hy':y∈ia s.t cu cg x:=by
      unfold oY tV at hy;split at hy
      ·cases hy
      ·exact hy
     obtain⟨q1,q2⟩:=IW h0 k0 h.jr.fN hr hl hy' hk;have:=ht x (bY ..) (DI h0 h.jr.fN hl q1);omega)
    by_cases he:e1=0
    ·subst he
     obtain⟨q1,q2,q3⟩:=(mU g1).zero;have Ct:Pl (c+L1.length) s1:=by rw[<-q2];exact (sb h cu cg L1 q1).1
     have jZ:Left S0 s1.t:=by
      rw [<-q2];clear g1 g2 q2 q3 Ct;have key:∀(L:List (au×Int)) (s:aH),Left S0 s.t->Left S0 (oD cu cg s L).t:=by
       intro L
       induction L with
       | nil=>intro s hs;exact hs
       | cons y L ih=>intro s hs;exact ih _ (hs.trans (BD s cu cg y.1))
      exact key L1 s hl
     by_cases ho:kS s1 cu cg x=0
     ·obtain ⟨s',e,L,k,f1,f2⟩:=ih _ _ (Ct.one cu cg x) (jZ.trans (BD s1 cu cg x)) (fun y hy=>ht y (cf _ hy))
      have mq:=ady g1 rfl;exact⟨_,_,_,_,.step hi g1 ho f1,by simp only[aZ,bk];omega⟩
     ·exact⟨_,_,_,_,.one hi g1 ho,by simp only[aZ,lF];omega⟩
    ·exact⟨_,_,_,_,.kids hi g1 he,by omega⟩
   ·exact⟨_,_,_,_,.bad hi,by simp only[lF];omega⟩
theorem Nt (h:Pl c s) (cu cg dir:Int) (nm:List UInt8):∃s' e L k,xB s cu cg dir nm s' e L k/\k<=2*L.length+s.t.nodes.length+1:=by
 by_cases h1:dw s cu cg dir nm=0
 ·obtain ⟨r,hr⟩:=h.jr.fN.GK
  obtain⟨s',e,L,k,g1,g2⟩:=VJ h.jr.fN h.jr.kids hr cu cg (s.t.nodes.length+1) [du s cu cg dir nm] c s h (.refl _) (fun y _ _=>by omega);exact⟨s',e,L,k,.inr ⟨h1,g1⟩,by omega⟩
 ·exact⟨s,_,_,0,.inl ⟨h1,rfl,rfl,rfl⟩,bC _⟩
def lk (no:Int) (n:ak):Nat:=(n.ah.filter fun z=>z.2 == no).length
def kw (S:ag) (no:Int):Nat:=(S.nodes.map (lk no)).sum
structure Whole (S:ag):Prop where
 there:∀m∈S.nodes,∀z∈m.ah,aW S.nodes z.2=true
 ar:∀m∈S.nodes,(kw S m.no:Int)<=m.ar
 fJ:∀m∈S.nodes,∀z∈m.ah,cU z.1=0
theorem YK (f:ak->Nat) (hp:ns.Pairwise (fun a b=>a.no<b.no)) (hi:aW ns n.no=true):((cP ns n).map f).sum+f (aa ns n.no)=(ns.map f).sum+f n:=by
 induction ns with
 | nil=>cases hi
 | cons a ns ih =>
  rw[oc]at hp
  by_cases he:a.no=n.no
  ·have h1:cP ns n=ns:=xv fun m hm=>by have:=hp.1 m hm;omega
   have h2:aa (a::ns) n.no=a:=by unfold aa gF;rw[gD];simp[he]
   have h3:cP (a::ns) n=n::cP ns n:=by unfold cP;rw[dM,af (by simpa using he)]
   rw[h3,h1,h2,dM,dV,dM,dV];omega
  ·have hb:(a.no == n.no)=false:=by simpa using he
   have h2:aa (a::ns) n.no=aa ns n.no:=by unfold aa gF;rw[gD,hb]
   have h4:aW (a::ns) n.no=aW ns n.no:=by unfold aW gF;rw[gD,hb]
   have h3:cP (a::ns) n=a::cP ns n:=by unfold cP;rw[dM,ac (by simpa using he)]
   have:=ih hp.2 (h4▸hi);rw[h2,h3,dM,dV,dM,dV];omega
theorem IX (f:ak->Nat) (ns:List ak) (no:Int):((dO ns no).map f).sum<=(ns.map f).sum:=by
 unfold dO
 induction ns with
 | nil=>exact aE _
 | cons a ns ih =>
  rw[jH];split
  ·rw[dM,dV,dM,dV];omega
  ·rw[dM,dV];omega
theorem YL {m:ak} (hm:m∈S.nodes) {z:aK} (hz:z∈m.ah):1<=kw S z.2:=by
 have h1:1<=lk z.2 m:=by
  have:z∈m.ah.filter fun y=>y.2 == z.2:=gz.2 ⟨hz,by simp⟩
  exact List.length_pos_of_mem this
 have : lk z.2 m<=(S.nodes.map (lk z.2)).sum:=by
  clear h1 hz
  generalize S.nodes=ns at hm
  induction ns with
  | nil=>cases hm
  | cons a ns ih =>
   rw[dM,dV];rcases aR.1 hm with rfl|hm
   ·omega
   ·have:=ih hm;omega
 unfold kw;omega
theorem BF (h:∀m∈S.nodes,∀z∈m.ah,z.2≠no):kw S no=0:=by
 unfold kw
 generalize S.nodes=ns at h
 induction ns with
 | nil=>rfl
 | cons a ns ih =>
  rw [dM,dV,ih fun m hm=>h m (cf _ hm)];have:a.ah.filter (fun z=>z.2 == no)=[]:=by
   rw[List.filter_eq_nil_iff];intro z hz;have:=h a (bY ..) z hz;simpa using this
  unfold lk;rw[this];rfl
theorem pU (hu:aQ S.nodes S.last) (hi:aW S.nodes n.no=true) (k:Int):kw (aV S n) k+lk k (aa S.nodes n.no)=kw S k+lk k n:=YK (lk k) hu.1 hi
theorem qB (h:Whole S) (hu:aQ S.nodes S.last) (hi:aW S.nodes no=true) (bB:n.no=no) (he:n.ah=(aa S.nodes no).ah) (hl:(aa S.nodes no).ar<=n.ar):Whole (aV S n):=by
 subst bB;obtain⟨_,e1,hm0⟩:=ap hi;have hc:∀k,kw (aV S n) k=kw S k:=fun k=>by
  have h1:=pU hu hi k;have h2:lk k n=lk k (aa S.nodes n.no):=by unfold lk;rw[he]
  omega
 refine⟨fun m hm z hz=>?_,fun m hm=>?_,fun m hm z hz=>?_⟩
 rotate_left 2
 ·rcases bq hm with⟨hm,_⟩|rfl
  ·exact h.fJ m hm z hz
  ·exact h.fJ _ hm0 z (by rw[<-he];exact hz)
 ·show aW (cP S.nodes n) z.2=true
  rw[kf];rcases bq hm with⟨hm,_⟩|rfl
  ·exact h.there m hm z hz
  ·exact h.there _ hm0 z (by rw[<-he];exact hz)
 ·rw [hc]
  rcases bq hm with⟨hm,_⟩|rfl
  ·exact h.ar m hm
  ·have:=h.ar _ hm0
   rw[e1]at this;omega
theorem YM (l:List aK) (x:aK) (no:Int):((fC l x).filter fun z=>z.2 == no).length<=(l.filter fun z=>z.2 == no).length+(if x.2=no then 1 else 0):=by
 have : ∀l:List aK,((kZ l x.1).filter fun z=>z.2 == no).length+((lB l x.1).filter fun z=>z.2 == no).length<=(l.filter fun z=>z.2 == no).length:=by
  intro l
  induction l with
  | nil=>simp[kZ,lB]
  | cons y l ih =>
   unfold kZ lB at ih|-
   cases hb:bl y.1 x.1<;>cases hm:bl x.1 y.1<;>cases hp:(y.2 == no)
   all_goals first
    | (exfalso;have:=iS hb;rw[hm]at this;exact absurd this (by decide))
    | (simp only[jH,hb,hm,hp,Bool.false_eq_true,↓reduceIte,bk]at ih|-;omega)
 have:=this l;unfold fC;rw[zf,zf,aZ,aZ];have h2:([x].filter fun z=>z.2 == no).length=if x.2=no then 1 else 0:=by
  rw[jH,List.filter_nil]
  by_cases h:x.2=no
  ·rw[af (by simpa using h),af h];rfl
  ·rw[ac (by simpa using h),ac h];rfl
 omega
theorem VK (h:aW ns no=true\/n.no=no):aW (ns++[n]) no=true:=by
 unfold aW gF at *;rw[v_];rcases h with h|h
 ·cases hf:ns.find? (fun n=>n.no == no) with
  | none=>rw[hf]at h;cases h
  | some x=>rfl
 ·cases hf:ns.find? (fun n=>n.no == no) with
  | none=>simp[h]
  | some x=>rfl
theorem LY (S:ag) (n:ak) (ds:List fP) (l:Int) (k:Int):kw ⟨S.nodes++[n],ds,l⟩ k=kw S k+lk k n:=by
 unfold kw;show ((S.nodes++[n]).map _).sum=_;rw[lG,zJ];simp
theorem DJ (hT:eB c S) (h:Whole S) (ds:List fP) (bB:n.no=S.last+1) (he:n.ah=[]) (hl:0<=n.ar):Whole ⟨S.nodes++[n],ds,S.last+1⟩/\∀k,kw ⟨S.nodes++[n],ds,S.last+1⟩ k=kw S k:=by
 have hc:∀k,kw ⟨S.nodes++[n],ds,S.last+1⟩ k=kw S k:=fun k=>by
  rw[LY];have:lk k n=0:=by unfold lk;rw[he];rfl
  omega
 refine⟨⟨fun m hm z hz=>?_,fun m hm=>?_,fun m hm z hz=>?_⟩,hc⟩
 rotate_left 2
 ·rcases dn.1 hm with hm|hm
  ·exact h.fJ m hm z hz
  ·rw [ax]at hm
   subst hm;rw[he]at hz;cases hz
 ·refine VK ?_
  rcases dn.1 hm with hm|hm
  ·exact .inl (h.there m hm z hz)
  ·rw [ax]at hm
   subst hm;rw[he]at hz;cases hz
 ·rw [hc]
  rcases dn.1 hm with hm|hm
  ·exact h.ar m hm
  ·rw [ax]at hm
   subst hm;have:kw S m.no=0:=BF fun q hq z hz=>by have:=(hT.pos q hq z hz).2;omega
   rw[this];exact hl
theorem DK (h:Whole S) (hu:aQ S.nodes S.last) {l:List aK} (hi:aW S.nodes dir=true) (hl:l=(aa S.nodes dir).ah) (hn:aW S.nodes no=true) (hsp:(kw S no:Int)+1<=(aa S.nodes no).ar) (hck:cU nm=0):Whole (dC S dir now (fC l (nm,no))):=by
 obtain⟨_,e1,hm0⟩:=ap hi;obtain⟨_,e2,cq⟩:=ap hn;obtain⟨M,hM⟩:=ai (jd S dir now (fC l (nm,no)));have mf:M.no=dir:=by rw[hM];exact e1
 have Jl:M.ah=fC l (nm,no):=by rw[hM];rfl
 have ZF:M.ar=(aa S.nodes dir).ar:=by rw[hM];rfl
 show Whole (aV S (jd S dir now (fC l (nm,no))));rw[<-hM];have hc:∀k,kw (aV S M) k<=kw S k+(if no=k then 1 else 0):=fun k=>by
  have h1:=pU hu (n:=M) (by rw[mf];exact hi) k;rw[mf]at h1;have h2:=YM l (nm,no) k;have h3:lk k M=((fC l (nm,no)).filter fun z=>z.2 == k).length:=by unfold lk;rw[Jl]
  have h4:lk k (aa S.nodes dir)=(l.filter fun z=>z.2 == k).length:=by unfold lk;rw[hl]
  have h5:(if (nm,no).2=k then 1 else 0)=(if no=k then 1 else 0:Nat):=rfl;omega
 refine⟨fun m hm z hz=>?_,fun m hm=>?_,fun m hm z hz=>?_⟩
 rotate_left 2
 ·rcases bq hm with⟨hm,_⟩|rfl
  ·exact h.fJ m hm z hz
  ·rw [Jl]at hz
   rcases j6 hz with hz|rfl
   ·exact h.fJ _ hm0 z (by rw[<-hl];exact hz)
   ·exact hck
 ·show aW (cP S.nodes M) z.2=true
  rw[kf];rcases bq hm with⟨hm,_⟩|rfl
  ·exact h.there m hm z hz
  ·rw [Jl]at hz
   rcases j6 hz with hz|rfl
   ·exact h.there _ hm0 z (by rw[<-hl];exact hz)
   ·exact hn
 ·have h1:=hc m.no
  have key:∀q∈S.nodes,q.no=m.no->q.ar=m.ar->(kw (aV S M) m.no:Int)<=m.ar:=fun q hq a1 a2=>by
   have h2:=h.ar q hq;rw[a1,a2]at h2
   by_cases hk:no=m.no
   ·rw [af hk]at h1
    have h3:aa S.nodes no=q:=jz hu cq hq (by rw[e2,hk,a1]);rw[h3,a2,hk]at hsp;omega
   ·rw [ac hk]at h1
    omega
  rcases bq hm with⟨hm,_⟩|rfl
  ·exact key m hm rfl rfl
  ·exact key _ hm0 (e1.trans mf.symm) ZF.symm
theorem t_ (hT:eB c S) (h:Whole S) (cu cg now dir:Int) (nm:List UInt8) (n:ak) (hn:n.ah=[]):Whole (cM S cu cg now dir nm n):=by
 unfold cM;split
 case isFalse=>exact h
 rename_i h0;obtain⟨h1,_,h3⟩:=lM h0;obtain⟨p1,p2,p3⟩:=a_ h1;have q_:cC S (cV S cu cg now dir n)=⟨S.nodes++[{cV S cu cg now dir n with no:=S.last+1}],jb S.ae (cV S cu cg now dir n).dev (bf (jq S.ae (cV S cu cg now dir n).dev).q (cx (cV S cu cg now dir n).kind (cV S cu cg now dir n).data.length) 1),S.last+1⟩:=by unfold cC;rw[af h3]
 have hg:=na hT.bL (cV S cu cg now dir n) p1;obtain⟨N,hN⟩:∃N:ak,N={cV S cu cg now dir n with no:=S.last+1}:=⟨_,rfl⟩;have UA:N.no=S.last+1:=by rw[hN]
 have hNe:N.ah=[]:=by rw[hN];exact hn
 have hNl:N.ar=1:=by rw[hN];rfl
 rw[<-hN]at q_;have hmem:N∈(cC S (cV S cu cg now dir n)).nodes:=by rw[q_];exact jO _ (List.mem_singleton_self _)
 have hu:aQ (cC S (cV S cu cg now dir n)).nodes (cC S (cV S cu cg now dir n)).last:=by
  rw[q_];exact hT.bL.add _ UA (by have:=hT.last;omega)
 obtain⟨w1,w2⟩:=DJ hT h (n:=N) (jb S.ae (cV S cu cg now dir n).dev (bf (jq S.ae (cV S cu cg now dir n).dev).q (cx (cV S cu cg now dir n).kind (cV S cu cg now dir n).data.length) 1)) UA hNe (by omega);rw[<-q_]at w1 w2;obtain⟨q1,q2⟩:=ep hu hmem;rw[UA]at q1 q2;refine DK w1 hu hg.2 (by rw[hg.1]) q2 ?_ p3;rw[w2,q1,hNl];have:kw S (S.last+1)=0:=BF fun q hq z hz=>by have:=(hT.pos q hq z hz).2;omega
 rw[this];decide
theorem xC {p:Int} (h:Whole S) (k:Whole T):Whole (gI p S T):=by unfold gI;split;exact h;exact k
theorem LZ (hT:eB c S) (h:Whole S) (cu cg now no dir:Int) (nm:List UInt8):Whole (jl S cu cg now no dir nm):=by
 unfold jl;split
 case isFalse=>exact h
 rename_i h0;obtain⟨hp,hi,hk,hf,hv,hl⟩:=nN h0;obtain⟨hid,Cc,hc⟩:=a_ hp;obtain⟨_,bB,hmem⟩:=ap hi;have hne:dir≠no:=fun e=>by subst e;exact hk Cc
 have e0:(eH S now no).no=no:=bB;obtain⟨g1,g2⟩:=nO (S:=S) (n:=eH S now no) (no:=dir) (by rw[e0];exact hne);have w1:Whole (aV S (eH S now no)):=qB h hT.bL hi e0 rfl (by show _<=(aa S.nodes no).ar+1;omega);have hu:aQ (aV S (eH S now no)).nodes (aV S (eH S now no)).last:=hT.bL.set _;have tm:aW (aV S (eH S now no)).nodes no=true:=by show aW (cP S.nodes _) no=true;rw[kf];exact hi
 have Xp:aa (aV S (eH S now no)).nodes no=eH S now no:=by
  have hm:eH S now no∈(aV S (eH S now no)).nodes:=by
   show _∈cP S.nodes _;unfold cP;rw[fH];exact⟨_,hmem,by rw[af (by simpa using bB.trans e0.symm)]⟩
  have:=(ep hu hm).1;rw[e0]at this;exact this
 refine DK w1 hu (by rw[g2];exact hid) (by rw[g1]) tm ?_ hc;rw[Xp];show _<=(aa S.nodes no).ar+1;have h1:=pU hT.bL (n:=eH S now no) (by rw[e0];exact hi) no;have h2:lk no (eH S now no)=lk no (aa S.nodes (eH S now no).no):=by rw[e0];rfl
 have h3:=h.ar _ hmem;rw[bB]at h3;omega
theorem L0 (h:Whole S) (ds:List fP) (hz:kw S no=0):Whole ⟨dO S.nodes no,ds,S.last⟩:=by
 have hne:∀m∈S.nodes,∀z∈m.ah,z.2≠no:=fun m hm z hz2 e=>by
  have:=YL hm hz2;rw[e]at this;omega
 refine⟨fun m hm z hz2=>?_,fun m hm=>?_,fun m hm z hz2=>h.fJ m (eR hm).1 z hz2⟩
 ·obtain ⟨h1,_⟩:=eR hm
  have h2:=h.there m h1 z hz2;obtain⟨_,i2,i3⟩:=ap h2;have:=rP (no:=no) i3 (by rw[i2];exact hne m h1 z hz2);unfold aW gF;rw[List.find?_isSome];exact⟨_,this,by simpa using i2⟩
 ·obtain ⟨h1,_⟩:=eR hm
  have h2:=h.ar m h1;have h3:kw ⟨dO S.nodes no,ds,S.last⟩ m.no<=kw S m.no:=IX _ _ _;omega
theorem VL (l:List aK) (nm:List UInt8) (no:Int):((eU l nm).filter fun z=>z.2 == no).length<=(l.filter fun z=>z.2 == no).length:=by
 unfold eU;rw[Ek];have e:(fun z:aK=>(z.2 == no)&&!(z.1 == nm))=fun z=>(!(z.1 == nm))&&(z.2 == no):=by funext z;exact Bool.and_comm _ _
 rw[e,<-Ek];exact sX _ _
theorem IY {l:List aK} {x:aK} (hx:x∈l) (he:x.1=nm):((eU l nm).filter fun z=>z.2 == x.2).length<(l.filter fun z=>z.2 == x.2).length:=by
 unfold eU;rw[Ek];have e:(fun z:aK=>(z.2 == x.2)&&!(z.1 == nm))=fun z=>(!(z.1 == nm))&&(z.2 == x.2):=by funext z;exact Bool.and_comm _ _
 rw[e,<-Ek];have hm:x∈l.filter fun z=>z.2 == x.2:=gz.2 ⟨hx,by simp⟩
 generalize l.filter (fun z=>z.2 == x.2)=L at hm
 clear hx e
 induction L with
 | nil=>cases hm
 | cons a L ih =>
  rw[jH];rcases aR.1 hm with rfl|hm
  ·rw [ac (by simp[he])]
   have:=sX (fun z:aK=>!(z.1 == nm)) L;simp only[bk];omega
  ·have:=ih hm
   split<;>simp only[bk]<;>omega
theorem BG (h:eB c S) (hW:Whole S) (hl:bJ S cu cg dir nm=0):Whole (gU S now (aa S.nodes dir) (aa S.nodes (aY (aa S.nodes dir).ah nm)) nm):=by
 obtain⟨z1,lm,_⟩:=eu hl;have hi:=(a_ z1).1;obtain⟨_,lr,jJ⟩:=ap hi;obtain⟨no,hn⟩:=ai (aY (aa S.nodes dir).ah nm);rw[<-hn]at lm|-;obtain⟨_,bB,hmem⟩:=ap lm;have hpos:=(h.bL.2 _ hmem).1;rw[bB]at hpos;obtain⟨x,hx,ue,xK⟩:=vk (l:=(aa S.nodes dir).ah) (nm:=nm) (by rw[<-hn];omega);rw[<-hn]at xK;have hK:=h.FO _ jJ x hx;rw[xK,lr]at hK;have hnd:no≠dir:=hK.1;obtain⟨M,hM⟩:∃M:ak,M=jd S (aa S.nodes dir).no now (eU (aa S.nodes dir).ah nm):=⟨_,rfl⟩;have mf:M.no=dir:=by rw[hM,lr];exact lr
 have Jl:M.ah=eU (aa S.nodes dir).ah nm:=by rw[hM];rfl
 have ZF:M.ar=(aa S.nodes dir).ar:=by rw[hM,lr];rfl
 have Zp:aQ (aV S M).nodes (aV S M).last:=h.bL.set _;have c1:∀k,kw (aV S M) k<=kw S k:=fun k=>by
  have h1:=pU h.bL (n:=M) (by rw[mf];exact hi) k;rw[mf]at h1;have h2:=VL (aa S.nodes dir).ah nm k;have h3:lk k M=((eU (aa S.nodes dir).ah nm).filter fun z=>z.2 == k).length:=by unfold lk;rw[Jl]
  have h4:lk k (aa S.nodes dir)=((aa S.nodes dir).ah.filter fun z=>z.2 == k).length:=rfl;omega
 have c2:kw (aV S M) no<kw S no:=by
  have h1:=pU h.bL (n:=M) (by rw[mf];exact hi) no;rw[mf]at h1;have h2:=IY hx ue;rw[xK]at h2;have h3:lk no M=((eU (aa S.nodes dir).ah nm).filter fun z=>z.2 == no).length:=by unfold lk;rw[Jl]
  have h4:lk no (aa S.nodes dir)=((aa S.nodes dir).ah.filter fun z=>z.2 == no).length:=rfl;omega
 have w1 : Whole (aV S M):=by
  refine⟨fun m hm z hz=>?_,fun m hm=>?_,fun m hm z hz=>?_⟩
  rotate_left 2
  ·rcases bq hm with⟨hm,_⟩|rfl
   ·exact hW.fJ m hm z hz
   ·rw [Jl]at hz
    exact hW.fJ _ jJ z (lN hz).1
  ·show aW (cP S.nodes M) z.2=true
   rw[kf];rcases bq hm with⟨hm,_⟩|rfl
   ·exact hW.there m hm z hz
   ·rw [Jl]at hz
    exact hW.there _ jJ z (lN hz).1
  ·have h1:=c1 m.no
   rcases bq hm with⟨hm,_⟩|rfl
   ·have:=hW.ar m hm;omega
   ·have:=hW.ar _ jJ
    rw[<-ZF,lr,<-mf]at this;omega
 have g1:aa (aV S M).nodes no=aa S.nodes no:=sC (by rw[mf];exact hnd);have i1:aW (aV S M).nodes no=true:=by show aW (cP S.nodes M) no=true;rw[kf];exact lm
 obtain⟨n',hn'⟩:=ai (gT now (aa S.nodes no));have e1:n'.no=no:=by rw[hn'];exact bB
 have e2:n'.ah=(aa (aV S M).nodes no).ah:=by rw[hn',g1];rfl
 have e3:n'.ar=(aa S.nodes no).ar-1:=by rw[hn'];rfl
 have hL:=hW.ar _ hmem;rw[bB]at hL;have c3:∀k,kw (aV (aV S M) n') k=kw (aV S M) k:=fun k=>by
  have h1:=pU Zp (n:=n') (by rw[e1];exact i1) k;rw[e1]at h1;have h2:lk k n'=lk k (aa (aV S M).nodes no):=by unfold lk;rw[e2]
  omega
 have w2 : Whole (aV (aV S M) n'):=by
  refine⟨fun m hm z hz=>?_,fun m hm=>?_,fun m hm z hz=>?_⟩
  rotate_left 2
  ·rcases bq hm with⟨hm,_⟩|rfl
   ·exact w1.fJ m hm z hz
   ·rw [e2]at hz
    exact w1.fJ _ (ap i1).2.2 z hz
  ·show aW (cP (aV S M).nodes n') z.2=true
   rw[kf];rcases bq hm with⟨hm,_⟩|rfl
   ·exact w1.there m hm z hz
   ·rw [e2]at hz
    exact w1.there _ (ap i1).2.2 z hz
  ·rw [c3]
   rcases bq hm with⟨hm,_⟩|rfl
   ·exact w1.ar m hm
   ·rw [e1,e3]
    omega
 unfold gU dC;rw[<-hM];unfold jm;rw[<-hn',bB];split
 ·unfold gS
  split
  ·exact L0 w2 _ (by rw[c3];omega)
  ·exact w2
 ·exact w2
theorem QN (hT:eB c S) (h:Whole S) (cu cg now:Int) (x:pZ) (hx:∀fr a iN b,x≠.rename fr a iN b) (xK:∀no d,x≠.write no d):Whole (di S cu cg now x):=by
 cases x with
 | dS dir nm mode=>exact xC h (t_ hT h _ _ _ _ _ _ rfl)
 | dH dir nm mode data=>exact xC h (t_ hT h _ _ _ _ _ _ rfl)
 | symlink dir nm text=>exact xC h (t_ hT h _ _ _ _ _ _ rfl)
 | link no dir nm=>exact LZ hT h _ _ _ _ _ _
 | unlink dir nm =>
  show Whole (eQ S cu cg now dir nm);unfold eQ;split
  ·rename_i h0
   unfold ey at h0;split at h0
   ·rename_i h1;exact absurd h0 h1
   ·rename_i h1
    obtain⟨z1,z2,_,z4,z5⟩:=eu (bR.1 h1);rw[z4,z5];exact BG hT h (bR.1 h1)
  ·exact h
 | j8 dir nm =>
  show Whole (gJ S cu cg now dir nm);unfold gJ;split
  ·rename_i h0
   unfold fc at h0;split at h0
   ·rename_i h1;exact absurd h0 h1
   ·rename_i h1
    obtain⟨z1,z2,_,z4,z5⟩:=eu (bR.1 h1);rw[z4,z5];exact BG hT h (bR.1 h1)
  ·exact h
 | rename fr a iN b=>exact absurd rfl (hx fr a iN b)
 | write no d=>exact absurd rfl (xK no d)
 | ee no mode =>
  show Whole (gx S cu now no mode);unfold gx;split
  ·rename_i h0
   unfold g_ at h0;split at h0
   ·rename_i h1;exact absurd h0 h1
   ·rename_i h1
    have hi:=jB (bR.1 h1);exact qB h hT.bL hi (ap hi).2.1 rfl (gE _)
  ·exact h
 | fF no uid gid =>
  show Whole (iA S cu now no uid gid);unfold iA;split
  ·rename_i h0
   unfold iT at h0;split at h0
   ·rename_i h1;exact absurd h0 h1
   ·rename_i h1
    have hi:=jB (bR.1 h1);exact qB h hT.bL hi (ap hi).2.1 rfl (gE _)
  ·exact h
 | iD no mt =>
  show Whole (iB S cu now no mt);unfold iB;split
  ·rename_i h0
   unfold jk at h0;split at h0
   ·rename_i h1;exact absurd h0 h1
   ·rename_i h1
    have hi:=jB (bR.1 h1);exact qB h hT.bL hi (ap hi).2.1 rfl (gE _)
  ·exact h
theorem IZ (hT:eB c S) (h:Whole S) (a b n:Int):Whole (dB S a b n):=by
 unfold dB;split
 ·exact (DJ hT h (n:=ct S) _ rfl rfl (by show (0:Int)<=1;decide)).1
 ·exact h
theorem I0 (b n:Int):Whole (cZ dF 0 b n):=by
 have mem:∀m∈(cZ dF 0 b n).nodes,m=ct dF:=fun m hm=>by
  have hm':m∈[ct dF]:=hm
  rwa [ax]at hm'
 refine⟨fun m hm z hz=>(by rw[mem m hm]at hz;cases hz),fun m hm=>?_,fun m hm z hz=>(by rw[mem m hm]at hz;cases hz)⟩;rw[BF (fun q hq z hz=>by rw[mem q hq]at hz;cases hz),mem m hm];decide
structure sI (c:Nat) (S:ag):Prop where
 jr:ik c S
 who:Whole S
theorem sI.mono {c d:Nat} {S:ag} (h:sI c S) (M0:c<=d):sI d S:=⟨h.jr.mono M0,h.who⟩
theorem sI.qT {c:Nat} {S:ag} (h:sI c S) (cu cg now:Int) (x:pZ) (hx:∀fr a iN b,x≠.rename fr a iN b) (xK:∀no d,x≠.write no d):sI (c+1) (di S cu cg now x):=⟨h.jr.qT _ _ _ _ hx,QN h.jr.fN h.who _ _ _ _ hx xK⟩
theorem sI.mK {c:Nat} {S:ag} (h:sI c S) (a b n:Int):sI (c+1) (dB S a b n):=⟨h.jr.mK a b n,IZ h.jr.fN h.who a b n⟩
theorem sI.UV (h:sI c S) (m:gi):sI (c+2) (jV S m):=by
 unfold jV;split
 ·exact h.mono (by omega)
 ·split
  ·have h1:=h.qT 0 0 0 (xu S m) (fun _ _ _ _ e=>by cases e) (fun _ _ e=>by cases e)
   split
   ·exact h1.mK _ _ _
   ·exact h1.mono (by omega)
  ·exact (h.mK _ _ _).mono (by omega)
theorem sI.Ip (h:sI c S) (l:List gi):sI (c+2*l.length) (fG S l):=by
 unfold fG
 induction l generalizing c S with
 | nil=>exact h
 | cons m l ih =>
  rw [nv];have h1:sI (c+2) (if qV m=true then S else jV S m):=by
   split
   ·exact h.mono (by omega)
   ·exact h.UV m
  exact (ih h1).mono (by rw[bk];omega)
theorem I1 {it:fk} {x:pZ} (h:j9 S it=some x):(∀fr a iN b,x≠.rename fr a iN b)/\∀no d,x≠.write no d:=by
 unfold j9 at h;split at h
 ·cases h
 split at h
 ·cases h
 split at h
 ·injection h with h;subst h;exact⟨fun _ _ _ _ e=>(by cases e),fun _ _ e=>(by cases e)⟩
 split at h
 ·injection h with h;subst h;exact⟨fun _ _ _ _ e=>(by cases e),fun _ _ e=>(by cases e)⟩
 split at h
 ·injection h with h;subst h;exact⟨fun _ _ _ _ e=>(by cases e),fun _ _ e=>(by cases e)⟩
 split at h
 ·split at h
  ·injection h with h;subst h;exact⟨fun _ _ _ _ e=>(by cases e),fun _ _ e=>(by cases e)⟩
  ·cases h
 ·cases h
theorem sI.Ql (h:sI c S) (it:fk):sI (c+1) (lv S it):=by
 unfold lv;split
 ·rename_i x hx
  exact h.qT _ _ _ _ (I1 hx).1 (I1 hx).2
 ·exact h.mono (by omega)
theorem sI.Iq (h:sI c S) (no:Int) (it:fk):sI (c+2) (iO S no it):=by
 unfold iO;split
 ·exact (h.qT 0 0 0 (.fF no it.uid it.gid) (fun _ _ _ _ e=>by cases e) (fun _ _ e=>by cases e)).qT 0 0 0 (.ee no it.mode) (fun _ _ _ _ e=>by cases e) (fun _ _ e=>by cases e)
 ·exact h.mono (by omega)
theorem sI.item {p:ag×List Int} (h:sI c p.1) (it:fk):sI (c+3) (yd p it).1:=(h.Ql it).Iq _ _
theorem sI.items (l:List fk) (p:ag×List Int) (h:sI c p.1):sI (c+3*l.length) (eS p l).1:=by
 unfold eS
 induction l generalizing c p with
 | nil=>exact h
 | cons m l ih =>
  rw[nv];exact (ih _ (h.item m)).mono (by rw[bk];omega)
theorem sI.times (l:List (Int×fk)) (h:sI c S):sI (c+l.length) (fA S l):=by
 unfold fA
 induction l generalizing c S with
 | nil=>exact h
 | cons x l ih =>
  rw [nv];have h1:sI (c+1) (qL S x):=by
   unfold qL;split
   ·exact h.qT 0 0 0 (.iD x.1 x.2.mtime) (fun _ _ _ _ e=>by cases e) (fun _ _ e=>by cases e)
   ·exact h.mono (by omega)
  exact (ih h1).mono (by rw[bk];omega)
theorem I2 (ms:List gi) (is:List fk):Whole (jf ms is):=by
 have a:=(sI.mk (.first (mh ms)) (I0 _ _)).Ip ms;have b1:=sI.items is (fG (jo ms) ms,[]) a;exact (b1.times ((DC ms is).2.zip is)).who
def orM (m:Int):Int:=m+(if cK m 6=true then 0 else 64)+(if cK m 7=true then 0 else 128)+(if cK m 8=true then 0 else 256)
def DL (S:ag) (cu cg no:Int):Bool:=!fh cu cg (aa S.nodes no).uid (aa S.nodes no).gid (aa S.nodes no).mode 7&&fp cu (aa S.nodes no).uid
def opC (s:aH) (no:Int):pZ:=.ee no (orM (aa s.t.nodes no).mode)
def vR (s:aH) (cu cg no:Int):Int:=if DL s.t cu cg no=true then yw s cu cg (opC s no) else 0
def jY (s:aH) (cu cg no:Int):aH:=if DL s.t cu cg no=true then ul s cu cg (opC s no) else s
def vV (s:aH) (cu cg no:Int):Int:=gY s (cE s.t cu cg no 1 4)
def DM (s:aH) (cu cg no:Int):List aK:=tV s (b_ s.t (bV s.t cu cg no 1 4).ah)
def Nu (s:aH) (cu cg no:Int):List Int:=(DM s cu cg no).map (·.2)
def jp (s:aH) (dev no:Int):Prop:=aW s.t.nodes no=true/\(aa s.t.nodes no).dev≠dev
inductive jF (cu cg dev:Int):aH->List Int->aH->Int->Nat->Prop
 | nil (s:_):jF cu cg dev s [] s 0 0
 | busy {s:_} {no:_} {t:_}:jp s dev no->jF cu cg dev s (no::t) s 16 1
 | skip {s:_} {no:_} {t:_} {s':_} {e:_} {k:_}:¬jp s dev no->(aa s.t.nodes no).kind≠1->jF cu cg dev s t s' e k->jF cu cg dev s (no::t) s' e (k+1)
 | shut {s:_} {no:_} {t:_}:¬jp s dev no->(aa s.t.nodes no).kind=1->vR s cu cg no≠0->jF cu cg dev s (no::t) (jY s cu cg no) (vR s cu cg no) 1
 | list {s:_} {no:_} {t:_}:¬jp s dev no->(aa s.t.nodes no).kind=1->vR s cu cg no=0->vV (jY s cu cg no) cu cg no≠0->jF cu cg dev s (no::t) (jY s cu cg no) (vV (jY s cu cg no) cu cg no) 1
 | step {s:_} {no:_} {t:_} {s':_} {e:_} {k:_}:¬jp s dev no->(aa s.t.nodes no).kind=1->vR s cu cg no=0->vV (jY s cu cg no) cu cg no=0->jF cu cg dev (jY s cu cg no) (Nu (jY s cu cg no) cu cg no++t) s' e k->jF cu cg dev s (no::t) s' e (k+1)
structure Wz (S0 S:ag):Prop where
 ae:S.ae=S0.ae
 is:∀no,aW S.nodes no=aW S0.nodes no
 get:∀no,aa S.nodes no={aa S0.nodes no with mode:=(aa S.nodes no).mode,ctime:=(aa S.nodes no).ctime}
theorem Wz.refl (S:ag):Wz S S:=⟨rfl,fun _=>rfl,fun _=>rfl⟩
theorem Wz.trans {A B C:ag} (h:Wz A B) (k:Wz B C):Wz A C:=by
 refine⟨k.ae.trans h.ae,fun no=>(k.is no).trans (h.is no),fun no=>?_⟩;have h1:=h.get no;have h2:=k.get no;rw[h1]at h2;exact h2
theorem VM (hT:eB c S) (cu now no m:Int):Wz S (gx S cu now no m):=by
 unfold gx;split
 ·rename_i h0
  have hi:aW S.nodes no=true:=by
   unfold g_ at h0;split at h0
   ·rename_i h1;exact absurd h0 h1
   ·rename_i h1;exact jB (bR.1 h1)
  obtain⟨_,e1,hm⟩:=ap hi;refine⟨rfl,fun q=>kf _ _ _,fun q=>?_⟩
  by_cases hq:q=no
  ·subst hq
   have hmem:({aa S.nodes q with mode:=m,ctime:=now}:ak)∈(aV S {aa S.nodes q with mode:=m,ctime:=now}).nodes:=by
    show _∈cP S.nodes _;unfold cP;rw[fH];exact⟨_,hm,by rw[af (by simp)]⟩
   have hg:=(ep (S:=aV S {aa S.nodes q with mode:=m,ctime:=now}) (hT.bL.set _) hmem).1;have hg':aa (aV S {aa S.nodes q with mode:=m,ctime:=now}).nodes q={aa S.nodes q with mode:=m,ctime:=now}:=by
    have e2:({aa S.nodes q with mode:=m,ctime:=now}:ak).no=q:=e1;rw[e2]at hg;exact hg
   rw[hg']
  ·have e2:({aa S.nodes no with mode:=m,ctime:=now}:ak).no=no:=e1
   rw[sC (S:=S) (n:={aa S.nodes no with mode:=m,ctime:=now}) (no:=q) (by rw[e2];exact hq)]
 ·exact .refl S
theorem abD (s:aH) (no:Int):(∀fr a iN b,opC s no≠.rename fr a iN b)/\∀n d,opC s no≠.write n d:=⟨fun _ _ _ _ e=>(by cases e),fun _ _ e=>(by cases e)⟩
theorem FG (h:Pl c s) (cu cg no:Int):Wz s.t (jY s cu cg no).t:=by
 unfold jY;split
 ·unfold ul
  split
  ·rw[(IU s).1];exact .refl _
  ·exact VM h.jr.fN cu s.now no _
 ·exact .refl _
theorem Pl.op (h:Pl c s) (cu cg no:Int):Pl (c+1) (jY s cu cg no):=by
 unfold jY;split
 ·exact h.qT cu cg _ (abD s no).1
 ·exact h.mono (by omega)
theorem L3 (h:Pl c s) (cu cg no:Int):bj (jY s cu cg no).t<=bj s.t:=by
 unfold jY;split
 ·unfold ul
  split
  ·rw[(IU s).1];exact aE _
  ·exact Ir h.jr.fN cu s.now no _
 ·exact aE _
theorem nV (hd:s.dead=false) (h:vR s cu cg no=0):(jY s cu cg no).dead=false:=by
 unfold vR at h;unfold jY;split
 ·rename_i h1
  rw[af h1]at h;unfold yw at h;split at h
  ·rename_i h2;exact absurd h h2
  ·rename_i h2
   unfold ul;rw[ac h2];show (yP s).dead=false;rw[(nc (bR.1 h2)).2];exact hd
 ·exact hd
theorem VN (h:jF cu cg dev s t s' e k):∀c,Pl c s->Pl (c+k) s'/\Wz s.t s'.t/\bj s'.t<=bj s.t/\(s.dead=false->e=0->s'.dead=false):=by
 induction h with
 | nil s=>intro c hc;exact⟨hc,.refl _,aE _,fun h _=>h⟩
 | busy h1=>intro c hc;exact⟨hc.mono (by omega),.refl _,aE _,fun h _=>h⟩
 | skip h1 h2 h3 ih =>
  intro c hc;obtain⟨g1,g2⟩:=ih c hc;exact⟨g1.mono (by omega),g2⟩
 | shut h1 h2 h3=>intro c hc;exact⟨hc.op _ _ _,FG hc _ _ _,L3 hc _ _ _,fun _ he=>absurd he h3⟩
 | list h1 h2 h3 h4=>intro c hc;exact⟨hc.op _ _ _,FG hc _ _ _,L3 hc _ _ _,fun _ he=>absurd he h4⟩
 | step h1 h2 h3 h4 h5 ih =>
  intro c hc;obtain⟨g1,g2,g3,g4⟩:=ih (c+1) (hc.op _ _ _);exact⟨g1.mono (by omega),(FG hc _ _ _).trans g2,nk g3 (L3 hc _ _ _),fun hd he=>g4 (nV hd h3) he⟩
theorem QO (h1:aW S.nodes x.no=true) (h2:aW S.nodes x.dir=true) (h3:(aa S.nodes x.no).dev=(aa S.nodes x.dir).dev):iW S 0 0 x=0:=by
 unfold iW;rw[ac (by rw[h1];decide),ac (by rw[h2];decide),ac (by simpa using h3)];split
 ·rfl
 ·rename_i hk
  unfold cE;rw[ac (by rw[h1];decide),af (bR.1 hk),ac];rw[SP _ _ _ _ _ rfl];decide
theorem Nv (h:eB c S) (hp:0<no) (hi:aW S.nodes no=true):aW S.nodes (aw S.ae no)=true:=by
 rcases kM h.xk hp with e|⟨j,hj,_,e2⟩
 ·rw[e];exact hi
 ·rw [e2]
  obtain⟨m,hm,e3,_⟩:=h.ii (j+1) hj;rw[<-e3];exact (ep h.bL hm).2
theorem VO (h0:eB c0 S0) (hW:Whole S0) (cu cg dev:Int) {t:List au} {b:au} (hd:lE S0 0 0 t l b e) :
  ∀ (c:Nat) (s:aH),Pl c s->s.dead=false->Wz S0 s.t->(∀y∈t,aW S0.nodes y.no=true/\aW S0.nodes y.dir=true/\(aa S0.nodes y.dir).dev=dev)->∃s' e' k,jF cu cg dev s (t.map (·.no)) s' e' k/\k<=l.length+1:=by
 induction hd with
 | nil=>intro c s _ _ _ _;exact⟨s,0,0,.nil s,by omega⟩
 | @bad x t h =>
  intro c s hc MH hs ht;obtain⟨t1,t2,t3⟩:=ht x (bY ..);have hb:jp s dev x.no:=by
   refine⟨(hs.is _).trans t1,fun he=>h (QO t1 t2 ?_)⟩;rw[hs.get]at he;rw[t3];exact he
  exact⟨s,16,1,.busy hb,by omega⟩
 | @step x t l b e h hd ih =>
  intro c s hc MH hs ht;obtain⟨t1,t2,t3⟩:=ht x (bY ..);obtain⟨i1,i2,i3,_⟩:=Dx h;have MF:¬jp s dev x.no:=fun hb=>hb.2 (by rw[hs.get];show (aa S0.nodes x.no).dev=dev;rw[i3,t3])
  have hk:(aa s.t.nodes x.no).kind=(aa S0.nodes x.no).kind:=by rw[hs.get]
  by_cases rC:(aa S0.nodes x.no).kind=1
  ·by_cases ho:vR s cu cg x.no=0
   ·by_cases hl:vV (jY s cu cg x.no) cu cg x.no=0
    ·have hs1:=hs.trans (FG hc cu cg x.no)
     have abE:=nV MH ho;have hL:Nu (jY s cu cg x.no) cu cg x.no=(ia S0 0 0 x).map (·.no):=by
      have hl':cE (jY s cu cg x.no).t cu cg x.no 1 4=0:=by
       unfold vV gY at hl;rw[ac (by rw[abE];decide)]at hl;exact hl
      unfold Nu DM tV;rw[ac (by rw[abE];decide),lO ⟨h,rC⟩];have e1:bV (jY s cu cg x.no).t cu cg x.no 1 4=aa (jY s cu cg x.no).t.nodes x.no:=by unfold bV;rw[af hl']
      rw[e1,hs1.get];show ((b_ (jY s cu cg x.no).t (aa S0.nodes x.no).ah).map (·.2))=((b_ S0 (aa S0.nodes x.no).ah).map (fM x)).map (·.no);rw[vW];have e2:b_ (jY s cu cg x.no).t (aa S0.nodes x.no).ah=b_ S0 (aa S0.nodes x.no).ah:=by unfold b_;rw[hs1.ae]
      rw[e2];rfl
     obtain ⟨s',e',k,g1,g2⟩:=ih (c+1) (jY s cu cg x.no) (hc.op _ _ _) abE hs1 (fun y hy=>by
      rcases dn.1 hy with hy|hy
      ·rw [lO ⟨h,rC⟩]at hy
       rw[fH]at hy;obtain⟨z',hz',rfl⟩:=hy;unfold b_ at hz';rw[fH]at hz';obtain⟨z,hz,rfl⟩:=hz';have hm:=(ap i1).2.2;have hp:=h0.pos _ hm z hz;exact⟨Nv h0 (by omega) (hW.there _ hm z hz),i1,by show (aa S0.nodes x.no).dev=dev;rw[i3,t3]⟩
      ·exact ht y (cf _ hy))
     rw[lG,<-hL]at g1;exact⟨s',e',k+1,.step MF (hk.trans rC) ho hl g1,by simp only[bk];omega⟩
    ·exact⟨_,_,1,.list MF (hk.trans rC) ho hl,by omega⟩
   ·exact⟨_,_,1,.shut MF (hk.trans rC) ho,by omega⟩
  ·rw [sE (fun hx=>rC hx.2),jG]at ih
   obtain⟨s',e',k,g1,g2⟩:=ih c s hc MH hs (fun y hy=>ht y (cf _ hy));exact⟨s',e',k+1,.skip MF (by rw[hk];exact rC) g1,by simp only[bk];omega⟩
def YN (s:aH) (cu cg dir:Int) (nm:List UInt8) (s1:aH) (e1:Int) (k1:Nat) (s':aH) (e:Int) (L:List (au×Int)) (k:Nat):Prop:=
 (dw s cu cg dir nm≠0/\s1=s/\e1=dw s cu cg dir nm/\k1=0\/dw s cu cg dir nm=0/\s.dead=false/\jF cu cg (aa s.t.nodes dir).dev s [(du s cu cg dir nm).no] s1 e1 k1) /\
  (e1≠0/\s'=s1/\e=e1/\L=[]/\k=0\/e1=0/\xB s1 cu cg dir nm s' e L k)
theorem I3 (h:dw s cu cg dir nm=0):s.dead=false/\eK s.t cu cg dir nm=0/\(du s cu cg dir nm).no=fE s.t cu cg dir nm:=by
 unfold dw gY at h;split at h
 ·cases h
 ·rename_i hd
  refine⟨by simpa using hd,h,?_⟩;show H_ s (fE s.t cu cg dir nm)=_;unfold H_;rw[ac hd]
theorem VP {k w:Int} (h:cE S cu cg no k w=0):aW S.nodes no=true/\(aa S.nodes no).kind=k:=by
 unfold cE at h;split at h
 ·cases h
 ·rename_i h1
  split at h
  ·rename_i h2;exact⟨by simpa using h1,h2⟩
  ·split at h
   ·cases h
   ·split at h<;>cases h
theorem VQ (h:eK S cu cg dir nm=0):aW S.nodes dir=true/\(aa S.nodes dir).kind=1/\aY (aa S.nodes dir).ah nm≠0/\fE S cu cg dir nm=aw S.ae (aY (aa S.nodes dir).ah nm):=by
 have h':=h;unfold eK at h;split at h
 ·rename_i h1
  split at h
  ·cases h
  ·rename_i h2
   have e:bV S cu cg dir 1 1=aa S.nodes dir:=by unfold bV;rw[af h1]
   rw[e]at h2;obtain⟨o1,o2⟩:=VP h1;refine⟨o1,o2,h2,?_⟩;unfold fE;rw[af h',e]
 ·rename_i h1;exact absurd h h1
theorem QP (hT:eB c S) (hW:Whole S) (h:eK S cu cg dir nm=0):aW S.nodes dir=true/\aW S.nodes (fE S cu cg dir nm)=true:=by
 obtain⟨h1,_,h3,h4⟩:=VQ h;refine⟨h1,?_⟩;rw[h4];obtain⟨x,hx,_,xK⟩:=vk h3;have hm:=(ap h1).2.2;have hp:=hT.pos _ hm x hx;rw[<-xK];exact Nv hT (by omega) (hW.there _ hm x hx)
theorem YO (h:Pl c s) (hW:Whole s.t) (cu cg dir:Int) (nm:List UInt8):∃s1 e1 k1 s' e L k,YN s cu cg dir nm s1 e1 k1 s' e L k/\k1<=bj s.t+2/\Pl (c+k1) s1/\bj s1.t<=bj s.t/\L.length<=1+bj s.t/\k<=2*L.length+s1.t.nodes.length+1:=by
 have key:∃s1 e1 k1,(dw s cu cg dir nm≠0/\s1=s/\e1=dw s cu cg dir nm/\k1=0\/dw s cu cg dir nm=0/\s.dead=false/\jF cu cg (aa s.t.nodes dir).dev s [(du s cu cg dir nm).no] s1 e1 k1)/\k1<=bj s.t+2/\Pl (c+k1) s1/\bj s1.t<=bj s.t:=by
  by_cases h1:dw s cu cg dir nm=0
  ·obtain ⟨hd,hl,hx⟩:=I3 h1
   obtain ⟨i1,i2⟩:=QP h.jr.fN hW hl;obtain⟨l,b,e,hD⟩:=Du h.jr.fN h.jr.kids.up 0 0 [⟨dir,nm,fE s.t cu cg dir nm,0⟩];have hlen:=Ib h.jr.fN h.jr.kids 0 0 _ hD;obtain⟨s1,e1,k1,g1,g2⟩:=VO h.jr.fN hW cu cg (aa s.t.nodes dir).dev hD c s h hd (.refl _) (fun y hy=>by
    rw[ax]at hy;subst hy;exact⟨i2,i1,rfl⟩)
   obtain⟨p1,_,p3,_⟩:=VN g1 c h;refine⟨s1,e1,k1,.inr ⟨h1,hd,?_⟩,by omega,p1,p3⟩;rw[hx];exact g1
  ·exact⟨s,_,0,.inl ⟨h1,rfl,rfl,rfl⟩,bC _,h,aE _⟩
 obtain⟨s1,e1,k1,q1,q2,q3,q4⟩:=key
 by_cases he:e1=0
 ·obtain ⟨s',e,L,k,g1,g2⟩:=Nt q3 cu cg dir nm
  exact⟨s1,e1,k1,s',e,L,k,⟨q1,.inr ⟨he,g1⟩⟩,q2,q3,q4,by have:=(pT q3 g1.LX).2;omega,g2⟩
 ·exact⟨s1,e1,k1,s1,e1,[],0,⟨q1,.inl ⟨he,rfl,rfl,rfl,rfl⟩⟩,q2,q3,q4,bC _,bC _⟩
open Go
theorem I4 {n:Nat} {row:String} {args:Array Value} {R:Value->World->Prop} (h:Rows P row args w R):RowsIn Fence.wide n P row args w R:=
 fun c cs _=>let ⟨v,w',r,s⟩:=h c cs;⟨v,w',r,stepsIn_wide.2 s⟩
theorem L9 {n:Nat} {o:Oper} {K K':Act->World->Prop} {Q:Exit->Act->World->Prop} (hk:∀a w,K a w->K' a w) (h:o.wp P a w K (Qh Q)):o.wpIn Fence.wide n P a w K' Q:=by
 unfold Oper.wp at h;unfold Oper.wpIn;refine⟨fun _ _=>trivial,?_⟩;show o.uponIn Fence.wide n P a K' Q ((Oper.semAt none a.eval o).run P w);rw[Oper.semAt_none]
 generalize (execOp a.eval o).run P w=r at *
 cases r with
 | ok v w' =>
  cases v with
  | value v=>exact hk _ _ h
  | skip=>exact hk _ _ h
  | defer d=>exact hk _ _ h
  | enter f args =>
   refine⟨fun hx=>(by cases hx),km.2 (Calls.mono h ?_)⟩;intro e w'' hq
   cases e with
   | returned v=>exact hk _ _ hq
   | panicked c=>exact absurd hq.1 (by simp)
   | outgrown=>exact absurd hq Io
  | row row args =>
   refine⟨fun hx=>(by cases hx),I4 (Rows.mono h ?_)⟩;intro v w'' hq;exact hk _ _ hq
  | _=>exact absurd h id
 | halt x w' =>
  cases x with
  | panic v=>exact absurd h.1 (by simp)
  | _=>exact absurd h id
theorem ll {P:Program} {n:Nat} {ops:Array Oper} {md:Region.Mode} {Q:Exit->Act->World->Prop}:∀(fuel:Nat) (listed:Array Bool) (a:Act) (w:World),wpAny P md ops (Qh Q) fuel listed a w->wpAnyIn Fence.wide n P md ops Q fuel listed a w
 | 0,_,_,_,h=>⟨h.1,h.2.2⟩
 | fuel + 1,_,_,_,h=>⟨fun h0=>(h.1 h0).2,fun i hi=>by
   have h1:=h.2 i hi;unfold wpOp at h1;unfold wpOpIn;split
   ·rename_i ho;simp only[ho]at h1;exact ll fuel _ _ _ h1
   ·rename_i o ho
    simp only[ho]at h1;split
    ·rename_i hw
     simp only[hw,if_true]at h1;rcases h1 with h1|h1
     ·exact L9 (fun a w=>ll fuel _ a w) h1
     ·exact absurd h1.2 Io
    ·rename_i hw
     simp only[hw]at h1;exact⟨fun _ _=>trivial,ll fuel _ _ _ h1⟩⟩
theorem ua {F:Fence} (hF:F=Fence.wide) {lb n id:Nat} {Q:Exit->Act->World->Prop} {l:List Oper} (hd:l.all uy=true) (hm:P.follows .mixedOrders=true)
  (h:wpAny P .any l.toArray (Qh Q) l.toArray.size (Array.replicate l.toArray.size false) a w.drew):(Code.region id l.toArray true).wpIn (F.inRound lb) n P Q a w:=by
 subst hF;exact oz (F:=Fence.wide.inRound lb) hd hm (ll _ _ _ _ h)
theorem QQ {P:Program} {Q:Exit->Act->World->Prop} {a:Act} {w:World} {l:List Oper} (V:World) (m s:Nat) (d t:Tmp) (vy:Value) (Z Z':Obj) (om os:Oper)
  (hB:Region.lexB .any l.toArray=true) (hc:JW l m s d t=true) (EF:l[m]?=some om) (oW:l[s]?=some os)
  (wL:∀(a:Act) (w:World),(execOp a.eval om).run P w=.ok (.value (.pointer (some ⟨w.heap.size,0,none⟩))) (w.alloc Z))
  (jR:∀(a:Act) (w:World) (bx:Nat),d<a.tmps.size->Has w bx Z->(a.put (some d) (.pointer (some ⟨bx,0,none⟩))).eval (.tmp t)=vy->∃w'',(execOp (a.put (some d) (.pointer (some ⟨bx,0,none⟩))).eval os).run P w=.ok .skip w''/\Has w'' bx Z'/\Only [bx] w w'')
  (hV:Ext V w.drew) (WY:d<a.tmps.size)
  (h:aM P l.toArray V (fun a1=>aM P l.toArray V (fun a2=>a2.eval (.tmp t)=vy/\aM P l.toArray V (fun a3=>∀w' bx,Ext V w'->V.heap.size<=bx->Has w' bx Z'->Q .normal (a3.put (some d) (.pointer (some ⟨bx,0,none⟩))) w') (l.drop (s+1)) a2) ((l.take s).drop (m+1)) a1) (l.take m) a) :
  wpAny P .any l.toArray Q l.toArray.size (Array.replicate l.toArray.size false) a w.drew:=by
 simp only[JW,fl,lZ,rr,xF,il]at hc;obtain⟨⟨⟨⟨⟨c1,c2⟩,c3⟩,c4⟩,c5⟩,c6⟩:=hc;rw[EF]at c4;rw[oW]at c5;simp only[fl,il,wh]at c4 c5;obtain⟨g1,g2⟩:=c4;obtain⟨⟨⟨g3,g4⟩,g5⟩,g6⟩:=c5;simp only[Region.lexB,fl]at hB;have nY:=wg hB.1;have aai:l.toArray[m]?=some om:=by simpa using EF
 have z_:l.toArray[s]?=some os:=by simpa using oW
 have hys:∀o,l.toArray[s]?=some o->∀p∈[(Operand.tmp t,vy)],∀x,p.1=.tmp x->x∈o.looksAt l.toArray:=fun o ho p hp x hx=>by
  rw[ax]at hp;subst hp;rw[z_]at ho;injection ho with ho;injection hx with hx;rw[<-ho,<-hx];simpa using g5
 have ig:(l.take m).length=m:=by simp;omega
 have cq:((l.take s).drop (m+1)).length=s-(m+1):=by simp;omega
 have EH:oQ P l.toArray V m s [(.tmp t,vy)] (fun a3=>∀w' bx,Ext V w'->V.heap.size<=bx->Has w' bx Z'->Q .normal (a3.put (some d) (.pointer (some ⟨bx,0,none⟩))) w') l 0 a:=by
  have e:l=l.take m++(om::((l.take s).drop (m+1)++(os::l.drop (s+1)))):=by
   have e1:l.drop m=om::l.drop (m+1):=by rw[jg (by omega)];congr 1;rw[iq (by omega)]at EF;injection EF
   have e2:l.drop s=os::l.drop (s+1):=by rw[jg c2];congr 1;rw[iq c2]at oW;injection oW
   have e3:(l.take s).drop (m+1)++l.drop s=l.drop (m+1):=by
    conv=>rhs;rw[<-qE s l,RI (by simp;omega)]
   rw[<-e2,e3,<-e1,qE]
  conv=>arg 8;rw[e]
  refine lc (l.take m) 0 a (fun j hj=>by rw[ig]at hj;omega) (fun j hj=>by rw[ig]at hj;rw[eY];simp[hj]) ?_;rw[eY,ig];have pC:∀{Q1 Q2:Act->Prop},(∀a,Q1 a->Q2 a)->∀(pB:List Oper) (a:Act),aM P l.toArray V Q1 pB a->aM P l.toArray V Q2 pB a:=by
   intro Q1 Q2 hq pB
   induction pB with
   | nil=>intro a h;exact hq a h
   | cons o pB ih =>
    intro a h;unfold aM at h|-;split
    ·rename_i hw;rw[af hw]at h;obtain⟨v,h1,h2⟩:=h;exact⟨v,h1,ih _ h2⟩
    ·rename_i hw;rw[ac hw]at h;exact ih _ h
  refine pC (fun a1 h1=>?_) _ _ h;show sN P l.toArray V m s [(.tmp t,vy)] m _ a1;unfold sN;rw[af rfl];refine lc ((l.take s).drop (m+1)) (m+1) a1 (fun j hj=>by rw[cq]at hj;omega) (fun j hj=>by rw[cq]at hj;rw[Ju,List.getElem?_take_of_lt (by omega)];simp) ?_;rw[cq,show m+1+(s-(m+1))=s by omega];refine pC (fun a2 h2=>?_) _ _ h1;show sN P l.toArray V m s [(.tmp t,vy)] s _ a2;unfold sN;rw[ac (by omega),af rfl];refine⟨fun p hp=>by rw[ax]at hp;subst hp;exact h2.1,?_⟩;have e5:l.drop (s+1)=l.drop (s+1)++[]:=by simp
  rw[e5];refine lc (l.drop (s+1)) (s+1) a2 (fun j hj=>by omega) (fun j hj=>by simp) ?_;exact h2.2
 have hR:=tL (md:=.any) (m:=m) (s:=s) hB.1 hys l 0 (Array.replicate l.toArray.size false) a (by simp) (fun j hj=>by omega) (by simpa using (by omega:m<l.length)) (by simpa using c2) (by simpa using hB.2) EH;have hf:∀i,i<l.length->(Array.replicate l.toArray.size false).getD i true=false:=fun i hi=>by simp[hi]
 have:=(wK (V:=V) (P:=P) (ops:=l.toArray) (md:=.any) (m:=m) (s:=s) (yo:=.tmp t) (vy:=vy) (Q':=Q) aai g1 g2 z_ g3 g4 (by omega) wL jR (by intro e;injection e with e;exact c3 e) ?_ nY ?_ (fun a w bx h1 h2 h3 h4=>h4 w bx h1 h2 h3) _ _ a w.drew hV WY hR).1 (hf m (by omega)) (hf s c2)
 ·simpa using this
 ·obtain ⟨e,he,oU⟩:=g6
  exact⟨e,he,oU.1,by simpa using oU.2⟩
 ·intro i oi hi h1 h2
  have hil:i<l.length:=by
   rcases lq i l.length with h'|h'
   ·exact h'
   ·rw[rf (by simpa using h')]at hi;cases hi
  have:=c6 i (ru.2 hil);rw[show l[i]?=some oi by simpa using hi]at this;rcases this with (this|this)|this
  ·exact absurd this h1
  ·exact absurd this h2
  ·simpa using this
theorem VR {P:Program} {Q:Exit->Act->World->Prop} {ops:Array Oper} {V:World} {d t:Nat} {vy:Value} {Z':Obj} {l1 l2 l3:List Oper} {a:Act}
  (h:aM P ops V (fun a1=>aM P ops V (fun a2=>a2.eval (.tmp t)=vy/\aM P ops V (fun a3=>∀w' bx,Ext V w'->V.heap.size<=bx->Has w' bx Z'->Q .normal (a3.put (some d) (.pointer (some ⟨bx,0,none⟩))) w') l3 a2) l2 a1) l1 a) :
  aM P ops V (fun a1=>aM P ops V (fun a2=>a2.eval (.tmp t)=vy/\aM P ops V (fun a3=>∀w' bx,Ext V w'->V.heap.size<=bx->Has w' bx Z'->Qh Q .normal (a3.put (some d) (.pointer (some ⟨bx,0,none⟩))) w') l3 a2) l2 a1) l1 a:=by
 have pC:∀{Q1 Q2:Act->Prop},(∀a,Q1 a->Q2 a)->∀(pB:List Oper) (a:Act),aM P ops V Q1 pB a->aM P ops V Q2 pB a:=by
  intro Q1 Q2 hq pB
  induction pB with
  | nil=>intro a h;exact hq a h
  | cons o pB ih =>
   intro a h;unfold aM at h|-;split
   ·rename_i hw;rw[af hw]at h;obtain⟨v,h1,h2⟩:=h;exact⟨v,h1,ih _ h2⟩
   ·rename_i hw;rw[ac hw]at h;exact ih _ h
 exact pC (fun a1 h1=>pC (fun a2 h2=>⟨h2.1,pC (fun a3 h3 w' bx k1 k2 k3=>⟨rfl,h3 w' bx k1 k2 k3⟩) _ _ h2.2⟩) _ _ h1) _ _ h
theorem pV {F:Fence} (hF:F=Fence.wide) {lb nn id:Nat} {Q:Exit->Act->World->Prop} {l:List Oper} (V:World) (m s:Nat) (d t:Tmp) (n:ak) (A:Option Addr) (c:Nat) (om os:Oper)
  (hd:l.all uy=true) (hB:Region.lexB .any l.toArray=true) (hc:JW l m s d t=true) (EF:l[m]?=some om) (oW:l[s]?=some os) (NS:om.op=.alloc 66) (pj:os.op=.store 66 (.tmp d) (.tmp t)) (WY:d<a.tmps.size)
  (hV:Ext V w.drew) :
  aM prog l.toArray V (fun a1=>aM prog l.toArray V (fun a2=>a2.eval (.tmp t)=.agg (n,A,c)/\aM prog l.toArray V (fun a3=>∀w' bx,Ext V w'->V.heap.size<=bx->Has w' bx (.cells (n,A,c) 66)->Q .normal (a3.put (some d) (.pointer (some ⟨bx,0,none⟩))) w') (l.drop (s+1)) a2) ((l.take s).drop (m+1)) a1) (l.take m) a ->
  (Code.region id l.toArray true).wpIn (F.inRound lb) nn prog Q a w:=by
 intro h0;refine ua hF hd (by kernel_rfl) ?_;refine QQ (Q:=Qh Q) V m s d t (.agg (n,A,c)) (.cells () 66) _ om os hB hc EF oW ?_ ?_ hV WY (VR h0)
 ·intro a w
  simp[execOp,NS,go_sem]
 ·intro a w bx hsz hb he
  have hd:(a.put (some d) (.pointer (some ⟨bx,0,none⟩))).eval (.tmp d)=.pointer (some ⟨bx,0,none⟩):=by
   simp[Act.put,Act.eval,hsz]
  have hb':Has w bx (.cells (aj,()) 66):=hb;refine⟨_,?_,hb'.setNode n A c,cr (gu n A c) 0 w⟩;simp only[execOp,pj,hd,he,tF w bx 0 66 (n,A,c) hb'.there iM (rL n A c),nr,o7,rn];rfl
attribute [local go_sem] ol
def mB (S:ag) (cu cg:Int) (x:au):Int:=
 if fh cu cg (aa S.nodes x.dir).uid (aa S.nodes x.dir).gid (aa S.nodes x.dir).mode 3=false then 6
 else if gR cu (aa S.nodes x.dir).mode (aa S.nodes x.dir).uid (aa S.nodes x.no).uid=false then 4 else 0
def mV (S:ag) (cu cg:Int):List au->Int->Int
 | [],e=>e
 | x::l,e=>if mB S cu cg x≠0 then mB S cu cg x else mV S cu cg l e
theorem se (a r:List au) (e:Int) (h:∀x∈a,mB S cu cg x=0):mV S cu cg (a++r) e=mV S cu cg r e:=by
 induction a with
 | nil=>rfl
 | cons x a ih =>
  show (if mB S cu cg x≠0 then mB S cu cg x else mV S cu cg (a++r) e)=mV S cu cg r e;rw[ac (by rw[h x (bY ..)];decide)];exact ih fun y hy=>h y (cf _ hy)
theorem VS {b:au} {q:List (au×Int)} {y:au×Int} (h:q++[y] <+: told l b e) (hq:∀z∈q,z.2=0/\mB S cu cg z.1=0) :
  (y.2≠0->mV S cu cg l e=y.2)/\(y.2=0->mB S cu cg y.1≠0->mV S cu cg l e=mB S cu cg y.1):=by
 constructor
 ·intro hy
  obtain⟨e1,_,e3⟩:=Qe h hy;have hl:∀x∈l,mB S cu cg x=0:=fun x hx=>(hq (x,0) (by rw[e3];exact vX hx)).2
  have:=se l [] e hl;rw[iR]at this;rw[this,e1];rfl
 ·intro hy hne
  have hp : q++[y] <+: l.map fun x=>(x,(0:Int)):=by
   unfold told at h;split at h
   ·rw[iR]at h;exact h
   ·rename_i he
    rcases JF.1 h with h1|h1
    ·have h2:=(JG h1 rfl).2
     injection h2 with h2;rw[h2]at hy;exact absurd hy he
    ·exact h1
  obtain ⟨r,hr⟩:=hp;have hm:=nu (List.map Prod.fst) hr;have ei:(Prod.fst∘fun x:au=>(x,(0:Int)))=id:=rfl;rw[vW,ei,DS,lG,lG]at hm;rw[<-hm,l6,se _ _ _ (fun x hx=>by
   obtain⟨z,hz,rfl⟩:=fH.1 hx;exact (hq z hz).2)]
  show mV S cu cg (y.1::r.map Prod.fst) e=_;unfold mV;rw[af hne]
def L_ (W1:World) (N k b:Nat) (cu cg dir:Int) (nm:List UInt8) (S:ag) (O:List Nat) (pre:List (au×Int)) (V:World):Prop:=
 Ext W1 V/\Fs V k b cu cg dir nm/\(∀y∈pre,y.2=0/\mB S cu cg y.1=0)/\(∀x∈O,N<=x)/\N<=V.heap.size
theorem L_.bears {W1:World} (h1:W1.heap.size<=N) (h2:k+3<N):Ur N (L_ W1 N k b cu cg dir nm S):=by
 rintro O pre V O' R V' ⟨a1,a2,a3,a4,a5⟩ o hR hO Jk;have hL:∀x∈O++R,N<=x:=fun x hx=>by
  rcases dn.1 hx with hx|hx
  ·exact a4 x hx
  ·exact (hR x hx).1
 refine⟨o.after a1 fun x hx=>by have:=hL x hx;omega,a2.only o fun x hx=>.inr (by have:=hL x hx;omega),a3,fun x hx=>?_,by have:=o.size;omega⟩;rcases hO x hx with e|e
 ·exact a4 x e
 ·omega
def abF (w:World) (b8:Nat) (cu cg:Int) (S:ag) (cc:Code) (pre:List (au×Int)) (V:World):Prop:=
 cc=.ret/\Ext w V/\∃q y,∃v:Int,pre=q++[y]/\(∀z∈q,z.2=0/\mB S cu cg z.1=0)/\Has V b8 (.cells #[v] 47)/\((y.2≠0/\v=y.2)\/(y.2=0/\mB S cu cg y.1≠0/\v=mB S cu cg y.1))
theorem PS.FH (h:PS w B b g s) (hs:d_ c s) (hc:c<=900) (cu cg dir:Int) (nm:List UInt8) (l:List au) (b0:au) (e0:Int) (hT:Bk s cu cg dir nm l b0 e0) (hlen:l.length<=1000) :
  Calls prog 26 #[((),b),.agg #[cu,cg],dir,bs nm] w (aO w (.int .i64 (mV s.t cu cg l e0))):=by
 refine (km (n:=4)).1 ?_;obtain⟨F,hF⟩:=ai Fence.wide;have hro:F.round=none:=by rw[hF];rfl
 have Rk:F.fn 26:=by rw[hF];trivial
 have JS:F.fn 41:=by rw[hF];trivial
 have hf3:F.fn 86:=by rw[hF];trivial
 have hf4:F.fn 51:=by rw[hF];trivial
 have hf5:F.fn 52:=by rw[hF];trivial
 have KD:=fun (W:World)=>Yg F 3 JS hro b cu cg dir nm W
 have KN:Hid (∀(lb m:Nat) (n:ak) (A:Option Addr) (cc:Nat) (u:World),CallsIn (F.inRound lb) m prog 51 #[.agg #[cu,cg],.agg (n,A,cc),.int .i64 3] u (aO u (.bool (fh cu cg n.uid n.gid n.mode 3)))):=by
  show ∀_ _ _ _ _ _,_;intro lb m n A cc u;rw[hF];exact CallsIn.inRound lb (km.2 (pJ cu cg _ _ _ _ _ _ _ _ _ _ _ _ 3 u))
 have KF:Hid (∀(lb m:Nat) (n n2:ak) (A A2:Option Addr) (cc c2:Nat) (u:World),CallsIn (F.inRound lb) m prog 52 #[.agg #[cu,cg],.agg (n,A,cc),.agg (n2,A2,c2)] u (aO u (.bool (gR cu n.mode n.uid n2.uid)))):=by
  show ∀_ _ _ _ _ _ _ _ _,_;intro lb m n n2 A A2 cc c2 u;rw[hF];exact CallsIn.inRound lb (km.2 (CR cu cg _ _ _ _ _ _ _ _ _ _ _ _ _ _ _ _ _ _ _ _ _ _ _ _ u))
 rw[<-hF];have HF:=zH hF;clear hF;refine Ee func26 rfl Rk ?_ hro;simp only[ntmps26,lA,bk,gj,Nat.reduceAdd,Nat.reduceSub,o_,pd,pg,ph,jG,oo];gi_wp2_with (gi_at_call 41;refine (KD _).mono ?_;rintro e w3 ⟨rfl,C3,E3,Z3⟩);obtain⟨W1,cA⟩:=ai (((w.alloc (.cells #[((),b)] 33)).alloc (.cells #[cu,cg] 27)).alloc (.cells #[()] 47));obtain⟨b4,qA⟩:=ai w.heap.size;obtain⟨b5,fu⟩:=ai (w.heap.size+1);obtain⟨b8,gH⟩:=ai (w.heap.size+1+1);obtain⟨k,hk⟩:=ai (w.heap.size+1+1+1);have hs1:W1.heap.size=k:=by rw[cA,hk];simp
 have E1:Ext w W1:=by rw[cA];exact (((Ext.refl _).alloc _).alloc _).alloc _
 have H4:Has W1 b4 (.cells #[((),b)] 33):=by
  rw[cA,qA];exact ((Has.new w _).alloc _).alloc _
 have H5:Has W1 b5 (.cells #[cu,cg] 27):=by
  rw[cA,fu];have:=Has.new (w.alloc (.cells #[((),b)] 33)) (.cells #[cu,cg] 27);rw[bi]at this;exact this.alloc _
 have H8:Has W1 b8 (.cells #[()] 47):=by
  rw[cA,gH];have:=Has.new ((w.alloc (.cells #[((),b)] 33)).alloc (.cells #[cu,cg] 27)) (.cells #[()] 47);simp only[bi]at this;exact this
 rw[<-cA]at E3 C3 Z3;rw[hs1]at C3 Z3;rw[<-hk,<-gH,<-fu,<-qA];obtain⟨N,hN⟩:=ai w3.heap.size;have afj:N<=k+4:=by rw[hN,Z3];exact aE _
 have afk:k+4<=N:=by rw[hN,Z3];exact aE _
 have l1:w.heap.size<=b4:=by omega
 have l2:b4<b5:=by omega
 have l3:b5<b8:=by omega
 have l4:b8<k:=by omega
 have agd:W1.heap.size<=k:=by rw[hs1];exact aE _
 have HN:=zH hN;have BR:N<=w3.heap.size:=by rw[hN];exact aE _
 have ZZ:w3.heap.size<=N:=by rw[hN];exact aE _
 have Fp:=zH (h.ext E1);have Yn:=zH E1;have HH4:=zH H4;have HH5:=zH H5;have HH8:=zH H8;have HTD:=zH hs.fN.ae;have X_:(told l b0 e0).length<=1001:=by have:=Ic l b0 e0;omega
 have KS:=UE (c:=c) F HF.o (4-1) (by omega) B b g s hs hc k cu cg dir nm l b0 e0 hT hlen w3;clear cA qA fu gH hk H4 H5 H8 E1 h hs hT KD hs1 Z3 hN;refine vB hro (by omega) (gf:=86) (lb:=#[((),k),.pointer (some ⟨k+1,0,none⟩),.pointer (some ⟨k+2,0,none⟩),.pointer (some ⟨k+3,0,none⟩)]) rfl hf3 (enters_of func86 (by kernel_rfl) rfl) KS (aE _) (fun _=>rfl)
  (L_ W1 N k b cu cg dir nm s.t)
  (abF w b8 cu cg s.t)
  (by rw[<-HN.o];exact L_.bears (by omega) (by omega))
  (by rintro cc pre V R V' ⟨a1,a2,q,y,v,a3,a4,a5,a6⟩ o hR;exact⟨a1,o.after a2 (fun x hx=>by have:=(hR x hx).1;omega),q,y,v,a3,a4,o.has a5 (fun hm=>by have:=(hR _ hm).1;omega),a6⟩)
  (fun O pre V hI=>⟨Fp.o.ext hI.1,hI.2.1⟩)
  ⟨E3,C3,fun y hy=>(by cases hy),fun x hx=>(by cases hx),BR⟩
  (fun x a' V=>∃Bx,N<=Bx/\Has V Bx (.cells #[x.1.dir,bs x.1.name,x.1.no,x.1.depth] 41)/\a'={tmps:=#[.pointer (some ⟨b,0,none⟩),.agg #[cu,cg],.int .i64 dir,.string (bs nm),.pointer (some ⟨b4,0,none⟩),.pointer (some ⟨b5,0,none⟩),undef,undef,.pointer (some ⟨b8,0,none⟩),.pointer (some ⟨Bx,0,none⟩),.int .i64 x.2,undef,undef,undef,undef,.pointer (some ⟨b,0,none⟩),.agg #[cu,cg],.int .i64 dir,.string (bs nm),.func (.func 86) #[] #[((),k),.pointer (some ⟨k+1,0,none⟩),.pointer (some ⟨k+2,0,none⟩),.pointer (some ⟨k+3,0,none⟩)],.agg #[x.1.dir,bs x.1.name,x.1.no,x.1.depth],.int .i64 x.2,undef,undef,undef,undef,undef,undef,undef,undef,undef,undef,undef,undef,undef,undef,undef,undef,undef,undef,undef,undef,undef,undef,undef,undef,undef,undef,undef,undef,undef,undef,undef,undef,undef,undef,undef,undef,undef,undef,undef,undef],defers:=[]})
  ?hax ?assign ?body ?done ?stop
 case hax =>
  rintro x a' V l o o' ⟨Bx,h1,h2,rfl⟩ hl ho hc';refine⟨Bx,h1,?_,rfl⟩;have hne:Bx≠l:=fun e=>by subst e;unfold Has at h2;rw[h2]at ho;cases ho;cases hc'
  exact (oI hne).trans h2
 case assign =>
  rintro lp O pre x V K hI hG Lp hK;gi_wp2;refine hK _ _ ((KeepsOthers.alloc _ _).from _) ((Only.lh [] V _).Nf (fun b hb=>(Lp b hb).lt) (fun _ _=>by simp)) ?_ ⟨V.heap.size,hI.2.2.2.2,Has.new _ _,rfl⟩;exact (L_.bears (W1:=W1) (N:=N) (by omega) (by omega)) O pre V O [] _ hI (by rw[iR];exact Only.lh _ _ _) (fun r hr=>by cases hr) (fun x hx=>.inl hx) (fun x hx=>(Lp x hx).ext ((Ext.refl V).alloc _))
 case body =>
  rintro lp O pre x a' V hI ⟨Bx,hBx,QR,rfl⟩ hG Lp;rw[<-HN.o];have HI:=zH hI;have HOB:=zH Lp;obtain⟨a1,_,a3,a4,a5⟩:=hI;have P0:=Fp.o.ext a1;have V4:=HH4.o.ext a1;have V5:=HH5.o.ext a1;have V8:=HH8.o.ext a1;have m8:∀y∈[b8],y=b8:=fun y hy=>by simpa using hy
  have HX:Hid (∀(V1:World) (v:Int),Ext V V1->((x.2≠0/\v=x.2)\/(x.2=0/\mB s.t cu cg x.1≠0/\v=mB s.t cu cg x.1))->Ia N (L_ W1 N k b cu cg dir nm s.t) (abF w b8 cu cg s.t) O (pre++[x]) V .ret {tmps:=#[],defers:=[]} (V1.setCell (b8,0) (.int .i64 v))):=by
   show ∀_ _ _ _,_;intro V1 v hE hv;have o8:Only [b8] V1 (V1.setCell (b8,0) (.int .i64 v)):=Only.setCell _ _ _ _;have o9:Only [b8] V (V1.setCell (b8,0) (.int .i64 v)):=(Only.az hE).then o8;exact⟨o9.pO (fun y hy=>.inl (by have:=m8 y hy;omega)),rfl,o9.after (Yn.o.trans a1) (fun y hy=>by have:=m8 y hy;omega),pre,x,v,rfl,a3,Has.setCell (V8.ext hE) 0 _,hv⟩
  have HZ:Hid (∀V1:World,Ext V V1->x.2=0->mB s.t cu cg x.1=0->Ia N (L_ W1 N k b cu cg dir nm s.t) (abF w b8 cu cg s.t) O (pre++[x]) V .normal {tmps:=#[],defers:=[]} V1):=by
   show ∀_ _ _ _,_;intro V1 hE h1 h2;refine⟨(Only.az (L:=[]) hE).pO (fun y hy=>by cases hy),(Only.az (L:=[]) hE).Nf (fun y hy=>(HOB.o y hy).lt) (fun _ _=>by simp),a1.trans hE,HI.o.2.1.only (Only.az (L:=[]) hE) (fun y hy=>by cases hy),fun y hy=>?_,a4,by have:=hE.size;omega⟩;rcases dn.1 hy with hy|hy
   ·exact a3 y hy
   ·rw[ax]at hy;subst hy;exact⟨h1,h2⟩
  by_cases aX:x.2=0
  case neg =>
   have t0:(x.2 != 0)=true:=by simpa using aX
   have c8:=V8.cell 0;have f8:=V8.free 0;have z8:=V8.lt;have H9:=zH (HX.o V x.2 (Ext.refl V) (.inl ⟨aX,rfl⟩));clear aX a1 a3 a4 a5 P0 V4 V5 V8 QR hG Lp HX HZ;gi_wp2;exact H9.o
  have t0:(x.2 != 0)=false:=by simpa using aX
  have Dc:=zH aX;have hW:=P0.wat;obtain⟨A1,cc1,tS,KG1⟩:=nI B g s.t x.1.dir V hW;obtain⟨n1,yG⟩:=ai (aa s.t.nodes x.1.dir);rw[<-yG]at tS KG1;have YP:=zH KG1;have ME:=zH yG;obtain⟨AP,afl,Z1⟩:∃A cap,eW V b g s.now s.count A s.plan.length cap s.dead:=by obtain⟨A,cap,hp⟩:=P0;exact⟨A,cap,hp.2.1⟩
  obtain⟨_,_,cd,Z2,_⟩:=id hW;have u4:∀u:Gr V,u.w.cell? (b4,0)=some (.pointer (some ⟨b,0,none⟩)):=Gr.cell V4.lt (V4.cell 0);have ub:∀u:Gr V,u.w.cell? (b,0)=some (.pointer (some ⟨g.bW,0,none⟩)):=Gr.cell (Has.lt Z1) (Has.cell Z1 0);have uw:∀u:Gr V,u.w.cell? (g.bW,0)=some (.pointer (some ⟨g.bT,0,none⟩)):=Gr.cell Z2.lt (Z2.cell 0);have ux:∀u:Gr V,u.w.cell? (Bx,0)=some (.int .i64 x.1.dir):=Gr.cell QR.lt (QR.cell 0);have HV4:=zH V4;have HV5:=zH V5;have HV8:=zH V8;have HXB:=zH QR;have HSA:=zH Z1;have HWW:=zH Z2;have HW:=zH hW;clear aX yG KG1 tS a1 a3 a4 a5 P0 Z1 Z2 hW V4 V5 V8 QR hG Lp;gi_upto_region 6 with fail;refine pV HF.o V 13 14 11 36 n1 A1 cc1 _ _ (by kernel_rfl) (by kernel_rfl) (by kernel_rfl) rfl rfl rfl rfl (by simp) ((Ext.refl _).drew) ?_;simp only[qG,oH,qH,jN,p9]
  repeat (
      refine cH (fun K hK=>?_);go_simp
      first
       | (refine hK _ ?_;clear hK K)
       | (
         apply Exists.intro;refine⟨fun u=>?_,hK _ ?_⟩
         first
          | ((with_reducible refine (YP.o _ u.h).mono ?_);rintro e w'' ⟨rfl,hx⟩;exact⟨rfl,hx⟩)
         clear hK K))
  refine bc ?_;refine bc ⟨rfl,?_⟩;refine cH (fun K hK=>?_);go_simp;refine hK _ ?_;clear hK K;refine bc ?_;intro w4 dI E4 fj N4;simp only[Act.put];clear u4 ub uw ux;obtain⟨A2,cc2,gG,KG2⟩:=nI B g s.t x.1.no w4 (HW.o.ext E4);obtain⟨n2,ug⟩:=ai (aa s.t.nodes x.1.no);rw[<-ug]at gG KG2;have YQ:=zH KG2;have JU:=zH ug;have u4:∀u:Gr w4,u.w.cell? (b4,0)=some (.pointer (some ⟨b,0,none⟩)):=Gr.cell (HV4.o.ext E4).lt ((HV4.o.ext E4).cell 0);have ub:∀u:Gr w4,u.w.cell? (b,0)=some (.pointer (some ⟨g.bW,0,none⟩)):=Gr.cell (Has.lt (HSA.o.ext E4)) (Has.cell (HSA.o.ext E4) 0);have uw:∀u:Gr w4,u.w.cell? (g.bW,0)=some (.pointer (some ⟨g.bT,0,none⟩)):=Gr.cell (HWW.o.ext E4).lt ((HWW.o.ext E4).cell 0);have ux:∀u:Gr w4,u.w.cell? (Bx,2)=some (.int .i64 x.1.no):=Gr.cell (HXB.o.ext E4).lt ((HXB.o.ext E4).cell 2);have HE4:=zH E4;have Rt:=zH N4;clear gG KG2 ug E4 N4;gi_upto_region 7 with fail;refine pV HF.o w4 13 14 13 49 n2 A2 cc2 _ _ (by kernel_rfl) (by kernel_rfl) (by kernel_rfl) rfl rfl rfl rfl (by simp) ((Ext.refl _).drew) ?_;simp only[qG,oH,qH,jN,p9]
  repeat (
      refine cH (fun K hK=>?_);go_simp
      first
       | (refine hK _ ?_;clear hK K)
       | (
         apply Exists.intro;refine⟨fun u=>?_,hK _ ?_⟩
         first
          | ((with_reducible refine (YQ.o _ u.h).mono ?_);rintro e w'' ⟨rfl,hx⟩;exact⟨rfl,hx⟩)
         clear hK K))
  refine bc ?_;refine bc ⟨rfl,?_⟩;refine cH (fun K hK=>?_);go_simp;refine hK _ ?_;clear hK K;refine bc ?_;intro w5 mG E5 sQ N5;simp only[Act.put];clear u4 ub uw ux;have HE5:=zH (HE4.o.trans E5);have D5:=HV5.o.ext HE5.o;have D8:=HV8.o.ext HE5.o;have c5:=aA D5 0 rfl;have c51:=aA D5 1 rfl;have z5:=D5.lt;obtain⟨x0,x1,x2,x3,x4,x5,x6,x7,x8,x9,kC,kn⟩:=(Rt.o.ext E5).da;have zx:=(Rt.o.ext E5).lt;obtain⟨y0,y1,y2,y3,y4,y5,y6,y7,y8,y9,pY,nL⟩:=N5.da;have zy:=N5.lt;have HD5:=zH D5;have HD8:=zH D8;have HM:Hid (mB s.t cu cg x.1=if fh cu cg n1.uid n1.gid n1.mode 3=false then 6 else if gR cu n1.mode n1.uid n2.uid=false then 4 else 0):=by
   show _=_;rw[ME.o,JU.o];rfl
  have adz:=zH E5;have YR:=zH N5;clear D5 D8 N5 E5;gi_upto_if 51 with (gi_at_call 51;refine (KN.o _ _ n1 A1 cc1 _).mono ?_;rintro e w6 ⟨rfl,b6⟩);have Km:=zH (HE5.o.trans b6)
  cases hm:fh cu cg n1.uid n1.gid n1.mode 3 with
  | false =>
   have hv:mB s.t cu cg x.1=6:=by rw[HM.o,af hm]
   have H9:=zH (HX.o w6 6 Km.o (.inr ⟨Dc.o,by rw[hv];decide,hv.symm⟩));have Q8:=HV8.o.ext Km.o;have c8:=Q8.cell 0;have f8:=Q8.free 0;have z8:=Q8.lt;clear Q8 hv c5 c51 z5 x0 x1 x2 x3 x4 x5 x6 x7 x8 x9 kC kn zx y0 y1 y2 y3 y4 y5 y6 y7 y8 y9 pY nL zy;gi_wp2;exact H9.o
  | true =>
   have Q5:=HD5.o.ext b6;have c5:=aA Q5 0 rfl;have c51:=aA Q5 1 rfl;have z5:=Q5.lt;obtain⟨x0,x1,x2,x3,x4,x5,x6,x7,x8,x9,kC,kn⟩:=((Rt.o.ext adz.o).ext b6).da;have zx:=((Rt.o.ext adz.o).ext b6).lt;obtain⟨y0,y1,y2,y3,y4,y5,y6,y7,y8,y9,pY,nL⟩:=(YR.o.ext b6).da;have zy:=(YR.o.ext b6).lt;clear Q5;gi_upto_if 56 with (gi_at_call 52;refine (KF.o _ _ n1 n2 A1 A2 cc1 cc2 _).mono ?_;rintro e w7 ⟨rfl,b7⟩);have Nw:=zH (Km.o.trans b7)
   cases hf:gR cu n1.mode n1.uid n2.uid with
   | false =>
    have hv:mB s.t cu cg x.1=4:=by rw[HM.o,ac (by rw[hm];decide),af hf]
    have H9:=zH (HX.o w7 4 Nw.o (.inr ⟨Dc.o,by rw[hv];decide,hv.symm⟩));have Q8:=HV8.o.ext Nw.o;have c8:=Q8.cell 0;have f8:=Q8.free 0;have z8:=Q8.lt;clear Q8 hv c5 c51 z5 x0 x1 x2 x3 x4 x5 x6 x7 x8 x9 kC kn zx y0 y1 y2 y3 y4 y5 y6 y7 y8 y9 pY nL zy;gi_wp2;exact H9.o
   | true =>
    have hv:mB s.t cu cg x.1=0:=by rw[HM.o,ac (by rw[hm];decide),ac (by rw[hf];decide)]
    have H9:=zH (HZ.o w7 Nw.o Dc.o hv);clear hv c5 c51 z5 x0 x1 x2 x3 x4 x5 x6 x7 x8 x9 kC kn zx y0 y1 y2 y3 y4 y5 y6 y7 y8 y9 pY nL zy;gi_wp2;exact H9.o
 case done =>
  rintro D O xs V hD hxs hI hK;subst hxs;obtain⟨a1,a2,a3,a4,a5⟩:=hI;obtain⟨h0,hmap⟩:=Qd (l:=l) (b:=b0) (e:=e0) (fun y hy=>(a3 y hy).1);have hE:mV s.t cu cg l e0=0:=by
   have:=se (S:=s.t) (cu:=cu) (cg:=cg) l [] e0 (fun y hy=>by
    rw[<-hmap]at hy;obtain⟨z,hz,rfl⟩:=fH.1 hy;exact (a3 z hz).2)
   rw[iR]at this;rw[this,h0];rfl
  have V8:=HH8.o.ext a1;have c8:=V8.cell 0;have f8:=V8.free 0;have z8:=V8.lt;have HV8:=zH V8;have HK:=zH hK;have HQ:=zH hE;have HEW:=zH (Yn.o.trans a1);clear a1 a2 a3 a4 a5 hK hE h0 hmap V8;gi_wp2;obtain⟨V2,oM⟩:=ai (V.setCell (b8,0) (.int .i64 0));rw[<-oM];have o2:Only [b8] V V2:=by rw[oM];exact Only.setCell V b8 0 _
  have q8:Has V2 b8 (.cells #[()] 47):=by rw[oM];exact Has.setCell HV8.o 0 _
  have hK2:=o2.has HK.o (by simp;omega);refine⟨by simp,.inl ⟨_,_,rfl,wl hK2,?_⟩⟩;have o3:Only [b8,D] V (V2.putObj D (.deferred none)):=(o2.mono (by simp)).then ((Only.putObj V2 D _).mono (by simp));have r8:=((Only.putObj V2 D (.deferred none)).has q8 (by simp;omega)).cell 0;have m8:∀y∈[b8,D],y=b8\/y=D:=fun y hy=>by simpa using hy
  refine⟨.int .i64 0,by simp[results,results26,go_sem,r8],?_⟩;exact aO.mk (by rw[HQ.o]) (o3.after HEW.o (fun y hy=>by rcases m8 y hy with e|e<;>omega))
 case stop =>
  rintro D cc pre V hD hp ⟨rfl,hE,q,y,v,rfl,hq,h8,hv⟩ hK;obtain⟨e1,e2⟩:=VS hp hq;have hve:v=mV s.t cu cg l e0:=by
   rcases hv with⟨k1,k2⟩|⟨k1,k2,k3⟩
   ·rw[k2];exact (e1 k1).symm
   ·rw[k3];exact (e2 k1 k2).symm
  have EV:=hE;gi_wp2;refine⟨by simp,.inl ⟨_,_,rfl,wl hK,?_⟩⟩;have r8:=((Only.putObj V D (.deferred none)).has h8 (by simp;omega)).cell 0;refine⟨.int .i64 v,by simp[results,results26,go_sem,r8],?_⟩;exact aO.mk (by rw[hve]) ((Only.putObj V D _).after EV (fun x hx=>by simp at hx;omega))
end
section
def yC (w:World) (B b:Nat) (g:dL) (s':aH) (x:Int) (e:Ending) (w':World):Prop:=e=.returned (.int .i64 x)/\PS w' B b g s'/\Only (b::g.list) w w'
theorem I5 (h:gY s (dQ s.t x.no)≠0):kS s cu cg x=gY s (dQ s.t x.no)/\jX s cu cg x=s:=⟨by unfold kS;rw[af h],by unfold jX;rw[af h]⟩
theorem Nx (h:gY s (dQ s.t x.no)=0) (hk:(vA s (aa s.t.nodes x.no)).kind=1):s.dead=false/\kS s cu cg x=yw s cu cg (.j8 x.dir x.name)/\jX s cu cg x=ul s cu cg (.j8 x.dir x.name):=by
 have hd:s.dead=false:=by
  rcases fy s x.no with⟨_,h2,_⟩|⟨h2,_⟩
  ·exact h2
  ·exact absurd h h2
 have e:vA s (aa s.t.nodes x.no)=aa s.t.nodes x.no:=by unfold vA;rw[ac (by rw[hd];decide)]
 rw[e]at hk;refine⟨hd,?_,?_⟩
 ·unfold kS IR;rw[ac (fun k=>k h),af hk]
 ·unfold jX IR;rw[ac (fun k=>k h),af hk]
theorem I6 (h:gY s (dQ s.t x.no)=0) (hk:¬(vA s (aa s.t.nodes x.no)).kind=1):s.dead=false/\kS s cu cg x=yw s cu cg (.unlink x.dir x.name)/\jX s cu cg x=ul s cu cg (.unlink x.dir x.name):=by
 have hd:s.dead=false:=by
  rcases fy s x.no with⟨_,h2,_⟩|⟨h2,_⟩
  ·exact h2
  ·exact absurd h h2
 have e:vA s (aa s.t.nodes x.no)=aa s.t.nodes x.no:=by unfold vA;rw[ac (by rw[hd];decide)]
 rw[e]at hk;refine⟨hd,?_,?_⟩
 ·unfold kS IR;rw[ac (fun k=>k h),ac hk]
 ·unfold jX IR;rw[ac (fun k=>k h),ac hk]
theorem PS.adA (h:PS w B b g s) (hs:d_ c s) (hc:c<=900) (cu cg:Int) (x:au) :
  Calls prog 53 #[((),b),.agg #[cu,cg],.agg #[x.dir,bs x.name,x.no,x.depth]] w (yC w B b g (jX s cu cg x) (kS s cu cg x)):=by
 obtain⟨W0,aJ⟩:=ai ((w.alloc (.cells #[cu,cg] 27)).alloc (.cells #[x.dir,bs x.name,x.no,x.depth] 41));obtain⟨b4,qA⟩:=ai w.heap.size;obtain⟨b5,fu⟩:=ai (w.heap.size+1);have E0:Ext w W0:=by rw[aJ];exact ((Ext.refl _).alloc _).alloc _
 have X0:Has W0 b5 (.cells #[x.dir,bs x.name,x.no,x.depth] 41):=by rw[aJ,fu];have:=Has.new (w.alloc (.cells #[cu,cg] 27)) (.cells #[x.dir,bs x.name,x.no,x.depth] 41);rw[bi]at this;exact this
 have C0:Has W0 b4 (.cells #[cu,cg] 27):=by rw[aJ,qA];exact (Has.new w _).alloc _
 have h0:=h.ext E0;obtain⟨e1,m_⟩:=ai (gY s (dQ s.t x.no));obtain⟨m1,ig⟩:=ai (vA s (aa s.t.nodes x.no));have K1:Hid (∀u,Ext W0 u->Calls prog 45 #[((),b),x.no] u (aO u (.tuple #[iU m1,e1]))):=by
  show ∀u,_;intro u hu;rw[ig,m_];exact (h0.ext hu).stat hs x.no
 obtain⟨S',YS⟩:=ai (jX s cu cg x);obtain⟨E',hE'⟩:=ai (kS s cu cg x);have N1:Hid (e1≠0->E'=e1/\S'=s):=fun k=>by rw[m_]at k|-;rw[hE',YS];exact I5 k
 have K2:Hid (e1=0->m1.kind=1->∀u,Ext W0 u->Calls prog 97 #[((),b),.agg #[cu,cg],x.dir,bs x.name] u (yC u B b g S' E')):=by
  show _->_->∀_,_;intro k1 k2 u hu;rw[m_]at k1;rw[ig]at k2;obtain⟨q1,q2,q3⟩:=Nx (cu:=cu) (cg:=cg) k1 k2;rw[YS,hE',q2,q3];exact (h0.ext hu).j8 hs hc q1 cu cg x.dir x.name
 have K3:Hid (e1=0->¬m1.kind=1->∀u,Ext W0 u->Calls prog 98 #[((),b),.agg #[cu,cg],x.dir,bs x.name] u (yC u B b g S' E')):=by
  show _->_->∀_,_;intro k1 k2 u hu;rw[m_]at k1;rw[ig]at k2;obtain⟨q1,q2,q3⟩:=I6 (cu:=cu) (cg:=cg) k1 k2;rw[YS,hE',q2,q3];exact (h0.ext hu).unlink hs hc q1 cu cg x.dir x.name
 rw[<-YS,<-hE'];have H0:=zH h0;have c0:=C0.cell 0;have c1:=C0.cell 1;have cz:=C0.lt;have x0:=aA X0 0 rfl;have x1:=aA X0 1 rfl;have x2:=aA X0 2 rfl;have xz:=X0.lt;clear h h0 hs m_ ig YS hE';go_in;go_upto_region 1 with fail;rw[show (w.alloc _).alloc _=W0 from aJ.symm,<-fu,<-qA];clear aJ qA fu;unfold iU at K1;go_upto_region 2 with (refine (K1.o _ (Ext.refl _)).mono ?_;rintro e w1 ⟨rfl,b1⟩);obtain⟨W1,cA⟩:=ai (w1.alloc (.cells #[m1.no,m1.dev,m1.kind,m1.mode,m1.uid,m1.gid,m1.ar,m1.data.length,m1.mtime,m1.ctime] 95));obtain⟨b8,gH⟩:=ai w1.heap.size;have S1:Has W1 b8 (.cells #[m1.no,m1.dev,m1.kind,m1.mode,m1.uid,m1.gid,m1.ar,m1.data.length,m1.mtime,m1.ctime] 95):=by rw[cA,gH];exact Has.new _ _
 have E1:Ext W0 W1:=by rw[cA];exact b1.alloc _
 rw[<-cA,<-gH];clear cA gH b1 c0 c1 cz x0 x1 x2 xz K1
 by_cases k1:e1=0
 case neg =>
  have t1:(e1 != 0)=true:=by simpa using k1
  have H1:=zH (N1.o k1);clear k1 N1 K2 K3;go_wp2;go_ret;obtain⟨q1,q2⟩:=H1.o;rw[q1,q2];exact⟨rfl,H0.o.ext E1,Only.az (E0.trans E1)⟩
 have t1:(e1 != 0)=false:=by simpa using k1
 have c0:=(C0.ext E1).cell 0;have c1:=(C0.ext E1).cell 1;have cz:=(C0.ext E1).lt;have x0:=(X0.ext E1).cell 0;have x1:=(X0.ext E1).cell 1;have xz:=(X0.ext E1).lt;have y2:=S1.cell 2;have yz:=S1.lt;simp only[gA,gB,gC]at x0 x1 y2
 by_cases k2:m1.kind=1
 ·have t2:(m1.kind == 1)=true:=by simpa using k2
  have K:=zH (K2.o k1 k2);clear k1 k2 K2 K3 N1;go_wp2_with fail;refine (K.o _ E1).mono ?_;rintro e w2 ⟨rfl,P2,O2⟩;go_wp2;go_ret;exact⟨rfl,P2,Only.pre (E0.trans E1) O2⟩
 ·have t2:(m1.kind == 1)=false:=by simpa using k2
  have K:=zH (K3.o k1 k2);clear k1 k2 K2 K3 N1;go_wp2_with fail;refine (K.o _ E1).mono ?_;rintro e w2 ⟨rfl,P2,O2⟩;go_wp2;go_ret;exact⟨rfl,P2,Only.pre (E0.trans E1) O2⟩
attribute [local go_sem] ol
theorem Z4 (h:Pl c s) (cu cg:Int) (L:List (au×Int)):Pl (c+L.length) (oD cu cg s L):=by
 induction L generalizing s c with
 | nil=>exact h
 | cons x L ih=>exact (ih (h.one cu cg x.1)).mono (by rw[bk];omega)
theorem XZ.dJ {V:World} {R:List Nat} (h:XZ N R V) (hB:B<=N):dX V B R:=fun x hx=>by
 obtain⟨h1,o,h2,h3⟩:=h x hx;refine⟨by omega,?_,?_⟩<;>rintro⟨c,f,hc⟩<;>rw[hc]at h2<;>cases h2<;>cases h3
theorem QS {V:World} {O:List Nat} (h:∀x∈O,N<=x/\iF V x) (hB:B<=N):dX V B O:=fun x hx=>by
 obtain⟨h1,t,⟨c,f,hc⟩,h2,h3⟩:=h x hx;refine⟨by omega,?_,?_⟩<;>rintro⟨c2,f2,yD⟩<;>rw[hc]at yD<;>cases yD
 ·exact h2 rfl
 ·exact h3 rfl
def Ma (w:World) (N k b4 b5 b8 B b:Nat) (g:dL) (cu cg dir:Int) (nm:List UInt8) (s:aH) (O:List Nat) (pre:List (au×Int)) (V:World):Prop:=
 Only (b::g.list) w V/\PS V B b g (oD cu cg s pre)/\Fs V k b cu cg dir nm/\Has V b4 (.cells #[((),b)] 33)/\Has V b5 (.cells #[cu,cg] 27)/\Has V b8 (.cells #[()] 47)/\FV cu cg s pre/\(∀y∈pre,y.2=0)/\(∀x∈O,N<=x/\iF V x)/\N<=V.heap.size
theorem Ma.bears {b4 b5 b8:Nat} (h1:w.heap.size<=b4) (h2:k+3<N) (h4:b4<b5) (h5:b5<b8) (h8:b8<k) (hB:B<=w.heap.size) (hb:∀x∈b::g.list,x<w.heap.size):Ur N (Ma w N k b4 b5 b8 B b g cu cg dir nm s):=by
 rintro O pre V O' R V' ⟨a1,a2,a3,a4,a5,a6,a7,a8,a9,yp⟩ o hR hO Jk;have hL:∀x∈O++R,N<=x:=fun x hx=>by
  rcases dn.1 hx with hx|hx
  ·exact (a9 x hx).1
  ·exact (hR x hx).1
 refine⟨a1.trans o (fun x hx=>.inr (by have:=hL x hx;omega)),a2.only o ((QS a9 (by omega)).append (hR.dJ (by omega))) (fun x hx hm=>by have:=hL x hm;have:=hb x hx;omega),a3.only o fun x hx=>.inr (by have:=hL x hx;omega),o.has a4 (fun hm=>by have:=hL _ hm;omega),o.has a5 (fun hm=>by have:=hL _ hm;omega),o.has a6 (fun hm=>by have:=hL _ hm;omega),a7,a8,fun x hx=>⟨?_,Jk x hx⟩,by have:=o.size;omega⟩;rcases hO x hx with e|e
 ·exact (a9 x e).1
 ·omega
def QT (w:World) (b8 B b:Nat) (g:dL) (cu cg:Int) (s:aH) (cc:Code) (pre:List (au×Int)) (V:World):Prop:=
 cc=.ret/\∃q y,pre=q++[y]/\FV cu cg s q/\Only (b::g.list) w V/\((y.2≠0/\PS V B b g (oD cu cg s q)/\Has V b8 (.cells #[y.2] 47))\/(y.2=0/\kS (oD cu cg s q) cu cg y.1≠0/\PS V B b g (jX (oD cu cg s q) cu cg y.1)/\Has V b8 (.cells #[.int .i64 (kS (oD cu cg s q) cu cg y.1)] 47)))
theorem QT.bears {b8:Nat} {cc:Code} (h1:w.heap.size<=b8) (h8:b8<N) (hB:B<=w.heap.size) (hb:∀x∈b::g.list,x<w.heap.size):Us N (QT w b8 B b g cu cg s cc):=by
 rintro pre V R V' ⟨a1,q,y,a2,a3,a4,a5⟩ o hR;have hL:∀x∈R,N<=x:=fun x hx=>(hR x hx).1
 refine⟨a1,q,y,a2,a3,a4.trans o (fun x hx=>.inr (by have:=hL x hx;omega)),?_⟩;rcases a5 with⟨c1,c2,c3⟩|⟨c1,c2,c3,c4⟩
 ·exact .inl ⟨c1,c2.only o (hR.dJ (by omega)) (fun x hx hm=>by have:=hL x hm;have:=hb x hx;omega),o.has c3 (fun hm=>by have:=hL _ hm;omega)⟩
 ·exact .inr ⟨c1,c2,c3.only o (hR.dJ (by omega)) (fun x hx hm=>by have:=hL x hm;have:=hb x hx;omega),o.has c4 (fun hm=>by have:=hL _ hm;omega)⟩
theorem xB.stop {q:List (au×Int)} {y:au×Int} (h:xB s cu cg dir nm s' e L k) (hp:q++[y] <+: L) (hy:y.2≠0\/(y.2=0/\kS (oD cu cg s q) cu cg y.1≠0)) :
  (y.2≠0->e=y.2/\s'=oD cu cg s q)/\(y.2=0->e=kS (oD cu cg s q) cu cg y.1/\s'=jX (oD cu cg s q) cu cg y.1):=by
 have bB:∀M:List (au×Int),q++[y] <+: M->FV cu cg s M->(∀z∈M,z.2=0)->False:=fun M hM h1 h2=>by
  obtain⟨t,rfl⟩:=hM;have h3:=h2 y (by simp);have h4:=((jx ..).1 ((jx ..).1 h1).1).2.1;rcases hy with hy|⟨_,hy⟩
  ·exact hy h3
  ·exact hy h4
 rcases h.LX with⟨_,h1,_,h2⟩|⟨h0,q2,y2,rfl,h1,h2,h3⟩
 ·exact absurd (bB L hp h1 h2) id
 ·rcases JF.1 hp with h4|h4
  ·have h5:=JG h4 rfl
   obtain⟨rfl,h6⟩:=h5;injection h6 with h6;subst h6;refine⟨fun k1=>?_,fun k1=>?_⟩
   ·rcases h3 with⟨c1,c2⟩|⟨c1,_⟩
    ·exact⟨c1.symm,c2⟩
    ·exact absurd c1 k1
   ·rcases h3 with⟨c1,_⟩|⟨_,c2,c3⟩
    ·exact absurd (c1.symm.trans k1) h0
    ·exact⟨c2.symm,c3⟩
  ·exact absurd (bB q2 h4 h1 h2) id
theorem xB.done (h:xB s cu cg dir nm s' e L k) (hg:FV cu cg s L) (hz:∀y∈L,y.2=0):e=0/\s'=oD cu cg s L:=by
 rcases h.LX with⟨h0,_,h2,_⟩|⟨h0,q,y,rfl,h1,h2,h3⟩
 ·exact⟨h0,h2.symm⟩
 ·exfalso
  have h4:=hz y (by simp);have h5:=((jx ..).1 hg).2.1;rcases h3 with⟨c1,_⟩|⟨_,c2,_⟩
  ·exact h0 (c1.symm.trans h4)
  ·exact h0 (c2.symm.trans h5)
theorem PS.sJ (h:PS w B b g s) (hp:Pl c s) (cu cg dir:Int) (nm:List UInt8) (s':aH) (e':Int) (L:List (au×Int)) (kk:Nat) (hT:xB s cu cg dir nm s' e' L kk) (hc:c+L.length<=900) (rC:kk<=100000) :
  Calls prog 27 #[((),b),.agg #[cu,cg],dir,bs nm] w (yC w B b g s' e'):=by
 refine (km (n:=4)).1 ?_;obtain⟨F,hF⟩:=ai Fence.wide;have hro:F.round=none:=by rw[hF];rfl
 have Rk:F.fn 27:=by rw[hF];trivial
 have JS:F.fn 42:=by rw[hF];trivial
 have hf3:F.fn 89:=by rw[hF];trivial
 have hf4:F.fn 53:=by rw[hF];trivial
 have KD:=fun (W:World)=>acY F 3 JS hro b cu cg dir nm W
 have KO:Hid (∀(lb m:Nat) (u:World) (q:List (au×Int)) (x:au),q.length<=L.length->PS u B b g (oD cu cg s q)->CallsIn (F.inRound lb) m prog 53 #[((),b),.agg #[cu,cg],.agg #[x.dir,bs x.name,x.no,x.depth]] u (yC u B b g (jX (oD cu cg s q) cu cg x) (kS (oD cu cg s q) cu cg x))):=by
  show ∀_ _ _ _ _,_;intro lb m u q x hq hu;rw[hF];exact CallsIn.inRound lb (km.2 (hu.adA ((Z4 hp cu cg q).mono (by omega:c+q.length<=c+L.length)).fU hc cu cg x))
 rw[<-hF];have HF:=zH hF;clear hF;refine Ee func27 rfl Rk ?_ hro;simp only[ntmps27,lA,bk,gj,Nat.reduceAdd,Nat.reduceSub,o_,pd,pg,ph,jG,oo];gi_wp2_with (gi_at_call 42;refine (KD _).mono ?_;rintro e w3 ⟨rfl,C3,E3,Z3⟩);obtain⟨W1,cA⟩:=ai (((w.alloc (.cells #[((),b)] 33)).alloc (.cells #[cu,cg] 27)).alloc (.cells #[()] 47));obtain⟨b4,qA⟩:=ai w.heap.size;obtain⟨b5,fu⟩:=ai (w.heap.size+1);obtain⟨b8,gH⟩:=ai (w.heap.size+1+1);obtain⟨k,hk⟩:=ai (w.heap.size+1+1+1);have hs1:W1.heap.size=k:=by rw[cA,hk];simp
 have E1:Ext w W1:=by rw[cA];exact (((Ext.refl _).alloc _).alloc _).alloc _
 have H4:Has W1 b4 (.cells #[((),b)] 33):=by
  rw[cA,qA];exact ((Has.new w _).alloc _).alloc _
 have H5:Has W1 b5 (.cells #[cu,cg] 27):=by
  rw[cA,fu];have:=Has.new (w.alloc (.cells #[((),b)] 33)) (.cells #[cu,cg] 27);rw[bi]at this;exact this.alloc _
 have H8:Has W1 b8 (.cells #[()] 47):=by
  rw[cA,gH];have:=Has.new ((w.alloc (.cells #[((),b)] 33)).alloc (.cells #[cu,cg] 27)) (.cells #[()] 47);simp only[bi]at this;exact this
 rw[<-cA]at E3 C3 Z3;rw[hs1]at C3 Z3;rw[<-hk,<-gH,<-fu,<-qA];obtain⟨N,hN⟩:=ai w3.heap.size;have afj:N<=k+4:=by rw[hN,Z3];exact aE _
 have afk:k+4<=N:=by rw[hN,Z3];exact aE _
 have l1:w.heap.size<=b4:=by omega
 have l2:b4<b5:=by omega
 have l3:b5<b8:=by omega
 have l4:b8<k:=by omega
 have HN:=zH hN;have BR:N<=w3.heap.size:=by rw[hN];exact aE _
 have ZZ:w3.heap.size<=N:=by rw[hN];exact aE _
 have oV:Hid (∀x∈b::g.list,x<w.heap.size):=h.lt;have hBw:B<=w.heap.size:=by have h1:=(h.dJ b (bY ..)).1;have h2:=h.lt b (bY ..);omega
 have P3:PS w3 B b g s:=h.ext (E1.trans E3);have X3:Only (b::g.list) w w3:=Only.az (E1.trans E3);have H43:=H4.ext E3;have H53:=H5.ext E3;have H83:=H8.ext E3;obtain⟨M,hU,hM⟩:=hT.up;have HT:=zH hT;have KS:=abc (c:=c+L.length) F HF.o (4-1) (by omega) b (oD cu cg s) (FV cu cg s) k cu cg dir nm M L (fun pre jT=>((Z4 hp cu cg pre).mono (by have:=jT.length_le;omega:c+pre.length<=c+L.length)).fU) hc hU (by omega) w3;clear cA qA fu gH hk H4 H5 H8 E1 h hp hT KD hs1 Z3 hN hU hM;refine vB hro (by omega) (gf:=89) (lb:=#[((),k),.pointer (some ⟨k+1,0,none⟩),.pointer (some ⟨k+2,0,none⟩),.pointer (some ⟨k+3,0,none⟩)]) rfl hf3 (enters_of func89 (by kernel_rfl) rfl) KS (aE _) (fun _=>rfl)
  (Ma w N k b4 b5 b8 B b g cu cg dir nm s)
  (QT w b8 B b g cu cg s)
  (by rw[<-HN.o];exact Ma.bears l1 (by omega) l2 l3 l4 hBw oV.o)
  (by intro cc;rw[<-HN.o];exact QT.bears (by omega) (by omega) hBw oV.o)
  (fun O pre V hI=>⟨hI.2.2.2.2.2.2.1,⟨B,g,hI.2.1⟩,hI.2.2.1⟩)
  ⟨X3,P3,C3,H43,H53,H83,trivial,fun y hy=>(by cases hy),fun x hx=>(by cases hx),BR⟩
  (fun x a' V=>∃Bx,N<=Bx/\Has V Bx (.cells #[x.1.dir,bs x.1.name,x.1.no,x.1.depth] 41)/\a'={tmps:=#[.pointer (some ⟨b,0,none⟩),.agg #[cu,cg],.int .i64 dir,.string (bs nm),.pointer (some ⟨b4,0,none⟩),.pointer (some ⟨b5,0,none⟩),undef,undef,.pointer (some ⟨b8,0,none⟩),.pointer (some ⟨Bx,0,none⟩),.int .i64 x.2,.pointer (some ⟨b,0,none⟩),.agg #[cu,cg],.int .i64 dir,.string (bs nm),.func (.func 89) #[] #[((),k),.pointer (some ⟨k+1,0,none⟩),.pointer (some ⟨k+2,0,none⟩),.pointer (some ⟨k+3,0,none⟩)],.agg #[x.1.dir,bs x.1.name,x.1.no,x.1.depth],.int .i64 x.2,undef,undef,undef,undef,undef,undef,undef,undef,undef],defers:=[]})
  ?hax ?assign ?body ?done ?stop
 case hax =>
  rintro x a' V l o o' ⟨Bx,h1,h2,rfl⟩ hl ho hc';refine⟨Bx,h1,?_,rfl⟩;have hne:Bx≠l:=fun e=>by subst e;unfold Has at h2;rw[h2]at ho;cases ho;cases hc'
  exact (oI hne).trans h2
 case assign =>
  rintro lp O pre x V K hI hG Lp hK;gi_wp2;refine hK _ _ ((KeepsOthers.alloc _ _).from _) ((Only.lh [] V _).Nf (fun b hb=>(Lp b hb).lt) (fun _ _=>by simp)) ?_ ⟨V.heap.size,hI.2.2.2.2.2.2.2.2.2,Has.new _ _,rfl⟩;exact (Ma.bears (w:=w) (N:=N) l1 (by omega) l2 l3 l4 hBw oV.o) O pre V O [] _ hI (by rw[iR];exact Only.lh _ _ _) (fun r hr=>by cases hr) (fun x hx=>.inl hx) (fun x hx=>(Lp x hx).ext ((Ext.refl V).alloc _))
 case body =>
  rintro lp O pre x a' V hI ⟨Bx,hBx,QR,rfl⟩ hG Lp;rw[<-HN.o];have hpl:pre.length<=L.length:=by
   have:=hG.length_le;rw[aZ]at this;omega
  have HI:=zH hI;obtain⟨a1,a2,_,a4,a5,a6,a7,a8,a9,yp⟩:=hI
  by_cases aX:x.2=0
  ·have t0 : (x.2 == 0)=true:=by simpa using aX
   have Dc:=zH aX;have KO1:Hid (∀m,CallsIn (F.inRound lp) m prog 53 #[((),b),.agg #[cu,cg],.agg #[x.1.dir,bs x.1.name,x.1.no,x.1.depth]] V (yC V B b g (jX (oD cu cg s pre) cu cg x.1) (kS (oD cu cg s pre) cu cg x.1))):=fun m=>KO.o lp m V pre x.1 hpl a2
   obtain⟨S',YS⟩:=ai (jX (oD cu cg s pre) cu cg x.1);obtain⟨E',hE'⟩:=ai (kS (oD cu cg s pre) cu cg x.1);rw[<-YS,<-hE']at KO1;have HS':=zH YS;have HE':=zH hE';have c4:=aA a4 0 rfl;have z4:=a4.lt;have c5:=aA a5 0 rfl;have c51:=aA a5 1 rfl;have z5:=a5.lt;have y0:=aA QR 0 rfl;have y1:=aA QR 1 rfl;have y2:=aA QR 2 rfl;have y3:=aA QR 3 rfl;have yz:=QR.lt;have A6:=zH a6;clear aX YS hE' a1 a2 a4 a5 a6 a7 a8 a9 yp QR hG;have H2:Hid (∀V',PS V' B b g S'->Only (b::g.list) V V'->E'=0->Ia N (Ma w N k b4 b5 b8 B b g cu cg dir nm s) (QT w b8 B b g cu cg s) O (pre++[x]) V .normal {tmps:=#[],defers:=[]} V'):=by
    show ∀_ _ _ _,_;intro V' P' O' h0;obtain⟨a1,a2,a3,a4,a5,a6,a7,a8,a9,yp⟩:=HI.o;have nb:∀y,w.heap.size<=y->y∉b::g.list:=fun y hy hm=>by have:=oV.o y hm;omega
    have hst:oD cu cg s (pre++[x])=S':=by rw[lQ,HS'.o];rfl
    refine⟨O'.pO (fun y hy=>.inl (by have:=oV.o y hy;omega)),O'.Nf (fun y hy=>(a9 y hy).2.lt) (fun y hy=>nb y (by have:=(a9 y hy).1;omega)),a1.trans O' (fun y hy=>.inl hy),by rw[hst];exact P',a3.only O' (fun y hy=>.inl (by have:=oV.o y hy;omega)),O'.has a4 (nb _ l1),O'.has a5 (nb _ (by omega)),O'.has a6 (nb _ (by omega)),(jx ..).2 ⟨a7,by rw[<-HE'.o];exact h0,trivial⟩,fun y hy=>?_,fun y hy=>⟨(a9 y hy).1,(a9 y hy).2.keep (O'.block y (a9 y hy).2.lt (nb y (by have:=(a9 y hy).1;omega)))⟩,by have:=O'.size;omega⟩;rcases dn.1 hy with hy|hy
    ·exact a8 y hy
    ·rw[ax]at hy;subst hy;exact Dc.o
   have H3 : Hid (∀V',PS V' B b g S'->Only (b::g.list) V V'->E'≠0->Has V' b8 (.cells #[()] 47)/\Ia N (Ma w N k b4 b5 b8 B b g cu cg dir nm s) (QT w b8 B b g cu cg s) O (pre++[x]) V .ret {tmps:=#[],defers:=[]} (V'.setCell (b8,0) (.int .i64 E'))):=by
    show ∀_ _ _ _,_;intro V' P' O' h0;obtain⟨a1,a2,a3,a4,a5,a6,a7,a8,a9,yp⟩:=HI.o;have nb:∀y,w.heap.size<=y->y∉b::g.list:=fun y hy hm=>by have:=oV.o y hm;omega
    have q8:=O'.has a6 (nb _ (by omega));have o8:Only [b8] V' (V'.setCell (b8,0) (.int .i64 E')):=Only.setCell _ _ _ _;have m8:∀y∈[b8],y=b8:=fun y hy=>by simpa using hy
    refine⟨q8,?_,rfl,pre,x,rfl,a7,?_,.inr ⟨Dc.o,by rw[<-HE'.o];exact h0,?_,?_⟩⟩
    ·exact ((O'.mono (fun y hy=>kj [b8] hy)).then (o8.mono (fun y hy=>jO _ hy))).pO (fun y hy=>.inl (by
      rcases dn.1 hy with hy|hy
      ·have:=oV.o y hy;omega
      ·have:=m8 y hy;omega))
    ·exact (a1.trans O' (fun y hy=>.inl hy)).trans o8 (fun y hy=>.inr (by have:=m8 y hy;omega))
    ·rw [<-HS'.o]
     exact P'.only o8 (dX.cons (dX.nil _ _) (by omega) q8 (by decide) (by decide)) (fun y hy hm=>by have:=m8 y hm;have:=oV.o y hy;omega)
    ·rw [<-HE'.o]
     exact Has.setCell q8 0 _
   gi_upto_if 25 with (gi_at_call 53;refine (KO1.o _).mono ?_;rintro e w2 ⟨rfl,P2,O2⟩;clear c4 z4 c5 c51 z5 y0 y1 y2 y3 yz)
   by_cases hE0:E'=0
   ·have t1:(E' != 0)=false:=by simpa using hE0
    have H4:=zH (H2.o w2 P2 O2 hE0);clear hE0 P2 O2;gi_wp2;exact H4.o
   ·have t1:(E' != 0)=true:=by simpa using hE0
    obtain⟨q8,hq⟩:=H3.o w2 P2 O2 hE0;have H4:=zH hq;have c8:=q8.cell 0;have f8:=q8.free 0;have z8:=q8.lt;clear hE0 P2 O2 hq q8;gi_wp2;exact H4.o
  ·have t0:(x.2 == 0)=false:=by simpa using aX
   have t1:(x.2 != 0)=true:=by simpa using aX
   have c8:=a6.cell 0;have f8:=a6.free 0;have z8:=a6.lt;have A6:=zH a6;have Dc:=zH aX;clear a1 a2 a4 a5 a6 a7 a8 a9 yp QR hG aX;gi_wp2;obtain⟨a1,a2,a3,a4,a5,a6,a7,a8,a9,yp⟩:=HI.o;have o8:Only [b8] V (V.setCell (b8,0) (.int .i64 x.2)):=Only.setCell _ _ _ _;have m8:∀y∈[b8],y=b8:=fun y hy=>by simpa using hy
   exact⟨o8.pO (fun y hy=>.inl (by have:=m8 y hy;omega)),rfl,pre,x,rfl,a7,a1.trans o8 (fun y hy=>.inr (by have:=m8 y hy;omega)),.inl ⟨Dc.o,a2.only o8 (dX.cons (dX.nil _ _) (by omega) a6 (by decide) (by decide)) (fun y hy hm=>by have:=m8 y hm;have:=oV.o y hy;omega),Has.setCell a6 0 _⟩⟩
 case done =>
  rintro D O xs V hD hxs hI hK;subst hxs;obtain⟨a1,a2,a3,a4,a5,a6,a7,a8,a9,yp⟩:=hI;obtain⟨q1,q2⟩:=HT.o.done a7 a8;rw[<-q2]at a2;have c8:=a6.cell 0;have f8:=a6.free 0;have z8:=a6.lt;have A1:=zH a1;have A2:=zH a2;have A6:=zH a6;have HK:=zH hK;have HQ:=zH q1;clear a1 a2 a3 a4 a5 a6 a7 a8 a9 yp hK q1 q2;gi_wp2;obtain⟨V2,oM⟩:=ai (V.setCell (b8,0) (.int .i64 0));rw[<-oM];have o2:Only [b8] V V2:=by rw[oM];exact Only.setCell V b8 0 _
  have q8:Has V2 b8 (.cells #[()] 47):=by rw[oM];exact Has.setCell A6.o 0 _
  have hK2:=o2.has HK.o (by simp;omega);refine⟨by simp,.inl ⟨_,_,rfl,wl hK2,?_⟩⟩;have o3:Only [b8,D] V (V2.putObj D (.deferred none)):=(o2.mono (by simp)).then ((Only.putObj V2 D _).mono (by simp));have r8:=((Only.putObj V2 D (.deferred none)).has q8 (by simp;omega)).cell 0;have m8:∀y∈[b8,D],y=b8\/y=D:=fun y hy=>by simpa using hy
  refine⟨.int .i64 0,by simp[results,results27,go_sem,r8],by rw[HQ.o],A2.o.only o3 (fun y hy=>?_) (fun y hy hm=>by have:=oV.o y hy;rcases m8 y hm with e|e<;>omega),A1.o.trans o3 (fun y hy=>.inr (by rcases m8 y hy with e|e<;>omega))⟩;rcases m8 y hy with rfl|rfl
  ·exact dX.cons (dX.nil _ _) (by omega) A6.o (by decide) (by decide) _ (bY ..)
  ·refine⟨by omega,?_,?_⟩<;>rintro⟨c2,f2,yD⟩<;>rw[HK.o]at yD<;>cases yD
 case stop =>
  rintro D cc pre V hD hp ⟨rfl,q,y,rfl,hg,hO,h8⟩ hK;have hy:y.2≠0\/(y.2=0/\kS (oD cu cg s q) cu cg y.1≠0):=h8.imp (fun h=>h.1) (fun h=>⟨h.1,h.2.1⟩);obtain⟨e1,e2⟩:=HT.o.stop hp hy;have key:PS V B b g s'/\Has V b8 (.cells #[e'] 47):=by
   rcases h8 with⟨c1,c2,c3⟩|⟨c1,c2,c3,c4⟩
   ·obtain ⟨k1,k2⟩:=e1 c1
    rw[k1,k2];exact⟨c2,c3⟩
   ·obtain ⟨k1,k2⟩:=e2 c1
    rw[k1,k2];exact⟨c3,c4⟩
  obtain⟨P8,h8⟩:=key;gi_wp2;refine⟨by simp,.inl ⟨_,_,rfl,wl hK,?_⟩⟩;have o3:Only [D] V (V.putObj D (.deferred none)):=Only.putObj V D _;have r8:=(o3.has h8 (by simp;omega)).cell 0;have m8:∀y∈[D],y=D:=fun y hy=>by simpa using hy
  refine⟨.int .i64 e',by simp[results,results27,go_sem,r8],rfl,P8.only o3 (fun y hy=>?_) (fun y hy hm=>by have:=oV.o y hy;have:=m8 y hm;omega),hO.trans o3 (fun y hy=>.inr (by have:=m8 y hy;omega))⟩;have:=m8 y hy;subst this;refine⟨by omega,?_,?_⟩<;>rintro⟨c2,f2,yD⟩<;>rw[hK]at yD<;>cases yD
end
section
theorem abG {m:Int} (h0:0<=m) (h1:m<=1023):bits .or .i64 m 448=orM m/\0<=orM m/\orM m<=1023/\EM (orM m / 64) 7=true:=by
 have:∀x:Fin 1024,bits .or .i64 (x.val:Int) 448=orM (x.val:Int)/\0<=orM (x.val:Int)/\orM (x.val:Int)<=1023/\EM (orM (x.val:Int) / 64) 7=true:=by decide +kernel
 have:=this ⟨m.toNat,by omega⟩;rw[show ((⟨m.toNat,by omega⟩:Fin 1024).val:Int)=m by show ((m.toNat:Nat):Int)=m;omega]at this;exact this
theorem jF.Mb (h:jF cu cg dev s [] s' e k):s'=s/\e=0:=by cases h;exact⟨rfl,rfl⟩
theorem jF.adB (h:jF cu cg dev s (no::t) s' e k) (hb:jp s dev no):s'=s/\e=16:=by
 cases h with
 | busy=>exact⟨rfl,rfl⟩
 | skip h1=>exact absurd hb h1
 | shut h1=>exact absurd hb h1
 | list h1=>exact absurd hb h1
 | step h1=>exact absurd hb h1
theorem jF.adC (h:jF cu cg dev s (no::t) s' e k) (hb:¬jp s dev no) (hk:(aa s.t.nodes no).kind≠1):∃k',k=k'+1/\jF cu cg dev s t s' e k':=by
 cases h with
 | busy h1=>exact absurd h1 hb
 | skip _ _ h3=>exact⟨_,rfl,h3⟩
 | shut _ h2=>exact absurd h2 hk
 | list _ h2=>exact absurd h2 hk
 | step _ h2=>exact absurd h2 hk
theorem jF.afm (h:jF cu cg dev s (no::t) s' e k) (hb:¬jp s dev no) (hk:(aa s.t.nodes no).kind=1) :
  (vR s cu cg no≠0->s'=jY s cu cg no/\e=vR s cu cg no)/\(vR s cu cg no=0->(vV (jY s cu cg no) cu cg no≠0->s'=jY s cu cg no/\e=vV (jY s cu cg no) cu cg no)/\(vV (jY s cu cg no) cu cg no=0->∃k',k=k'+1/\jF cu cg dev (jY s cu cg no) (Nu (jY s cu cg no) cu cg no++t) s' e k')):=by
 cases h with
 | busy h1=>exact absurd h1 hb
 | skip _ h2=>exact absurd hk h2
 | shut _ _ h3=>exact⟨fun _=>⟨rfl,rfl⟩,fun h=>absurd h h3⟩
 | list _ _ h3 h4=>exact⟨fun h=>absurd h3 h,fun _=>⟨fun _=>⟨rfl,rfl⟩,fun h=>absurd h h4⟩⟩
 | step _ _ h3 h4 h5=>exact⟨fun h=>absurd h3 h,fun _=>⟨fun h=>absurd h4 h,fun _=>⟨_,rfl,h5⟩⟩⟩
theorem jF.pos (h:jF cu cg dev s (no::t) s' e k):1<=k:=by cases h<;>omega
theorem PS.abH (h:PS w B b g s) (hp:Pl c s) (cu cg dir:Int) (nm:List UInt8) (s1:aH) (e1:Int) (k1:Nat)
  (hT:(dw s cu cg dir nm≠0/\s1=s/\e1=dw s cu cg dir nm/\k1=0)\/(dw s cu cg dir nm=0/\s.dead=false/\jF cu cg (aa s.t.nodes dir).dev s [(du s cu cg dir nm).no] s1 e1 k1)) (hc:c+k1<=900) :
  Calls prog 58 #[((),b),.agg #[cu,cg],dir,bs nm] w (yC w B b g s1 e1):=by
 obtain⟨W0,aJ⟩:=ai (w.alloc (.cells #[cu,cg] 27));obtain⟨b5,fu⟩:=ai w.heap.size;have E0:Ext w W0:=by rw[aJ];exact (Ext.refl _).alloc _
 have C0:Has W0 b5 (.cells #[cu,cg] 27):=by rw[aJ,fu];exact Has.new w _
 have h0:=h.ext E0;have oV:Hid (∀x∈b::g.list,x<w.heap.size):=h.lt;have nb:Hid (∀y,w.heap.size<=y->y∉b::g.list):=fun y hy hm=>by have:=h.lt y hm;omega
 obtain⟨X,hX⟩:=ai ((du s cu cg dir nm).no);obtain⟨eX,WA⟩:=ai (dw s cu cg dir nm);have KL:Hid (Calls prog 28 #[((),b),.agg #[cu,cg],dir,bs nm] W0 (aO W0 (.tuple #[X,eX]))):=by
  show Calls _ _ _ _ _;rw[hX,WA];exact h0.look hp.fU (by omega) cu cg dir nm
 obtain⟨m0,hm0⟩:=ai (vA s (aa s.t.nodes dir));obtain⟨em,hem⟩:=ai (gY s (dQ s.t dir));have KS:Hid (∀u,Ext W0 u->Calls prog 45 #[((),b),dir] u (aO u (.tuple #[iU m0,em]))):=by
  show ∀u,_;intro u hu;rw[hm0,hem];exact (h0.ext hu).stat hp.fU dir
 rw [<-hX,<-WA]at hT;have HDV:Hid (eX=0->(aa s.t.nodes dir).dev=m0.dev):=fun he=>by
  rcases hT with⟨k,_⟩|⟨_,hd,_⟩
  ·exact absurd he k
  ·rw[hm0];unfold vA;rw[ac (by rw[hd];decide)]
 have HT:=zH hT;have HP:=zH hp;have H0:=zH h0;have c0:=aA C0 0 rfl;have c1:=aA C0 1 rfl;have cz:=C0.lt;clear h h0 hp hT hX WA hm0 hem;go_in;go_upto_region 1 with fail;rw[<-aJ,<-fu];have adD:w.heap.size<=b5:=by omega
 clear aJ fu;go_wp2_with fail;refine KL.o.mono ?_;rintro e w1 ⟨rfl,b1⟩;clear c0 c1 cz KL
 by_cases hE:eX=0
 case neg =>
  have t1:(eX != 0)=true:=by simpa using hE
  have HE:=zH hE;clear hE;go_wp2;go_ret;rcases HT.o with⟨_,rfl,rfl,_⟩|⟨k,_⟩
  ·exact⟨rfl,H0.o.ext b1,Only.az (E0.trans b1)⟩
  ·exact absurd k HE.o
 have t1:(eX != 0)=false:=by simpa using hE
 obtain ⟨hd0,hF0⟩:s.dead=false/\jF cu cg m0.dev s [X] s1 e1 k1:=by
  rcases HT.o with⟨k,_⟩|⟨_,k2,k3⟩
  ·exact absurd hE k
  ·rw[<-HDV.o hE];exact⟨k2,k3⟩
 have Z5:=zH hF0;have HD0:=zH hd0;clear hE hd0 hF0 HT HDV;unfold iU at KS;go_wp2_with fail;refine (KS.o _ b1).mono ?_;rintro e w2 ⟨rfl,b2⟩;clear KS t1;go_upto_region 5 with fail;obtain⟨W3,cJ⟩:=ai (w2.alloc (.cells #[m0.no,m0.dev,m0.kind,m0.mode,m0.uid,m0.gid,m0.ar,m0.data.length,m0.mtime,m0.ctime] 95));obtain⟨dI,fj⟩:=ai w2.heap.size;obtain⟨dv,OC⟩:=ai m0.dev;have S3:∃z0 z2 z3 z4 z5 z6 z7 z8 z9,Has W3 dI (.cells #[z0,dv,z2,z3,z4,z5,z6,z7,z8,z9] 95):=⟨_,_,_,_,_,_,_,_,_,by rw[cJ,fj,OC];exact Has.new _ _⟩;have E3:Ext W0 W3:=by rw[cJ];exact (b1.trans b2).alloc _
 rw[<-cJ,<-fj];rw[<-OC]at Z5;have Da:b5<dI:=by have:=(C0.ext (b1.trans b2)).lt;omega
 obtain⟨z0,z2,z3,z4,z5,z6,z7,z8,z9,S3⟩:=S3;clear cJ fj OC b1 b2;go_wp2_with fail;obtain⟨W4,gb⟩:=ai (W3.alloc (.cells #[X] 3));obtain⟨br,Lo⟩:=ai W3.heap.size;have UG:dI<br:=by have:=S3.lt;omega
 have N4:Has W4 br (.cells #[X] 3):=by rw[gb,Lo];exact Has.new _ _
 have E4:Ext W3 W4:=by rw[gb];exact (Ext.refl _).alloc _
 have O4:en lP W4 br (.slice (some br) 1 1) [X]:=⟨rfl,.inr ⟨br,1,_,rfl,aE _,N4,aE _,by decide,rfl,rfl⟩⟩;have adE:br<=W4.heap.size:=by have:=N4.lt;omega
 rw[<-gb,<-Lo];have HC4:=zH ((C0.ext E3).ext E4);have HS4:=zH (S3.ext E4);have ZU:=zH (H0.o.ext (E3.trans E4));have Nn:=zH (Only.az (L:=b::g.list) (E0.trans (E3.trans E4)));clear gb Lo N4 E4 C0 S3 E3 H0;go_loopg [9,13] k1 (fun mm vno vt wr=>∃(si:aH) (t:List Int) (no0:Int),vno=.int .i64 no0/\en lP wr br vt t.reverse/\PS wr B b g si/\Hid (Only (b::g.list) w wr)/\Has wr b5 (.cells #[cu,cg] 27)/\Has wr dI (.cells #[z0,dv,z2,z3,z4,z5,z6,z7,z8,z9] 95)/\Hid (jF cu cg dv si t s1 e1 mm)/\Hid (si.dead=false)/\Hid (Pl (c+(k1-mm)) si)/\mm<=k1/\t.length<=1+(k1-mm)*1000/\br<=wr.heap.size)
 case atStart=>exact⟨s,[X],X,rfl,O4,ZU.o,Nn,HC4.o,HS4.o,Z5,HD0,by show Pl _ _;rw[zk];exact HP.o,aE _,by simp,adE⟩
 case round =>
  obtain⟨si,t,no0,rfl,hO,hP,hOn,H5,SI,hF,hd,hPl,hmm,sO,age⟩:=hrel;clear O4 adE HC4 HS4 ZU Nn Z5 HD0 HP;have hc1:c+(k1-gk)<=900:=by omega
  have hPS:=zH hP;have H5':=zH H5;have YT:=zH SI
  cases t with
  | nil =>
   obtain ⟨rfl,rfl⟩:=hF.o.Mb;obtain⟨A9,c9,hv9⟩:∃A9 c9,u13=.slice A9 0 c9:=by
    rcases hO.cases with⟨h,_⟩|⟨g,cap,_,h,_⟩
    ·exact⟨_,_,h⟩
    ·exact⟨_,_,h⟩
   clear hO hP H5 SI hF hPl sO;subst hv9;go_wp2;go_ret;exact⟨rfl,hPS.o,hOn.o⟩
  | cons no t' =>
   have mq:=hF.o.pos;obtain⟨T',Ft⟩:=ai t'.length;have hT1:T'<=1000000:=by rw[bk]at sO;omega
   rw[p_]at hO;have Qc:(t'.reverse++[no]).length=T'+1:=by rw[aZ,kV,Ft];rfl
   obtain ⟨gr,cap,cur,hv,aeG,UH,yc,s3,hcell⟩:∃gr cap cur,u13=.slice (some ⟨gr,0,none⟩) (t'.reverse++[no]).length cap/\br<=gr/\Has wr gr (.cells cur lP.t)/\(t'.reverse++[no]).length<=cap/\cap<=maxLen/\∀i,(h:i<(t'.reverse++[no]).length)->∀j,j<lP.k->wr.cell? ⟨gr,i*lP.k+j,none⟩=(lP.enc (t'.reverse++[no])[i])[j]?:=by
    rcases hO.cases with⟨_,h2⟩|h2
    ·simp at h2
    ·exact h2
   have hq:wr.cell? (gr,T')=some (.int .i64 no):=by
    have h1:=hcell T' (by rw[Qc];omega) 0 (by decide);have h2:(t'.reverse++[no])[T']'(by rw[Qc];omega)=no:=by
     rw[Cw (by rw[kV,Ft];exact aE _)];simp[Ft]
    rw[h2]at h1;have h3:T'*lP.k+0=T':=by show T'*1+0=T';omega
    rw[h3]at h1;exact h1
   rw[hv]at hO;have abI:=hO.pop;have hpl:t'.reverse.length=T':=by rw[kV,Ft]
   rw[hpl]at abI;rw[Qc]at hv yc;have hqz:=UH.lt;have BS:IntKind.i64.wrap (T':Int)=(T':Int):=cB _ (by omega);have w2w:IntKind.i64.wrap ((T':Int)+1-1)=(T':Int):=by rw[cB _ (by omega)];omega
   have p0:(0:Int)<=(T':Int):=cO _;have Xx:T'+1<=cap:=yc;obtain⟨A1,q1,tS,KG⟩:=nI B g si.t no wr hP.wat;obtain⟨n,hn⟩:=ai (aa si.t.nodes no);obtain⟨bI,hbI⟩:=ai (aW si.t.nodes no);rw[<-hn,<-hbI]at KG;have Z6:=zH KG;have HN:=zH hn;have HBI:=zH hbI;have adF:=zH abI;have Yd:=zH Ft;have Ty:=zH sO;obtain⟨_,_,cd,Z2,_⟩:=id hP.wat;obtain⟨AP,afl,Z1⟩:∃A cap,eW wr b g si.now si.count A si.plan.length cap si.dead:=by obtain⟨A,cap,hp⟩:=hP;exact⟨A,cap,hp.2.1⟩
   have s0:=Has.cell Z1 0;have sz:=Has.lt Z1;have v0:=Z2.cell 0;have vz:=Z2.lt;simp only[gA,gB]at s0 v0;clear hO hP H5 SI hcell yc s3 UH hn hbI KG tS abI hpl Qc Ft sO Z2 Z1;subst hv;go_upto_region 9 with fail;clear hq hqz w2w Xx;go_wp2_with fail;refine (Z6.o _ (Ext.refl _)).mono ?_;rintro e w3 ⟨rfl,b3⟩;clear s0 sz v0 vz Z6;go_upto_region 10 with fail;obtain⟨W5,kT⟩:=ai (w3.alloc (.cells (n,A1,q1) 66));obtain⟨OU,w_⟩:=ai w3.heap.size;have N5:Has W5 OU (.cells (n,A1,q1) 66):=by rw[kT,w_];exact Has.new _ _
   have E5:Ext wr W5:=by rw[kT];exact b3.alloc _
   have Zw:wr.heap.size<=OU:=by have:=b3.size;omega
   rw[<-kT,<-w_];clear kT w_ b3;have HE5:=zH E5;have YR:=zH N5;have x1:=N5.cell 1;have x2:=N5.cell 2;have xz:=N5.lt;have y1:=(YT.o.ext E5).cell 1;have yz:=(YT.o.ext E5).lt;simp only[gA,gB,gC]at x1 x2 y1;have P5:=zH (hPS.o.ext E5);have O5:Hid (Only (b::g.list) w W5):=hOn.o.trans (Only.az E5) (fun y hy=>.inl hy);have abJ:=zH (adF.o.ext E5);have C5:=zH (H5'.o.ext E5);have S5:=zH (YT.o.ext E5);have s5:br<=W5.heap.size:=by have:=E5.size;omega
   clear E5 N5 hPS adF H5' YT hOn
   by_cases hb:jp si dv no
   ·obtain ⟨k1',Kk⟩:=hF.o.adB hb
    have hI:bI=true:=by rw[HBI.o];exact hb.1
    have t1:(n.dev != dv)=true:=by rw[HN.o];simpa using hb.2
    have H9:Hid (s1=si/\e1=16):=⟨k1',Kk⟩;clear hb k1' Kk hF;subst hI;go_wp2;go_ret;rw[H9.o.1,H9.o.2];exact⟨rfl,P5.o,O5.o⟩
   have HB:=zH hb
   by_cases hk:n.kind=1
   case neg =>
    obtain⟨k',hk',hF'⟩:=hF.o.adC hb (by rw[<-HN.o];exact hk);have t2:(n.kind != 1)=true:=by simpa using hk
    have hFF:=zH hF';have HK:=zH hk';clear hk hb hF hF' hk';have REL:Hid (∀u13,u13=.slice (some gr) T' cap->∃(si:aH) (t:List Int) (no0:Int),Value.int .i64 no=.int .i64 no0/\en lP W5 br u13 t.reverse/\PS W5 B b g si/\Hid (Only (b::g.list) w W5)/\Has W5 b5 (.cells #[cu,cg] 27)/\Has W5 dI (.cells #[z0,dv,z2,z3,z4,z5,z6,z7,z8,z9] 95)/\Hid (jF cu cg dv si t s1 e1 k')/\Hid (si.dead=false)/\Hid (Pl (c+(k1-k')) si)/\k'<=k1/\t.length<=1+(k1-k')*1000/\br<=W5.heap.size):=by
     show ∀_,_->_;rintro _ rfl;have hk9:=HK.o;have ht9:=Ty.o;rw[bk]at ht9;exact⟨si,t',no,rfl,abJ.o,P5.o,O5,C5.o,S5.o,hFF,hd,hPl.o.mono (by omega),by omega,by omega,s5⟩
    cases hI:bI with
    | false =>
     subst hI;go_wp2_with fail;go_roundg k'
     case measure=>have:=HK.o;omega
     case rel=>exact REL.o _ rfl
    | true =>
     have OC:n.dev=dv:=by
      refine JJ fun h9=>HB.o ⟨HBI.o.symm.trans hI,?_⟩
      rw[<-HN.o];exact h9
     have t1:(n.dev != dv)=false:=by simpa using OC
     clear OC;subst hI;go_wp2_with fail;go_roundg k'
     case measure=>have:=HK.o;omega
     case rel=>exact REL.o _ rfl
   obtain⟨f1,f2⟩:=hF.o.afm hb (by rw[<-HN.o];exact hk);have hI:bI=true:=by rw[HBI.o];exact (bP (by rw[<-HN.o];exact hk)).1
   have OC:n.dev=dv:=by
    refine JJ fun h9=>hb ⟨HBI.o.symm.trans hI,?_⟩
    rw[<-HN.o];exact h9
   have t1:(n.dev != dv)=false:=by simpa using OC
   have t2:(n.kind != 1)=false:=by simpa using hk
   have Rn:=zH hk;have ZQ:=zH f1;have SD:=zH f2;clear f1 f2 OC hb hk hF;subst hI;go_upto_region 13 with fail;have hsh:Hid (DL si.t cu cg no=(!fh cu cg n.uid n.gid n.mode 7&&fp cu n.uid)):=by show _=_;rw[HN.o];rfl
   obtain⟨sh,Mc⟩:=ai (DL si.t cu cg no);rw[<-Mc]at hsh;have HSH:=zH Mc;clear Mc t1 t2 x1 x2 xz y1 yz;have HTV:=zH (show (t'.length:Int)=T' by rw[Yd.o]);go_cut [90] (fun v wc=>v=.bool sh/\Ext W5 wc)
   case first =>
    have c0:=aA C5.o 0 rfl;have c1:=aA C5.o 1 rfl;have cz:=C5.o.lt;obtain⟨x0,x1,x2,x3,x4,x5,x6,x7,x8,x9,kC,kn⟩:=YR.o.da;have zx:=YR.o.lt;go_wp2_with fail;refine (pJ cu cg _ _ _ _ _ _ _ _ _ _ _ _ 7 _).mono ?_;rintro e w6 ⟨rfl,b6⟩;clear c0 c1 cz x0 x1 x2 x3 x4 x5 x6 x7 x8 x9 kC kn zx;have B6:=zH b6
    cases hm:fh cu cg n.uid n.gid n.mode 7 with
    | true =>
     have h9:Hid (sh=false):=zH (by rw[hsh.o,hm];rfl);clear b6;go_wp2_with fail;go_meet;exact⟨by rw[h9.o],B6.o⟩
    | false =>
     have h9:Hid (sh=fp cu n.uid):=zH (by rw[hsh.o,hm];rfl);have c0:=(C5.o.ext b6).cell 0;have c1:=(C5.o.ext b6).cell 1;have cz:=(C5.o.ext b6).lt;obtain⟨x0,x1,x2,x3,x4,x5,x6,x7,x8,x9,kC,kn⟩:=(YR.o.ext b6).da;have zx:=(YR.o.ext b6).lt;simp only[gA,gB,gC]at c0 c1;clear b6;go_wp2_with fail;refine (sy cu cg _ _ _ _ _ _ _ _ _ _ _ _ _).mono ?_;rintro e w7 ⟨rfl,b7⟩;have B7:=zH (B6.o.trans b7);clear b7 c0 c1 cz x0 x1 x2 x3 x4 x5 x6 x7 x8 x9 kC kn zx;go_wp2_with fail;go_meet;exact⟨by rw[h9.o],B7.o⟩
   case rest =>
   obtain⟨rfl,B6⟩:=hcut;obtain⟨W6,tM⟩:=ai wc;rw[<-tM]at B6|-;clear tM
   iterate 1 (first|go_back|go_values|go_skip|go_guarded|go_step|go_upon)
   have hmode:Hid (bits .or .i64 n.mode 448=orM n.mode):=by
    show _=_;obtain⟨_,_,hm⟩:=ap HBI.o.symm;have:=hPl.o.jr.fN.bits _ hm;rw[<-HN.o]at this;exact (abG this.1 this.2.1).1
   obtain⟨S2,Bp⟩:=ai (jY si cu cg no);obtain⟨E2,j0⟩:=ai (vR si cu cg no);have YU:Hid (sh=false->S2=si/\E2=0):=fun h=>by
    rw[HSH.o]at h;rw[Bp,j0];exact⟨by unfold jY;rw[ac (by rw[h];decide)],by unfold vR;rw[ac (by rw[h];decide)]⟩
   have KC:Hid (sh=true->∀u,Ext W6 u->Calls prog 68 #[((),b),.agg #[cu,cg],no,.int .i64 (bits .or .i64 n.mode 448)] u (yC u B b g S2 E2)):=by
    show _->∀_,_->Calls _ _ _ _ _;intro h u hu;rw[HSH.o]at h;have e1:S2=ul si cu cg (.ee no (orM n.mode)):=by rw[Bp,HN.o];unfold jY;rw[af h];rfl
    have e2:E2=yw si cu cg (.ee no (orM n.mode)):=by rw[j0,HN.o];unfold vR;rw[af h];rfl
    rw[e1,e2,hmode.o];exact (P5.o.ext (B6.trans hu)).ee hPl.o.fU hc1 hd.o cu cg no (orM n.mode)
   have HS2:=zH Bp;have yj:=zH j0;have WB:=zH B6;have HF3:Hid (E2≠0->s1=S2/\e1=E2):=by show _->_;rw[Bp,j0];exact ZQ.o
   clear Bp j0 ZQ hmode;go_cut [] (fun wc=>PS wc B b g S2/\E2=0/\Only (b::g.list) W5 wc)
   case first =>
    cases sh with
    | false =>
     obtain⟨h1,h2⟩:=YU.o rfl;have H1:=zH h1;have H2:=zH h2;clear h1 h2 KC YU B6;go_wp2_with fail;go_meet;exact⟨by rw[H1.o];exact P5.o.ext WB.o,H2.o,Only.az WB.o⟩
    | true =>
     have VT:=zH (KC.o rfl);have c0:=(C5.o.ext B6).cell 0;have c1:=(C5.o.ext B6).cell 1;have cz:=(C5.o.ext B6).lt;have x3:=(YR.o.ext B6).cell 3;have xz:=(YR.o.ext B6).lt;simp only[gA,gB,gC]at c0 c1 x3;clear KC YU B6;go_wp2_with fail;refine (VT.o _ (Ext.refl _)).mono ?_;rintro e w7 ⟨rfl,P7,O7⟩;have QU:=zH P7;have Yf:Hid (Only (b::g.list) W5 w7):=Only.pre WB.o O7;clear P7 O7 c0 c1 cz x3 xz VT
     by_cases hE:E2=0
     ·have t1:(E2 != 0)=false:=by simpa using hE
      have HE:=zH hE;clear hE;go_wp2_with fail;go_meet;exact⟨QU.o,HE.o,Yf.o⟩
     ·have t1:(E2 != 0)=true:=by simpa using hE
      have HE:=zH (HF3.o hE);clear hE;go_wp2;go_ret;rw[HE.o.1,HE.o.2];exact⟨rfl,QU.o,O5.o.trans Yf.o (fun y hy=>.inl hy)⟩
   case rest =>
   obtain⟨P7,hE,O7⟩:=hcut;obtain⟨W7,Rz⟩:=ai wc;rw[<-Rz]at P7 O7|-;clear Rz KC YU B6;have EK:Hid (Pl (c+(k1-gk)+1) S2):=by show Pl _ _;rw[HS2.o];exact hPl.o.op cu cg no
   have mZ:Hid (S2.dead=false):=by show _=_;rw[HS2.o];exact nV hd.o (yj.o.symm.trans hE)
   have HF4:Hid ((vV S2 cu cg no≠0->s1=S2/\e1=vV S2 cu cg no)/\(vV S2 cu cg no=0->∃k',gk=k'+1/\jF cu cg dv S2 (Nu S2 cu cg no++t') s1 e1 k')):=by
    show _/\_;rw[HS2.o];exact SD.o (yj.o.symm.trans hE)
   obtain⟨L,hL⟩:=ai (DM S2 cu cg no);obtain⟨e3,pX⟩:=ai (vV S2 cu cg no);have KLS:Hid (Calls prog 102 #[((),b),.agg #[cu,cg],no] W7 (tu W7 L e3)):=by
    show Calls _ _ _ _ _;rw[hL,pX];exact P7.list EK.o.fU (by omega) cu cg no
   have X_:L.length<=900:=by
    rw[hL];unfold DM tV;split
    ·simp
    ·rw[iC];have:=(EK.o.fU.fN.bV cu cg no 1 4).2;omega
   have yt:Hid (Nu S2 cu cg no=L.map (·.2)):=by show _=_;rw[hL];rfl
   rw[<-pX]at HF4;have Yf:Hid (Only (b::g.list) w W7):=O5.o.trans O7 (fun y hy=>.inl hy);have QU:=zH P7;have C7:=zH (O7.has C5.o (nb.o _ adD));have D7:=zH (O7.has S5.o (nb.o _ (by omega)));have adG:Hid (en lP W7 br (.slice (some gr) T' cap) t'.reverse):=abJ.o.only O7 (fun y hy=>nb.o y (by have:=(abJ.o.lt hy).1;omega));have s7:br<=W7.heap.size:=by have:=O7.size;omega
   have c0:=aA C7.o 0 rfl;have c1:=aA C7.o 1 rfl;have cz:=C7.o.lt;have HT7:Hid (t'.length=T'):=Yd.o.symm;clear hL pX P7 O7 hE yj SD HF3 HS2;go_wp2_with fail;refine KLS.o.mono ?_;rintro e w8 ⟨A8,c8,rfl,⟨Ff,VU⟩,b8⟩;clear c0 c1 cz KLS;obtain⟨n8,Zl⟩:=ai L.length;have afn:n8<=900:=by omega
   have Wy:=zH Zl;rw[<-Zl];have Fg:=zH Ff;have HFR:=zH VU;have Iw:=zH b8;clear Ff VU Zl X_
   by_cases he:e3=0
   case neg =>
    have t1:(e3 != 0)=true:=by simpa using he
    have HE:=zH (HF4.o.1 he);clear he b8;go_wp2;go_ret;rw[HE.o.1,HE.o.2];exact⟨rfl,QU.o.ext Iw.o,Yf.o.trans (Only.az Iw.o) (fun y hy=>.inl hy)⟩
   have t1:(e3 != 0)=false:=by simpa using he
   obtain⟨k',hk',hF'⟩:=HF4.o.2 he;have HK:=zH hk';have HFF:=zH hF';have wn:IntKind.i64.wrap ((n8:Int)-1)=(n8:Int)-1:=cB _ (by omega);have p8:(0:Int)<=(n8:Int):=cO _;clear he hk' hF' HF4 b8;go_wp2_with fail;go_loopw [13,19] (fun vt vi Ru=>∃p:Nat,vi=.int .i64 ((p:Int)-1)/\p<=n8/\en lP Ru br vt (t'.reverse++((L.map (·.2)).drop p).reverse)/\PS Ru B b g S2/\Hid (Only (b::g.list) w Ru)/\Has Ru b5 (.cells #[cu,cg] 27)/\Has Ru dI (.cells #[z0,dv,z2,z3,z4,z5,z6,z7,z8,z9] 95)/\bU Ru A8 L/\w8.heap.size<=Ru.heap.size/\(∀y,vt.ownBlock=some y->A8.map (·.block)≠some y)) (fun _ vi _=>((intOf vi)+1).toNat)
   case atStart =>
    refine⟨n8,rfl,aE _,?_,QU.o.ext Iw.o,Yf.o.trans (Only.az Iw.o) (fun y hy=>.inl hy),C7.o.ext Iw.o,D7.o.ext Iw.o,Fg.o,aE _,fun y hy e=>?_⟩
    ·rw [Ei (by rw[jP,Wy.o];exact aE _),List.reverse_nil,iR]
     exact adG.o.ext Iw.o
    ·have h1:=(adG.o.lt hy).2
     have h2:=HFR.o y e;omega
   case round =>
    obtain⟨p,Ls,hp,hO,hP,hOn,H5,SI,Xd,hs8,hap⟩:=hrel;rcases p with _|p
    ·have Bl:u19=.int .i64 (-1):=Ls
     subst Bl;have H1:=zH hO;have H2:=zH hP;have H3:=zH H5;have H4:=zH SI;clear Ls hO hP H5 SI Xd hap;go_wp2_with fail;go_roundg k'
     case measure=>have:=HK.o;omega
     case rel =>
      refine⟨S2,Nu S2 cu cg no++t',no,rfl,?_,H2.o,hOn,H3.o,H4.o,HFF,mZ,EK.o.mono (by have:=HK.o;omega),by have:=HK.o;omega,?_,by have:=Iw.o.size;omega⟩
      ·have:=H1.o
       rw[jN]at this;rw[yt.o,wi];exact this
      ·have h1:=HK.o
       have h2:=HT7.o;rw[yt.o,aZ,jP];have h3:=Wy.o;have h4:=Ty.o;rw[bk]at h4;omega
    ·have Bl:u19=.int .i64 (p:Int):=by rw[Ls];simp
     subst Bl;have hpl:p<L.length:=by have:=Wy.o;omega
     obtain ⟨bb,o,rfl,tJ,q0,q1⟩:=Xd.lt0 hpl;obtain⟨y,NY⟩:=ai (L[p]);rw[<-NY]at q0 q1;have Mr:Hid (t'.reverse++((L.map (·.2)).drop p).reverse=(t'.reverse++((L.map (·.2)).drop (p+1)).reverse)++[y.2]):=by
      show _=_;rw[jg (by rw[jP];exact hpl),p_,l6,DR,<-NY]
     have r0:(0:Int)<=(p:Int):=cO _;have r1:(p:Int)<(n8:Int):=by omega
     have r2:IntKind.i64.wrap ((p:Int)-1)=(p:Int)-1:=cB _ (by omega);have XC:(t'.reverse++((L.map (·.2)).drop (p+1)).reverse).length<=2000000:=by
      have:=Wy.o;have:=HT7.o;rw[aZ,kV,kV,oh,jP];omega
     have qY:br<=wr.heap.size:=by have:=Iw.o.size;omega
     obtain ⟨v',w',hr,Jk,hg,Ii⟩:=DB lP wr hO qY y.2 XC;have HR:=zH hr;have o6:Only u13.ownBlock.toList wr w':=(Only.lh _ _ _).then (Only.of_grownBy hg (fun g hv=>cR.2 hv));have hmem:∀x∈u13.ownBlock.toList,br<=x/\e7 wr x lP.t:=fun x hx=>by
      have hx':=cR.1 hx;exact⟨(hO.lt hx').1,hO.tag hx'⟩
     have afo:Hid (∃p':Nat,Value.int .i64 ((p:Int)-1)=.int .i64 ((p':Int)-1)/\p'<=n8/\en lP w' br v' (t'.reverse++((L.map (·.2)).drop p').reverse)/\PS w' B b g S2/\Hid (Only (b::g.list) w w')/\Has w' b5 (.cells #[cu,cg] 27)/\Has w' dI (.cells #[z0,dv,z2,z3,z4,z5,z6,z7,z8,z9] 95)/\bU w' (some ⟨bb,o,none⟩) L/\w8.heap.size<=w'.heap.size/\(∀y,v'.ownBlock=some y->(some (⟨bb,o,none⟩:Addr)).map (·.block)≠some y)):=by
      have afp:bb∉u13.ownBlock.toList:=fun hm=>hap bb (cR.1 hm) rfl
      have hBb:B<=b:=(QU.o.dJ b (bY ..)).1;have PT:=oV.o b (bY ..);refine⟨p,rfl,by omega,by rw[Mr.o];exact Jk,hP.only o6 (fun x hx=>?_) (fun x hx hm=>nb.o x (by have:=(hmem x hm).1;omega) hx),hOn.o.trans o6 (fun x hx=>.inr (by have:=(hmem x hx).1;omega)),o6.has H5 (fun hm=>by have:=(hmem _ hm).1;omega),o6.has SI (fun hm=>by have:=(hmem _ hm).1;omega),?_,by have:=o6.size;omega,fun x hx e=>?_⟩
      ·obtain ⟨h1,cc,ff,h2⟩:=hmem x hx
       refine⟨by omega,?_,?_⟩<;>rintro⟨c2,f2,yD⟩<;>rw[h2]at yD<;>cases yD
      ·rcases Xd with h9|⟨b9,o9,h9,h10,h11⟩
       ·exact .inl h9
       ·refine .inr ⟨b9,o9,h9,by have:=o6.size;omega,fun k hk=>?_⟩
        injection h9 with h9;injection h9 with h9 _;have e9:=o6.block b9 h10 (by rw[<-h9];exact afp);exact⟨(jE e9 _).trans (h11 k hk).1,(jE e9 _).trans (h11 k hk).2⟩
      ·have e':bb=x:=by injection e
       rcases Ii with k9|k9
       ·rw [k9,<-e']at hx
        exact hap bb hx rfl
       ·rw [k9]at hx
        injection hx with hx;omega
     obtain⟨A6,c6,hv',_⟩:=Jk.at_;obtain⟨n6,hn6⟩:=ai ((t'.reverse++((L.map (·.2)).drop (p+1)).reverse++[y.2]).length);rw[<-hn6]at hv';clear hn6 Jk hg Ii hr o6 hmem Mr XC hO hP hOn H5 SI Xd hap NY hpl Ls q0;subst hv';go_wp2_with (at_builtin;refine nj _ rfl _ _ 124 124 rfl _ _ rfl rfl _ _ HR.o ?_);go_roundw
     case rel=>exact afo.o
     case measure=>simp[intOf]
theorem iQ.refl {w':World} (h:RS w B f s) (k:Ext w w'):iQ w B f s w':=⟨f,h.ext k,Only.az k,cI.ew _ _⟩
theorem iQ.trans {w w1 w':World} {B:Nat} {f f1:cI} {s:aH} (h1:cI.on f1 f w) (o:Only f.list w w1) (k:iQ w1 B f1 s w'):iQ w B f s w':=by
 obtain⟨f2,k1,k3,k2⟩:=k;refine⟨f2,k1,o.trans k3 fun x hx=>?_,cI.pE h1 k2 o.size⟩;rcases h1.2 x hx with e|e
 ·exact .inl e
 ·exact .inr e
theorem RS.off {x:Nat} {cs:Array Value} {t:TypeId} (h:RS w B f s) (hx:Has w x (.cells cs t)) (h1:t≠78) (h2:t≠66) (h3:t≠191):x∉f.list:=by
 obtain⟨A,cap,h⟩:=h;exact h.1.j7 hx h1 h2 h3
theorem lY.only {w':World} {A:Option Addr} {L:List Nat} (h:lY w A l) (o:Only L w w') (hn:∀b,A.map (·.block)=some b->b∉L):lY w' A l:=by
 rcases h with h|⟨b,p,hA,hb,hc⟩
 ·exact .inl h
 ·have e:=o.block b hb (hn b (by rw[hA];rfl))
  refine .inr ⟨b,p,hA,by have:=o.size;omega,fun k hk j hj=>?_⟩;rw[jE e];exact hc k hk j hj
def VV (cu cg:Int) (s:aH) (x:au) (s':aH) (e:Int):Prop:=∀(w:World) (B:Nat) (f:cI),RS w B f s->Calls prog 62 #[((),f.bF),.agg #[cu,cg],.agg #[x.dir,bs x.name,x.no,x.depth]] w (fun r w'=>r=.returned (.int .i64 e)/\iQ w B f s' w')
inductive sU (cu cg:Int):aH->List au->aH->Int->Prop
 | nil (s:_):sU cu cg s [] s 0
 | stop {s:_} {x:_} {t:_} {s1:_} {e:_}:VV cu cg s x s1 e->e≠0->sU cu cg s (x::t) s1 e
 | step {s x t s1 s2 e}:VV cu cg s x s1 0->sU cu cg s1 t s2 e->sU cu cg s (x::t) s2 e
theorem sU.Mb (h:sU cu cg s l s1 e) (hl:l=[]):s=s1/\e=0:=by
 cases h with
 | nil=>exact⟨rfl,rfl⟩
 | stop=>cases hl
 | step=>cases hl
theorem sU.I7 (h:sU cu cg s l s1 e) {t:List au} (hl:l=x::t):∃s2 e2,VV cu cg s x s2 e2/\(e2≠0->s2=s1/\e2=e)/\(e2=0->sU cu cg s2 t s1 e):=by
 cases h with
 | nil=>cases hl
 | stop h1 h2=>injection hl with a b;subst a;subst b;exact⟨_,_,h1,fun _=>⟨rfl,rfl⟩,fun h=>absurd h h2⟩
 | step h1 h2=>injection hl with a b;subst a;subst b;exact⟨_,_,h1,fun h=>absurd rfl h,fun _=>h2⟩
theorem oF {c:Nat} {s s':aH} {cu cg:Int} {x:au} {e':Int} (hs:d_ c s) (hc:c<=800) (aX:0<=x.depth) (ue:x.depth<=1000000) (ie:x.name.length<=1000000)
  (H:(ln s cu cg x≠0/\s'=s/\e'=ln s cu cg x)\/(ln s cu cg x=0/\∃s1 e1,sU cu cg s (oY s cu cg x) s1 e1/\((e1≠0/\s'=s1/\e'=e1)\/(e1=0/\s'=jX s1 cu cg x/\e'=kS s1 cu cg x/\d_ c s1)))):VV cu cg s x s' e':=by
 intro w B f h;obtain⟨W0,aJ⟩:=ai ((w.alloc (.cells #[cu,cg] 27)).alloc (.cells #[x.dir,bs x.name,x.no,x.depth] 41));obtain⟨b4,qA⟩:=ai w.heap.size;obtain⟨b5,fu⟩:=ai (w.heap.size+1);have E0:Ext w W0:=by rw[aJ];exact ((Ext.refl _).alloc _).alloc _
 have X0:Has W0 b5 (.cells #[x.dir,bs x.name,x.no,x.depth] 41):=by rw[aJ,fu];have:=Has.new (w.alloc (.cells #[cu,cg] 27)) (.cells #[x.dir,bs x.name,x.no,x.depth] 41);rw[bi]at this;exact this
 have C0:Has W0 b4 (.cells #[cu,cg] 27):=by rw[aJ,qA];exact (Has.new w _).alloc _
 have h0:=h.ext E0;have KI:=zH (h0.UQ hs (by omega) cu cg x aX ue);obtain⟨IE,ZO⟩:=ai (ln s cu cg x);obtain⟨IL,Ya⟩:=ai (oY s cu cg x);have afq:IL.length<=1000:=by rw[Ya];have:=yR hs cu cg x;omega
 rw [<-ZO,<-Ya]at KI H;have HH:=zH H;have H0:=zH h0;have lC:=zH E0;have Dc:=zH X0;have CZ:=zH C0;have c0:=C0.cell 0;have c1:=C0.cell 1;have cz:=C0.lt;have x0:=aA X0 0 rfl;have x1:=aA X0 1 rfl;have x2:=aA X0 2 rfl;have x3:=aA X0 3 rfl;have xz:=X0.lt;clear h h0 hs ZO Ya H E0 X0 C0;go_in;go_upto_region 1 with fail;rw[show (w.alloc _).alloc _=W0 from aJ.symm,<-fu,<-qA];clear aJ qA fu;go_wp2_with fail;refine KI.o.mono ?_;rintro e w1 ⟨v,rfl,O1,b1⟩;go_upto_region 2 with fail;clear c0 c1 cz x0 x1 x2 x3 xz KI;obtain⟨A,cap,hv,_,_,hA,_⟩:=O1.at_;have hAb:Hid (∀y,A.map (·.block)=some y->y∉f.list):=by
  show ∀_,_->_;intro y hy;subst hv
  cases A with
  | none=>cases hy
  | some a =>
   have hy':a.block=y:=by injection hy
   intro hm;have h1:=H0.o.lt y hm;rcases O1.cases with⟨h2,_⟩|⟨g,PD,_,h2,h3,_⟩
   ·cases h2
   ·injection h2 with g1 g2 g3
    injection g1 with g1;rw[g1]at hy';have h5:g=y:=hy';omega
 obtain⟨n,hn⟩:=ai IL.length;rw[<-hn]at hv afq;have HN:=zH hn;have HA:=zH hA;have nZ:=zH b1;have HR1:=zH (H0.o.ext b1);subst hv;clear O1 hA hn b1
 by_cases hi:IE=0
 case neg =>
  have t1:(IE != 0)=true:=by simpa using hi
  have HI:=zH hi;clear hi;go_wp2;go_ret;rcases HH.o with⟨_,rfl,rfl⟩|⟨h,_⟩
  ·exact⟨rfl,f,HR1.o,Only.az (lC.o.trans nZ.o),cI.ew _ _⟩
  ·exact absurd h HI.o
 have t1:(IE != 0)=false:=by simpa using hi
 obtain ⟨s1,e1,PX,oK⟩:∃s1 e1,sU cu cg s IL s1 e1/\((e1≠0/\s'=s1/\e'=e1)\/(e1=0/\s'=jX s1 cu cg x/\e'=kS s1 cu cg x/\d_ c s1)):=by
  rcases HH.o with⟨h,_⟩|⟨_,h⟩
  ·exact absurd hi h
  ·exact h
 have afr:=zH PX;have adH:=zH oK;clear hi HH PX oK;go_wp2_with fail;clear t1;go_loopw [9] (fun vi wr=>∃(i:Nat) (si:aH),vi=.int .i64 i/\i<=n/\Hid (sU cu cg si (IL.drop i) s1 e1)/\Hid (iQ w1 B f si wr)) (fun vi _=>n-(intOf vi).toNat)
 case atStart=>exact⟨0,s,rfl,bC _,by show sU _ _ _ _ _ _;rw[jN];exact afr.o,iQ.refl HR1.o (Ext.refl _)⟩
 case round =>
  obtain⟨i,si,rfl,hi,YV,hRi⟩:=hrel;obtain⟨V,hV⟩:=ai wr;subst hV;obtain⟨f1,hR,hO,hG⟩:=id hRi.o;have nf4:Hid (b4∉f.list):=H0.o.off CZ.o (by decide) (by decide) (by decide);have nf5:Hid (b5∉f.list):=H0.o.off Dc.o (by decide) (by decide) (by decide);have C1:=hO.has (CZ.o.ext nZ.o) nf4.o;have X1:=hO.has (Dc.o.ext nZ.o) nf5.o;have A1:=HA.o.only hO hAb.o;have HR:=zH hR;have HO:=zH hO;have HG:=zH hG;have Ce:=zH C1;have HX1:=zH X1;have FR:Hid (f1.bF=f.bF):=hG.1;have c0:=aA C1 0 rfl;have c1:=aA C1 1 rfl;have cz:=C1.lt;clear hR hO hG hRi C1 X1;have i0:(0:Int)<=(i:Int):=cO _
  by_cases hlt:(i:Int)<n
  case pos =>
   have hil:i<IL.length:=by have:=HN.o;omega
   obtain⟨y,hy⟩:=ai (IL[i]);obtain⟨s2,e2,hP,hP1,Lz⟩:=YV.o.I7 (x:=y) (t:=IL.drop (i+1)) (by rw[hy];exact jg hil);obtain⟨ba,oa,rfl,yx,p0,p1,p2,p3⟩:=A1.at_ hil;rw[<-hy]at p0 p1 p2 p3;have BS:IntKind.i64.wrap ((i:Int)+1)=(i:Int)+1:=cB _ (by omega);have KP:Hid (∀u,Ext V u->Calls prog 62 #[((),f.bF),.agg #[cu,cg],.agg #[y.dir,bs y.name,y.no,y.depth]] u (fun r w'=>r=.returned (.int .i64 e2)/\iQ u B f1 s2 w')):=by
    show ∀_,_->Calls _ _ _ _ _;intro u hu;rw[<-FR.o];exact hP u B f1 (HR.o.ext hu)
   have Fp:=zH hP1;have FU:=zH Lz;clear hy hP hP1 Lz A1 YV hil;go_upto_region 7 with fail;go_still_tail 6,(by kernel_rfl);change wpList _ _ _ _ _ V.drew;go_wp2_with fail;refine (KP.o V.drew (Ext.refl _).drew).mono ?_;rintro e tg ⟨rfl,Nl⟩;have R1':Hid (iQ w1 B f s2 tg):=by
    show iQ _ _ _ _ _;exact iQ.trans HG.o (HO.o.ext (Ext.refl _).drew) Nl
   clear Nl c0 c1 cz p0 p1 p2 p3 yx KP
   by_cases h2:e2=0
   ·have t2:(e2 != 0)=false:=by simpa using h2
    have HQ:=zH (FU.o h2);clear h2 Fp FU;go_wp2_with fail;go_roundw
    case rel=>exact⟨i+1,s2,by go_num,by omega,HQ,R1'⟩
    case measure=>simp[intOf];omega
   ·have t2:(e2 != 0)=true:=by simpa using h2
    have HQ:=zH (Fp.o h2);have H2:=zH h2;clear h2 Fp FU;go_wp2;go_ret;obtain⟨q1,q2⟩:=HQ.o;rcases adH.o with⟨_,k2,k3⟩|⟨k1,_⟩
    ·rw [k2,k3,<-q1,<-q2]
     exact⟨rfl,iQ.pre (Only.az (lC.o.trans nZ.o)) R1'.o⟩
    ·exact absurd (q2.trans k1) H2.o
  case neg =>
   have lm:i=n:=by omega
   obtain ⟨q1,q2⟩:=YV.o.Mb (by rw[lm,HN.o];exact uo);subst q1;obtain⟨YD,Wo,Ny⟩:s'=jX si cu cg x/\e'=kS si cu cg x/\d_ c si:=by
    rcases adH.o with⟨k1,_⟩|⟨_,k2,k3,k4⟩
    ·exact absurd q2 k1
    ·exact⟨k2,k3,k4⟩
   obtain⟨e3,pX⟩:=ai (gY si (dQ si.t x.no));obtain⟨m1,ig⟩:=ai (vA si (aa si.t.nodes x.no));have K1:Hid (∀u,Ext V u->Calls prog 91 #[((),f.bF),x.no] u (aO u (.tuple #[iU m1,e3]))):=by
    show ∀_,_->Calls _ _ _ _ _;intro u hu;rw[ig,pX,<-FR.o];exact (HR.o.ext hu).Li Ny (by omega) x.no
   have N1:Hid (e3≠0->e'=e3/\s'=si):=fun k=>by rw[pX]at k|-;rw[YD,Wo];exact I5 k
   have K2:Hid (e3=0->m1.kind=1->∀u,Ext V u->Calls prog 107 #[((),f.bF),.agg #[cu,cg],x.dir,bs x.name] u (fun e w'=>e=.returned (.int .i64 e')/\iQ u B f1 s' w')):=by
    show _->_->∀_,_->Calls _ _ _ _ _;intro k1 k2 u hu;rw[pX]at k1;rw[ig]at k2;obtain⟨_,g2,g3⟩:=Nx (cu:=cu) (cg:=cg) k1 k2;rw[YD,Wo,g2,g3,<-FR.o];exact (HR.o.ext hu).XV Ny hc cu cg x.dir x.name ie
   have K3:Hid (e3=0->¬m1.kind=1->∀u,Ext V u->Calls prog 108 #[((),f.bF),.agg #[cu,cg],x.dir,bs x.name] u (fun e w'=>e=.returned (.int .i64 e')/\iQ u B f1 s' w')):=by
    show _->_->∀_,_->Calls _ _ _ _ _;intro k1 k2 u hu;rw[pX]at k1;rw[ig]at k2;obtain⟨_,g2,g3⟩:=I6 (cu:=cu) (cg:=cg) k1 k2;rw[YD,Wo,g2,g3,<-FR.o];exact (HR.o.ext hu).Un Ny hc cu cg x.dir x.name ie
   have RA:Hid (∀u w',Ext V u->iQ u B f1 s' w'->iQ w B f s' w'):=fun u w' hu hr=>iQ.pre (Only.az (lC.o.trans nZ.o)) (iQ.trans HG.o (HO.o.ext hu) hr)
   have Yo:=HR;have x2:=aA HX1.o 2 rfl;have xz:=HX1.o.lt;clear lm q2 YD Wo Ny pX ig YV A1 c0 c1 cz FR;unfold iU at K1;go_wp2_with fail;refine (K1.o _ (Ext.refl _)).mono ?_;rintro e w4 ⟨rfl,ZT⟩;go_upto_region 11 with fail;clear x2 xz K1;obtain⟨W4,gb⟩:=ai (w4.alloc (.cells #[m1.no,m1.dev,m1.kind,m1.mode,m1.uid,m1.gid,m1.ar,m1.data.length,m1.mtime,m1.ctime] 95));obtain⟨dI,fj⟩:=ai w4.heap.size;have S4:Has W4 dI (.cells #[m1.no,m1.dev,m1.kind,m1.mode,m1.uid,m1.gid,m1.ar,m1.data.length,m1.mtime,m1.ctime] 95):=by rw[gb,fj];exact Has.new _ _
   have E4:Ext V W4:=by rw[gb];exact ZT.alloc _
   rw[<-gb,<-fj];clear gb fj ZT
   by_cases k1:e3=0
   case neg =>
    have t1:(e3 != 0)=true:=by simpa using k1
    have H1:=zH (N1.o k1);clear k1 N1 K2 K3;go_wp2;go_ret;obtain⟨g1,g2⟩:=H1.o;refine⟨by rw[g1];rfl,RA.o _ _ E4 ?_⟩;rw[g2];exact iQ.refl (Yo.o.ext E4) (Ext.refl _)
   have t1:(e3 != 0)=false:=by simpa using k1
   have c0:=(Ce.o.ext E4).cell 0;have c1:=(Ce.o.ext E4).cell 1;have cz:=(Ce.o.ext E4).lt;have x0:=(HX1.o.ext E4).cell 0;have x1:=(HX1.o.ext E4).cell 1;have xz:=(HX1.o.ext E4).lt;have y2:=S4.cell 2;have yz:=S4.lt;simp only[gA,gB,gC]at x0 x1 y2 c0 c1
   by_cases k2:m1.kind=1
   ·have t2:(m1.kind == 1)=true:=by simpa using k2
    have K:=zH (K2.o k1 k2);clear k1 k2 K2 K3 N1;go_wp2_with fail;refine (K.o _ E4).mono ?_;rintro e w5 ⟨rfl,R5⟩;go_wp2;go_ret;exact⟨rfl,RA.o _ _ E4 R5⟩
   ·have t2:(m1.kind == 1)=false:=by simpa using k2
    have K:=zH (K3.o k1 k2);clear k1 k2 K2 K3 N1;go_wp2_with fail;refine (K.o _ E4).mono ?_;rintro e w5 ⟨rfl,R5⟩;go_wp2;go_ret;exact⟨rfl,RA.o _ _ E4 R5⟩
theorem VW (h:d_ c s) {y:au} (hy:y∈oY s cu cg x):y.name.length<=1000000:=by
 unfold oY tV at hy;split at hy
 ·cases hy
 unfold ia at hy;split at hy
 ·rename_i hx
  rw[fH]at hy;obtain⟨z',hz',rfl⟩:=hy;unfold b_ at hz';rw[fH]at hz';obtain⟨z,hz,rfl⟩:=hz';have:=(h.fN.names _ (bP hx.2).2.2 z hz).2;show z.1.length<=_;omega
 ·cases hy
theorem YW {t:List au} (h:sa cu cg s t s' e L k):∀c:Nat,Pl c s->c+L.length<=800->(∀y∈t,0<=y.depth/\y.depth+k<=1000000/\y.name.length<=1000000)->sU cu cg s t s' e:=by
 have Md:∀{c:Nat} {s:aH} {x:au} {k:Nat},Pl c s->0<=x.depth->x.depth+((k+1:Nat):Int)<=1000000->∀y∈oY s cu cg x,0<=y.depth/\y.depth+k<=1000000/\y.name.length<=1000000:=fun hp h1 h2 y hy=>by
  have:=sG hy;exact⟨by omega,by omega,VW hp.fU hy⟩
 induction h with
 | nil s=>intro c _ _ _;exact .nil s
 | @bad s x t h =>
  intro c hp hc ht;obtain⟨h1,h2,h3⟩:=ht x (bY ..);exact .stop (oF hp.fU (by omega) h1 (by omega) h3 (.inl ⟨h,rfl,rfl⟩)) h
 | @kids s x t s1 e L k hi hk he ih =>
  intro c hp hc ht;obtain⟨h1,h2,h3⟩:=ht x (bY ..);exact .stop (oF hp.fU (by omega) h1 (by omega) h3 (.inr ⟨hi,_,_,ih c hp hc (Md hp h1 (by omega)),.inl ⟨he,rfl,rfl⟩⟩)) he
 | @one s x t s1 L k hi hk he ih =>
  intro c hp hc ht;rw[aZ,lF]at hc;obtain⟨h1,h2,h3⟩:=ht x (bY ..);have Ct:Pl (c+L.length) s1:=by rw[<-(mU hk).zero.2.1];exact (sb hp cu cg L (mU hk).zero.1).1
  exact .stop (oF (c:=c+L.length) (hp.mono (by omega)).fU (by omega) h1 (by omega) h3 (.inr ⟨hi,_,_,ih c hp (by omega) (Md hp h1 (by omega)),.inr ⟨rfl,rfl,rfl,Ct.fU⟩⟩)) he
 | @step s x t s1 L k s2 e L2 k2 hi hk ho h4 ih VD =>
  intro c hp hc ht;rw[aZ,bk]at hc;obtain⟨h1,h2,h3⟩:=ht x (bY ..);have Ct:Pl (c+L.length) s1:=by rw[<-(mU hk).zero.2.1];exact (sb hp cu cg L (mU hk).zero.1).1
  refine .step (oF (c:=c+L.length) (hp.mono (by omega)).fU (by omega) h1 (by omega) h3 (.inr ⟨hi,_,_,ih c hp (by omega) (Md hp h1 (by omega)),.inr ⟨rfl,rfl,ho.symm,Ct.fU⟩⟩)) ?_;exact VD _ (Ct.one cu cg x) (by omega) (fun y hy=>by
   obtain⟨a1,a2,a3⟩:=ht y (cf _ hy);exact⟨a1,by omega,a3⟩)
theorem sU.single (h:sU cu cg s [x] s1 e):VV cu cg s x s1 e:=by
 obtain⟨s2,e2,h1,h2,h3⟩:=h.I7 rfl
 by_cases he:e2=0
 ·subst he
  obtain⟨a,b⟩:=(h3 rfl).Mb rfl;subst a;subst b;exact h1
 ·obtain ⟨a,b⟩:=h2 he
  subst a;subst b;exact h1
theorem RS.sJ (h:RS w B f s) (hp:Pl c s) (cu cg dir:Int) (nm:List UInt8) (ie:nm.length<=1000000) (s':aH) (e':Int) (L:List (au×Int)) (kk:Nat) (hT:xB s cu cg dir nm s' e' L kk) (hc:c+L.length<=800) (rC:kk<=100000) :
  Calls prog 34 #[((),f.bF),.agg #[cu,cg],dir,bs nm] w (fun r w'=>r=.returned (.int .i64 e')/\iQ w B f s' w'):=by
 obtain⟨W0,aJ⟩:=ai (w.alloc (.cells #[cu,cg] 27));obtain⟨b5,fu⟩:=ai w.heap.size;have E0:Ext w W0:=by rw[aJ];exact (Ext.refl _).alloc _
 have C0:Has W0 b5 (.cells #[cu,cg] 27):=by rw[aJ,fu];exact Has.new w _
 have h0:=h.ext E0;obtain⟨X,hX⟩:=ai (du s cu cg dir nm);obtain⟨e1,m_⟩:=ai (dw s cu cg dir nm);have Ig:X.dir=dir/\X.name=nm/\X.depth=0/\X.no=H_ s (fE s.t cu cg dir nm):=by rw[hX];exact⟨rfl,rfl,rfl,rfl⟩
 have KL:Hid (Calls prog 43 #[((),f.bF),.agg #[cu,cg],dir,bs nm] W0 (aO W0 (.tuple #[X.no,e1]))):=by
  show Calls _ _ _ _ _;rw[Ig.2.2.2,m_];exact h0.Lj hp.fU (by omega) cu cg dir nm
 have KP:Hid (e1=0->∀u,Ext W0 u->Calls prog 62 #[((),f.bF),.agg #[cu,cg],.agg #[dir,bs nm,X.no,()]] u (fun r w'=>r=.returned (.int .i64 e')/\iQ u B f s' w')):=by
  show _->∀_,_->Calls _ _ _ _ _;intro k1 u hu;have hR:sa cu cg s [X] s' e' L kk:=by
   rcases hT with⟨k2,_⟩|⟨_,k2⟩
   ·exact absurd (m_.symm.trans k1) k2
   ·rw[hX];exact k2
  have:=(YW hR c hp hc (fun y hy=>by
   rw[ax]at hy;subst hy;rw[Ig.2.2.1,Ig.2.1];exact⟨gE _,by omega,ie⟩)).single u B f (h0.ext hu)
  rw[Ig.1,Ig.2.1,Ig.2.2.1]at this;exact this
 have K0:Hid (e1≠0->s'=s/\e'=e1):=fun k=>by
  rcases hT with⟨_,k2,k3,_⟩|⟨k2,_⟩
  ·exact⟨k2,k3.trans m_.symm⟩
  ·exact absurd (m_.trans k2) k
 have HW:=zH h;have c0:=aA C0 0 rfl;have c1:=aA C0 1 rfl;have cz:=C0.lt;clear h h0 hp hT hX m_ Ig;go_in;go_upto_region 1 with fail;rw[<-aJ,<-fu];clear aJ fu;go_wp2_with fail;refine KL.o.mono ?_;rintro e w1 ⟨rfl,b1⟩;go_upto_region 2 with fail;have c0:=(C0.ext b1).cell 0;have c1:=(C0.ext b1).cell 1;have cz:=(C0.ext b1).lt
 by_cases k1:e1=0
 ·have t1:(e1 != 0)=false:=by simpa using k1
  have K:=zH (KP.o k1);clear k1 KP K0;go_wp2_with fail;refine (K.o _ b1).mono ?_;rintro e w2 ⟨rfl,R2⟩;go_wp2;go_ret;exact⟨rfl,iQ.pre (Only.az (E0.trans b1)) R2⟩
 ·have t1:(e1 != 0)=true:=by simpa using k1
  have K:=zH (K0.o k1);clear k1 KP K0;go_wp2;go_ret;obtain⟨g1,g2⟩:=K.o;rw[g1,g2];exact⟨rfl,iQ.refl HW.o (E0.trans b1)⟩
def Jo (m:Int) (i:Nat):Int:=if i=6 then m else if i=7 then m+(if cK m 6=true then 0 else 64) else if i=8 then m+(if cK m 6=true then 0 else 64)+(if cK m 7=true then 0 else 128) else orM m
theorem abK {m:Int} (h0:0<=m) (h1:m<=1023):∀i,6<=i->i<=8->0<=Jo m i/\Jo m i<=1023/\Jo m (i+1)=Jo m i+(if cK (Jo m i) i=true then 0 else 2 ^ i):=by
 have:∀x:Fin 1024,∀i:Fin 3,0<=Jo (x.val:Int) (i.val+6)/\Jo (x.val:Int) (i.val+6)<=1023/\Jo (x.val:Int) (i.val+6+1)=Jo (x.val:Int) (i.val+6)+(if cK (Jo (x.val:Int) (i.val+6)) (i.val+6)=true then 0 else 2 ^ (i.val+6)):=by decide +kernel
 intro i h6 h8;have:=this ⟨m.toNat,by omega⟩ ⟨i-6,by omega⟩;rw[show ((⟨m.toNat,by omega⟩:Fin 1024).val:Int)=m by show ((m.toNat:Nat):Int)=m;omega,show (⟨i-6,by omega⟩:Fin 3).val+6=i by show i-6+6=i;omega]at this;exact this
def VX (cu cg dev:Int) (s:aH) (no:Int) (s':aH) (e:Int):Prop:=∀(w:World) (B:Nat) (f:cI),RS w B f s->Calls prog 61 #[((),f.bF),.agg #[cu,cg],no,dev] w (fun r w'=>r=.returned (.int .i64 e)/\iQ w B f s' w')
inductive iP (cu cg dev:Int):aH->List Int->aH->Int->Prop
 | nil (s:_):iP cu cg dev s [] s 0
 | stop {s:_} {x:_} {t:_} {s1:_} {e:_}:VX cu cg dev s x s1 e->e≠0->iP cu cg dev s (x::t) s1 e
 | step {s x t s1 s2 e}:VX cu cg dev s x s1 0->iP cu cg dev s1 t s2 e->iP cu cg dev s (x::t) s2 e
theorem iP.Mb {l:List Int} (h:iP cu cg dev s l s1 e) (hl:l=[]):s=s1/\e=0:=by
 cases h with
 | nil=>exact⟨rfl,rfl⟩
 | stop=>cases hl
 | step=>cases hl
theorem iP.I7 {l:List Int} (h:iP cu cg dev s l s1 e) {x:Int} (hl:l=x::t):∃s2 e2,VX cu cg dev s x s2 e2/\(e2≠0->s2=s1/\e2=e)/\(e2=0->iP cu cg dev s2 t s1 e):=by
 cases h with
 | nil=>cases hl
 | stop h1 h2=>injection hl with a b;subst a;subst b;exact⟨_,_,h1,fun _=>⟨rfl,rfl⟩,fun h=>absurd h h2⟩
 | step h1 h2=>injection hl with a b;subst a;subst b;exact⟨_,_,h1,fun h=>absurd rfl h,fun _=>h2⟩
theorem lR {c:Nat} {s s':aH} {cu cg dev no:Int} {e':Int} (hp:Pl c s) (hc:c+1<=800) (hd:s.dead=false)
  (H:(jp s dev no/\s'=s/\e'=16)\/(¬jp s dev no/\(aa s.t.nodes no).kind≠1/\s'=s/\e'=0)\/(¬jp s dev no/\(aa s.t.nodes no).kind=1/\((vR s cu cg no≠0/\s'=jY s cu cg no/\e'=vR s cu cg no)\/(vR s cu cg no=0/\((vV (jY s cu cg no) cu cg no≠0/\s'=jY s cu cg no/\e'=vV (jY s cu cg no) cu cg no)\/(vV (jY s cu cg no) cu cg no=0/\iP cu cg dev (jY s cu cg no) (Nu (jY s cu cg no) cu cg no) s' e')))))):VX cu cg dev s no s' e':=by
 intro w B f h;obtain⟨W0,aJ⟩:=ai (w.alloc (.cells #[cu,cg] 27));obtain⟨b5,fu⟩:=ai w.heap.size;have E0:Ext w W0:=by rw[aJ];exact (Ext.refl _).alloc _
 have C0:Has W0 b5 (.cells #[cu,cg] 27):=by rw[aJ,fu];exact Has.new w _
 have h0:=h.ext E0;obtain⟨X,F0⟩:=h0.Wj;obtain⟨A1,k1,tS,KG⟩:=pF B f s.t X no W0 F0 (by have:=hp.fU.fN.count;have:=hp.fU.last;omega) hp.jr.fN.bL;obtain⟨n,hn⟩:=ai (aa s.t.nodes no);have adI:(aW s.t.nodes no=true/\n.no≠0)\/(aW s.t.nodes no=false/\n.no=0):=by
  cases hi:aW s.t.nodes no with
  | true =>
   obtain⟨_,h1,h2⟩:=ap hi;have:=(hp.jr.fN.bL.2 _ h2).1;exact .inl ⟨rfl,by rw[hn];omega⟩
  | false=>exact .inr ⟨rfl,by rw[hn,(aP hi).1];rfl⟩
 have hmode:Hid (aW s.t.nodes no=true->0<=n.mode/\n.mode<=1023):=fun hi=>by
  have:=hp.jr.fN.bits _ (ap hi).2.2;rw[<-hn]at this;exact⟨this.1,this.2.1⟩
 rw[<-hn]at KG H;have Z6:=zH KG;have HN:=zH hn;have Qr:=zH adI;have HH:=zH H;have HW:=zH h0;have HP:=zH hp;have HD:=zH hd;have lC:=zH E0;have CZ:=zH C0;clear h h0 F0 tS KG hn adI H hp hd E0 C0;go_in;go_upto_region 1 with fail;rw[<-aJ,<-fu];clear aJ fu;go_wp2_with fail;refine (Z6.o _ (Ext.refl _)).mono ?_;rintro e w1 ⟨rfl,b1⟩;clear Z6;go_upto_region 2 with fail;obtain⟨W2,dp⟩:=ai (w1.alloc (.cells (n,A1,k1) 66));obtain⟨b9,Fu⟩:=ai w1.heap.size;have N2:Has W2 b9 (.cells (n,A1,k1) 66):=by rw[dp,Fu];exact Has.new _ _
 have E2:Ext W0 W2:=by rw[dp];exact b1.alloc _
 rw[<-dp,<-Fu];clear dp Fu b1;have x0:=aA N2 0 rfl;have x1:=aA N2 1 rfl;have x2:=aA N2 2 rfl;have xz:=N2.lt;have JU:=zH N2;have yj:=zH E2;have Yo:=zH (HW.o.ext E2);have qw:=zH (CZ.o.ext E2);have RA:Hid (∀w',iQ W2 B f s' w'->iQ w B f s' w'):=fun w' hr=>iQ.pre (Only.az (lC.o.trans yj.o)) hr
 clear N2 E2 HW CZ
 by_cases hb:jp s dev no
 ·have hI:n.no≠0:=by
   rcases Qr.o with⟨_,h⟩|⟨h,_⟩
   ·exact h
   ·exact absurd (h.symm.trans hb.1) (by decide)
  have t0:(n.no != 0)=true:=by simpa using hI
  have t1:(n.dev != dev)=true:=by rw[HN.o];simpa using hb.2
  have H9:Hid (s'=s/\e'=16):=by
   rcases HH.o with⟨_,h⟩|⟨h,_⟩|⟨h,_⟩
   ·exact h
   ·exact absurd hb h
   ·exact absurd hb h
  clear hI hb;go_wp2;go_ret;rw[H9.o.2];exact⟨rfl,RA.o _ (by rw[H9.o.1];exact iQ.refl Yo.o (Ext.refl _))⟩
 have HB:=zH hb;have t01:Hid ((n.no != 0)=false\/((n.no != 0)=true/\(n.dev != dev)=false)):=by
  show _\/_;rcases Qr.o with⟨h1,h2⟩|⟨_,h2⟩
  ·refine .inr ⟨by simpa using h2,?_⟩
   have:n.dev=dev:=JJ fun h9=>hb ⟨h1,by rw[<-HN.o];exact h9⟩
   simpa using this
  ·exact .inl (by simpa using h2)
 by_cases hk:n.kind=1
 case neg =>
  have t2:(n.kind != 1)=true:=by simpa using hk
  have H9:Hid (s'=s/\e'=0):=by
   rcases HH.o with⟨h,_⟩|⟨_,_,h⟩|⟨_,h,_⟩
   ·exact absurd h hb
   ·exact h
   ·exact absurd h hk
  have adJ:Hid (∀w',Ext W2 w'->Ending.returned (.int .i64 0)=.returned (.int .i64 e')/\iQ w B f s' w'):=fun w' hE=>⟨by rw[H9.o.2],RA.o _ (by rw[H9.o.1];exact iQ.refl Yo.o hE)⟩
  clear hk hb;rcases t01.o with t0|⟨t0,t1⟩
  ·go_wp2
   go_ret;exact adJ.o _ (Ext.refl _)
  ·go_wp2
   go_ret;exact adJ.o _ (Ext.refl _)
 have hI:aW s.t.nodes no=true:=(bP (by rw[<-HN.o];exact hk)).1;have t2:(n.kind != 1)=false:=by simpa using hk
 obtain ⟨t0,t1⟩:(n.no != 0)=true/\(n.dev != dev)=false:=by
  rcases t01.o with h|h
  ·rcases Qr.o with⟨_,h2⟩|⟨h2,_⟩
   ·exact absurd (by simpa using h) h2
   ·exact absurd (h2.symm.trans hI) (by decide)
  ·exact h
 have H9:Hid ((vR s cu cg no≠0/\s'=jY s cu cg no/\e'=vR s cu cg no)\/(vR s cu cg no=0/\((vV (jY s cu cg no) cu cg no≠0/\s'=jY s cu cg no/\e'=vV (jY s cu cg no) cu cg no)\/(vV (jY s cu cg no) cu cg no=0/\iP cu cg dev (jY s cu cg no) (Nu (jY s cu cg no) cu cg no) s' e')))):=by
  show _\/_;rcases HH.o with⟨h,_⟩|⟨_,h,_⟩|⟨_,_,h⟩
  ·exact absurd h hb
  ·exact absurd hk h
  ·exact h
 have adK:=hmode.o hI;have hsh:Hid (DL s.t cu cg no=(!fh cu cg n.uid n.gid n.mode 7&&fp cu n.uid)):=by show _=_;rw[HN.o];rfl
 obtain⟨sh,Mc⟩:=ai (DL s.t cu cg no);rw[<-Mc]at hsh;have HSH:=zH Mc;have HM:=zH adK;clear Mc hk hb hI adK;go_upto_region 6 with fail;clear t0 t1 t2 x0 x1 x2 xz t01;go_cut [40] (fun v wc=>v=.bool sh/\Ext W2 wc)
 case first =>
  have c0:=aA qw.o 0 rfl;have c1:=aA qw.o 1 rfl;have cz:=qw.o.lt;obtain⟨x0,x1,x2,x3,x4,x5,x6,x7,x8,x9,kC,kn⟩:=JU.o.da;have zx:=JU.o.lt;go_wp2_with fail;refine (pK cu cg _ _ _ _ _ _ _ _ _ _ _ _ 7 _).mono ?_;rintro e w6 ⟨rfl,b6⟩;clear c0 c1 cz x0 x1 x2 x3 x4 x5 x6 x7 x8 x9 kC kn zx;have B6:=zH b6
  cases hm:fh cu cg n.uid n.gid n.mode 7 with
  | true =>
   have h9:Hid (sh=false):=zH (by rw[hsh.o,hm];rfl);clear b6;go_wp2_with fail;go_meet;exact⟨by rw[h9.o],B6.o⟩
  | false =>
   have h9:Hid (sh=fp cu n.uid):=zH (by rw[hsh.o,hm];rfl);have c0:=(qw.o.ext b6).cell 0;have c1:=(qw.o.ext b6).cell 1;have cz:=(qw.o.ext b6).lt;obtain⟨x0,x1,x2,x3,x4,x5,x6,x7,x8,x9,kC,kn⟩:=(JU.o.ext b6).da;have zx:=(JU.o.ext b6).lt;simp only[gA,gB,gC]at c0 c1;clear b6;go_wp2_with fail;refine (sA cu cg _ _ _ _ _ _ _ _ _ _ _ _ _).mono ?_;rintro e w7 ⟨rfl,b7⟩;have B7:=zH (B6.o.trans b7);clear b7 c0 c1 cz x0 x1 x2 x3 x4 x5 x6 x7 x8 x9 kC kn zx;go_wp2_with fail;go_meet;exact⟨by rw[h9.o],B7.o⟩
 case rest =>
 obtain⟨rfl,B6⟩:=hcut;obtain⟨W6,tM⟩:=ai wc;rw[<-tM]at B6|-;clear tM
 iterate 1 (first|go_back|go_values|go_skip|go_guarded|go_step|go_upon)
 obtain⟨S2,Bp⟩:=ai (jY s cu cg no);obtain⟨E2,j0⟩:=ai (vR s cu cg no);have YU:Hid (sh=false->S2=s/\E2=0):=fun h=>by
  rw[HSH.o]at h;rw[Bp,j0];exact⟨by unfold jY;rw[ac (by rw[h];decide)],by unfold vR;rw[ac (by rw[h];decide)]⟩
 have KC:Hid (sh=true->∀u,Ext W2 u->Calls prog 106 #[((),f.bF),.agg #[cu,cg],no,.int .i64 (Jo n.mode 9)] u (fun e w'=>e=.returned (.int .i64 E2)/\iQ u B f S2 w')):=by
  show _->∀_,_->Calls _ _ _ _ _;intro h u hu;rw[HSH.o]at h;have e1:S2=ul s cu cg (.ee no (orM n.mode)):=by rw[Bp,HN.o];unfold jY;rw[af h];rfl
  have e2:E2=yw s cu cg (.ee no (orM n.mode)):=by rw[j0,HN.o];unfold vR;rw[af h];rfl
  rw[e1,e2];exact (Yo.o.ext hu).XW HP.o.fU (by omega) cu cg no (orM n.mode)
 rw[<-Bp,<-j0]at H9;have HS2:=zH Bp;have afs:=zH j0;have WB:=zH B6;clear Bp j0;go_cut [] (fun wc=>iQ W2 B f S2 wc/\E2=0)
 case first =>
  cases sh with
  | false =>
   obtain⟨h1,h2⟩:=YU.o rfl;have H1:=zH h1;have H2:=zH h2;clear h1 h2 KC YU B6;go_wp2_with fail;go_meet;exact⟨by rw[H1.o];exact iQ.refl Yo.o WB.o,H2.o⟩
  | true =>
   have VT:=zH (KC.o rfl);have x3:=(JU.o.ext B6).cell 3;have xz:=(JU.o.ext B6).lt;simp only[gA,gB,gC]at x3;clear KC YU B6;go_wp2_with fail;clear x3 xz;have hK6:Hid (Jo n.mode 6=n.mode):=rfl;go_loopw [10,11] (fun vm vi wr=>∃i:Nat,vi=.int .i64 i/\6<=i/\i<=9/\vm=.int .i64 (Jo n.mode i)/\Ext W6 wr) (fun _ vi _=>9-(intOf vi).toNat)
   case atStart=>exact⟨6,rfl,by decide,by decide,by rw[hK6.o],Ext.refl _⟩
   case round =>
    obtain⟨i,rfl,hi6,hi9,rfl,hE⟩:=hrel;have HE:=zH hE
    by_cases h9:i=9
    ·subst h9
     have c0:=((qw.o.ext WB.o).ext hE).cell 0;have c1:=((qw.o.ext WB.o).ext hE).cell 1;have cz:=((qw.o.ext WB.o).ext hE).lt;simp only[gA,gB,gC]at c0 c1;clear hE;go_wp2_with fail;refine (VT.o _ (WB.o.trans HE.o)).mono ?_;rintro e w7 ⟨rfl,R7⟩;have RB:Hid (iQ W2 B f S2 w7):=iQ.pre (Only.az (WB.o.trans HE.o)) R7;clear R7 c0 c1 cz VT
     by_cases hz:E2=0
     ·have t1:(E2 != 0)=false:=by simpa using hz
      have HZ:=zH hz;clear hz;go_wp2_with fail;go_meet;exact⟨RB.o,HZ.o⟩
     ·have t1:(E2 != 0)=true:=by simpa using hz
      have HZ:Hid (s'=S2/\e'=E2):=by
       rcases H9.o with⟨_,h⟩|⟨h,_⟩
       ·exact h
       ·exact absurd h hz
      clear hz;go_wp2;go_ret;exact⟨by rw[HZ.o.2];rfl,RA.o _ (by rw[HZ.o.1];exact RB.o)⟩
    ·obtain ⟨q1,q2,q3⟩:=abK HM.o.1 HM.o.2 i hi6 (by omega)
     obtain⟨md,hmd⟩:=ai (Jo n.mode i);rw[<-hmd]at q1 q2 q3|-;have HQ:=zH q3;have KB:Hid (∀u:World,Calls prog 104 #[md,i] u (aO u (.bool (cK md i)))):=by
      show ∀u,_;intro u;have:=l9 md i u (cO _) (by omega);rw[Ec]at this;exact this
     clear hmd q3 hE
     cases hbt:cK md i with
     | true =>
      have HG:Hid (Jo n.mode (i+1)=md):=by show _=_;rw[HQ.o,hbt];simp
      rw[hbt]at KB;clear hbt;obtain rfl|rfl|rfl:i=6\/i=7\/i=8:=by omega
      all_goals
       go_wp2_with fail;refine (KB.o _).mono ?_;rintro e w7 ⟨rfl,b7⟩;have Nw:=zH (HE.o.trans b7);clear b7;go_wp2_with fail;go_roundw
      case rel=>exact⟨_,rfl,by decide,by decide,by rw[HG.o],Nw.o⟩
      case measure=>simp[intOf]
      case rel=>exact⟨_,rfl,by decide,by decide,by rw[HG.o],Nw.o⟩
      case measure=>simp[intOf]
      case rel=>exact⟨_,rfl,by decide,by decide,by rw[HG.o],Nw.o⟩
      case measure=>simp[intOf]
     | false =>
      have HG:Hid (Jo n.mode (i+1)=md+2 ^ i):=by show _=_;rw[HQ.o,hbt];simp
      rw[hbt]at KB;clear hbt;obtain rfl|rfl|rfl:i=6\/i=7\/i=8:=by omega
      all_goals
       have BS:IntKind.i64.wrap (md+64)=md+64:=cB _ (by omega);have w2w:IntKind.i64.wrap (md+128)=md+128:=cB _ (by omega);have w3w:IntKind.i64.wrap (md+256)=md+256:=cB _ (by omega);go_wp2_with fail;refine (KB.o _).mono ?_;rintro e w7 ⟨rfl,b7⟩;have Nw:=zH (HE.o.trans b7);clear b7;go_wp2_with fail;go_roundw
      case rel=>exact⟨_,rfl,by decide,by decide,by rw[HG.o];rfl,Nw.o⟩
      case measure=>simp[intOf]
      case rel=>exact⟨_,rfl,by decide,by decide,by rw[HG.o];rfl,Nw.o⟩
      case measure=>simp[intOf]
      case rel=>exact⟨_,rfl,by decide,by decide,by rw[HG.o];rfl,Nw.o⟩
      case measure=>simp[intOf]
 case rest =>
 obtain ⟨R7,hE⟩:=hcut;obtain⟨W7,Rz⟩:=ai wc;rw[<-Rz]at R7|-;clear Rz KC YU B6 hmode;have H10:Hid ((vV S2 cu cg no≠0/\s'=S2/\e'=vV S2 cu cg no)\/(vV S2 cu cg no=0/\iP cu cg dev S2 (Nu S2 cu cg no) s' e')):=by
  show _\/_;rcases H9.o with⟨h,_⟩|⟨_,h⟩
  ·exact absurd hE h
  ·exact h
 have EK:Hid (Pl (c+1) S2):=by show Pl _ _;rw[HS2.o];exact HP.o.op cu cg no
 obtain ⟨f1,hR,hO,hG⟩:=id R7;have FR:Hid (f1.bF=f.bF):=hG.1;obtain⟨L,hL⟩:=ai (DM S2 cu cg no);obtain⟨e3,pX⟩:=ai (vV S2 cu cg no);have KLS:Hid (Calls prog 92 #[((),f.bF),.agg #[cu,cg],no] W7 (tu W7 L e3)):=by
  show Calls _ _ _ _ _;rw[hL,pX,<-FR.o];exact hR.Um EK.o.fU (by omega) cu cg no
 have X_:L.length<=900:=by
  rw[hL];unfold DM tV;split
  ·simp
  ·rw[iC];have:=(EK.o.fU.fN.bV cu cg no 1 4).2;omega
 have yt:Hid (Nu S2 cu cg no=L.map (·.2)):=by show _=_;rw[hL];rfl
 rw[<-pX]at H10;have nf5:Hid (b5∉f.list):=Yo.o.off qw.o (by decide) (by decide) (by decide);have C7:=zH (hO.has qw.o nf5.o);have RB:=zH hR;have Yf:=zH hO;have HG7:=zH hG;have c0:=aA C7.o 0 rfl;have c1:=aA C7.o 1 rfl;have cz:=C7.o.lt;clear hL pX hE afs H9 HS2 R7 hR hO hG;go_wp2_with fail;refine KLS.o.mono ?_;rintro e w8 ⟨A8,c8,rfl,⟨Ff,VU⟩,b8⟩;clear c0 c1 cz KLS;obtain⟨n8,Zl⟩:=ai L.length;have afn:n8<=900:=by omega
 have Wy:=zH Zl;rw[<-Zl];have Fg:=zH Ff;have HFR:=zH VU;have Iw:=zH b8;have HR8:=zH (RB.o.ext b8);have RT8:Hid (∀S9 w9,iQ w8 B f1 S9 w9->iQ W2 B f S9 w9):=fun S9 w9 hr=>iQ.trans HG7.o (Yf.o.trans (Only.az (L:=f.list) Iw.o) (fun y hy=>.inl hy)) hr
 clear Ff VU Zl X_ b8
 by_cases he:e3=0
 case neg =>
  have t1:(e3 != 0)=true:=by simpa using he
  have HE:Hid (s'=S2/\e'=e3):=by
   rcases H10.o with⟨_,h⟩|⟨h,_⟩
   ·exact h
   ·exact absurd h he
  clear he;go_wp2;go_ret;exact⟨by rw[HE.o.2];rfl,RA.o _ (by rw[HE.o.1];exact RT8.o _ _ (iQ.refl HR8.o (Ext.refl _)))⟩
 have t1:(e3 != 0)=false:=by simpa using he
 have PX:Hid (iP cu cg dev S2 (L.map (·.2)) s' e'):=by
  show iP _ _ _ _ _ _ _;rcases H10.o with⟨h,_⟩|⟨_,h⟩
  ·exact absurd he h
  ·rw[<-yt.o];exact h
 clear he H10;go_wp2_with fail;clear t1;go_loopw [15] (fun vi wr=>∃(i:Nat) (si:aH),vi=.int .i64 i/\i<=n8/\Hid (iP cu cg dev si ((L.map (·.2)).drop i) s' e')/\Hid (iQ w8 B f1 si wr)) (fun vi _=>n8-(intOf vi).toNat)
 case atStart=>exact⟨0,S2,rfl,bC _,by show iP _ _ _ _ _ _ _;rw[jN];exact PX.o,iQ.refl HR8.o (Ext.refl _)⟩
 case round =>
  obtain⟨i,si,rfl,hi,YV,hRi⟩:=hrel;have i0:(0:Int)<=(i:Int):=cO _
  by_cases hlt:(i:Int)<n8
  case neg =>
   have lm:i=n8:=by omega
   obtain⟨q1,q2⟩:=YV.o.Mb (by rw[lm,Wy.o];exact Ei (by rw[jP];exact aE _));have Q:Hid (si=s'/\e'=0):=⟨q1,q2⟩;clear lm q1 q2 YV;go_wp2;go_ret;exact⟨by rw[Q.o.2];rfl,RA.o _ (RT8.o _ _ (by rw[<-Q.o.1];exact hRi.o))⟩
  case pos =>
   obtain⟨V,hV⟩:=ai wr;subst hV;obtain⟨f2,hR,hO,hG⟩:=id hRi.o;have aft:Hid (f2.bF=f.bF):=hG.1.trans FR.o;have hil:i<L.length:=by have:=Wy.o;omega
   obtain⟨y,hy⟩:=ai (L[i]);obtain⟨s2,e2,hP,hP1,Lz⟩:=YV.o.I7 (x:=y.2) (t:=(L.map (·.2)).drop (i+1)) (by rw[jg (by rw[jP];exact hil),DR,<-hy]);obtain⟨bb,o,rfl,tJ,q0,q1⟩:=Fg.o.lt0 hil;rw[<-hy]at q0 q1;have hbn:bb∉f1.list:=fun hm=>by
    have h1:=RB.o.lt bb hm;have h2:=HFR.o bb rfl;omega
   have eb:=hO.block bb tJ hbn;have r1:V.cell? (bb,o+i*2+1)=some (.int .i64 y.2):=(jE eb _).trans q1;have rz:bb<V.heap.size:=by have:=hO.size;omega
   have adL:b5∉f1.list:=HR8.o.off (C7.o.ext Iw.o) (by decide) (by decide) (by decide);have C9:=hO.has (C7.o.ext Iw.o) adL;have BS:IntKind.i64.wrap ((i:Int)+1)=(i:Int)+1:=cB _ (by omega);have HR:=zH hR;have KP:Hid (∀u,Ext V u->Calls prog 61 #[((),f.bF),.agg #[cu,cg],y.2,dev] u (fun r w'=>r=.returned (.int .i64 e2)/\iQ u B f2 s2 w')):=by
    show ∀_,_->Calls _ _ _ _ _;intro u hu;rw[<-aft.o];exact hP u B f2 (HR.o.ext hu)
   have Fp:=zH hP1;have FU:=zH Lz;have HO:=zH hO;have HG:=zH hG;have c0:=aA C9 0 rfl;have c1:=aA C9 1 rfl;have cz:=C9.lt;obtain⟨y2,hy2⟩:=ai y.2;rw[<-hy2]at r1 KP;clear hy2 hy hP hP1 Lz hR hO hG YV hRi hil q0 q1 eb hbn tJ adL C9;go_upto_region 22 with fail;go_still_tail 8,(by kernel_rfl);change wpList _ _ _ _ _ V.drew;go_wp2_with fail;refine (KP.o V.drew (Ext.refl _).drew).mono ?_;rintro e tg ⟨rfl,Nl⟩;have R1':Hid (iQ w8 B f1 s2 tg):=by
    show iQ _ _ _ _ _;exact iQ.trans HG.o (HO.o.ext (Ext.refl _).drew) Nl
   clear Nl c0 c1 cz r1 rz KP
   by_cases h2:e2=0
   ·have t2:(e2 != 0)=false:=by simpa using h2
    have HQ:=zH (FU.o h2);clear h2 Fp FU;go_wp2_with fail;go_roundw
    case rel=>exact⟨i+1,s2,by go_num,by omega,HQ,R1'⟩
    case measure=>simp[intOf];omega
   ·have t2:(e2 != 0)=true:=by simpa using h2
    have HQ:=zH (Fp.o h2);clear h2 Fp FU;go_wp2;go_ret;exact⟨by rw[<-HQ.o.2];rfl,RA.o _ (RT8.o _ _ (by rw[<-HQ.o.1];exact R1'.o))⟩
open Go
section
variable {P:Program} {ops:Array Oper} {md:Region.Mode} {C:World->Prop} {Q:Act->Prop}
def VY (md:Region.Mode) (ops:Array Oper) (n:Nat):Bool:=
 (List.range ops.size).all fun t=>decide (t<=n) || (List.range t).any fun j=>decide (n<=j)&&Region.waitsFor md ops t j
theorem QV {n:Nat} {listed:Array Bool} (hs:Region.sinkB md ops n=true) (inv:HeadInv md ops n listed) (hr:n∈Region.ready md ops listed) :
  ∀ (d i:Nat),n-i=d->i<n->listed.getD i false=true:=by
 intro d
 induction d using Nat.strongRecOn with
 | _ d ih =>
  intro i hd hi;have h1:=rr.1 hs i (ru.2 hi);obtain⟨j,hj,xL⟩:=zg.1 h1;simp only[fl,lZ]at xL;obtain⟨oj,BP,e,he,hb,FP⟩:=Region.waitsFor_spec xL.2;have agf:j<=n:=by have:=ru.1 hj;omega
  by_cases Y5:j=n
  ·subst Y5
   obtain⟨_,ot,hot,hall⟩:=jt.1 hr;have:oj=ot:=nt (BP.symm.trans hot);subst this;have h2:=hall e he hb
   rwa [FP]at h2
  ·have:=inv.closed j oj BP (ih (n-j) (by omega) j rfl (by omega)) e he hb
   rwa [FP]at this
theorem I8 {n:Nat} {listed:Array Bool} (hs:Region.sinkB md ops n=true) (hc:VY md ops n=true) (inv:HeadInv md ops n listed) (hi:i<n) (sn:listed.getD i true=false) :
  ∀ t,n<=t->t∉Region.ready md ops listed:=by
 intro t ht hr;obtain⟨_,ot,hot,hall⟩:=jt.1 hr;have afu:t<ops.size:=(jM.1 hot).1;have h1:=rr.1 hc t (ru.2 afu);simp only[xF,lZ]at h1;rcases h1 with h1|h1
 ·have:t=n:=by omega
  subst this;have h3:=QV hs inv hr _ i rfl hi;rw[getD_both sn]at h3;cases h3
 ·obtain ⟨j,hj,xL⟩:=zg.1 h1
  simp only[fl,lZ]at xL;obtain⟨o',ho',e,he,hb,FP⟩:=Region.waitsFor_spec xL.2;have:o'=ot:=nt (ho'.symm.trans hot);subst this;have h2:=hall e he hb;rw[FP]at h2;have hjt:=ru.1 hj;rw[getD_both (inv.tail j xL.1 (by omega))]at h2;cases h2
theorem BH {n:Nat} {oi:Oper} {v:Value} {L:Array Bool->Act->Prop} (hi:ops[i]?=some oi) (nY:∀(j:Nat) (o:Oper) cs b,ops[j]?=some o->o.op≠.select cs b)
  (hw:∀(listed:Array Bool) (i:Nat),HeadInv md ops n listed->i<n->listed.getD i true=false->∀t,n<=t->t∉Region.ready md ops listed) (lm:i<n)
  (mF:∀listed a,L listed a->∀j∈Region.ready md ops listed,n<=j) :
  ∀ (f:Nat) (listed:Array Bool) (a:Act),HeadInv md ops n listed ->
   (∀j oj,ops[j]?=some oj->j≠i->listed.getD j true=false->(∀e∈oj.after,Region.binds md e=true->e.on≠i)->oi.apart ops oj=true) ->
   i∈Region.ready md ops listed->YieldsIn P ops C oi v a ->
   uH P md ops C n L f (listed.setIfInBounds i true) (a.put oi.dst v)->uH P md ops C n L (f+1) listed a:=by
 intro f
 induction f with
 | zero =>
  intro listed a inv _ hr hy H;have sn:=(jt.1 hr).1;refine⟨fun h=>(by rw[h]at hr;cases hr),fun j hj=>?_⟩;have Y5:j<n:=by
   rcases lq j n with h|h
   ·exact h
   ·exact absurd hj (hw _ _ inv lm sn j h)
  refine⟨Y5,?_⟩
  by_cases s9:j=i
  ·subst s9;exact hy.qOp hi H
  ·have:=mF _ _ H j (p7 hj s9)
   omega
 | succ f ih =>
  intro listed a inv pA hr hy H;have sn:=(jt.1 hr).1;refine⟨fun h=>(by rw[h]at hr;cases hr),fun j hj=>?_⟩;have Y5:j<n:=by
   rcases lq j n with h|h
   ·exact h
   ·exact absurd hj (hw _ _ inv lm sn j h)
  refine⟨Y5,?_⟩
  by_cases s9:j=i
  ·subst s9;exact hy.qOp hi H
  ·have h1:=(H.2 j (p7 hj s9)).2
   obtain ⟨Gq,oj,BP,hall⟩:=jt.1 hj;have Sv:∀e∈oj.after,Region.binds md e=true->e.on≠i:=fun e he hb heq=>by
    have h1:=hall e he hb;rw[heq,getD_both sn]at h1;cases h1
   have h2:=qOp_put BP (pA j oj BP s9 Gq Sv) (fun cs b=>nY i oi cs b hi) (fun cs b=>nY j oj cs b BP) hy h1;have zZ:∀k ok,ops[k]?=some ok->k≠i->(listed.setIfInBounds j true).getD k true=false ->
     (∀e∈ok.after,Region.binds md e=true->e.on≠i)->oi.apart ops ok=true:=fun k ok hk Sw sn bB=>by
    refine pA k ok hk Sw ?_ bB
    by_cases JM:j=k
    ·subst JM;exact Gq
    ·rw[ez true JM]at sn;exact sn
   refine qOp_mono (fun a' h3=>ih (listed.setIfInBounds j true) a' (inv.set hj Y5) zZ (p7 hr (dA s9)) h3.1 ?_) h2;rw[Jt _ _ s9];exact h3.2
def BI (md:Region.Mode) (ops:Array Oper) (n:Nat):Bool:=
 Region.noSelect ops&&decide (n<=ops.size)&&Region.sinkB md ops n&&VY md ops n&&uI md ops n 0 (Array.replicate ops.size false)&&(Region.ready md ops (tK 0 n (Array.replicate ops.size false))).all fun j=>decide (n<=j)
theorem vS {n:Nat} {H:Array Bool} {Lq:Act->Prop} (nY:Region.noSelect ops=true) (hw:∀(listed:Array Bool) (i:Nat),HeadInv md ops n listed->i<n->listed.getD i true=false->∀t,n<=t->t∉Region.ready md ops listed) (hH:∀j∈Region.ready md ops H,n<=j) :
  ∀ (l:List Oper) (k:Nat) (listed:Array Bool) (a:Act),(∀j,j<l.length->l[j]?=ops[k+j]?)->k+l.length=n->HeadInv md ops n listed ->
  uI md ops l.length k listed=true->tK k l.length listed=H->wpQuiet P ops C Lq l a ->
  uH P md ops C n (fun listed' a'=>listed'=H/\Lq a') l.length listed a
 | [],k,listed,a,_,hk,_,hB,hS,h=>⟨hS,h⟩
 | o :: l,k,listed,a,hl,hk,inv,hB,hS,h=>by
  have h0:ops[k]?=some o:=by simpa using (hl 0 (by simp)).symm
  simp only[bk,uI,fl]at hB;obtain⟨⟨hr,hf⟩,hB'⟩:=hB;have ut:k<n:=by simp only[bk]at hk;omega
  have hr':k∈Region.ready md ops listed:=by simpa using hr
  have hst:qOp P ops C k (wpQuiet P ops C Lq l) a:=by unfold qOp;simp only[h0];exact h
  obtain ⟨v,hy,hK⟩:=yieldsIn_of_qOp h0 hst;exact BH h0 (wg nY) hw ut (fun listed' a' hL=>by rw[hL.1];exact hH) l.length listed a inv (DX h0 hf) hr' hy
   (vS nY hw hH l (k+1) _ _ (fun j hj=>by have:=hl (j+1) (by simp;omega);simpa [un,DY 1 j]using this) (by simp only[bk]at hk;omega) (inv.set hr' ut) hB' hS hK)
theorem qX {id:Nat} {Q:Exit->Act->World->Prop} {a:Act} {w:World} {l:List Oper} (n:Nat) (hm:P.follows .mixedOrders=true) (hB:BI .any l.toArray n=true) (hC:C w.drew)
  (h:wpQuiet P l.toArray C (fun a'=>∀w',C w'->wpAny P .any l.toArray Q (l.length-n) (tK 0 n (Array.replicate l.toArray.size false)) a' w') (l.take n) a):(Code.region id l.toArray true).wp P Q a w:=by
 simp only[BI,fl,lZ,rr]at hB;obtain⟨⟨⟨⟨⟨nY,hn⟩,hs⟩,hc⟩,EH⟩,hH⟩:=hB;have hw:=fun (listed:Array Bool) (i:Nat) (inv:HeadInv .any l.toArray n listed) (hi:i<n) (sn:listed.getD i true=false)=>I8 hs hc inv hi sn
 have hn':n<=l.length:=by simpa using hn
 have sO:(l.take n).length=n:=by simp;omega
 have afv:HeadInv .any l.toArray n (Array.replicate l.toArray.size false):=
  ⟨by simp,fun j oj _ hl=>(by rw[getD_replicate_false]at hl;cases hl),fun t _ ht=>getD_in (by simpa using ht) (getD_replicate_false _ _)⟩
 have H:=vS (md:=.any) (C:=C) (P:=P) (H:=tK 0 n (Array.replicate l.toArray.size false)) nY hw hH (l.take n) 0 _ a (fun j hj=>by
  have hj':j<n:=by rw[sO]at hj;exact hj
  simp[hj']) (by simpa using sO) afv (by rw[sO];exact EH) (by rw[sO]) h
 refine zt hm ?_;have:=rH (Q':=Q) (g:=l.length-n) (fun listed a' w' hw hL=>by rw[hL.1];exact hL.2 w' hw) _ _ _ w.drew hC H;rw[sO,show n+(l.length-n)=l.toArray.size by simp;omega]at this;exact this
end
section
variable {P:Program} {id:Nat} {Q:Exit->Act->World->Prop} {a:Act} {w:World} {l:List Oper}
theorem sV (V:World) (n:Nat) (hm:P.follows .mixedOrders=true) (hB:BI .any l.toArray n=true) (hs:Region.seqB .any l.toArray (l.length-n) n (tK 0 n (Array.replicate l.toArray.size false))=true) (hV:Ext V w.drew)
  (h:wpQuiet P l.toArray (fun w'=>∃u:Gr V,w'=u.w) (fun a'=>∀w',(∃u:Gr V,w'=u.w)->wpList P l.toArray Q (l.drop n) a' w') (l.take n) a):(Code.region id l.toArray true).wp P Q a w:=by
 refine qX (C:=fun w'=>∃u:Gr V,w'=u.w) n hm hB ⟨⟨w.drew,hV⟩,rfl⟩ (oN (fun a' h' w' hw'=>?_) _ _ h);have mP:(l.drop n).length=l.length-n:=by simp
 have:=wpAny_of_seq (md:=.any) (Q':=Q) (l.drop n) n (tK 0 n (Array.replicate l.toArray.size false)) a' w' (fun j=>by simp) (by rw[mP];exact hs) (h' w' hw')
 rwa [mP]at this
end
end
section
inductive sf (cu cg dev:Int):aH->List Int->aH->Int->Nat->Prop
 | nil (s:_):sf cu cg dev s [] s 0 0
 | busy {s:_} {no:_} {t:_}:jp s dev no->sf cu cg dev s (no::t) s 16 1
 | skip {s:_} {no:_} {t:_} {s':_} {e:_} {k:_}:¬jp s dev no->(aa s.t.nodes no).kind≠1->sf cu cg dev s t s' e k->sf cu cg dev s (no::t) s' e (k+1)
 | shut {s:_} {no:_} {t:_}:¬jp s dev no->(aa s.t.nodes no).kind=1->vR s cu cg no≠0->sf cu cg dev s (no::t) (jY s cu cg no) (vR s cu cg no) 1
 | list {s:_} {no:_} {t:_}:¬jp s dev no->(aa s.t.nodes no).kind=1->vR s cu cg no=0->vV (jY s cu cg no) cu cg no≠0->sf cu cg dev s (no::t) (jY s cu cg no) (vV (jY s cu cg no) cu cg no) 1
 | kids {s:_} {no:_} {t:_} {s':_} {e:_} {k:_}:¬jp s dev no->(aa s.t.nodes no).kind=1->vR s cu cg no=0->vV (jY s cu cg no) cu cg no=0->sf cu cg dev (jY s cu cg no) (Nu (jY s cu cg no) cu cg no) s' e k->e≠0->sf cu cg dev s (no::t) s' e (k+1)
 | step {s no t s1 k1 s' e k}:¬jp s dev no->(aa s.t.nodes no).kind=1->vR s cu cg no=0->vV (jY s cu cg no) cu cg no=0->sf cu cg dev (jY s cu cg no) (Nu (jY s cu cg no) cu cg no) s1 0 k1->sf cu cg dev s1 t s' e k->sf cu cg dev s (no::t) s' e (1+k1+k)
theorem QW:∀(n:Nat) {s s':aH} {t:List Int} {e:Int} {k:Nat},jF cu cg dev s t s' e k->k<=n->∀a b,t=a++b->(e≠0/\sf cu cg dev s a s' e k)\/(∃s1 k2 k1,sf cu cg dev s a s1 0 k2/\jF cu cg dev s1 b s' e k1/\k1+k2=k):=by
 intro n
 induction n with
 | zero =>
  intro s s' t e k h hk a b ht
  cases a with
  | nil=>exact .inr ⟨s,0,k,.nil s,by rw[jG]at ht;rw[<-ht];exact h,rfl⟩
  | cons x a =>
   subst ht
   cases h<;>omega
 | succ n ih =>
  intro s s' t e k h hk a b ht
  cases a with
  | nil=>exact .inr ⟨s,0,k,.nil s,by rw[jG]at ht;rw[<-ht];exact h,rfl⟩
  | cons x a =>
   rw[oo]at ht
   cases h with
   | nil=>cases ht
   | busy h1 =>
    injection ht with h2 h3;subst h2;exact .inl ⟨by decide,.busy h1⟩
   | skip h1 h2 h3 =>
    injection ht with h4 h5;subst h4;rcases ih h3 (by omega) a b h5 with⟨g1,g2⟩|⟨s1,k2,k1,g1,g2,g3⟩
    ·exact .inl ⟨g1,.skip h1 h2 g2⟩
    ·exact .inr ⟨s1,k2+1,k1,.skip h1 h2 g1,g2,by omega⟩
   | shut h1 h2 h3 =>
    injection ht with h4 h5;subst h4;exact .inl ⟨h3,.shut h1 h2 h3⟩
   | list h1 h2 h3 h4 =>
    injection ht with h5 h6;subst h5;exact .inl ⟨h4,.list h1 h2 h3 h4⟩
   | step h1 h2 h3 h4 h5 =>
    injection ht with h6 h7;subst h6;rcases ih h5 (by omega) _ _ rfl with⟨g1,g2⟩|⟨s1,k2,k1,g1,g2,g3⟩
    ·exact .inl ⟨g1,.kids h1 h2 h3 h4 g2 g1⟩
    ·rcases ih g2 (by omega) a b h7 with⟨f1,f2⟩|⟨s2,m2,m1,f1,f2,f3⟩
     ·refine .inl ⟨f1,?_⟩
      have:=sf.step h1 h2 h3 h4 g1 f2;rw[<-g3,show k1+k2+1=1+k2+k1 by omega];exact this
     ·exact .inr ⟨s2,1+k2+m2,m1,.step h1 h2 h3 h4 g1 f1,f2,by omega⟩
theorem jF.nested (h:jF cu cg dev s t s' e k):sf cu cg dev s t s' e k:=by
 rcases QW k h (aE _) t [] (by simp) with⟨_,g⟩|⟨s1,k2,k1,g1,g2,g3⟩
 ·exact g
 ·cases g2
  rw[eY]at g3;rw[<-g3];exact g1
theorem YX (h:sf cu cg dev s t s' e k):∀c,Pl c s->Pl (c+k) s'/\(s.dead=false->e=0->s'.dead=false):=by
 induction h with
 | nil s=>intro c hc;exact⟨hc,fun h _=>h⟩
 | busy h1=>intro c hc;exact⟨hc.mono (by omega),fun h _=>h⟩
 | skip h1 h2 h3 ih =>
  intro c hc;obtain⟨g1,g2⟩:=ih c hc;exact⟨g1.mono (by omega),g2⟩
 | shut h1 h2 h3=>intro c hc;exact⟨hc.op _ _ _,fun _ he=>absurd he h3⟩
 | list h1 h2 h3 h4=>intro c hc;exact⟨hc.op _ _ _,fun _ he=>absurd he h4⟩
 | kids h1 h2 h3 h4 h5 h6 ih =>
  intro c hc;obtain⟨g1,g2⟩:=ih (c+1) (hc.op _ _ _);exact⟨g1.mono (by omega),fun _ he=>absurd he h6⟩
 | step h1 h2 h3 h4 h5 h6 ih VD =>
  intro c hc;obtain⟨g1,g2⟩:=ih (c+1) (hc.op _ _ _);obtain⟨f1,f2⟩:=VD _ g1;exact⟨f1.mono (by omega),fun hd he=>f2 (g2 (nV hd h3) rfl) he⟩
theorem YY (h:sf cu cg dev s t s' e k):∀c,Pl c s->c+k<=799->s.dead=false->iP cu cg dev s t s' e:=by
 induction h with
 | nil s=>intro c _ _ _;exact .nil s
 | busy h1=>intro c hc hk hd;exact .stop (lR hc (by omega) hd (.inl ⟨h1,rfl,rfl⟩)) (by decide)
 | skip h1 h2 h3 ih=>intro c hc hk hd;exact .step (lR hc (by omega) hd (.inr (.inl ⟨h1,h2,rfl,rfl⟩))) (ih c hc (by omega) hd)
 | shut h1 h2 h3=>intro c hc hk hd;exact .stop (lR hc (by omega) hd (.inr (.inr ⟨h1,h2,.inl ⟨h3,rfl,rfl⟩⟩))) h3
 | list h1 h2 h3 h4=>intro c hc hk hd;exact .stop (lR hc (by omega) hd (.inr (.inr ⟨h1,h2,.inr ⟨h3,.inl ⟨h4,rfl,rfl⟩⟩⟩))) h4
 | kids h1 h2 h3 h4 h5 h6 ih =>
  intro c hc hk hd;exact .stop (lR hc (by omega) hd (.inr (.inr ⟨h1,h2,.inr ⟨h3,.inr ⟨h4,ih (c+1) (hc.op _ _ _) (by omega) (nV hd h3)⟩⟩⟩))) h6
 | step h1 h2 h3 h4 h5 h6 ih VD =>
  intro c hc hk hd;obtain⟨g1,g2⟩:=YX h5 (c+1) (hc.op _ _ _);exact .step (lR hc (by omega) hd (.inr (.inr ⟨h1,h2,.inr ⟨h3,.inr ⟨h4,ih (c+1) (hc.op _ _ _) (by omega) (nV hd h3)⟩⟩⟩))) (VD _ g1 (by omega) (g2 (nV hd h3) rfl))
theorem iP.single {x:Int} (h:iP cu cg dev s [x] s1 e):VX cu cg dev s x s1 e:=by
 obtain⟨s2,e2,h1,h2,h3⟩:=h.I7 rfl
 by_cases he:e2=0
 ·subst he
  obtain⟨a,b⟩:=(h3 rfl).Mb rfl;subst a;subst b;exact h1
 ·obtain ⟨a,b⟩:=h2 he
  subst a;subst b;exact h1
theorem PS.yU (h:PS w B b g s) (hp:Pl c s) (cu cg dir:Int) (nm:List UInt8) (s1:aH) (e1:Int) (k1:Nat) (s':aH) (e':Int) (L:List (au×Int)) (kk:Nat) (hT:YN s cu cg dir nm s1 e1 k1 s' e' L kk) (Ct:Pl (c+k1) s1) (hc:c+k1+L.length<=900) (rC:kk<=100000) :
  Calls prog 31 #[((),b),.agg #[cu,cg],dir,bs nm] w (yC w B b g s' e'):=by
 obtain⟨W0,aJ⟩:=ai (w.alloc (.cells #[cu,cg] 27));obtain⟨b5,fu⟩:=ai w.heap.size;have E0:Ext w W0:=by rw[aJ];exact (Ext.refl _).alloc _
 have C0:Has W0 b5 (.cells #[cu,cg] 27):=by rw[aJ,fu];exact Has.new w _
 have oV:=zH h.lt;have KO:=zH ((h.ext E0).abH hp cu cg dir nm s1 e1 k1 hT.1 (by omega));have KT:Hid (e1=0->∀u,PS u B b g s1->Calls prog 27 #[((),b),.agg #[cu,cg],dir,bs nm] u (yC u B b g s' e')):=by
  show _->∀_,_->_;intro he u hu;rcases hT.2 with⟨k,_⟩|⟨_,k⟩
  ·exact absurd he k
  ·exact hu.sJ Ct cu cg dir nm s' e' L kk k hc rC
 have KN:Hid (e1≠0->s'=s1/\e'=e1):=fun he=>by
  rcases hT.2 with⟨_,k1,k2,_⟩|⟨k,_⟩
  ·exact⟨k1,k2⟩
  ·exact absurd k he
 have c0:=aA C0 0 rfl;have c1:=aA C0 1 rfl;have cz:=C0.lt;clear hT h hp Ct;go_in;go_upto_region 1 with fail;rw[<-aJ,<-fu];have adD:w.heap.size<=b5:=by omega
 clear aJ fu;go_wp2_with fail;refine KO.o.mono ?_;rintro e w1 ⟨rfl,P1,O1⟩;have C1:=O1.has C0 (fun hm=>by have:=oV.o _ hm;omega);have HO1:=zH (Only.pre E0 O1);have Fp:=zH P1;have c0:=aA C1 0 rfl;have c1:=aA C1 1 rfl;have cz:=C1.lt;clear KO P1 O1 C1
 by_cases he:e1=0
 ·have t1:(e1 != 0)=false:=by simpa using he
  have K:=zH (KT.o he);clear he KT KN;go_wp2_with fail;refine (K.o _ Fp.o).mono ?_;rintro e w2 ⟨rfl,P2,O2⟩;go_wp2;go_ret;exact⟨rfl,P2,HO1.o.trans O2 (fun y hy=>.inl hy)⟩
 ·have t1:(e1 != 0)=true:=by simpa using he
  have K:=zH (KN.o he);clear he KT KN;go_wp2;go_ret;rw[K.o.1,K.o.2];exact⟨rfl,Fp.o,HO1.o⟩
theorem RS.yU (h:RS w B f s) (hp:Pl c s) (cu cg dir:Int) (nm:List UInt8) (ie:nm.length<=1000000) (s1:aH) (e1:Int) (k1:Nat) (s':aH) (e':Int) (L:List (au×Int)) (kk:Nat) (hT:YN s cu cg dir nm s1 e1 k1 s' e' L kk) (Ct:Pl (c+k1) s1) (hc:c+k1+L.length<=799) (rC:kk<=100000) :
  Calls prog 33 #[((),f.bF),.agg #[cu,cg],dir,bs nm] w (fun r w'=>r=.returned (.int .i64 e')/\iQ w B f s' w'):=by
 obtain⟨W0,aJ⟩:=ai (w.alloc (.cells #[cu,cg] 27));obtain⟨b5,fu⟩:=ai w.heap.size;have E0:Ext w W0:=by rw[aJ];exact (Ext.refl _).alloc _
 have C0:Has W0 b5 (.cells #[cu,cg] 27):=by rw[aJ,fu];exact Has.new w _
 have h0:=h.ext E0;obtain⟨X,hX⟩:=ai ((du s cu cg dir nm).no);obtain⟨eX,WA⟩:=ai (dw s cu cg dir nm);have KL:Hid (Calls prog 43 #[((),f.bF),.agg #[cu,cg],dir,bs nm] W0 (aO W0 (.tuple #[X,eX]))):=by
  show Calls _ _ _ _ _;rw[hX,WA];exact h0.Lj hp.fU (by omega) cu cg dir nm
 obtain ⟨XX,F0⟩:=h0.Wj;have Z5:=zH F0;have HCT:=zH (show s.t.nodes.length<=1000000 by have:=hp.fU.fN.count;have:=hp.fU.last;omega);have uh:=zH hp.jr.fN.bL;have H0:=zH h0;have KN:Hid (eX≠0->s'=s/\e'=eX):=fun he=>by
  rcases hT.1 with⟨_,k2,k3,_⟩|⟨k,_⟩
  ·rcases hT.2 with⟨_,m1,m2,_⟩|⟨m,_⟩
   ·exact⟨m1.trans k2,m2.trans (k3.trans WA.symm)⟩
   ·exact absurd (WA.trans (k3.symm.trans m)) he
  ·exact absurd (WA.trans k) he
 have KO:Hid (eX=0->∀u,Ext W0 u->Calls prog 61 #[((),f.bF),.agg #[cu,cg],X,.int .i64 (aa s.t.nodes dir).dev] u (fun r w'=>r=.returned (.int .i64 e1)/\iQ u B f s1 w')):=by
  show _->∀_,_->Calls _ _ _ _ _;intro he u hu;rcases hT.1 with⟨k,_⟩|⟨_,hd,hF⟩
  ·exact absurd (WA.symm.trans he) k
  ·rw [hX]
   exact (YY hF.nested c hp (by omega) hd).single u B f (H0.o.ext hu)
 have KP:Hid (e1=0->∀u f1,RS u B f1 s1->Calls prog 34 #[((),f1.bF),.agg #[cu,cg],dir,bs nm] u (fun r w'=>r=.returned (.int .i64 e')/\iQ u B f1 s' w')):=by
  show _->∀_ _,_->Calls _ _ _ _ _;intro he u f1 hu;rcases hT.2 with⟨k,_⟩|⟨_,k⟩
  ·exact absurd he k
  ·exact hu.sJ Ct cu cg dir nm ie s' e' L kk k (by omega) rC
 have KN1:Hid (e1≠0->s'=s1/\e'=e1):=fun he=>by
  rcases hT.2 with⟨_,k1,k2,_⟩|⟨k,_⟩
  ·exact⟨k1,k2⟩
  ·exact absurd k he
 have CZ:=zH C0;have lC:=zH E0;have c0:=aA C0 0 rfl;have c1:=aA C0 1 rfl;have cz:=C0.lt;clear h h0 hp hT Ct hX WA F0 C0 E0;go_in;go_upto_region 1 with fail;rw[<-aJ,<-fu];clear aJ fu;go_wp2_with fail;refine KL.o.mono ?_;rintro e w1 ⟨rfl,b1⟩;clear KL c0 c1 cz;have nZ:=zH b1
 by_cases he:eX=0
 case neg =>
  have t1:(eX != 0)=true:=by simpa using he
  have K:=zH (KN.o he);clear he KN KO KP KN1 b1;go_wp2;go_ret;rw[K.o.1];refine⟨by rw[K.o.2];rfl,iQ.pre (Only.az lC.o) (iQ.refl H0.o nZ.o)⟩
 have t1:(eX != 0)=false:=by simpa using he
 have KO1:=zH (KO.o he);obtain⟨A1,q1,tS,KG⟩:=pF B f s.t XX dir w1 (Z5.o.ext b1) HCT.o uh.o;obtain⟨n1,yG⟩:=ai (aa s.t.nodes dir);rw[<-yG]at KG;have Z6:=zH KG;have ME:=zH yG;have u0:∀u:Gr w1,u.w.cell? (b5,0)=some (.int .i64 cu):=Gr.cell (CZ.o.ext b1).lt ((CZ.o.ext b1).cell 0);have u1:∀u:Gr w1,u.w.cell? (b5,1)=some (.int .i64 cg):=Gr.cell (CZ.o.ext b1).lt ((CZ.o.ext b1).cell 1);have hfd:∀W,(Instr.field 66 (.agg (n1,A1,q1)) 1).run prog W=.ok (.int .i64 n1.dev) W:=fun W=>by kernel_rfl
 have KO2:Hid (∀u,Ext w1 u->Calls prog 61 #[((),f.bF),.agg #[cu,cg],X,n1.dev] u (fun r w'=>r=.returned (.int .i64 e1)/\iQ u B f s1 w')):=by
  show ∀_,_->Calls _ _ _ _ _;intro u hu;rw[yG];exact KO1.o u (nZ.o.trans hu)
 clear tS KG yG he KN KO b1 KO1;go_upto_region 4 with fail;refine sV w1 7 (by kernel_rfl) (by kernel_rfl) (by kernel_rfl) (Ext.refl _).drew ?_;simp only[qG,oH,qH,jN]
 repeat (quiet_step (first
  | ((with_reducible refine (Z6.o _ (Gr.h _)).mono ?_);rintro e w'' ⟨rfl,mv⟩;exact⟨rfl,⟨w'',Ext.trans (Gr.h _) mv⟩,rfl⟩)))
 refine lH (NX fun w2 E2=>?_);have yj:=zH E2;clear u0 u1 hfd Z6 t1 E2;go_wp2_with fail;refine (KO2.o _ yj.o).mono ?_;rintro e w3 ⟨rfl,R3⟩;obtain⟨f1,hR,hO,hG⟩:=id R3;have nf5:Hid (b5∉f.list):=H0.o.off CZ.o (by decide) (by decide) (by decide);have C3:=hO.has (CZ.o.ext (nZ.o.trans yj.o)) nf5.o;have HR3:Hid (iQ w B f s1 w3):=iQ.pre (Only.az (lC.o.trans (nZ.o.trans yj.o))) R3;have RA:Hid (∀w',iQ w3 B f1 s' w'->iQ w B f s' w'):=fun w' hr=>iQ.pre (Only.az (lC.o.trans (nZ.o.trans yj.o))) (iQ.trans hG hO hr)
 have FR:Hid (f1.bF=f.bF):=hG.1;have c0:=aA C3 0 rfl;have c1:=aA C3 1 rfl;have cz:=C3.lt
 by_cases h1:e1=0
 ·have t1:(e1 != 0)=false:=by simpa using h1
  have KP1:Hid (Calls prog 34 #[((),f.bF),.agg #[cu,cg],dir,bs nm] w3 (fun r w'=>r=.returned (.int .i64 e')/\iQ w3 B f1 s' w')):=by
   show Calls _ _ _ _ _;rw[<-FR.o];exact KP.o h1 w3 f1 hR
  clear h1 KP KN1 C3 hR hO hG R3 KO2;go_wp2_with fail;refine KP1.o.mono ?_;rintro e w4 ⟨rfl,R4⟩;go_wp2;go_ret;exact⟨rfl,RA.o _ R4⟩
 ·have t1:(e1 != 0)=true:=by simpa using h1
  have K:=zH (KN1.o h1);clear h1 KP KN1 C3 hR hO hG R3 KO2;go_wp2;go_ret;refine⟨by rw[K.o.2];rfl,?_⟩;rw[K.o.1];exact HR3.o
def I9 (cu cg:Int):Nat->aH->List au->Option (aH×Int×List (au×Int)×Nat)
 | 0,_,_=>none
 | _+1,s,[]=>some (s,0,[],0)
 | n + 1,s,x::t=>if ln s cu cg x≠0 then some (s,ln s cu cg x,[(x,ln s cu cg x)],1) else
  match I9 cu cg n s (oY s cu cg x) with
  | none=>none
  | some r=>if r.2.1≠0 then some (r.1,r.2.1,r.2.2.1,r.2.2.2+1) else if kS r.1 cu cg x≠0 then some (jX r.1 cu cg x,kS r.1 cu cg x,r.2.2.1++[(x,0)],r.2.2.2+2) else
   match I9 cu cg n (jX r.1 cu cg x) t with
   | none=>none
   | some q=>some (q.1,q.2.1,r.2.2.1++(x,0)::q.2.2.1,r.2.2.2+2+q.2.2.2)
theorem yV {cu cg:Int}:∀{n:Nat} {s:aH} {t:List au} {r:aH×Int×List (au×Int)×Nat},I9 cu cg n s t=some r->sa cu cg s t r.1 r.2.1 r.2.2.1 r.2.2.2
 | 0,_,_,_,h=>by cases h
 | n+1,s,[],r,h=>by injection h with h;subst h;exact .nil s
 | n + 1, s, x::t,r,h=>by
  unfold I9 at h;split at h
  ·rename_i h1;injection h with h;subst h;exact .bad h1
  ·rename_i h1
   have h1':=bR.1 h1;split at h
   ·cases h
   ·rename_i r1 h2
    have k:=yV h2;split at h
    ·rename_i h3;injection h with h;subst h;exact .kids h1' k h3
    ·rename_i h3
     have h3':=bR.1 h3;rw[h3']at k;split at h
     ·rename_i h4;injection h with h;subst h;exact .one h1' k h4
     ·rename_i h4
      split at h
      ·cases h
      ·rename_i q h5;injection h with h;subst h;exact .step h1' k (bR.1 h4) (yV h5)
instance (s:aH) (dev no:Int):Decidable (jp s dev no):=by unfold jp;exact inferInstance
def QX (cu cg dev:Int):Nat->aH->List Int->Option (aH×Int×Nat)
 | 0,_,_=>none
 | _+1,s,[]=>some (s,0,0)
 | n+1,s,no::t=>if jp s dev no then some (s,16,1) else if (aa s.t.nodes no).kind≠1 then (match QX cu cg dev n s t with|none=>none|some r=>some (r.1,r.2.1,r.2.2+1)) else
  if vR s cu cg no≠0 then some (jY s cu cg no,vR s cu cg no,1) else if vV (jY s cu cg no) cu cg no≠0 then some (jY s cu cg no,vV (jY s cu cg no) cu cg no,1) else
  match QX cu cg dev n (jY s cu cg no) (Nu (jY s cu cg no) cu cg no++t) with|none=>none|some r=>some (r.1,r.2.1,r.2.2+1)
theorem FI {cu cg dev:Int}:∀{n:Nat} {s:aH} {t:List Int} {r:aH×Int×Nat},QX cu cg dev n s t=some r->jF cu cg dev s t r.1 r.2.1 r.2.2
 | 0,_,_,_,h=>by cases h
 | n+1,s,[],r,h=>by injection h with h;subst h;exact .nil s
 | n + 1,s,no::t,r,h=>by
  unfold QX at h;split at h
  ·rename_i h1;injection h with h;subst h;exact .busy h1
  rename_i h1;split at h
  ·rename_i h2
   split at h
   ·cases h
   ·rename_i r1 h3;injection h with h;subst h;exact .skip h1 h2 (FI h3)
  rename_i h2;have mS:=bR.1 h2;split at h
  ·rename_i h3;injection h with h;subst h;exact .shut h1 mS h3
  rename_i h3;have h3':=bR.1 h3;split at h
  ·rename_i h4;injection h with h;subst h;exact .list h1 mS h3' h4
  rename_i h4;split at h
  ·cases h
  ·rename_i r1 h5;injection h with h;subst h;exact .step h1 mS h3' (bR.1 h4) (FI h5)
def VZ:List fk:=[⟨[47],1,511,0,0,0,[]⟩,⟨[47,100],1,320,5,0,0,[]⟩,⟨[47,100,47,121],2,0,0,0,0,[]⟩]
def abL:ag:=(LV [] VZ).getD dF
theorem DN:jf [] VZ=abL:=QL (by kernel_rfl)
def YZ:List au:=[⟨1,[100],2,0⟩,⟨2,[121],3,1⟩]
abbrev BJ:aH:=⟨abL,0,0,[],false⟩
theorem sK:du BJ 5 0 1 [100]=⟨1,[100],2,0⟩/\dw BJ 5 0 1 [100]=0:=⟨by kernel_rfl,by kernel_rfl⟩
theorem V0:Bk BJ 5 0 1 [100] YZ mJ 0:=.inr ⟨sK.2,rfl,by
 rw[sK.1];exact IP (n:=9) (r:=(YZ,mJ,0)) (by kernel_rfl)⟩
theorem Y0:mV BJ.t 5 0 YZ 0=6:=by kernel_rfl
def I_:aH×Int×List (au×Int)×Nat:=(I9 5 0 9 BJ [⟨1,[100],2,0⟩]).getD (BJ,0,[],0)
def BK:aH:=I_.1
theorem Ja:xB BJ 5 0 1 [100] BK 6 I_.2.2.1 I_.2.2.2:=.inr ⟨sK.2,by
 rw[sK.1];have h:=yV (n:=9) (r:=I_) (show I9 5 0 9 BJ [⟨1,[100],2,0⟩]=some I_ by kernel_rfl);have e:I_.2.1=6:=by kernel_rfl
 rw[e]at h;exact h⟩
theorem uc:du BK 5 0 1 [100]=⟨1,[100],2,0⟩/\dw BK 5 0 1 [100]=0:=⟨by kernel_rfl,by kernel_rfl⟩
def Me:aH×Int×Nat:=(QX 5 0 1 9 BK [2]).getD (BJ,0,0)
def Mf:aH:=Me.1
theorem BL:du Mf 5 0 1 [100]=⟨1,[100],2,0⟩/\dw Mf 5 0 1 [100]=0:=⟨by kernel_rfl,by kernel_rfl⟩
def sg:aH×Int×List (au×Int)×Nat:=(I9 5 0 9 Mf [⟨1,[100],2,0⟩]).getD (BJ,0,[],0)
theorem xD:YN BK 5 0 1 [100] Mf 0 Me.2.2 sg.1 0 sg.2.2.1 sg.2.2.2:=by
 refine⟨.inr ⟨uc.2,by kernel_rfl,?_⟩,.inr ⟨rfl,.inr ⟨BL.2,?_⟩⟩⟩
 ·rw [uc.1]
  have h:=FI (n:=9) (r:=Me) (show QX 5 0 1 9 BK [2]=some Me by kernel_rfl);have e:Me.2.1=0:=by kernel_rfl
  rw[e]at h;have e2:(aa BK.t.nodes 1).dev=1:=by kernel_rfl
  rw[e2];exact h
 ·rw [BL.1]
  have h:=yV (n:=9) (r:=sg) (show I9 5 0 9 Mf [⟨1,[100],2,0⟩]=some sg by kernel_rfl);have e:sg.2.1=0:=by kernel_rfl
  rw[e]at h;exact h
theorem BM:gY sg.1 (eK sg.1.t 0 0 1 [100])=5/\H_ sg.1 (fE sg.1.t 0 0 1 [100])=0/\sg.1.t.nodes.length=1:=⟨by kernel_rfl,by kernel_rfl,by kernel_rfl⟩
theorem pW:I_.2.2.1.length=1/\I_.2.2.2<=100/\Me.2.2<=100/\sg.2.2.1.length<=100/\sg.2.2.2<=100:=by decide +kernel
theorem Mg:Pl 140 BJ:=by
 have k:ik 140 abL:=by rw[<-DN];exact (DD (by decide) (by decide)).jr
 exact⟨k,gE _,by decide,bC _⟩
theorem Nz:Pl 141 BK:=by
 have:=(pT Mg Ja.LX).1;rw[pW.1]at this;exact this
theorem NA:Pl (141+Me.2.2) Mf:=by
 rcases xD.1 with⟨h,_⟩|⟨_,_,h⟩
 ·exact absurd uc.2 h
 ·exact (VN h 141 Nz).1
theorem FJ (w:World):Calls prog 25 #[] w (aO w (.bool true)):=by
 obtain⟨W1,cA⟩:=ai (w.alloc (.cells (yA.cells VZ).toArray 72));obtain⟨b1,j_⟩:=ai w.heap.size;have E1:Ext w W1:=by rw[cA];exact (Ext.refl _).alloc _
 have B1:Has W1 b1 (.cells (yA.cells VZ).toArray 72):=by rw[cA,j_];exact Has.new _ _
 have KP:=zH (Bv none [] 0 (some ⟨b1,0,none⟩) VZ 3 W1 (.inl rfl) (fY.abC (R:=yA) B1) (by decide) (by decide) (fun m hm=>by cases hm) (by decide));have afw:w.alloc (.cells #[.string ⟨#[47]⟩,.int .i64 1,.int .i64 511,(),(),(),.string ⟨#[]⟩,.string ⟨#[47,100]⟩,.int .i64 1,.int .i64 320,.int .i64 5,(),(),.string ⟨#[]⟩,.string ⟨#[47,100,47,121]⟩,.int .i64 2,(),(),(),(),.string ⟨#[]⟩] 72)=W1:=by rw[cA];rfl
 clear cA;go_in;go_wp2_with fail;rw[<-j_];clear afw j_ B1;refine KP.o.mono ?_;rintro e w2 ⟨b,B,g,rfl,hB,P2,E2⟩;rw[DN]at P2;clear KP;have yj:=zH (E1.trans E2);have hBw:w2.heap.size<=w2.heap.size:=aE _;have wW:Hid (∀x∈b::g.list,w.heap.size<=x):=fun x hx=>by
  have h1:=(P2.dJ x hx).1;have h2:=E1.size;omega
 have K1:Hid (Calls prog 26 #[((),b),.agg #[.int .i64 5,()],.int .i64 1,.string ⟨#[100]⟩] w2 (aO w2 (.int .i64 6))):=by
  show Calls _ _ _ _ _;have:=P2.FH Mg.fU (by omega) 5 0 1 [100] YZ mJ 0 V0 (by decide);rw[Y0]at this;exact this
 have K2:Hid (∀u,Ext w2 u->Calls prog 27 #[((),b),.agg #[.int .i64 5,()],.int .i64 1,.string ⟨#[100]⟩] u (yC u B b g BK 6)):=by
  show ∀_,_;intro u hu;exact (P2.ext hu).sJ Mg 5 0 1 [100] BK 6 _ _ Ja (by rw[pW.1];decide) (by have:=pW.2.1;omega)
 have K3:Hid (∀u,PS u B b g BK->Calls prog 31 #[((),b),.agg #[.int .i64 5,()],.int .i64 1,.string ⟨#[100]⟩] u (yC u B b g sg.1 0)):=by
  show ∀_,_;intro u hu;exact hu.yU Nz 5 0 1 [100] Mf 0 _ sg.1 0 _ _ xD NA (by have:=pW;omega) (by have:=pW;omega)
 have K4:Hid (∀u,PS u B b g sg.1->Calls prog 28 #[((),b),.agg #[(),()],.int .i64 1,.string ⟨#[100]⟩] u (aO u (.tuple #[(),.int .i64 5]))):=by
  show ∀_,_;intro u hu;have hp:=(pT NA (xD.2.resolve_left (fun h=>absurd rfl h.1)).2.LX).1;have:=hu.look hp.fU (by have:=pW;omega) 0 0 1 [100];rw[BM.1,BM.2.1]at this;exact this
 have KL:Hid (∀u,PS u B b g sg.1->Calls prog 49 #[((),g.bT)] u (aO u (.int .i64 1))/\u.cell? (b,0)=some (.pointer (some ⟨g.bW,0,none⟩))/\b<u.heap.size/\u.cell? (g.bW,0)=some (.pointer (some ⟨g.bT,0,none⟩))/\g.bW<u.heap.size):=by
  show ∀_,_;intro u hu;obtain⟨_,h2,cd,h3,_⟩:=hu.wat;have:=GF B g.bT g.bM _ _ u h2;rw[BM.2.2]at this;obtain⟨A,cap,hp⟩:=hu;exact⟨this,Has.cell hp.2.1 0,Has.lt hp.2.1,h3.cell 0,h3.lt⟩
 clear P2 E1 E2;go_wp2_with fail;refine K1.o.mono ?_;rintro e w3 ⟨rfl,E3⟩;clear K1;go_wp2_with fail;refine (K2.o _ E3).mono ?_;rintro e w4 ⟨rfl,P4,O4⟩;clear K2;go_wp2_with fail;refine (K3.o _ P4).mono ?_;rintro e w5 ⟨rfl,P5,O5⟩;clear K3;go_wp2_with fail;refine (K4.o _ P5).mono ?_;rintro e w6 ⟨rfl,E6⟩;clear K4;have P6:=P5.ext E6;obtain⟨KL1,c0,cz,c1,cy⟩:=KL.o _ P6;have HX:Hid (Ext w w6):=by
  have o1:Ext w w4:=O4.after (yj.o.trans E3) (fun x hx=>by have:=wW.o x hx;omega);have o2:Ext w w5:=O5.after o1 (fun x hx=>by have:=wW.o x hx;omega);exact o2.trans E6
 have HKL:=zH KL1;clear P4 O4 P5 O5 P6 KL KL1 E3 E6;go_wp2_with fail;refine HKL.o.mono ?_;rintro e w7 ⟨rfl,E7⟩;go_wp2;go_ret;exact aO.mk rfl (HX.o.trans E7)
attribute [local go_sem] ol
end
section
attribute [local go_sem] ol
end
theorem NB (h:PS w B b g s) (hr:RS w B f s) (hs:d_ c s) (hc:c<=900):Calls prog 24 #[((),b),((),f.bF)] w (aO w (.bool true)):=by
 obtain⟨A,cap,K,S,_⟩:=h;obtain⟨A2,PD,F,_⟩:=hr;have KA:=zH (fun (u:World) (hu:Ext w u)=>Pf B g f s.t _ u (K.ext hu) (F.ext hu) (hs.fN.fit (by omega) (by have:=hs.last;omega)));have HS:=zH S;obtain⟨d4,_,d6,_,_,dz⟩:=F.AX;have k0:=Has.cell S 0;have kz:=Has.lt S;have KC:=zH (fun (u:World) (hu:Ext w u)=>abo u (eW.ext S hu));have KD:=zH (fun (u:World) (hu:Ext w u)=>acu u (eW.ext S hu));simp only[gA,gB]at k0;have KS:Hid (∀w',Ext w w'->(Ext w w'/\w'.cell? (f.bF,4)=some (.int .i64 s.count)/\w'.cell? (f.bF,6)=some (.bool s.dead)/\w'.cell? (b,0)=some (.pointer (some ⟨g.bW,0,none⟩)))):=fun w' h'=>⟨h',(h'.cell dz).trans d4,(h'.cell dz).trans d6,(h'.cell kz).trans k0⟩
 have cA:Ext w w.drew:=(Ext.refl _).drew;clear K S F d4 d6 dz k0 kz HS;go_in;go_upto_region 1 with fail;go_region_held3 (fun w'=>Ext w w'/\w'.cell? (f.bF,4)=some (.int .i64 s.count)/\w'.cell? (f.bF,6)=some (.bool s.dead)/\w'.cell? (b,0)=some (.pointer (some ⟨g.bW,0,none⟩)))
  ((first|exact KS.o _ cA|exact KS.o _ (cA.trans j_)|exact KS.o _ ((cA.trans j_).trans hb2)|exact KS.o _ (((cA.trans j_).trans hb2).trans qZ)))
  ((first|(go_at_call 46;refine (KC.o _ cA).mono ?_;rintro e w1 ⟨rfl,j_⟩)|(go_at_call 47;refine (KD.o _ (cA.trans j_)).mono ?_;rintro e w2 ⟨rfl,hb2⟩)|(go_at_call 48;refine (KA.o _ ((cA.trans j_).trans hb2)).mono ?_;rintro e w3 ⟨rfl,qZ⟩)))
 go_wp2;go_ret;exact aO.mk rfl (((cA.trans j_).trans hb2).trans qZ)
theorem QY (hi:i<l.length):mV S cu cg (l.drop i) e=if mB S cu cg l[i]≠0 then mB S cu cg l[i] else mV S cu cg (l.drop (i+1)) e:=by
 rw[jg hi];rfl
theorem RS.FH (h:RS w B f s) (hs:d_ c s) (hc:c<=900) (cu cg dir:Int) (nm:List UInt8) (l:List au) (b0:au) (e0:Int) (hT:Bk s cu cg dir nm l b0 e0) (hlen:l.length<=1000) :
  Calls prog 32 #[((),f.bF),.agg #[cu,cg],dir,bs nm] w (aO w (.int .i64 (mV s.t cu cg l e0))):=by
 obtain⟨W0,aJ⟩:=ai (w.alloc (.cells #[cu,cg] 27));obtain⟨b5,fu⟩:=ai w.heap.size;have E0:Ext w W0:=by rw[aJ];exact (Ext.refl _).alloc _
 have C0:Has W0 b5 (.cells #[cu,cg] 27):=by rw[aJ,fu];exact Has.new w _
 have h0:=h.ext E0;have KD:=zH (h0.abf hs hc cu cg dir nm l b0 e0 hT hlen);obtain⟨X,hF0⟩:=h0.Wj;have Z5:=zH hF0;have HCT:=zH (show s.t.nodes.length<=1000000 by have:=hs.fN.count;have:=hs.last;omega);have uh:=zH hs.fN.bL;obtain⟨n,hn⟩:=ai l.length;have yG:n<=1000:=by omega
 have HN:=zH hn;have CZ:=zH C0;have lC:=zH E0;have c0:=aA C0 0 rfl;have c1:=aA C0 1 rfl;have cz:=C0.lt;clear h h0 hF0 hs hT hlen hn C0 E0;go_in;go_upto_region 1 with fail;rw[<-aJ,<-fu];clear aJ fu;go_wp2_with fail;refine KD.o.mono ?_;rintro e w1 ⟨v,rfl,O1,b1⟩;obtain⟨A,cap,hv,_,_,hA,_⟩:=O1.at_;rw[<-HN.o]at hv;subst hv;clear O1 KD c0 c1 cz;go_upto_region 2 with fail;obtain⟨W2,dp⟩:=ai (w1.alloc (.cells #[b0.dir,bs b0.name,b0.no,b0.depth] 41));have E2:Ext W0 W2:=by rw[dp];exact b1.alloc _
 have HA:Hid (lY W2 A l):=by rw[dp];exact hA.ext ((Ext.refl _).alloc _)
 have yj:=zH E2;rw[<-dp];clear dp E2 hA b1;go_wp2_with fail;go_loopw [12] (fun vi wr=>∃i:Nat,vi=.int .i64 i/\i<=n/\Hid (mV s.t cu cg l e0=mV s.t cu cg (l.drop i) e0)/\Ext W2 wr) (fun vi _=>n-(intOf vi).toNat)
 case atStart=>exact⟨0,rfl,bC _,rfl,Ext.refl _⟩
 case round =>
  obtain⟨i,rfl,hi,hV,hE⟩:=hrel;have HE:=zH hE;have i0:(0:Int)<=(i:Int):=cO _
  by_cases hlt:(i:Int)<n
  case neg =>
   have lm:i=n:=by omega
   have e1:mV s.t cu cg l e0=e0:=by rw[hV.o,lm,HN.o,uo];rfl
   have H1:=zH e1;clear lm e1 hV hE;go_wp2;go_ret;exact aO.mk (by rw[H1.o];rfl) (lC.o.trans (yj.o.trans HE.o))
  case pos =>
   have hil:i<l.length:=by have:=HN.o;omega
   obtain⟨y,hy⟩:=ai (l[i]);have oM:=hV.o;rw[QY hil,<-hy]at oM;have US:=zH oM;obtain⟨ba,oa,rfl,yx,p0,p1,p2,p3⟩:=(HA.o.ext hE).at_ hil;rw[<-hy]at p0 p2;have BS:IntKind.i64.wrap ((i:Int)+1)=(i:Int)+1:=cB _ (by omega);obtain⟨A1,k1,tS,KG1⟩:=pF B f s.t X y.dir wr (Z5.o.ext (yj.o.trans hE)) HCT.o uh.o;obtain⟨n1,abM⟩:=ai (aa s.t.nodes y.dir);rw[<-abM]at tS KG1;have YP:=zH KG1;have ME:=zH abM;have FU:=zH p2;have HBA:=zH yx;clear hy hV oM tS KG1 abM hE hil p1 p2 p3;go_wp2_with fail;refine (YP.o _ (Ext.refl _)).mono ?_;rintro e w3 ⟨rfl,b3⟩;go_upto_region 6 with fail;clear p0 yx;obtain⟨w4,gb⟩:=ai (w3.alloc (.cells (n1,A1,k1) 66));obtain⟨mG,sQ⟩:=ai w3.heap.size;have N4:Has w4 mG (.cells (n1,A1,k1) 66):=by rw[gb,sQ];exact Has.new _ _
   have E4:Ext wr w4:=by rw[gb];exact b3.alloc _
   rw [<-gb,<-sQ];clear gb sQ b3;have D4:=CZ.o.ext (yj.o.trans (HE.o.trans E4));have HD4:=zH D4;have HE4:=zH E4;have Rt:=zH N4;have c0:=aA D4 0 rfl;have c1:=aA D4 1 rfl;have cz:=D4.lt;obtain⟨x0,x1,x2,x3,x4,x5,x6,x7,x8,x9,kC,kn⟩:=N4.da;have zx:=N4.lt;have HM:Hid (mB s.t cu cg y=if fh cu cg n1.uid n1.gid n1.mode 3=false then 6 else if gR cu n1.mode n1.uid (aa s.t.nodes y.no).uid=false then 4 else 0):=by
    show _=_;rw[ME.o];rfl
   clear D4 E4 N4 YP;go_wp2_with fail;refine (pK cu cg _ _ _ _ _ _ _ _ _ _ _ _ 3 _).mono ?_;rintro e w6 ⟨rfl,b6⟩;have Km:=zH (HE4.o.trans b6)
   cases hm:fh cu cg n1.uid n1.gid n1.mode 3 with
   | false =>
    have hv:mV s.t cu cg l e0=6:=by rw[US.o,HM.o,af hm];rfl
    have H1:=zH hv;clear hv c0 c1 cz x0 x1 x2 x3 x4 x5 x6 x7 x8 x9 kC kn zx;go_wp2;go_ret;exact aO.mk (by rw[H1.o];rfl) (lC.o.trans (yj.o.trans (HE.o.trans Km.o)))
   | true =>
    obtain⟨A2,k2,gG,KG2⟩:=pF B f s.t X y.no w6 (Z5.o.ext (yj.o.trans (HE.o.trans Km.o))) HCT.o uh.o;obtain⟨n2,adM⟩:=ai (aa s.t.nodes y.no);rw[<-adM]at gG KG2 HM;have YQ:=zH KG2;have D6:=HD4.o.ext b6;obtain⟨x0',Za,Xh,Zq,x4',x5',x6',x7',x8',x9',SM,SN⟩:=(Rt.o.ext b6).da;have QZ:=(Rt.o.ext b6).lt;have v0:=Gr.cell QZ x0';have v1:=Gr.cell QZ Za;have v2:=Gr.cell QZ Xh;have v3:=Gr.cell QZ Zq;have v4:=Gr.cell QZ x4';have v5:=Gr.cell QZ x5';have v6:=Gr.cell QZ x6';have v7:=Gr.cell QZ x7';have v8:=Gr.cell QZ x8';have v9:=Gr.cell QZ x9';have v10:=Gr.cell QZ SM;have v11:=Gr.cell QZ SN;have vc0:∀u:Gr w6,u.w.cell? (b5,0)=some (.int .i64 cu):=Gr.cell D6.lt (D6.cell 0);have vc1:∀u:Gr w6,u.w.cell? (b5,1)=some (.int .i64 cg):=Gr.cell D6.lt (D6.cell 1);have vp2:∀u:Gr w6,u.w.cell? (ba,oa+i*4+2)=some (.int .i64 y.no):=fun u=>((Km.o.trans u.h).cell HBA.o).trans FU.o
    have KFR:Hid (∀u:World,Calls prog 60 #[.agg #[cu,cg],.agg (n1,A1,k1),.agg (n2,A2,k2)] u (aO u (.bool (gR cu n1.mode n1.uid n2.uid)))):=by
     show ∀_,_;intro u;exact CS cu cg _ _ _ _ _ _ _ _ _ _ _ _ _ _ _ _ _ _ _ _ _ _ _ _ u
    clear adM KG2 gG D6 x0' Za Xh Zq x4' x5' x6' x7' x8' x9' SM SN QZ c0 c1 cz x0 x1 x2 x3 x4 x5 x6 x7 x8 x9 kC kn zx;go_upto_region 8 with fail;refine Rd w6 ?_
    repeat (quiet_step (first
     | ((with_reducible refine (YQ.o _ (Gr.h _)).mono ?_);rintro e w'' ⟨rfl,mv⟩;exact⟨rfl,⟨w'',Ext.trans (Gr.h _) mv⟩,rfl⟩)
     | ((with_reducible refine (KFR.o _).mono ?_);rintro e w'' ⟨rfl,mv⟩;exact⟨rfl,⟨w'',Ext.trans (Gr.h _) mv⟩,rfl⟩)))
    refine lH (NX fun w7 E7=>?_);have Nw:=zH (Km.o.trans E7);clear v0 v1 v2 v3 v4 v5 v6 v7 v8 v9 v10 v11 vc0 vc1 vp2 YQ KFR E7 b6
    cases hf:gR cu n1.mode n1.uid n2.uid with
    | false =>
     have NK:mB s.t cu cg y=4:=by rw[HM.o,ac (by rw[hm];decide),af hf]
     have hv:mV s.t cu cg l e0=4:=by rw[US.o,NK];rfl
     have H1:=zH hv;clear hv NK;go_wp2;go_ret;exact aO.mk (by rw[H1.o];rfl) (lC.o.trans (yj.o.trans (HE.o.trans Nw.o)))
    | true =>
     have NK:mB s.t cu cg y=0:=by rw[HM.o,ac (by rw[hm];decide),ac (by rw[hf];decide)]
     have hv:mV s.t cu cg l e0=mV s.t cu cg (l.drop (i+1)) e0:=by rw[US.o,NK];rfl
     have H1:=zH hv;clear hv NK;go_wp2_with fail;go_roundw
     case rel=>exact⟨i+1,by go_num,by omega,H1,HE.o.trans Nw.o⟩
     case measure=>simp[intOf];omega
theorem BN (x:r7) (cs:Array Value) (w:World) (h:oT w x cs):Calls prog 9 #[.agg cs] w (aO w (.bool true)):=by
 obtain⟨W1,cA⟩:=ai (w.alloc (.cells cs 30));obtain⟨b1,j_⟩:=ai w.heap.size;have E1:Ext w W1:=by rw[cA];exact (Ext.refl _).alloc _
 have B1:Has W1 b1 (.cells cs 30):=by rw[cA,j_];exact Has.new _ _
 have KF:=zH (QA x cs W1 (h.ext E1));have KB:=zH (fun (hF:Vq x) (u:World) (hu:Ext W1 u)=>Vs x cs u ((h.ext E1).ext hu) hF);obtain⟨Am,cm,Ai,ci,Ap,cp,rfl⟩:=h.cells;obtain⟨nm,ie⟩:=ai x.ms.length;obtain⟨ni,yS⟩:=ai x.is.length;obtain⟨np,Cq⟩:=ai x.plan.length;obtain⟨Pn,hPn⟩:=ai (bs x.name);rw[<-ie,<-yS,<-Cq,<-hPn]at cA B1 KF KB|-;have HPN:=zH hPn;have nZ:=zH B1;have c0:=aA B1 0 rfl;have c1:=aA B1 1 rfl;have c2:=aA B1 2 rfl;have c3:=aA B1 3 rfl;have c4:=aA B1 4 rfl;have c5:=aA B1 5 rfl;have c6:=aA B1 6 rfl;have c7:=aA B1 7 rfl;have c8:=aA B1 8 rfl;have cz:=B1.lt;clear ie yS Cq hPn B1 h;go_in;go_upto_region 1 with fail;rw[<-cA,<-j_];clear cA j_;go_wp2_with fail;refine KF.o.mono ?_;rintro e w2 ⟨h2,E2⟩;clear KF;rcases h2 with⟨rfl,hF⟩|rfl
 case inr =>
  go_wp2_with fail;refine (FJ _).mono ?_;rintro e wz ⟨rfl,bz⟩;go_wp2;go_ret;exact aO.mk rfl ((E1.trans E2).trans bz)
 have HF:=zH hF;have KB2:=zH (KB.o hF w2 E2);have B2:=nZ.o.ext E2;clear hF KB c0 c1 c2 c3 c4 c5 c6 c7 c8 cz;have c0:=aA B2 0 rfl;have c1:=aA B2 1 rfl;have c2:=aA B2 2 rfl;have c3:=aA B2 3 rfl;have c4:=aA B2 4 rfl;have c5:=aA B2 5 rfl;have c6:=aA B2 6 rfl;have c7:=aA B2 7 rfl;have c8:=aA B2 8 rfl;have cz:=B2.lt;clear B2;go_wp2_with fail;refine KB2.o.mono ?_;rintro e w4 ⟨B,b,g,f,rfl,hB,hP,hR,E4⟩;obtain⟨hpl,hs⟩:=FE HF.o;have Xg:=I2 x.ms x.is;obtain⟨s,hs0⟩:∃s:aH,s=⟨jf x.ms x.is,0,0,x.plan,false⟩:=⟨_,rfl⟩;have hst:s.t=jf x.ms x.is:=by rw[hs0]
 rw[<-hs0]at hP hR hs;rw[<-hst]at hpl Xg;have HWH:=zH Xg;have HB0:=zH hB;have yj:=zH E2;have HE4:=zH E4;clear Xg;have Wu:Ext W1 w4:=E2.trans E4;have YF:=zH Wu;have HP:=zH hP;have HR:=zH hR;have HS:=zH hs;have Uf:=zH hpl;have B4:=nZ.o.ext Wu;have Wx:=zH B4;have KS:=zH (VC hR hpl x.at_);clear hB hs0 hst hP hR hs hpl KB2 E2 E4 Wu c0 c1 c2 c3 c4 c5 c6 c7 c8 cz;have c4:=aA B4 4 rfl;have cz:=B4.lt;clear B4;go_wp2_with fail;refine KS.o.mono ?_;rintro e w5 ⟨dir,nm0,is,rfl,hn0,_,E5⟩;clear KS c4 cz;go_upto_if 30 with fail;go_cut [6] (fun v wc=>∃Jp,v=.string (bs Jp)/\Jp.length<=300/\Ext w4 wc)
 case first =>
  have B5:=Wx.o.ext E5;have c6:=aA B5 6 rfl;have cz:=B5.lt;clear B5
  cases is with
  | true =>
   go_wp2_with fail;go_meet;exact⟨nm0,rfl,by omega,E5⟩
  | false =>
   go_wp2_with fail;go_meet;exact⟨x.name,by rw[HPN.o],HF.o.2.1,E5⟩
 case rest =>
  obtain⟨Jp,rfl,agh,E6⟩:=hcut;have Rw:=zH (nZ.o.ext yj.o);have hp:Pl 140 s:=⟨Uf.o.jr,HS.o.c0,HS.o.c1,HS.o.plan⟩;have hsz:s.t.nodes.length<=141:=by have:=hp.fU.fN.count;have:=hp.fU.last;omega
  obtain⟨l,b0,e0,hT,M8⟩:=Yb HS.o.fN Uf.o.jr.kids x.uid x.gid dir Jp;have afx:=Uf.o.U0;have KA:=zH (fun (u:World) (hu:Ext w4 u)=>(HP.o.ext hu).FH HS.o (by omega) x.uid x.gid dir Jp l b0 e0 hT (by omega));have KB:=zH (fun (u:World) (hu:Ext w4 u)=>(HR.o.ext hu).FH HS.o (by omega) x.uid x.gid dir Jp l b0 e0 hT (by omega));obtain⟨eA,heA⟩:=ai (mV s.t x.uid x.gid l e0);rw[<-heA]at KA KB;obtain⟨sP,eP,LP,kP,hPT,hkP⟩:=Nt hp x.uid x.gid dir Jp;have hPe:=pT hp hPT.LX;obtain⟨s1,e1,k1,sF,eF,LF,kF,hFT,mq,Ct,afy,hLF,hkF⟩:=YO hp HWH.o x.uid x.gid dir Jp;have afz:s1.t.nodes.length<=500:=by have:=Ct.fU.fN.count;have:=Ct.fU.last;omega
  have hFe:Pl (140+k1+LF.length) sF:=by
   rcases hFT.2 with⟨_,h1,_,h3⟩|⟨_,h2⟩
   ·rw[h1];exact Ct.mono (by omega)
   ·exact (pT Ct h2.LX).1
  have HSP:Hid (d_ 300 sP):=zH (hPe.1.fU.mono (by omega));have HSF:Hid (d_ 600 sF):=zH (hFe.fU.mono (by omega));have KP1:=zH (fun (u:World) (g1:dL) (hu:PS u B b g1 s)=>hu.sJ hp x.uid x.gid dir Jp sP eP LP kP hPT (by have:=hPe.2;omega) (by have:=hPe.2;omega));have KP2:=zH (fun (u:World) (f1:cI) (hu:RS u B f1 s)=>hu.sJ hp x.uid x.gid dir Jp (by omega) sP eP LP kP hPT (by have:=hPe.2;omega) (by have:=hPe.2;omega));have KF1:=zH (fun (u:World) (g1:dL) (hu:PS u B b g1 s)=>hu.yU hp x.uid x.gid dir Jp s1 e1 k1 sF eF LF kF hFT Ct (by omega) (by omega));have Jn:=zH (fun (u:World) (f1:cI) (hu:RS u B f1 s)=>hu.yU hp x.uid x.gid dir Jp (by omega) s1 e1 k1 sF eF LF kF hFT Ct (by omega) (by omega));clear hPT hkP hFT hkF Ct afy hLF afz hFe hPe hT M8 afx hp hsz mq heA;have B6:=Wx.o.ext E6;have c2:=aA B6 2 rfl;have c3:=aA B6 3 rfl;have cz:=B6.lt;go_upto_region 9 with fail;have u2:∀u:Gr wc,u.w.cell? (b1,2)=some (.int .i64 x.uid):=Gr.cell cz c2;have u3:∀u:Gr wc,u.w.cell? (b1,3)=some (.int .i64 x.gid):=Gr.cell cz c3;have GA:=zH (fun (u:World) (hu:Ext wc u)=>KA.o u (E6.trans hu));have GB:=zH (fun (u:World) (hu:Ext wc u)=>KB.o u (E6.trans hu));clear c2 c3 cz B6 KA KB;refine Rd wc ?_
  repeat (quiet_step (first
   | ((with_reducible refine (GA.o _ (Gr.h _)).mono ?_);rintro e w'' ⟨rfl,mv⟩;exact⟨rfl,⟨w'',Ext.trans (Gr.h _) mv⟩,rfl⟩)
   | ((with_reducible refine (GB.o _ (Gr.h _)).mono ?_);rintro e w'' ⟨rfl,mv⟩;exact⟨rfl,⟨w'',Ext.trans (Gr.h _) mv⟩,rfl⟩)))
  refine lH (NX fun w7 E7=>?_);have QI:=zH (HE4.o.trans (E6.trans E7));have QU:=zH (HP.o.ext (E6.trans E7));have RB:=zH (HR.o.ext (E6.trans E7));clear u2 u3 GA GB E7;have t0:(eA != eA)=false:=by simp
  go_upto_region 12 with fail;have B7:=Rw.o.ext QI.o;have c6:=aA B7 8 rfl;have cz:=B7.lt;clear B7 t0;have t2:((eP:Int) == eP)=true:=by simp
  have t3:((eF:Int) == eF)=true:=by simp
  obtain⟨kp,Ry⟩:=ai x.keep;rw[<-Ry]at c6 Rw;clear Ry
  cases kp with
  | true =>
   go_upto_region 13 with fail;obtain⟨Ph,js⟩:=ai (ph2 (mi w7 B b g f s s) (mi w7 B b g f sF s) (mi w7 B b g f sF sF));have HV:Hid (Ph 0 w7.drew):=by show Ph 0 _;rw[js];exact (mi.start QU.o RB.o).ext (Ext.refl _).drew
   have hne:Nonempty (Hp Ph):=⟨⟨0,_,HV.o⟩⟩;have KQ:Hid (∀w',Ph 2 w'->mi w7 B b g f sF sF w'):=by show ∀w',_;intro w' hw;rw[js]at hw;exact hw
   have ux:∀u:Hp Ph,Has u.w b1 (.cells #[.slice Am nm cm,.slice Ai ni ci,x.uid,x.gid,x.at_,x.iN,.string Pn,.slice Ap np cp,.bool true] 30):=by
    rw[js];have hk:∀(T S:aH) (w':World),mi w7 B b g f T S w'->Has w' b1 (.cells #[.slice Am nm cm,.slice Ai ni ci,x.uid,x.gid,x.at_,x.iN,.string Pn,.slice Ap np cp,.bool true] 30):=fun T S w' h'=>Rw.o.ext (h'.after QI.o HB0.o QU.o RB.o)
    exact sB (T:=fun w'=>Has w' b1 (.cells #[.slice Am nm cm,.slice Ai ni ci,x.uid,x.gid,x.at_,x.iN,.string Pn,.slice Ap np cp,.bool true] 30)) (hk _ _) (hk _ _) (hk _ _)
   have u2:∀u:Hp Ph,u.w.cell? (b1,2)=some (.int .i64 x.uid):=fun u=>(ux u).cell 2
   have u3:∀u:Hp Ph,u.w.cell? (b1,3)=some (.int .i64 x.gid):=fun u=>(ux u).cell 3
   have P0:Ph 0=mi w7 B b g f s s:=by rw[js];rfl
   have P1:Ph 1=mi w7 B b g f sF s:=by rw[js];rfl
   have P2:Ph 2=mi w7 B b g f sF sF:=by rw[js];rfl
   have Qu:Hid (∀u:Wc (Ph 0),Calls prog 31 #[((),b),.agg #[x.uid,x.gid],dir,bs Jp] u.w (fun e w'=>e=.returned (.int .i64 eF)/\Ph 1 w')):=by
    show ∀u:Wc (Ph 0),_;rintro ⟨u,hu⟩;dsimp only;rw[P0]at hu;rw[P1];exact hu.ZB fun g1 _ hK=>KF1.o u g1 hK
   have VT:Hid (∀u:Wc (Ph 1),Calls prog 33 #[((),f.bF),.agg #[x.uid,x.gid],dir,bs Jp] u.w (fun e w'=>e=.returned (.int .i64 eF)/\Ph 2 w')):=by
    show ∀u:Wc (Ph 1),_;rintro ⟨u,hu⟩;dsimp only;rw[P1]at hu;rw[P2];refine hu.ZC fun f1 hf hF=>?_
    rw[<-hf];exact Jn.o u f1 hF
   clear js P0 P1 P2 ux c6 cz;refine fw Ph [5,11] (by kernel_rfl) (by kernel_rfl) (by kernel_rfl) HV.o ?_
   repeat (first
    | (
      refine fK (by kernel_rfl) (fun K hK=>?_);go_simp;refine hK _ ?_;clear hK K)
    | (
      refine dh 0 (by kernel_rfl) rfl (fun K hK=>?_);go_simp;apply Exists.intro;refine⟨Qu.o,hK _ ?_⟩;clear hK K)
    | (
      refine dh 1 (by kernel_rfl) rfl (fun K hK=>?_);go_simp;apply Exists.intro;refine⟨VT.o,hK _ ?_⟩;clear hK K))
   refine kq ?_;intro w8 hw8;have D8:=KQ.o _ hw8;clear u2 u3 Qu VT HV hw8 KQ hne;have HX8:=zH (D8.after QI.o HB0.o QU.o RB.o);obtain⟨g8,f8,UT,hf8,P8,R8,_⟩:=D8;have KA:Hid (Calls prog 24 #[((),b),((),f.bF)] w8 (aO w8 (.bool true))):=by
    show Calls _ _ _ _ _;rw[<-hf8.1];exact NB P8 R8 HSF.o (by omega)
   clear P8 R8 UT hf8;go_wp2_with fail;refine KA.o.mono ?_;rintro e w9 ⟨rfl,E9⟩;clear KA;go_wp2_with fail;refine (FJ _).mono ?_;rintro e wz ⟨rfl,bz⟩;go_wp2;go_ret;exact aO.mk rfl (E1.trans (yj.o.trans (HX8.o.trans (E9.trans bz))))
  | false =>
   go_upto_region 14 with fail;obtain⟨Ph,js⟩:=ai (ph2 (mi w7 B b g f s s) (mi w7 B b g f sP s) (mi w7 B b g f sP sP));have HV:Hid (Ph 0 w7.drew):=by show Ph 0 _;rw[js];exact (mi.start QU.o RB.o).ext (Ext.refl _).drew
   have hne:Nonempty (Hp Ph):=⟨⟨0,_,HV.o⟩⟩;have KQ:Hid (∀w',Ph 2 w'->mi w7 B b g f sP sP w'):=by show ∀w',_;intro w' hw;rw[js]at hw;exact hw
   have ux:∀u:Hp Ph,Has u.w b1 (.cells #[.slice Am nm cm,.slice Ai ni ci,x.uid,x.gid,x.at_,x.iN,.string Pn,.slice Ap np cp,.bool false] 30):=by
    rw[js];have hk:∀(T S:aH) (w':World),mi w7 B b g f T S w'->Has w' b1 (.cells #[.slice Am nm cm,.slice Ai ni ci,x.uid,x.gid,x.at_,x.iN,.string Pn,.slice Ap np cp,.bool false] 30):=fun T S w' h'=>Rw.o.ext (h'.after QI.o HB0.o QU.o RB.o)
    exact sB (T:=fun w'=>Has w' b1 (.cells #[.slice Am nm cm,.slice Ai ni ci,x.uid,x.gid,x.at_,x.iN,.string Pn,.slice Ap np cp,.bool false] 30)) (hk _ _) (hk _ _) (hk _ _)
   have u2:∀u:Hp Ph,u.w.cell? (b1,2)=some (.int .i64 x.uid):=fun u=>(ux u).cell 2
   have u3:∀u:Hp Ph,u.w.cell? (b1,3)=some (.int .i64 x.gid):=fun u=>(ux u).cell 3
   have P0:Ph 0=mi w7 B b g f s s:=by rw[js];rfl
   have P1:Ph 1=mi w7 B b g f sP s:=by rw[js];rfl
   have P2:Ph 2=mi w7 B b g f sP sP:=by rw[js];rfl
   have Qu:Hid (∀u:Wc (Ph 0),Calls prog 27 #[((),b),.agg #[x.uid,x.gid],dir,bs Jp] u.w (fun e w'=>e=.returned (.int .i64 eP)/\Ph 1 w')):=by
    show ∀u:Wc (Ph 0),_;rintro ⟨u,hu⟩;dsimp only;rw[P0]at hu;rw[P1];exact hu.ZB fun g1 _ hK=>KP1.o u g1 hK
   have VT:Hid (∀u:Wc (Ph 1),Calls prog 34 #[((),f.bF),.agg #[x.uid,x.gid],dir,bs Jp] u.w (fun e w'=>e=.returned (.int .i64 eP)/\Ph 2 w')):=by
    show ∀u:Wc (Ph 1),_;rintro ⟨u,hu⟩;dsimp only;rw[P1]at hu;rw[P2];refine hu.ZC fun f1 hf hF=>?_
    rw[<-hf];exact KP2.o u f1 hF
   clear js P0 P1 P2 ux c6 cz;refine fw Ph [5,11] (by kernel_rfl) (by kernel_rfl) (by kernel_rfl) HV.o ?_
   repeat (first
    | (
      refine fK (by kernel_rfl) (fun K hK=>?_);go_simp;refine hK _ ?_;clear hK K)
    | (
      refine dh 0 (by kernel_rfl) rfl (fun K hK=>?_);go_simp;apply Exists.intro;refine⟨Qu.o,hK _ ?_⟩;clear hK K)
    | (
      refine dh 1 (by kernel_rfl) rfl (fun K hK=>?_);go_simp;apply Exists.intro;refine⟨VT.o,hK _ ?_⟩;clear hK K))
   refine kq ?_;intro w8 hw8;have D8:=KQ.o _ hw8;clear u2 u3 Qu VT HV hw8 KQ hne;have HX8:=zH (D8.after QI.o HB0.o QU.o RB.o);obtain⟨g8,f8,UT,hf8,P8,R8,_⟩:=D8;have KA:Hid (Calls prog 24 #[((),b),((),f.bF)] w8 (aO w8 (.bool true))):=by
    show Calls _ _ _ _ _;rw[<-hf8.1];exact NB P8 R8 HSP.o (by omega)
   clear P8 R8 UT hf8;go_wp2_with fail;refine KA.o.mono ?_;rintro e w9 ⟨rfl,E9⟩;clear KA;go_wp2_with fail;refine (FJ _).mono ?_;rintro e wz ⟨rfl,bz⟩;go_wp2;go_ret;exact aO.mk rfl (E1.trans (yj.o.trans (HX8.o.trans (E9.trans bz))))
theorem pruneTells_walk {H:Type} {enc:TypeId×Value->H} (W:World) (base:Nat) (v0:Value) (d0:DataW H) (p0:List MemPlace)
  (k0:Value.okWide prog W .any base 30 v0) (h0:DataW.Trod enc prog W 0 (fun _=>true) true 30 v0 d0 p0)
  : Calls prog 9 #[v0] W (aO W (.bool true)):=by
 obtain⟨x,cs,rfl,hx⟩:=Qy k0 h0;exact BN x cs W hx
end Go.Proofs.YtpibnfdolojpcaaGreat
