import Derived.Test.YtpibnfdolojpcaaGreatBunE
import Derived.Test.YtpibnfdolojpcaaGreatBunD
import Derived.Test.YtpibnfdolojpcaaGreatBunL
import Derived.Test.YtpibnfdolojpcaaGreatBunX
import Derived.Test.YtpibnfdolojpcaaGreatBunJ
import Derived.Test.YtpibnfdolojpcaaGreatBunB
import Derived.Test.YtpibnfdolojpcaaGreatBunM
import Derived.Test.YtpibnfdolojpcaaGreatBunK
import Derived.RangeFuncNested
import Derived.RangeFuncBound
import Derived.RangeFuncCalls
import Derived.RangeFuncLeaves
import Derived.RangeFuncBox
import Derived.Maps.AppendAt
import Derived.OwnWalkIn
import Derived.TacticsInMore
import Derived.LoopNIn
import Derived.LoopIn
import Derived.Sort.LoopGhostIn
set_option maxHeartbeats 16000000
set_option maxRecDepth 100000
namespace Go.Proofs.YtpibnfdolojpcaaGreat
open Go.Proofs.Tryz
open Go.ChangeShapes Go.WideShapes Go.ChangeAt Go.RowKit
variable {S T:ag} {c x:Nat} {w W W' w':World} {v:Value} {cu cg no e:Int} {L:List Nat} {a:Act} {s:aH}
section
structure Uo (S:ag):Prop where
 uU:∀h:0<S.ae.length,S.ae[0].over=0
 roots:∀k,(h:k<S.ae.length)->∃m∈S.nodes,m.no=S.ae[k].root/\m.kind=1/\m.dev=(k:Int)+1
 free:∀k,(h:k+1<S.ae.length)->∃m∈S.nodes,m.no=S.ae[k+1].over/\aI S.ae m.dev≠S.ae[k+1].over
theorem kM (m:Uo S) (hn:0<no):aw S.ae no=no\/∃k,∃hk:k+1<S.ae.length,S.ae[k+1].over=no/\aw S.ae no=S.ae[k+1].root:=by
 unfold aw;rw[af hn]
 cases hf:S.ae.find? (fun d=>d.over == no) with
 | none=>exact .inl rfl
 | some d =>
  right
  have hm:=p5 hf;have ho:d.over=no:=by simpa using tD hf
  obtain⟨k,hk,e⟩:=mj hm
  match k,hk,e with
  | 0,hk,e =>
   have:=m.uU hk;rw[e]at this;omega
  | k+1,hk,e=>exact⟨k,hk,by rw[e];exact ho,by rw[e]⟩
theorem eB.xk (h:eB c S):Uo S:=⟨h.uU,h.ii,fun k hk=>by
 obtain⟨m,hm,a,_,_,b⟩:=h.qK k hk;exact⟨m,hm,a,by rw[<-a];exact b⟩⟩
def tW (S:ag):Prop:=∀m∈S.nodes,∀x∈m.ah,∀q∈S.nodes,q.no=x.2->q.kind=1->q.up=m.no
structure au where
 dir:Int
 name:List UInt8
 no:Int
 depth:Int
def mJ:au:=⟨0,[],0,0⟩
def iW (S:ag) (cu cg:Int) (x:au):Int:=
 if aW S.nodes x.no=false then 5 else if aW S.nodes x.dir=false then 5
 else if (aa S.nodes x.no).dev≠(aa S.nodes x.dir).dev then 16
 else if (aa S.nodes x.no).kind≠1 then 0 else cE S cu cg x.no 1 4
def fM (x:au) (y:aK):au:=⟨x.no,y.1,y.2,x.depth+1⟩
def ia (S:ag) (cu cg:Int) (x:au):List au:=
 if iW S cu cg x=0/\(aa S.nodes x.no).kind=1 then (b_ S (aa S.nodes x.no).ah).map (fM x) else []
inductive lE (S:ag) (cu cg:Int):List au->List au->au->Int->Prop
 | nil:lE S cu cg [] [] mJ 0
 | bad {x:au} {t:List au}:iW S cu cg x≠0->lE S cu cg (x::t) [] x (iW S cu cg x)
 | step {x:au} {t l:List au} {b:au} {e:Int}:iW S cu cg x=0->lE S cu cg (ia S cu cg x++t) l b e->lE S cu cg (x::t) (x::l) b e
theorem nQ (h:eB c S) (hl:tW S) {m:ak} (hm:m∈S.nodes) {x:aK} (hx:x∈m.ah) (hk:(aa S.nodes (aw S.ae x.2)).kind=1) :
  aC S (aw S.ae x.2)=m.no/\aw S.ae x.2≠m.no:=by
 obtain⟨k1,k2,k3⟩:=h.FO m hm x hx;have hp:=h.pos m hm x hx;rcases kM h.xk (show 0<x.2 by omega) with e|⟨k,hk2,e1,e2⟩
 ·rw [e]at hk|-
  obtain⟨i1,i2,i3⟩:=bP hk;refine⟨?_,k1⟩;unfold aC;rw[af hk,ac]
  ·exact hl m hm x hx _ i3 i2 hk
  ·rintro ⟨r,_⟩
   rcases cT h.roots (aa S.nodes x.2).dev with⟨e1,_⟩|⟨j,hj,_,_,_,e4,_⟩
   ·rw[e1]at r;omega
   ·exact k2 _ (jh hj) (by rw[<-e4,r])
 ·rw [e2]at hk|-
  obtain ⟨q,hq,q1,q2,q3,q4⟩:=h.qK k hk2;obtain⟨y,hy,y1,y2,y3⟩:=h.ii (k+1) hk2;have gq:=(ep h.bL hq).1;have gy:=(ep h.bL hy).1;rw[q1]at gq;rw[y1]at gy;have hup:=hl m hm x hx q hq (by rw[q1,e1]) q2;have V_:aI S.ae y.dev=S.ae[k+1].root/\(jq S.ae y.dev).over=S.ae[k+1].over:=by
   rcases cT h.roots y.dev with⟨_,e2⟩|⟨j,hj,e1,e2,e3,e4,_⟩
   ·have:=(h.on y hy).1;rw[e2]at this;cases this
   ·have JM:j=k+1:=by omega
    subst JM;exact⟨e4,by rw[e3]⟩
  refine⟨?_,?_⟩
  ·unfold aC
   rw[gy,af y2,af ⟨V_.1,by rw[y3];omega⟩,V_.2,gq];exact hup
  ·intro e
   have NY:y=m:=jz h.bL hy hm (by rw[y1,e]);have hd:=k3 q hq (by rw[q1,e1]);rw[<-NY,y3]at hd;omega
def Jj (S:ag) (r:Int->Nat) (c:Nat) (no:Int):Nat:=if (aa S.nodes no).kind=1 then (c+2) ^ (S.nodes.length+1-r no) else 1
def wtL (S:ag) (r:Int->Nat) (c:Nat) (l:List au):Nat:=(l.map fun x=>Jj S r c x.no).sum
theorem xm (S:ag) (r:Int->Nat) (c:Nat) (no:Int):0<Jj S r c no:=by
 unfold Jj;split
 ·exact zI (by omega)
 ·decide
theorem Uq {α:Type} (f:α->Nat) (b:Nat) (l:List α) (h:∀x∈l,f x<=b):(l.map f).sum<=l.length*b:=by
 induction l with
 | nil=>simp
 | cons x l ih =>
  have h1:=ih fun y hy=>h y (cf _ hy)
  have h2:=h x (bY ..);rw[dM,dV,bk,Nat.add_mul];omega
theorem XY (h:eB c S) (hl:tW S) {r:Int->Nat} (hr:pG S r) (cu cg:Int) (x:au):wtL S r c (ia S cu cg x)<Jj S r c x.no:=by
 unfold ia;split
 ·rename_i hx
  obtain ⟨_,hk⟩:=hx;obtain⟨i1,i2,i3⟩:=bP hk;have hrx:=hr.top x.no;have hs:=h.small _ i3;unfold wtL;rw[vW];have hle:∀y∈b_ S (aa S.nodes x.no).ah,((fun x=>Jj S r c x.no)∘fM x) y<=(c+2) ^ (S.nodes.length-r x.no):=by
   intro y hy;unfold b_ at hy;rw[fH]at hy;obtain⟨z,hz,rfl⟩:=hy;show Jj S r c (aw S.ae z.2)<=_;unfold Jj;split
   ·rename_i hk2
    obtain ⟨a1,a2⟩:=nQ h hl i3 hz hk2;rw[i2]at a1 a2;have ue:=(h.bL.2 _ i3).1;rw[i2]at ue;have h0:aw S.ae z.2≠0:=by
     intro e;rw[e]at hk2;have:=(bP hk2).1;rw[h.bL.zero (.inl (by decide))]at this;cases this
    have:=hr.step (aw S.ae z.2) h0 (by rw[a1];omega) (by rw[a1];exact dA a2);rw[a1]at this;exact WG (by omega) (by omega)
   ·exact zI (by omega)
  have h1:=Uq _ _ _ hle;rw[iC]at h1;have h2:Jj S r c x.no=(c+2) ^ (S.nodes.length-r x.no)*(c+2):=by
   unfold Jj;rw[af hk,show S.nodes.length+1-r x.no=(S.nodes.length-r x.no)+1 by omega,Nat.pow_succ]
  rw[h2];have h3:0<(c+2) ^ (S.nodes.length-r x.no):=zI (by omega)
  generalize (c+2) ^ (S.nodes.length-r x.no)=P at *
  have h4:(aa S.nodes x.no).ah.length*P<=c*P:=zA P hs;have h5:P*(c+2)=c*P+2*P:=by rw[Nat.mul_add,wo P c,wo P 2]
  refine JA h1 ?_;omega
 ·exact xm S r c x.no
theorem Du (h:eB c S) (hl:tW S) (cu cg:Int) (t:List au):∃l b e,lE S cu cg t l b e:=by
 obtain ⟨r,hr⟩:=h.GK;have key : ∀n t,wtL S r c t<=n->∃l b e,lE S cu cg t l b e:=by
  intro n
  induction n with
  | zero =>
   intro t ht
   cases t with
   | nil=>exact⟨_,_,_,.nil⟩
   | cons x t =>
    have:=xm S r c x.no;unfold wtL at ht;rw[dM,dV]at ht;omega
  | succ n ih =>
   intro t ht
   cases t with
   | nil=>exact⟨_,_,_,.nil⟩
   | cons x t =>
    by_cases he:iW S cu cg x=0
    ·have hw:=XY h hl hr cu cg x
     obtain ⟨l,b,e,hd⟩:=ih (ia S cu cg x++t) (by
      unfold wtL at ht hw|-;rw[dM,dV]at ht;rw[lG,zJ];omega)
     exact⟨_,_,_,.step he hd⟩
    ·exact⟨_,_,_,.bad he⟩
 exact key _ t (aE _)
open Go
def XZ (B:Nat) (R:List Nat) (W:World):Prop:=∀r∈R,B<=r/\∃o:Obj,W.heap[r]?=some o/\o.isCells=false
def iF (W:World) (x:Nat):Prop:=∃t,e7 W x t/\t≠153/\t≠216
theorem iF.lt (h:iF W x):x<W.heap.size:=by obtain⟨t,⟨c,f,h⟩,_⟩:=h;exact (jM.1 h).1
theorem iF.keep (h:iF W x) (e:W'.heap[x]?=W.heap[x]?):iF W' x:=by obtain⟨t,⟨c,f,h⟩,h2⟩:=h;exact⟨t,⟨c,f,e.trans h⟩,h2⟩
theorem iF.only (h:iF W x) (o:Only L W W') (hL:∀y∈L,iF W' y):iF W' x:=by
 by_cases hx:x∈L
 ·exact hL x hx
 ·exact h.keep (o.block x h.lt hx)
theorem iF.ext (h:iF W x) (o:Ext W W'):iF W' x:=h.keep (yX o x h.lt)
theorem iF.of {cs:Array Value} {t:TypeId} {fr:Nat×Nat} (h:W.heap[x]?=some (.cells cs t fr)) (h1:t≠153) (h2:t≠216):iF W x:=⟨t,⟨cs,fr,h⟩,h1,h2⟩
def Ur {α:Type} (B:Nat) (I:List Nat->List α->World->Prop):Prop:=
 ∀ O pre W O' R W',I O pre W->Only (O++R) W W'->XZ B R W->(∀x∈O',x∈O\/W.heap.size<=x)->(∀x∈O',iF W' x)->I O' pre W'
def Us {α:Type} (B:Nat) (I:List α->World->Prop):Prop:=∀pre W R W',I pre W->Only R W W'->XZ B R W->I pre W'
def rX (O:List Nat) (W W':World):Prop:=∀b∈O,W'.heap[b]?=W.heap[b]?
theorem rX.trans {O:List Nat} {A B C:World} (h:rX O A B) (k:rX O B C):rX O A C:=fun b hb=>(k b hb).trans (h b hb)
theorem Only.Nf {O:List Nat} (o:Only L W W') (h1:∀b∈O,b<W.heap.size) (h2:∀b∈O,b∉L):rX O W W':=fun b hb=>o.block b (h1 b hb) (h2 b hb)
theorem Only.putObj (W:World) (l:Nat) (o:Obj):Only [l] W (W.putObj l o):=
 ⟨rfl,rfl,rfl,by simp,fun k _ hk=>oI (fun e=>hk (by simp[e]))⟩
theorem Only.lh (L:List Nat) (W:World) (o:Obj):Only L W (W.alloc o):=Only.az ((Ext.refl W).alloc o)
theorem Only.pO {B:Nat} (o:Only L W W') (h:∀b∈L,b<B\/∃x:Obj,W.heap[b]?=some x/\x.isCells=true):KeepsFrom B W W':=
 ⟨o.size,fun k x hB hk hx=>by
  refine (o.block k (jM.1 hk).1 fun hm=>?_).trans hk;rcases h k hm with e|⟨y,hy,hc⟩
  ·omega
  ·rw[hk]at hy;cases hy;rw[hx]at hc;cases hc⟩
section
variable {F:Fence} {n:Nat} {P:Program}
def aa5 {α:Type} (F:Fence) (n:Nat) (P:Program) (g:Nat) (lb:Array Value) (PV:α->Array Value) (S Sp:List α->Prop) (G:List α->α->Prop) (Ex:List α->World->Prop) (w0:World):Prop:=
 ∀ (l : Nat) (J:List Nat->List α->World->Prop) (Jx:List α->World->Prop) (W:World),w0.heap.size<=W.heap.size ->
  (∀O pre V,J O pre V->Ex pre V/\W.heap.size<=V.heap.size/\∀b∈O,W.heap.size<=b/\iF V b) ->
  (∀O pre V O' V',J O pre V->Only O V V'->(∀x∈O',x∈O\/V.heap.size<=x)->(∀x∈O',iF V' x)->J O' pre V') ->
  (∀pre V V',Jx pre V->Ext V V'->Jx pre V') ->
  (∀ O pre x V,J O pre V->G pre x->YieldAt F (n-1) P l (PV x) V fun e V' =>
   (e=.returned (.bool true)/\J O (pre++[x]) V'/\rX O V V')\/(e=.returned (.bool false)/\Jx (pre++[x]) V')) ->
  J [] [] W ->
  CallsIn F n P g (#[.func (.yield l) #[] #[]]++lb) W fun e W'=>(∃v,e=.returned v)/\((∃O xs,S xs/\J O xs W')\/(∃pre,Sp pre/\Jx pre W'))
def Ia {α:Type} (B:Nat) (I:List Nat->List α->World->Prop) (Ix:Code->List α->World->Prop) (O:List Nat) (xs:List α) (W:World):Exit->Act->World->Prop
 | .normal,_,W'=>KeepsFrom B W W'/\rX O W W'/\I O xs W'
 | .ret,_,W'=>KeepsFrom B W W'/\Ix .ret xs W'
 | .exit id,_,W'=>KeepsFrom B W W'/\Ix (.exit id) xs W'
 | .goto t,_,W'=>KeepsFrom B W W'/\Ix (.goto t) xs W'
 | .panic _,_,_=>False
 | .outgrown,_,_=>False
theorem vB {α:Type} {g:Operand} {ps:Array Tmp} {assign body:Code} {Q:Exit->Act->World->Prop}  
  (hro:F.round=none) (h1:1<=n) {gf:Nat} {lb:Array Value} (hg:a.eval g=.func (.func gf) #[] lb) (hFg:F.fn gf) (eg:∀args w,(callFunc gf args).run P w=.ok (.enter gf args) w)
  {PV:α->Array Value} {S Sp:List α->Prop} {G:List α->α->Prop} {Ex:List α->World->Prop} {w0:World} (PX:aa5 F (n-1) P gf lb PV S Sp G Ex w0) (eN:w0.heap.size<=w.heap.size) (hps:∀x,(PV x).size=ps.size)
  (I:List Nat->List α->World->Prop) (Ix:Code->List α->World->Prop) (hI:Ur w.heap.size I) (hIx:∀c,Us w.heap.size (Ix c)) (mv:∀O pre V,I O pre V->Ex pre V) (h0:I [] [] w)
  (Ax:α->Act->World->Prop) (hAx:∀x a' V l o o',Ax x a' V->w.heap.size<=l->V.heap[l]?=some o->o.isCells=false->Ax x a' (V.putObj l o'))
  (X7:∀(l:Nat) (O:List Nat) (pre:List α) (x:α) (V:World) (K:Act->World->Prop),I O pre V->G pre x->(∀b∈O,iF V b)->(∀a' V',KeepsFrom w.heap.size V V'->rX O V V'->I O pre V'->Ax x a' V'->K a' V') ->
   assign.wpIn (F.inRound l) (n-1-1) P (Exit.then K (fun _ _ _=>False)) {tmps:=(ps.zip (PV x)).foldl (fun t (p,v)=>t.setIfInBounds p v) a.tmps,defers:=[]} V)
  (acL:∀(l:Nat) (O:List Nat) (pre:List α) (x:α) (a':Act) (V:World),I O pre V->Ax x a' V->G pre x->(∀b∈O,iF V b)->body.wpIn (F.inRound l) (n-1-1) P (Ia w.heap.size I Ix O (pre++[x]) V) a' V)
  (mF:∀(D:Nat) (O:List Nat) (xs:List α) (V:World),w.heap.size<=D->S xs->I O xs V->V.heap[D]?=some (.deferred (some []))->Q .normal {a with defers:={target:=.collected D,args:=#[]}::a.defers} V)
  (acM:∀(D:Nat) (c:Code) (pre:List α) (V:World),w.heap.size<=D->Sp pre->Ix c pre V->V.heap[D]?=some (.deferred (some []))->c.wpIn F n P Q {a with defers:={target:=.collected D,args:=#[]}::a.defers} V) :
  (Code.rangeFunc g ps assign body).wpIn F n P Q a w:=by
 refine wpIn_rangeFunc (fun fn hfn=>?_);rw[hro];obtain⟨D,hD⟩:=ai w.heap.size;obtain⟨R,hR⟩:∃R:LoopState->Option Code->Loop,R=fun st pe=>{state:=st,pending:=pe,fn,tmps:=a.tmps,params:=ps,assign,body,defers:=w.heap.size}:=⟨_,rfl⟩
 obtain ⟨V,hV⟩:∃V,(w.alloc (.deferred (some []))).alloc (.loop (R .ready none))=V:=⟨_,rfl⟩;have vl:V.heap[D+1]?=some (.loop (R .ready none)):=by
  rw[<-hV,hD];have:=World.alloc_heap_new (w.alloc (.deferred (some []))) (.loop (R .ready none))
  rwa [bi]at this
 have vd:V.heap[D]?=some (.deferred (some [])):=by
  rw[<-hV,hD];exact (Below.heap_alloc _ _ _ (by simp)).trans (World.alloc_heap_new w _)
 have vI:I [] [] V:=by
  rw[<-hV];exact hI [] [] w [] [] _ h0 ((Only.lh _ _ _).then (Only.lh _ _ _)) (fun r hr=>by cases hr) (fun x hx=>by cases hx) (fun x hx=>by cases hx)
 have vs:V.heap.size=D+2:=by rw[<-hV,hD];simp
 refine⟨D+1,[{target:=.collected D,args:=#[]}],V,{target:=.fn (.func gf) lb,args:=#[.func (.yield (D+1)) #[] #[]]},V,gf,#[.func (.yield (D+1)) #[] #[]]++lb,V,?_,?_,?_,?_,fun _=>h1,?_⟩
 ·rw[<-hV,hR,hD];exact run_enterLoop_outer _ _ _ _ _
 ·simp only[resolve,hg]
  simp[go_sem]
 ·intro f' Rb;simp[Target.leads]at Rb;subst Rb;exact hFg
 ·simp[invoke,go_sem,eg]
 ·refine (PX (D+1)
   (fun O pre W=>I O pre W/\W.heap[D+1]?=some (.loop (R .ready none))/\W.heap[D]?=some (.deferred (some []))/\V.heap.size<=W.heap.size/\∀b∈O,V.heap.size<=b/\iF W b)
   (fun pre W=>∃c,Ix c pre W/\W.heap[D+1]?=some (.loop (R .done (some c)))/\W.heap[D]?=some (.deferred (some []))) V (by omega)
   (fun O pre W h=>⟨mv O pre W h.1,h.2.2.2.1,h.2.2.2.2⟩)
   (fun O pre X O' Y h o hO Jk=>by
    obtain⟨h1,h2,h3,h4,h5⟩:=h;have nD:∀k,k<V.heap.size->k∉O:=fun k hk hm=>by have:=(h5 k hm).1;omega
    refine⟨hI O pre X O' [] Y h1 (by rw[iR];exact o) (fun r hr=>by cases hr) hO Jk,?_,?_,nk h4 o.size,fun b hb=>⟨?_,Jk b hb⟩⟩
    ·exact (o.block _ (by omega) (nD _ (by omega))).trans h2
    ·exact (o.block _ (by omega) (nD _ (by omega))).trans h3
    ·rcases hO b hb with e|e
     ·exact (h5 b e).1
     ·omega)
   (fun pre X Y ⟨c,hc,hl,hk⟩ e=>⟨c,hIx c pre X [] Y hc (Only.az e) (fun r hr=>by cases hr),(yX e _ (jM.1 hl).1).trans hl,(yX e _ (jM.1 hk).1).trans hk⟩)
   ?_ ⟨vI,vl,vd,aE _,fun b hb=>by cases hb⟩).mono ?_
  ·rintro O pre x W ⟨hi,hl,hk,hs,hO⟩ hG
   have hlt:D+1<W.heap.size:=(jM.1 hl).1;have hy:=run_yield (P:=P) (args:=PV x) hl (by rw[hR];exact hps x);rw[hR]at hy;refine⟨fn,_,assign,body,hy,roundIn_of_wpIn hfn (X7 _ O pre x W _ hi hG (fun b hb=>(hO b hb).2) ?_)⟩;clear hy;intro a' Wa aa6 acN hia hax;have hla:=aa6.same _ _ (by omega) hl rfl;have hka:=aa6.same _ _ (by omega) hk rfl;have aeF:D+1<Wa.heap.size:=(jM.1 hla).1;have hOa:∀b∈O,iF Wa b:=fun b hb=>(hO b hb).2.keep (acN b hb)
   refine⟨_,run_beginRound hla (by rw[hR]),?_⟩;obtain⟨W2,dp⟩:∃W2,W2=Wa.putObj (D+1) (.loop {R .ready none with state:=.busy}):=⟨_,rfl⟩;have xH:W2.heap[D+1]?=some (.loop {R .ready none with state:=.busy}):=by rw[dp];exact World.putObj_heap_same aeF
   have hk2:W2.heap[D]?=some (.deferred (some [])):=by rw[dp];exact (oI (by omega)).trans hka
   have qN:W2.heap.size=Wa.heap.size:=by rw[dp];simp
   have put:∀(O:List Nat) (pre:List α) (X:World) (o o':Obj),I O pre X->X.heap[D+1]?=some o->o.isCells=false->(∀b∈O,V.heap.size<=b/\iF X b)->I O pre (X.putObj (D+1) o'):=fun O pre X o o' h1 h2 h3 h4 =>
    hI O pre X O [D+1] _ h1 ((Only.putObj X _ o').mono (fun y hy=>jO _ hy)) (fun r hr=>by rw[ax]at hr;subst hr;exact⟨by omega,o,h2,h3⟩) (fun y hy=>.inl hy) (fun y hy=>(h4 y hy).2.keep (oI (by have:=(h4 y hy).1;omega)))
   have tm:I O pre W2:=by rw[dp];exact put O pre Wa _ _ hia hla rfl (fun b hb=>⟨(hO b hb).1,hOa b hb⟩)
   have Ut:∀X o',rX O X (X.putObj (D+1) o'):=fun X o' b hb=>by have:=(hO b hb).1;exact oI (by omega)
   rw [<-dp];refine wpIn_mono (acL _ O pre x a' W2 tm (by rw[dp];exact hAx _ _ _ _ _ _ hax (by omega) hla rfl) hG (fun b hb=>by rw[dp];exact (hOa b hb).keep (Ut _ _ b hb))) ?_;have fin:∀(jump:Option Code) (W3:World),KeepsFrom w.heap.size W2 W3->∃W4,W4=W3.putObj (D+1) (.loop (R (if jump.isNone then .ready else .done) jump)) /\
     (Instr.endRound (D+1) jump).run P W3=.ok (.bool jump.isNone) W4/\W3.heap[D+1]?=some (.loop {R .ready none with state:=.busy}) /\
     W4.heap[D+1]?=some (.loop (R (if jump.isNone then .ready else .done) jump))/\W4.heap[D]?=some (.deferred (some []))/\W2.heap.size<=W3.heap.size/\W4.heap.size=W3.heap.size:=fun jump W3 qg=>by
    have hl3:=qg.same _ _ (by omega) xH rfl;have hd3:=qg.same _ _ (by omega) hk2 rfl;have TK:=run_endRound (P:=P) jump hl3;rw[hR]at TK;refine⟨_,rfl,?_,hl3,World.putObj_heap_same (jM.1 hl3).1,(oI (by omega)).trans hd3,qg.size,by simp⟩;rw[hR];exact TK
   rintro e a3 W3 hp;have leave:∀c,KeepsFrom w.heap.size W2 W3->Ix c (pre++[x]) W3->∃v W4,(Instr.endRound (D+1) (some c)).run P W3=.ok v W4/\v=.bool false/\∃c,Ix c (pre++[x]) W4/\W4.heap[D+1]?=some (.loop (R .done (some c)))/\W4.heap[D]?=some (.deferred (some [])):=fun c qg hi3=>by
    obtain⟨W4,gb,hr,hl3,xO,Wk,_,_⟩:=fin (some c) W3 qg;exact⟨_,W4,hr,rfl,c,by rw[gb];exact hIx _ _ W3 [D+1] _ hi3 (Only.putObj _ _ _) (fun r hr=>by rw[ax]at hr;subst hr;exact⟨by omega,_,hl3,rfl⟩),xO,Wk⟩
   cases e with
   | normal =>
    obtain⟨qg,acO,hi3⟩:=hp;obtain⟨W4,gb,hr,hl3,xO,Wk,hs3,hs4⟩:=fin none W3 qg;have q1:rX O Wa W2:=by rw[dp];exact Ut _ _
    have Cn:∀b∈O,V.heap.size<=b/\iF W3 b:=fun b hb=>⟨(hO b hb).1,((hOa b hb).keep (q1 b hb)).keep (acO b hb)⟩
    have q2:rX O W3 W4:=by rw[gb];exact Ut _ _
    refine⟨_,W4,hr,.inl ⟨rfl,⟨by rw[gb];exact put O _ W3 _ _ hi3 hl3 rfl Cn,xO,Wk,by have:=aa6.size;omega,fun b hb=>⟨(hO b hb).1,(Cn b hb).2.keep (q2 b hb)⟩⟩,?_⟩⟩;exact ((acN.trans q1).trans acO).trans q2
   | ret =>
    obtain⟨v,W4,hr,hv,hc⟩:=leave .ret hp.1 hp.2;exact⟨v,W4,hr,.inr ⟨by rw[hv],hc⟩⟩
   | exit id =>
    obtain⟨v,W4,hr,hv,hc⟩:=leave (.exit id) hp.1 hp.2;exact⟨v,W4,hr,.inr ⟨by rw[hv],hc⟩⟩
   | goto t =>
    obtain⟨v,W4,hr,hv,hc⟩:=leave (.goto t) hp.1 hp.2;exact⟨v,W4,hr,.inr ⟨by rw[hv],hc⟩⟩
   | panic ch=>exact hp.elim
   | outgrown=>exact hp.elim
  ·rintro e W2 ⟨⟨v,rfl⟩,(⟨O,xs,hS,hi,hl,hk,hs,hO⟩|⟨pre,hSp,c,hi,hl,hk⟩)⟩
   ·have hr:=run_endLoop (P:=P) hl (by rw[hR];simp)
    refine⟨none,_,by rw[hR]at hr;exact hr,?_⟩;rw[hD]at hk|-;refine mF _ O xs _ (aE _) hS (hI O xs W2 O [D+1] _ hi ((Only.putObj W2 _ _).mono (fun y hy=>jO _ (by rw[hD];exact hy))) (fun r hr=>by rw[ax]at hr;subst hr;exact⟨by omega,_,hl,rfl⟩) (fun y hy=>.inl hy) (fun y hy=>(hO y hy).2.keep (oI (by have:=(hO y hy).1;omega)))) ((oI (by omega)).trans hk)
   ·have hr:=run_endLoop (P:=P) hl (by rw[hR];simp)
    refine⟨some c,_,by rw[hR]at hr;exact hr,?_⟩;rw[hD]at hk|-;exact acM _ c pre _ (aE _) hSp (hIx c _ W2 [D+1] _ hi ((Only.putObj W2 _ _).mono (fun y hy=>by rw[hD];exact hy)) (fun r hr=>by rw[ax]at hr;subst hr;exact⟨by omega,_,hl,rfl⟩)) ((oI (by omega)).trans hk)
end
end
section
abbrev bt (x:au):List Value:=[.int .i64 x.dir,.string (bs x.name),.int .i64 x.no,.int .i64 x.depth]
def fS (l:List au):List Value:=l.flatMap bt
theorem lX (l:List au):(fS l).length=l.length*4:=by
 unfold fS
 induction l with
 | nil=>rfl
 | cons x l ih=>rw[yZ,aZ,ih];simp;omega
theorem pP (a b:List au):fS (a++b)=fS a++fS b:=by unfold fS;rw[y_]
theorem tC (l:List au):∀k,(h:k<l.length)->∀j,j<4->(fS l)[k*4+j]?=(bt l[k])[j]?:=by
 induction l with
 | nil=>intro k h;cases h
 | cons x l ih =>
  intro k h j hj;have e:fS (x::l)=bt x++fS l:=rfl;rw[e]
  cases k with
  | zero =>
   simp only[zl,eY,zm];rw[vY (by simpa using hj)]
  | succ k =>
   have:=ih k (by simpa using h) j hj;rw[vZ (by simp;omega)];simp only[bk,gj,zn];rw[show (k+1)*4+j-(0+1+1+1+1)=k*4+j by omega];exact this
theorem pQ (x:au):∀u∈bt x,u.oneCell'=true:=by
 intro u hu;simp only[aR,bg,bh]at hu;rcases hu with rfl|rfl|rfl|rfl<;>rfl
theorem Co (l:List au):∀u∈fS l,u.oneCell'=true:=by
 intro u hu;unfold fS at hu;rw[FX]at hu;obtain⟨x,_,hx⟩:=hu;exact pQ x u hx
theorem Uu:(prog.info? 41).map (fun i=>(i.zero,i.size,i.bytes))=some (some (.agg #[(),.string ⟨#[]⟩,(),()]),4,40):=by kernel_rfl
theorem pR:(prog.info? 41).map (·.size)=some 4:=by kernel_rfl
def eO (w:World) (base:Nat) (v:Value) (l:List au):Prop:=w.ownsRow base 41 4 v l.length (fS l)
theorem eO.nil (w:World) (base:Nat):eO w base (.slice none 0 0) []:=oG _ _ _ _
def lY (w:World) (A:Option Addr) (l:List au):Prop:=
 l = []\/∃b o,A=some ⟨b,o,none⟩/\b<w.heap.size/\∀k,(h:k<l.length)->∀j,j<4->w.cell? ⟨b,o+k*4+j,none⟩=(bt l[k])[j]?
theorem lY.ext {A:Option Addr} {l:List au} (h:lY w A l) (k:Ext w w'):lY w' A l:=by
 rcases h with h|⟨b,o,hA,hb,hc⟩
 ·exact .inl h
 ·exact .inr ⟨b,o,hA,by have:=k.size;omega,fun i hi j hj=>(k.cell hb).trans (hc i hi j hj)⟩
theorem eO.cases {base:Nat} {l:List au} (h:eO w base v l) :
  (v=.slice none 0 0/\l=[])\/∃g cap cur,v=.slice (some ⟨g,0,none⟩) l.length cap/\base<=g/\Has w g (.cells cur 41)/\l.length<=cap/\cap<=maxLen/\∀k,(h:k<l.length)->∀j,j<4->w.cell? ⟨g,k*4+j,none⟩=(bt l[k])[j]?:=by
 rcases h.2 with⟨e,h0⟩|⟨g,cap,cur,rfl,hb,hg,hn,hm,hs,ht⟩
 ·exact .inl ⟨e,qD h0⟩
 ·refine .inr ⟨g,cap,cur,rfl,hb,hg,hn,hm,fun k hk j hj=>?_⟩
  have:=DU h (k*4+j) (by omega);rw[this];exact tC l k hk j hj
theorem eO.at_ {base:Nat} {l:List au} (h:eO w base v l):∃A cap,v=.slice A l.length cap/\l.length<=cap/\cap<=maxLen/\lY w A l/\(A=none->cap=0):=by
 rcases h.cases with⟨rfl,rfl⟩|⟨g,cap,cur,rfl,hb,hg,hn,hm,hc⟩
 ·exact⟨none,0,rfl,aE _,by decide,.inl rfl,fun _=>rfl⟩
 ·exact⟨_,cap,rfl,hn,hm,.inr ⟨g,0,rfl,hg.lt,fun k hk j hj=>by rw[eY];exact hc k hk j hj⟩,fun e=>by cases e⟩
theorem eO.ext {base:Nat} {l:List au} (h:eO w base v l) (k:Ext w w'):eO w' base v l:=qF h k.grownBy (by cases v.ownBlock<;>simp)
theorem eO.only {base:Nat} {l:List au} (h:eO w base v l) (o:Only L w w') (hn:∀g,v.ownBlock=some g->g∉L):eO w' base v l:=av h o hn
theorem eO.base {base base':Nat} {l:List au} (h:eO w base v l) (hb:base'<=base):eO w base' v l:=by
 refine⟨h.1,?_⟩;rcases h.2 with e|⟨g,cap,cur,hv,hg,rest⟩
 ·exact .inl e
 ·exact .inr ⟨g,cap,cur,hv,by omega,rest⟩
theorem eO.pop {base:Nat} {g cap:Nat} {l:List au} {x:au} (h:eO w base (.slice (some g) (l++[x]).length cap) (l++[x])):eO w base (.slice (some g) l.length cap) l:=by
 refine⟨by rw[lX],?_⟩;rcases h.2 with⟨e,_⟩|⟨g',cap',cur,hv,hb,hg,hn,hm,hs,ht⟩
 ·cases e
 ·injection hv with h1 h2 h3
  injection h1 with h1;injection h1 with h1;subst h1;subst h3;refine .inr ⟨g,cap,cur,rfl,hb,hg,by rw[aZ]at hn;omega,hm,hs,?_⟩;have e:cur.toList.take (l.length*4)=(cur.toList.take ((l++[x]).length*4)).take (l.length*4):=by rw[FY];congr 1;rw[aZ];omega
  rw[e,ht,pP,JB (lX l)]
theorem eO.lt {w:World} {base:Nat} {v:Value} {l:List au} (h:eO w base v l) {g:Nat} (hv:v.ownBlock=some g):base<=g/\g<w.heap.size:=ry h g hv
theorem Dv (w:World) {base:Nat} {l:List au} (h:eO w base v l) (hb:base<=w.heap.size) (l2:List au) (bb o c2:Nat) (h2:∀k,(h:k<l2.length)->∀j,j<4->w.cell? ⟨bb,o+k*4+j,none⟩=(bt l2[k])[j]?)
  (hl:l.length<=2000000) (xH:l2.length<=1000000) :
  ∃ v' w',(Builtin.append_ #[39,39] 39 #[v,.slice (some ⟨bb,o,none⟩) l2.length c2]).run prog w=.ok v' w'/\eO w' base v' (l++l2)/\w.grownBy w' v.ownBlock/\(v'.ownBlock=v.ownBlock\/v'.ownBlock=some w.heap.size):=by
 obtain ⟨i0,hi,hz0,hz1,hz2⟩:=jj Uu;obtain⟨v',w',hr,h3,h4,_,h5⟩:=JC (P:=prog) (w:=w) base 39 39 41 i0 (.agg #[(),.string ⟨#[]⟩,(),()]) 4 40 underlying39 hi hz0 hz1 hz2 rfl (by decide) v l.length _ h ⟨bb,o,none⟩ l2.length c2 (fS l2) (lX l2)
  (by
   intro j u hu;rw[kU];have hj:j<l2.length*4:=by
    rcases lq j (l2.length*4) with h'|h'
    ·exact h'
    ·rw[ze (by rw[lX];exact h')]at hu;cases hu
   have hk:j / 4<l2.length:=by omega
   have e:j=j / 4*4+j % 4:=by omega
   have a:=tC l2 (j / 4) hk (j % 4) (by omega);rw[<-e,hu]at a;have b:=h2 (j / 4) hk (j % 4) (by omega);rw[un,<-e]at b;rw[b,<-a])
  (Co l2) (by unfold maxLen;omega) (by omega) hb
 refine⟨v',w',hr,?_,h4,h5⟩;unfold eO;rw[pP,aZ];exact h3
theorem vC (w:World) {base:Nat} {l:List au} (h:eO w base v l) (hb:base<=w.heap.size) (x:au) (hl:l.length<=2000000) :
  ∃ v' w',(Builtin.append_ #[39,39] 39 #[v,.slice (some w.heap.size) 1 1]).run prog (w.alloc (.cells (bt x).toArray 41))=.ok v' w'/\eO w' base v' (l++[x])/\(w.alloc (.cells (bt x).toArray 41)).grownBy w' v.ownBlock/\(v'.ownBlock=v.ownBlock\/v'.ownBlock=some (w.heap.size+1)):=by
 have hN:=Has.new w (.cells (bt x).toArray 41);have E:Ext w (w.alloc (.cells (bt x).toArray 41)):=(Ext.refl _).alloc _;obtain⟨v',w',hr,h3,h4,h5⟩:=Dv (w.alloc (.cells (bt x).toArray 41)) (h.ext E) (by simp;omega) [x] w.heap.size 0 1
  (fun k hk j hj=>by
   have:k=0:=by simpa using hk
   subst this;rw[show 0+0*4+j=j by omega];have:=hN.cell j;rw[this];simp) hl (by simp)
 exact⟨v',w',hr,h3,h4,by rw[bi]at h5;exact h5⟩
theorem Only.of_grownBy (h:w.grownBy w' v.ownBlock) (hL:∀g,v.ownBlock=some g->g∈L):Only L w w':=
 ⟨h.os,h.tape,h.output,h.size,fun k hk hn=>h.block k hk fun e=>hn (hL k e.symm)⟩
theorem Has.yQ {b:Nat} {t:TypeId} {x:au} (y:au) (h:Has w b (.cells (bt x).toArray t)):Has (w.setCells b 0 (bt y)) b (.cells (bt y).toArray t):=by
 have h0:=Has.setCell h 0 (.int .i64 y.dir);have h1:=Has.setCell h0 1 (.string (bs y.name));have h2:=Has.setCell h1 2 (.int .i64 y.no);have h3:=Has.setCell h2 3 (.int .i64 y.depth);exact h3
theorem oC {ops:Array Oper} {rest:List Oper} {op:Oper} {Q:Exit->Act->World->Prop} (hgd:op.guard=none) (x y:Operand) (ho:op.op=.store 41 x y)
  (b:Nat) (d d':au) (hx:a.eval x=.pointer (some ⟨b,0,none⟩)) (hy:a.eval y=.agg (bt d').toArray) (hb:Has w b (.cells (bt d).toArray 41))
  (h:∀w',Has w' b (.cells (bt d').toArray 41)->Only [b] w w'->wpList prog ops Q rest (a.put op.dst undef) w'):wpList prog ops Q (op::rest) a w:=by
 refine zw hgd 41 x y ho b 0 (bt d').toArray hx hy hb.there pR (rv (cs:=bt d') (pQ d')) ?_;exact h _ (hb.yQ d') (cr (bt d') 0 w)
theorem Uv {fn:Func} {p t:Tmp} (h:fn.results=#[.cell p 41,.tmp t]) (tmps:Array Value) (w:World) (g:Nat) (d:au) (v:Value)
  (hp:tmps.getD p undef=.pointer (some ⟨g,0,none⟩)) (hv:tmps.getD t undef=v) (hg:Has w g (.cells (bt d).toArray 41)) :
  (results fn tmps).run prog w=.ok (.tuple #[.agg (bt d).toArray,v]) w:=
 mR h tmps w g 41 _ _ v hp hv hg underlying41 rfl pR
def ln (s:aH) (cu cg:Int) (x:au):Int:=gY s (iW s.t cu cg x)
def oY (s:aH) (cu cg:Int) (x:au):List au:=tV s (ia s.t cu cg x)
def Ng (w:World) (L:List au) (x:Int) (e:Ending) (w':World):Prop:=∃v,e=.returned (.tuple #[v,x])/\eO w' w.heap.size v L/\Ext w w'
theorem PY {x:au} (h:iW S cu cg x≠0):ia S cu cg x=[]:=by
 unfold ia;rw[ac (fun k=>h k.1)]
theorem Bg {x:au} (h:(aa S.nodes x.no).kind≠1):ia S cu cg x=[]:=by
 unfold ia;rw[ac (fun k=>h k.2)]
theorem Nh {x:au} (h:ln s cu cg x≠0):oY s cu cg x=[]:=by
 unfold ln gY at h;unfold oY tV;split
 ·rfl
 ·rename_i hd;rw[ac hd]at h;exact PY h
def du (s:aH) (cu cg dir:Int) (nm:List UInt8):au:=⟨dir,nm,H_ s (fE s.t cu cg dir nm),0⟩
def dw (s:aH) (cu cg dir:Int) (nm:List UInt8):Int:=gY s (eK s.t cu cg dir nm)
section
variable {s:aH} {cu cg:Int} {x:au}
theorem fy (s:aH) (no:Int):(gY s (dQ s.t no)=0/\s.dead=false/\aW s.t.nodes no=true)\/(gY s (dQ s.t no)≠0/\(s.dead=true\/(s.dead=false/\aW s.t.nodes no=false))):=by
 unfold gY dQ
 cases hd:s.dead
 ·rw [ac (by decide)]
  cases hi:aW s.t.nodes no
  ·exact .inr ⟨by decide,.inr ⟨rfl,rfl⟩⟩
  ·exact .inl ⟨rfl,rfl,rfl⟩
 ·rw[af rfl];exact .inr ⟨by decide,.inl rfl⟩
theorem Uw (h:gY s (dQ s.t x.no)≠0):ln s cu cg x=gY s (dQ s.t x.no):=by
 rcases fy s x.no with⟨h1,_⟩|⟨_,hd|⟨hd,hi⟩⟩
 ·exact absurd h1 h
 ·unfold ln gY;rw[af hd,af hd]
 ·unfold ln gY iW dQ;rw[hi,af rfl];rfl
theorem Ux (h1:gY s (dQ s.t x.no)=0) (h:gY s (dQ s.t x.dir)≠0):ln s cu cg x=gY s (dQ s.t x.dir):=by
 rcases fy s x.no with⟨_,hd,hi⟩|⟨h2,_⟩
 case inr=>exact absurd h1 h2
 rcases fy s x.dir with⟨h2,_⟩|⟨_,mZ|⟨_,tm⟩⟩
 ·exact absurd h2 h
 ·rw[hd]at mZ;cases mZ
 ·unfold ln gY iW dQ;rw[hi,tm,ac (show ¬true=false by decide),af rfl];rfl
theorem Uy (h1:gY s (dQ s.t x.no)=0) (h2:gY s (dQ s.t x.dir)=0) (h:(vA s (aa s.t.nodes x.no)).dev≠(vA s (aa s.t.nodes x.dir)).dev):ln s cu cg x=16:=by
 rcases fy s x.no with⟨_,hd,hi⟩|⟨k,_⟩
 case inr=>exact absurd h1 k
 rcases fy s x.dir with⟨_,_,tm⟩|⟨k,_⟩
 case inr=>exact absurd h2 k
 unfold vA at h;rw[ac (by rw[hd];decide),ac (by rw[hd];decide)]at h;unfold ln gY iW;rw[hi,tm,ac (by rw[hd];decide),ac (by decide),ac (by decide),af h]
theorem Ni (h1:gY s (dQ s.t x.no)=0) (h2:gY s (dQ s.t x.dir)=0) (h:(vA s (aa s.t.nodes x.no)).dev=(vA s (aa s.t.nodes x.dir)).dev) (hk:(vA s (aa s.t.nodes x.no)).kind≠1):ln s cu cg x=0/\oY s cu cg x=[]:=by
 rcases fy s x.no with⟨_,hd,hi⟩|⟨k,_⟩
 case inr=>exact absurd h1 k
 rcases fy s x.dir with⟨_,_,tm⟩|⟨k,_⟩
 case inr=>exact absurd h2 k
 unfold vA at h hk;rw[ac (by rw[hd];decide)]at h hk;rw[ac (by rw[hd];decide)]at h;unfold ln oY gY tV;rw[ac (by rw[hd];decide),ac (by rw[hd];decide)];refine⟨?_,Bg hk⟩;unfold iW;rw[hi,tm,ac (by decide),ac (by decide),ac (fun k=>k h),af hk]
theorem Nj (h1:gY s (dQ s.t x.no)=0) (h2:gY s (dQ s.t x.dir)=0) (h:(vA s (aa s.t.nodes x.no)).dev=(vA s (aa s.t.nodes x.dir)).dev) (hk:¬(vA s (aa s.t.nodes x.no)).kind≠1) :
  ln s cu cg x=gY s (cE s.t cu cg x.no 1 4)/\(gY s (cE s.t cu cg x.no 1 4)=0->oY s cu cg x=(tV s (b_ s.t (bV s.t cu cg x.no 1 4).ah)).map (fM x)):=by
 rcases fy s x.no with⟨_,hd,hi⟩|⟨k,_⟩
 case inr=>exact absurd h1 k
 rcases fy s x.dir with⟨_,_,tm⟩|⟨k,_⟩
 case inr=>exact absurd h2 k
 unfold vA at h hk;rw[ac (by rw[hd];decide)]at h hk;rw[ac (by rw[hd];decide)]at h;have hE:iW s.t cu cg x=cE s.t cu cg x.no 1 4:=by
  unfold iW;rw[hi,tm,ac (by decide),ac (by decide),ac (fun k=>k h),ac hk]
 unfold ln oY gY tV;rw[ac (by rw[hd];decide),ac (by rw[hd];decide),ac (by rw[hd];decide),ac (by rw[hd];decide)];refine⟨hE,fun h0=>?_⟩;unfold ia;rw[af ⟨hE.trans h0,bR.1 hk⟩];unfold bV;rw[af h0]
end
section
variable {c:Nat} {w:World} {B b:Nat} {g:dL} {s:aH}
theorem PS.first (h:PS w B b g s) (hs:d_ c s) (hc:c<=900) (cu cg dir:Int) (nm:List UInt8) :
  Calls prog 87 #[((),b),.agg #[cu,cg],dir,bs nm] w (aO w (.tuple #[.agg (bt (du s cu cg dir nm)).toArray,.int .i64 (dw s cu cg dir nm)])):=by
 obtain⟨W0,aJ⟩:=ai ((w.alloc (.cells #[cu,cg] 27)).alloc (.cells #[(),.string ⟨#[]⟩,(),()] 41));obtain⟨b5,fu⟩:=ai w.heap.size;obtain⟨b8,gH⟩:=ai (w.heap.size+1);have E0:Ext w W0:=by rw[aJ];exact ((Ext.refl _).alloc _).alloc _
 have R0:Has W0 b8 (.cells (bt mJ).toArray 41):=by rw[aJ,gH];have:=Has.new (w.alloc (.cells #[cu,cg] 27)) (.cells #[(),.string ⟨#[]⟩,(),()] 41);rw[bi]at this;exact this
 have C0:Has W0 b5 (.cells #[cu,cg] 27):=by rw[aJ,fu];exact (Has.new w _).alloc _
 have qY:w.heap.size<=b8:=by omega
 have KL:=zH ((h.ext E0).look hs hc cu cg dir nm);obtain⟨y,hy⟩:=ai (H_ s (fE s.t cu cg dir nm));obtain⟨z,hz⟩:=ai (gY s (eK s.t cu cg dir nm));unfold du dw;rw[<-hy,<-hz]at KL|-;have c0:=C0.cell 0;have c1:=C0.cell 1;have cz:=C0.lt;clear h hs hy hz;go_in;go_upto_region 1 with fail;rw[show (w.alloc _).alloc _=W0 from aJ.symm,<-gH,<-fu];clear aJ fu gH;go_wp2_with fail;refine KL.o.mono ?_;rintro e w1 ⟨rfl,b1⟩;have R1:=R0.ext b1;have E1:=E0.trans b1;clear c0 c1 cz KL;go_upto_region 3 with fail;obtain⟨W2,dp⟩:=ai (w1.alloc (.cells #[dir,bs nm,y,()] 41));obtain⟨b2,hb2⟩:=ai w1.heap.size;have N2:Has W2 b2 (.cells #[dir,bs nm,y,()] 41):=by rw[dp,hb2];exact Has.new _ _
 have R2:Has W2 b8 (.cells (bt mJ).toArray 41):=by rw[dp];exact R1.alloc _
 have E2:Ext w W2:=by rw[dp];exact E1.alloc _
 rw[<-dp,<-hb2];have n0:=N2.cell 0;have n1:=N2.cell 1;have n2:=N2.cell 2;have n3:=N2.cell 3;have nz:=N2.lt;clear dp hb2 R1 E1;go_wp2_with (refine oC rfl _ _ rfl b8 mJ ⟨dir,nm,y,0⟩ rfl rfl R2 ?_;intro w9 R9 O9);refine aT (v:=.tuple #[.agg (bt ⟨dir,nm,y,0⟩).toArray,z]) (Uv results87 _ _ b8 ⟨dir,nm,y,0⟩ _ rfl rfl R9) rfl ?_;exact⟨rfl,O9.after E2 (by simpa using qY)⟩
theorem PS.into (h:PS w B b g s) (hs:d_ c s) (hc:c<=900) (cu cg:Int) (x:au) (aX:0<=x.depth) (ue:x.depth<=1000000) :
  Calls prog 88 #[((),b),.agg #[cu,cg],.agg #[x.dir,bs x.name,x.no,x.depth]] w (Ng w (oY s cu cg x) (ln s cu cg x)):=by
 obtain⟨W0,aJ⟩:=ai ((w.alloc (.cells #[cu,cg] 27)).alloc (.cells #[x.dir,bs x.name,x.no,x.depth] 41));obtain⟨b4,qA⟩:=ai w.heap.size;obtain⟨b5,fu⟩:=ai (w.heap.size+1);have E0:Ext w W0:=by rw[aJ];exact ((Ext.refl _).alloc _).alloc _
 have X0:Has W0 b5 (.cells #[x.dir,bs x.name,x.no,x.depth] 41):=by rw[aJ,fu];have:=Has.new (w.alloc (.cells #[cu,cg] 27)) (.cells #[x.dir,bs x.name,x.no,x.depth] 41);rw[bi]at this;exact this
 have C0:Has W0 b4 (.cells #[cu,cg] 27):=by rw[aJ,qA];exact (Has.new w _).alloc _
 have h0:=h.ext E0;obtain⟨e1,m_⟩:=ai (gY s (dQ s.t x.no));obtain⟨e2,oU⟩:=ai (gY s (dQ s.t x.dir));obtain⟨e3,pX⟩:=ai (gY s (cE s.t cu cg x.no 1 4));obtain⟨m1,ig⟩:=ai (vA s (aa s.t.nodes x.no));obtain⟨m2,cq⟩:=ai (vA s (aa s.t.nodes x.dir));obtain⟨L,hL⟩:=ai (tV s (b_ s.t (bV s.t cu cg x.no 1 4).ah));have X_:L.length<=1000000:=by
  rw[hL];unfold tV;split
  ·simp
  ·rw[iC];have:=(hs.fN.bV cu cg x.no 1 4).2;omega
 have K1:Hid (∀u,Ext W0 u->Calls prog 45 #[((),b),x.no] u (aO u (.tuple #[iU m1,e1]))):=by
  show ∀u,_;intro u hu;rw[ig,m_];exact (h0.ext hu).stat hs x.no
 have K2:Hid (∀u,Ext W0 u->Calls prog 45 #[((),b),x.dir] u (aO u (.tuple #[iU m2,e2]))):=by
  show ∀u,_;intro u hu;rw[cq,oU];exact (h0.ext hu).stat hs x.dir
 have K3:Hid (∀u,Ext W0 u->Calls prog 102 #[((),b),.agg #[cu,cg],x.no] u (tu u L e3)):=by
  show ∀u,_;intro u hu;rw[hL,pX];exact (h0.ext hu).list hs hc cu cg x.no
 have N1:Hid (e1≠0->ln s cu cg x=e1):=fun k=>by rw[m_]at k|-;exact Uw k
 have N2:Hid (e1=0->e2≠0->ln s cu cg x=e2):=fun k1 k2=>by rw[m_]at k1;rw[oU]at k2|-;exact Ux k1 k2
 have N3:Hid (e1=0->e2=0->m1.dev≠m2.dev->ln s cu cg x=16):=fun k1 k2 k3=>by rw[m_]at k1;rw[oU]at k2;rw[ig,cq]at k3;exact Uy k1 k2 k3
 have N4:Hid (e1=0->e2=0->m1.dev=m2.dev->m1.kind≠1->ln s cu cg x=0/\oY s cu cg x=[]):=fun k1 k2 k3 k4=>by rw[m_]at k1;rw[oU]at k2;rw[ig,cq]at k3;rw[ig]at k4;exact Ni k1 k2 k3 k4
 have N5:Hid (e1=0->e2=0->m1.dev=m2.dev->¬m1.kind≠1->ln s cu cg x=e3/\(e3=0->oY s cu cg x=L.map (fM x))):=fun k1 k2 k3 k4=>by rw[m_]at k1;rw[oU]at k2;rw[ig,cq]at k3;rw[ig]at k4;rw[pX,hL];exact Nj k1 k2 k3 k4
 have NE:Hid (ln s cu cg x≠0->oY s cu cg x=[]):=fun k=>Nh k
 obtain⟨IE,ZO⟩:=ai (ln s cu cg x);obtain⟨IL,Ya⟩:=ai (oY s cu cg x);rw[<-ZO]at N1 N2 N3 N4 N5 NE|-;rw[<-Ya]at N4 N5 NE|-;have c0:=C0.cell 0;have c1:=C0.cell 1;have cz:=C0.lt;have x0:=aA X0 0 rfl;have x1:=aA X0 1 rfl;have x2:=aA X0 2 rfl;have x3:=aA X0 3 rfl;have xz:=X0.lt;clear h h0 hs m_ oU pX ig cq hL ZO Ya;go_in;go_upto_region 1 with fail;rw[show (w.alloc _).alloc _=W0 from aJ.symm,<-fu,<-qA];clear aJ qA fu;unfold iU at K1 K2;go_wp2_with fail;refine (K1.o _ (Ext.refl _)).mono ?_;rintro e w1 ⟨rfl,b1⟩;clear c0 c1 cz x0 x1 x2 x3 xz K1;go_upto_region 2 with fail;obtain⟨W1,cA⟩:=ai (w1.alloc (.cells #[m1.no,m1.dev,m1.kind,m1.mode,m1.uid,m1.gid,m1.ar,m1.data.length,m1.mtime,m1.ctime] 95));obtain⟨b8,gH⟩:=ai w1.heap.size;have S1:Has W1 b8 (.cells #[m1.no,m1.dev,m1.kind,m1.mode,m1.uid,m1.gid,m1.ar,m1.data.length,m1.mtime,m1.ctime] 95):=by rw[cA,gH];exact Has.new _ _
 have E1:Ext W0 W1:=by rw[cA];exact b1.alloc _
 rw[<-cA,<-gH];clear cA gH b1;have x0:=(X0.ext E1).cell 0;have xz:=(X0.ext E1).lt;simp only[gA,gB]at x0;go_wp2_with fail;refine (K2.o _ E1).mono ?_;rintro e w2 ⟨rfl,b2⟩;clear x0 xz K2;go_upto_region 3 with fail;obtain⟨W2,dp⟩:=ai (w2.alloc (.cells #[m2.no,m2.dev,m2.kind,m2.mode,m2.uid,m2.gid,m2.ar,m2.data.length,m2.mtime,m2.ctime] 95));obtain⟨CN,lK⟩:=ai w2.heap.size;have S2:Has W2 CN (.cells #[m2.no,m2.dev,m2.kind,m2.mode,m2.uid,m2.gid,m2.ar,m2.data.length,m2.mtime,m2.ctime] 95):=by rw[dp,lK];exact Has.new _ _
 have S1':Has W2 b8 (.cells #[m1.no,m1.dev,m1.kind,m1.mode,m1.uid,m1.gid,m1.ar,m1.data.length,m1.mtime,m1.ctime] 95):=by rw[dp];exact (S1.ext b2).alloc _
 have E2:Ext W0 W2:=by rw[dp];exact (E1.trans b2).alloc _
 rw[<-dp,<-lK];clear dp lK b2 S1 E1
 by_cases k1:e1=0
 case neg =>
  have t1:(e1 != 0)=true:=by simpa using k1
  have HK:=zH k1;have H1:=zH (N1.o k1);clear k1;go_wp2;go_ret2;have hz:IL=[]:=NE.o (by rw[H1.o];exact HK.o);exact⟨.slice none 0 0,by rw[H1.o];rfl,by rw[hz];exact eO.nil _ _,E0.trans E2⟩
 have Rn:=zH k1
 by_cases k2:e2=0
 case neg =>
  have t1:(e1 != 0)=false:=by simpa using k1
  have t2:(e2 != 0)=true:=by simpa using k2
  have HK:=zH k2;have H1:=zH (N2.o k1 k2);clear k1 k2;go_wp2;go_ret2;have hz:IL=[]:=NE.o (by rw[H1.o];exact HK.o);exact⟨.slice none 0 0,by rw[H1.o];rfl,by rw[hz];exact eO.nil _ _,E0.trans E2⟩
 have HK2:=zH k2;have t1:(e1 != 0)=false:=by simpa using k1
 have t2:(e2 != 0)=false:=by simpa using k2
 clear k1 k2;have y1:=S1'.cell 1;have y2:=S1'.cell 2;have yz:=S1'.lt;have z1:=S2.cell 1;have zz:=S2.lt
 by_cases k3:m1.dev=m2.dev
 case neg =>
  have t3:(m1.dev != m2.dev)=true:=by simpa using k3
  have H1:=zH (N3.o Rn.o HK2.o k3);clear k3;go_wp2;go_ret2;have hz:IL=[]:=NE.o (by rw[H1.o];decide);exact⟨.slice none 0 0,by rw[H1.o];rfl,by rw[hz];exact eO.nil _ _,E0.trans E2⟩
 have t3:(m1.dev != m2.dev)=false:=by simpa using k3
 have PR:=zH k3;clear k3
 by_cases k4:m1.kind=1
 case neg =>
  have t4:(m1.kind != 1)=true:=by simpa using k4
  have H1:=zH (N4.o Rn.o HK2.o PR.o k4);clear k4;go_wp2;go_ret2;exact⟨.slice none 0 0,by rw[H1.o.1];rfl,by rw[H1.o.2];exact eO.nil _ _,E0.trans E2⟩
 have t4:(m1.kind != 1)=false:=by simpa using k4
 have H5:=zH (N5.o Rn.o HK2.o PR.o (fun k=>k k4));clear k4;have c0:=(C0.ext E2).cell 0;have c1:=(C0.ext E2).cell 1;have cz:=(C0.ext E2).lt;have x2:=(X0.ext E2).cell 2;have xz:=(X0.ext E2).lt;simp only[gA,gB,gC]at x2;go_wp2_with fail;refine (K3.o _ E2).mono ?_;rintro e w3 ⟨A,cap,rfl,⟨hat,_⟩,b3⟩;clear c0 c1 cz x2 xz K3 t1 t2 t3 t4 y1 y2 yz z1 zz
 by_cases k5:e3=0
 case neg =>
  have t5:(e3 != 0)=true:=by simpa using k5
  have HK:=zH k5;clear k5;go_wp2;go_ret2;have hz:IL=[]:=NE.o (by rw[H5.o.1];exact HK.o);exact⟨.slice none 0 0,by rw[H5.o.1];rfl,by rw[hz];exact eO.nil _ _,E0.trans (E2.trans b3)⟩
 have t5:(e3 != 0)=false:=by simpa using k5
 have HZ:=zH k5;have HIL:=zH (H5.o.2 k5);clear k5;obtain⟨n,hn⟩:=ai L.length;rw[<-hn]at X_|-;have HN:=zH hn;have HE3:=zH (E0.trans (E2.trans b3));have X3:=X0.ext (E2.trans b3);have Uz:=zH X3;have hsz:w.heap.size<=w3.heap.size:=HE3.o.size;have Fg:=zH hat;clear hn hat X3;go_wp2_with fail;go_loopw [13,61] (fun vo vi wr=>∃k:Nat,vi=.int .i64 k/\k<=n/\eO wr w3.heap.size vo ((L.take k).map (fM x))/\Ext w3 wr) (fun _ vi _=>n-(intOf vi).toNat)
 case atStart=>exact⟨0,rfl,bC _,eO.nil _ _,Ext.refl _⟩
 case round =>
  obtain⟨k,rfl,hk,hO,hE⟩:=hrel
  by_cases hlt:(k:Int)<n
  ·have dN:k<L.length:=by have:=HN.o;omega
   obtain ⟨ba,o,rfl,yx,ea,eb⟩:=(Fg.o.ext hE).lt0 dN;have q7:Hid ((L.take (k+1)).map (fM x)=(L.take k).map (fM x)++[fM x L[k]]):=by
    show _=_;rw[mC dN,lG];rfl
   have hlk:((L.take k).map (fM x)).length<=1000000:=by rw[jP,iG];omega
   obtain⟨y,hy⟩:=ai (L[k]);rw[<-hy]at ea eb q7;obtain⟨yn,yo⟩:=y;have q0:(0:Int)<=(k:Int):=cO _;have w3w:IntKind.i64.wrap ((k:Int)+1)=(k:Int)+1:=cB _ (by omega);have wdw:IntKind.i64.wrap (x.depth+1)=x.depth+1:=cB _ (by omega);obtain⟨W5,kT⟩:=ai (wr.alloc (.cells #[bs yn,yo] 153));obtain⟨xS,xc⟩:=ai wr.heap.size;have N5':Has W5 xS (.cells #[bs yn,yo] 153):=by rw[kT,xc];exact Has.new _ _
   have E5:Ext wr W5:=by rw[kT];exact (Ext.refl _).alloc _
   clear hy;go_upto_region 18 with fail;rw[<-kT,<-xc];clear kT xc ea eb yx;have aa7:w3.heap.size<=W5.heap.size:=by have:=hE.size;have:=E5.size;omega
   obtain⟨v',w',hr,Jk,hg,_⟩:=vC W5 (hO.ext E5) aa7 ⟨x.no,yn,yo,x.depth+1⟩ (by omega);have HR:=zH hr;have X5:=Uz.o.ext (hE.trans E5);have x2:=aA X5 2 rfl;have x3:=aA X5 3 rfl;have xz:=X5.lt;have n0:=N5'.cell 0;have n1:=N5'.cell 1;have nz:=N5'.lt;have HO:=zH Jk;have HG:=zH hg;have HOW:=zH hO;have Dh:=zH hE;clear hr Jk hg X5 N5' hO hE;go_wp2_with (at_builtin;refine nj _ rfl _ _ 39 39 rfl _ _ rfl rfl _ _ HR.o ?_);go_roundw
   case rel=>exact⟨k+1,by go_num,by omega,by rw[q7.o];exact HO.o,((Dh.o.trans E5).alloc _).grown HG.o (fun g hv=>(HOW.o.lt hv).1)⟩
   case measure=>simp[intOf];omega
  ·have ut:k=L.length:=by have:=HN.o;omega
   have HOW:=zH hO;have Dh:=zH hE;have hf:Hid ((L.take k).map (fM x)=L.map (fM x)):=by show _=_;rw[ut,od]
   clear hO hE ut;go_wp2;go_ret2;exact⟨_,by rw[H5.o.1,HZ.o];rfl,by rw[HIL.o,<-hf.o];exact HOW.o.base hsz,HE3.o.trans Dh.o⟩
end
end
section
structure Kids (S:ag):Prop where
 up:∀m∈S.nodes,∀x∈m.ah,∀q∈S.nodes,q.no=x.2->q.kind=1->q.up=m.no
 once:∀m∈S.nodes,∀x∈m.ah,∀y∈m.ah,∀q∈S.nodes,q.no=x.2->q.kind=1->x.2=y.2->x=y
theorem xn (h:Kids S) {D N:Int} {nm:List UInt8}
  (hq:∀q∈T.nodes,q.kind=1->(∃q'∈S.nodes,q'.no=q.no/\q'.kind=1/\q'.up=q.up)\/(q.no=N/\q.up=D/\∀m∈S.nodes,∀y∈m.ah,y.2≠N))
  (hm:∀m∈T.nodes,∀x∈m.ah,(∃m'∈S.nodes,m'.no=m.no/\x∈m'.ah)\/(m.no=D/\x=(nm,N)))
  (hN:∀q∈T.nodes,q.no=N->q.kind=1->q.up=D/\∀m∈S.nodes,∀y∈m.ah,y.2≠N)
  (hu:aQ S.nodes S.last):Kids T:=by
 have old:∀m'∈S.nodes,∀x∈m'.ah,∀q∈T.nodes,q.no=x.2->q.kind=1->∃q'∈S.nodes,q'.no=x.2/\q'.kind=1/\q'.up=q.up:=by
  intro m' hm' x hx q Xa e hk;rcases hq q Xa hk with⟨q',h1,h2,h3,h4⟩|⟨h1,_,h3⟩
  ·exact⟨q',h1,h2.trans e,h3,h4⟩
  ·exact absurd (e.symm.trans h1) (h3 m' hm' x hx)
 refine⟨fun m ig x hx q Xa e hk=>?_,fun m ig x hx y hy q Xa e hk exy=>?_⟩
 ·rcases hm m ig x hx with⟨m',h1,h2,h3⟩|⟨h1,h2⟩
  ·obtain ⟨q',k1,k2,k3,k4⟩:=old m' h1 x h3 q Xa e hk
   rw[<-k4,<-h2];exact h.up m' h1 x h3 q' k1 k2 k3
  ·rw [h1]
   exact (hN q Xa (by rw[e,h2]) hk).1
 ·rcases hm m ig x hx with⟨m',h1,h2,h3⟩|⟨h1,h2⟩
  ·rcases hm m ig y hy with⟨m2,k1,k2,k3⟩|⟨k1,k2⟩
   ·have:m'=m2:=jz hu h1 k1 (h2.trans k2.symm)
    subst this;obtain⟨q',j1,j2,j3,j4⟩:=old m' h1 x h3 q Xa e hk;exact h.once m' h1 x h3 y k3 q' j1 j2 j3 exy
   ·have:=(hN q Xa (by rw[e,exy,k2]) hk).2 m' h1 x h3
    rw[exy,k2]at this;exact absurd rfl this
  ·rcases hm m ig y hy with⟨m2,k1,k2,k3⟩|⟨k1,k2⟩
   ·have:=(hN q Xa (by rw[e,h2]) hk).2 m2 k1 y k3
    rw[<-exy,h2]at this;exact absurd rfl this
   ·rw[h2,k2]
theorem sD (h:Kids S) (hu:aQ S.nodes S.last)
  (hm:∀m∈T.nodes,∃m'∈S.nodes,m'.no=m.no/\(m.kind=1->m'.kind=1/\m'.up=m.up)/\∀x∈m.ah,x∈m'.ah):Kids T:=by
 refine xn (D:=0) (N:=-1) (nm:=[]) h (fun q hq hk=>?_) (fun m ig x hx=>?_) (fun q hq e hk=>?_) hu
 ·obtain ⟨m',h1,h2,h3,_⟩:=hm q hq
  exact .inl ⟨m',h1,h2,(h3 hk).1,(h3 hk).2⟩
 ·obtain ⟨m',h1,h2,_,h4⟩:=hm m ig
  exact .inl ⟨m',h1,h2,h4 x hx⟩
 ·obtain ⟨m',h1,h2,_⟩:=hm q hq
  have:=(hu.2 m' h1).1;omega
theorem xo (h:Kids S) (hu:aQ S.nodes S.last) (hi:aW S.nodes no=true) {n:ak} (bB:n.no=no) (hk:n.kind=(aa S.nodes no).kind) (hup:n.up=(aa S.nodes no).up) (he:∀x∈n.ah,x∈(aa S.nodes no).ah):Kids (aV S n):=by
 refine sD h hu fun m hm=>?_
 rcases bq hm with⟨hm,_⟩|rfl
 ·exact⟨m,hm,rfl,fun hk=>⟨hk,rfl⟩,fun x hx=>hx⟩
 ·exact⟨_,(ap hi).2.2,(ap hi).2.1.trans bB.symm,fun mq=>⟨hk▸mq,hup.symm⟩,he⟩
theorem xp (hT:eB c S) (h:Kids S) (cu cg now dir:Int) (nm:List UInt8) (n:ak) (hn:n.ah=[]) (hk:n.kind=1->n.up=dir):Kids (cM S cu cg now dir nm n):=by
 unfold cM;split
 case isFalse=>exact h
 rename_i h0;obtain⟨h1,_,h3⟩:=lM h0;obtain⟨p1,p2,_⟩:=a_ h1;obtain⟨_,bB,hmem⟩:=ap p1;have q_:(cC S (cV S cu cg now dir n)).nodes=S.nodes++[{cV S cu cg now dir n with no:=S.last+1}]:=by unfold cC;rw[af h3]
 have hg:=na hT.bL (cV S cu cg now dir n) p1;obtain⟨N,hN⟩:∃N:ak,N={cV S cu cg now dir n with no:=S.last+1}:=⟨_,rfl⟩;have UA:N.no=S.last+1:=by rw[hN]
 have hNe:N.ah=[]:=by rw[hN];exact hn
 have hNk:N.kind=1->N.up=dir:=by rw[hN];exact hk
 rw[<-hN]at q_;obtain⟨M,hM⟩:∃M:ak,M=jd (cC S (cV S cu cg now dir n)) dir now (fC (aa S.nodes dir).ah (nm,S.last+1)):=⟨_,rfl⟩;have mf:M.no=dir:=by rw[hM];show (aa (cC S _).nodes dir).no=dir;rw[hg.1];exact bB
 have UB:M.up=(aa S.nodes dir).up:=by rw[hM];show (aa (cC S _).nodes dir).up=_;rw[hg.1]
 have Jl:M.ah=fC (aa S.nodes dir).ah (nm,S.last+1):=by rw[hM];rfl
 show Kids (aV _ _);rw[<-hM];have mem:∀m∈(aV (cC S (cV S cu cg now dir n)) M).nodes,m∈S.nodes\/m=N\/m=M:=fun m hm=>by
  rcases bq hm with⟨hm,_⟩|rfl
  ·rw [q_]at hm
   rcases dn.1 hm with hm|hm
   ·exact .inl hm
   ·exact .inr (.inl (ax.1 hm))
  ·exact .inr (.inr rfl)
 have fresh:∀m∈S.nodes,∀y∈m.ah,y.2≠S.last+1:=fun m hm y hy=>by have:=(hT.pos m hm y hy).2;omega
 have hle:∀m∈S.nodes,m.no≠S.last+1:=fun m hm=>by have:=(hT.bL.2 m hm).2;omega
 refine xn (D:=dir) (N:=S.last+1) (nm:=nm) h (fun q hq mq=>?_) (fun m hm x hx=>?_) (fun q hq e mq=>?_) hT.bL
 ·rcases mem q hq with hq|rfl|rfl
  ·exact .inl ⟨q,hq,rfl,mq,rfl⟩
  ·exact .inr ⟨UA,hNk mq,fresh⟩
  ·exact .inl ⟨_,hmem,bB.trans mf.symm,p2,UB.symm⟩
 ·rcases mem m hm with hm|rfl|rfl
  ·exact .inl ⟨m,hm,rfl,hx⟩
  ·rw[hNe]at hx;cases hx
  ·rw [Jl]at hx
   rcases j6 hx with hx|rfl
   ·exact .inl ⟨_,hmem,bB.trans mf.symm,hx⟩
   ·exact .inr ⟨mf,rfl⟩
 ·rcases mem q hq with hq|rfl|rfl
  ·exact absurd e (hle q hq)
  ·exact⟨hNk mq,fresh⟩
  ·exact absurd (e▸mf▸bB:(aa S.nodes dir).no=S.last+1) (hle _ hmem)
theorem Bh {p:Int} (h:Kids S) (k:Kids T):Kids (gI p S T):=by unfold gI;split;exact h;exact k
theorem PZ (hT:eB c S) (h:Kids S) (cu cg now no dir:Int) (nm:List UInt8):Kids (jl S cu cg now no dir nm):=by
 unfold jl;split
 case isFalse=>exact h
 rename_i h0;obtain⟨hp,hi,hk,hf,hv,hl⟩:=nN h0;obtain⟨hid,Cc,hc⟩:=a_ hp;obtain⟨_,bB,hmem⟩:=ap hi;obtain⟨_,lr,jJ⟩:=ap hid;have hne:dir≠no:=fun e=>by subst e;exact hk Cc
 have e0:(eH S now no).no=no:=bB;obtain⟨g1,g2⟩:=nO (S:=S) (n:=eH S now no) (no:=dir) (by rw[e0];exact hne);obtain⟨M,hM⟩:∃M:ak,M=jd (aV S (eH S now no)) dir now (fC (aa S.nodes dir).ah (nm,no)):=⟨_,rfl⟩;have mf:M.no=dir:=by rw[hM];show (aa (aV S _).nodes dir).no=dir;rw[g1];exact lr
 have UB:M.up=(aa S.nodes dir).up:=by rw[hM];show (aa (aV S _).nodes dir).up=_;rw[g1]
 have Jl:M.ah=fC (aa S.nodes dir).ah (nm,no):=by rw[hM];rfl
 show Kids (aV _ _);rw[<-hM];have mem:∀m∈(aV (aV S (eH S now no)) M).nodes,m∈S.nodes\/m=eH S now no\/m=M:=fun m hm=>by
  rcases bq hm with⟨hm,_⟩|rfl
  ·rcases bq hm with⟨hm,_⟩|rfl
   ·exact .inl hm
   ·exact .inr (.inl rfl)
  ·exact .inr (.inr rfl)
 refine xn (D:=dir) (N:=no) (nm:=nm) h (fun q hq mq=>?_) (fun m hm x hx=>?_) (fun q hq e mq=>?_) hT.bL
 ·rcases mem q hq with hq|rfl|rfl
  ·exact .inl ⟨q,hq,rfl,mq,rfl⟩
  ·exact absurd mq hk
  ·exact .inl ⟨_,jJ,lr.trans mf.symm,Cc,UB.symm⟩
 ·rcases mem m hm with hm|rfl|rfl
  ·exact .inl ⟨m,hm,rfl,hx⟩
  ·exact .inl ⟨_,hmem,rfl,hx⟩
  ·rw [Jl]at hx
   rcases j6 hx with hx|rfl
   ·exact .inl ⟨_,jJ,lr.trans mf.symm,hx⟩
   ·exact .inr ⟨mf,rfl⟩
 ·rcases mem q hq with hq|rfl|rfl
  ·have:=jz hT.bL hq hmem (by rw[bB];exact e)
   subst this;exact absurd mq hk
  ·exact absurd mq hk
  ·exact absurd (mf.symm.trans e) hne
theorem Dw (h:Kids S) (hu:aQ S.nodes S.last) {now dir:Int} {nm:List UInt8} (hi:aW S.nodes dir=true) (lm:aW S.nodes no=true):Kids (gU S now (aa S.nodes dir) (aa S.nodes no) nm):=by
 obtain⟨_,lr,jJ⟩:=ap hi;obtain⟨_,bB,hmem⟩:=ap lm;obtain⟨M,hM⟩:∃M:ak,M=jd S (aa S.nodes dir).no now (eU (aa S.nodes dir).ah nm):=⟨_,rfl⟩;have mf:M.no=dir:=by rw[hM,lr];exact lr
 have hMk:M.kind=(aa S.nodes dir).kind:=by rw[hM,lr];rfl
 have UB:M.up=(aa S.nodes dir).up:=by rw[hM,lr];rfl
 have Jl:M.ah=eU (aa S.nodes dir).ah nm:=by rw[hM];rfl
 have mem:∀m∈(aV (aV S M) (gT now (aa S.nodes no))).nodes,m∈S.nodes\/m=gT now (aa S.nodes no)\/m=M:=fun m hm=>by
  rcases bq hm with⟨hm,_⟩|rfl
  ·rcases bq hm with⟨hm,_⟩|rfl
   ·exact .inl hm
   ·exact .inr (.inr rfl)
  ·exact .inr (.inl rfl)
 have key:∀m∈(aV (aV S M) (gT now (aa S.nodes no))).nodes,∃m'∈S.nodes,m'.no=m.no/\(m.kind=1->m'.kind=1/\m'.up=m.up)/\∀x∈m.ah,x∈m'.ah:=fun m hm=>by
  rcases mem m hm with hm|rfl|rfl
  ·exact⟨m,hm,rfl,fun hk=>⟨hk,rfl⟩,fun x hx=>hx⟩
  ·exact⟨_,hmem,rfl,fun hk=>⟨hk,rfl⟩,fun x hx=>hx⟩
  ·exact⟨_,jJ,lr.trans mf.symm,fun hk=>⟨hMk▸hk,UB.symm⟩,fun x hx=>by rw[Jl]at hx;exact (lN hx).1⟩
 have k2:Kids (aV (aV S M) (gT now (aa S.nodes no))):=sD h hu key;unfold gU dC;rw[<-hM];unfold jm;split
 ·unfold gS
  split
  ·exact sD h hu fun m hm=>key m (eR hm).1
  ·exact k2
 ·exact k2
theorem UC (hT:eB c S) (h:Kids S) (cu cg now:Int) (x:pZ) (hx:∀fr a iN b,x≠.rename fr a iN b):Kids (di S cu cg now x):=by
 cases x with
 | dS dir nm mode=>exact Bh h (xp hT h _ _ _ _ _ _ rfl fun _=>rfl)
 | dH dir nm mode data=>exact Bh h (xp hT h _ _ _ _ _ _ rfl fun hk=>by cases hk)
 | symlink dir nm text=>exact Bh h (xp hT h _ _ _ _ _ _ rfl fun hk=>by cases hk)
 | link no dir nm=>exact PZ hT h _ _ _ _ _ _
 | unlink dir nm =>
  show Kids (eQ S cu cg now dir nm);unfold eQ;split
  ·rename_i h0
   unfold ey at h0;split at h0
   ·rename_i h1;exact absurd h0 h1
   ·rename_i h1
    obtain⟨z1,z2,_,z4,z5⟩:=eu (bR.1 h1);rw[z4,z5];exact Dw h hT.bL (a_ z1).1 z2
  ·exact h
 | j8 dir nm =>
  show Kids (gJ S cu cg now dir nm);unfold gJ;split
  ·rename_i h0
   unfold fc at h0;split at h0
   ·rename_i h1;exact absurd h0 h1
   ·rename_i h1
    obtain⟨z1,z2,_,z4,z5⟩:=eu (bR.1 h1);rw[z4,z5];exact Dw h hT.bL (a_ z1).1 z2
  ·exact h
 | rename fr a iN b=>exact absurd rfl (hx fr a iN b)
 | ee no mode =>
  show Kids (gx S cu now no mode);unfold gx;split
  ·rename_i h0
   unfold g_ at h0;split at h0
   ·rename_i h1;exact absurd h0 h1
   ·rename_i h1
    have hi:=jB (bR.1 h1);exact xo h hT.bL hi (ap hi).2.1 rfl rfl fun x hx=>hx
  ·exact h
 | fF no uid gid =>
  show Kids (iA S cu now no uid gid);unfold iA;split
  ·rename_i h0
   unfold iT at h0;split at h0
   ·rename_i h1;exact absurd h0 h1
   ·rename_i h1
    have hi:=jB (bR.1 h1);exact xo h hT.bL hi (ap hi).2.1 rfl rfl fun x hx=>hx
  ·exact h
 | iD no mt =>
  show Kids (iB S cu now no mt);unfold iB;split
  ·rename_i h0
   unfold jk at h0;split at h0
   ·rename_i h1;exact absurd h0 h1
   ·rename_i h1
    have hi:=jB (bR.1 h1);exact xo h hT.bL hi (ap hi).2.1 rfl rfl fun x hx=>hx
  ·exact h
 | write no data =>
  show Kids (ET S cu cg now no data);unfold ET;split
  ·rename_i h0
   have hi:aW S.nodes no=true:=by
    unfold OP at h0;split at h0
    ·cases h0
    ·rename_i h1;simpa using h1
   have hf:∀m∈(lD S no data).nodes,∃m'∈S.nodes,m'.no=m.no/\(m.kind=1->m'.kind=1/\m'.up=m.up)/\∀x∈m.ah,x∈m'.ah:=fun m hm=>by
    unfold lD at hm;split at hm
    ·rcases uP hm with hm|rfl
     ·exact⟨m,hm,rfl,fun hk=>⟨hk,rfl⟩,fun x hx=>hx⟩
     ·exact⟨_,(ap hi).2.2,rfl,fun hk=>⟨hk,rfl⟩,fun x hx=>hx⟩
    ·exact⟨m,hm,rfl,fun hk=>⟨hk,rfl⟩,fun x hx=>hx⟩
   have tm:aW (lD S no data).nodes no=true:=by
    unfold lD;split
    ·show aW (cP S.nodes _) no=true;rw[kf];exact hi
    ·exact hi
   refine sD h hT.bL fun m hm=>?_
   rcases bq hm with⟨hm,_⟩|rfl
   ·exact hf m hm
   ·obtain ⟨m',h1,h2,h3,h4⟩:=hf _ (ap tm).2.2
    exact⟨m',h1,h2,h3,h4⟩
  ·exact h
theorem P_ (hT:eB c S) (h:Kids S) (over b n:Int):Kids (cZ S over b n):=by
 have mem:∀m∈(cZ S over b n).nodes,m∈S.nodes\/(m.no=S.last+1/\m.ah=[]):=fun m hm=>by
  rcases dn.1 hm with hm|hm
  ·exact .inl hm
  ·rw [ax]at hm
   subst hm;exact .inr ⟨rfl,rfl⟩
 refine⟨fun m hm x hx q hq e hk=>?_,fun m hm x hx y hy q hq e hk exy=>?_⟩
 ·rcases mem m hm with hm|⟨_,h2⟩
  ·have hp:=(hT.pos m hm x hx).2
   rcases mem q hq with hq|⟨h1,_⟩
   ·exact h.up m hm x hx q hq e hk
   ·omega
  ·rw[h2]at hx;cases hx
 ·rcases mem m hm with hm|⟨_,h2⟩
  ·have hp:=(hT.pos m hm x hx).2
   rcases mem q hq with hq|⟨h1,_⟩
   ·exact h.once m hm x hx y hy q hq e hk exy
   ·omega
  ·rw[h2]at hx;cases hx
theorem Lk (hT:eB c S) (h:Kids S) (a b n:Int):Kids (dB S a b n):=by
 unfold dB;split
 ·exact P_ hT h _ _ _
 ·exact h
theorem Ll (b n:Int):Kids (cZ dF 0 b n):=by
 have mem:∀m∈(cZ dF 0 b n).nodes,m.ah=[]:=fun m hm=>by
  have hm':m∈[ct dF]:=hm;rw[ax]at hm';subst hm';rfl
 exact⟨fun m hm x hx=>(by rw[mem m hm]at hx;cases hx),fun m hm x hx=>(by rw[mem m hm]at hx;cases hx)⟩
def bj (S:ag):Nat:=(S.nodes.map fun n=>n.ah.length).sum
def nR (S:ag) (cu cg:Int) (x:au):Prop:=iW S cu cg x=0/\(aa S.nodes x.no).kind=1
theorem Dx {x:au} (h:iW S cu cg x=0):aW S.nodes x.no=true/\aW S.nodes x.dir=true/\(aa S.nodes x.no).dev=(aa S.nodes x.dir).dev/\((aa S.nodes x.no).kind=1->cE S cu cg x.no 1 4=0):=by
 unfold iW at h;split at h
 ·cases h
 rename_i h1;split at h
 ·cases h
 rename_i h2;split at h
 ·cases h
 rename_i h3;refine⟨by simpa using h1,by simpa using h2,bR.1 h3,fun hk=>?_⟩;rw[ac (fun k=>k hk)]at h;exact h
theorem lO {x:au} (h:nR S cu cg x):ia S cu cg x=(b_ S (aa S.nodes x.no).ah).map (fM x):=by unfold nR at h;unfold ia;rw[af h]
theorem sE {x:au} (h:¬nR S cu cg x):ia S cu cg x=[]:=by unfold nR at h;unfold ia;rw[ac h]
theorem Bi (h:eB c S) (k:Kids S) {x y:au} (hx:nR S cu cg x) (hy:y∈ia S cu cg x) (ly:nR S cu cg y) :
  (y.name,y.no)∈(aa S.nodes x.no).ah/\(aa S.nodes y.no).up=x.no/\y.no≠x.no/\y.dir=x.no:=by
 rw[lO hx]at hy;rw[fH]at hy;obtain⟨z',hz',rfl⟩:=hy;unfold b_ at hz';rw[fH]at hz';obtain⟨z,hz,rfl⟩:=hz';obtain⟨ix,nx,mx⟩:=bP hx.2;obtain⟨i1,i2,i3,_⟩:=Dx ly.1;have i3':(aa S.nodes (aw S.ae z.2)).dev=(aa S.nodes x.no).dev:=i3;have hk:(aa S.nodes (aw S.ae z.2)).kind=1:=ly.2;obtain⟨k1,k2,k3⟩:=h.FO _ mx z hz;have hp:=h.pos _ mx z hz;rcases kM h.xk (show 0<z.2 by omega) with e|⟨j,hj,e1,e2⟩
 ·show (z.1,aw S.ae z.2)∈_/\(aa S.nodes (aw S.ae z.2)).up=_/\aw S.ae z.2≠_/\x.no=x.no
  rw[e]at hk|-;obtain⟨j1,j2,j3⟩:=bP hk;refine⟨hz,?_,by rw[<-nx];exact k1,rfl⟩;rw[<-nx];exact k.up _ mx z hz _ j3 j2 hk
 ·exfalso
  obtain⟨q,hq,q1,q2,q3,q4⟩:=h.qK j hj;obtain⟨r,hr,r1,r2,r3⟩:=h.ii (j+1) hj;have gr:=(ep h.bL hr).1;rw[r1]at gr;rw[e2,gr,r3]at i3';have:=k3 q hq (by rw[q1,e1]);rw[nx]at *;omega
theorem xq (ns:List ak) (f:ak->Nat):∀(E:List Int),E.Nodup->(∀e∈E,∃n∈ns,n.no=e)->ns.Pairwise (fun a b=>a.no<b.no)->(E.map fun e=>f (aa ns e)).sum<=(ns.map f).sum:=by
 induction ns with
 | nil =>
  intro E _ h2 _
  cases E with
  | nil=>simp
  | cons e E=>obtain⟨n,hn,_⟩:=h2 e (bY ..);cases hn
 | cons a ns ih =>
  intro E h1 h2 h3;rw[oc]at h3;have hg:∀e,e≠a.no->aa (a::ns) e=aa ns e:=fun e he=>by
   unfold aa gF;rw[gD];have:(a.no == e)=false:=by simpa using dA he
   rw[this]
  have ha:aa (a::ns) a.no=a:=by unfold aa gF;rw[gD];simp
  have key:∀E:List Int,E.Nodup->(∀e∈E,∃n∈a::ns,n.no=e)->(E.map fun e=>f (aa (a::ns) e)).sum<=(if a.no∈E then f a else 0)+((E.filter fun e=>decide (e≠a.no)).map fun e=>f (aa ns e)).sum:=by
   intro E
   induction E with
   | nil=>intro _ _;simp
   | cons e E ihE =>
    intro hd hm;rw[JD]at hd;have:=ihE hd.2 fun x hx=>hm x (cf _ hx)
    rw[dM,dV]
    by_cases he:e=a.no
    ·subst he
     rw[ac hd.1]at this;rw[af (bY ..),List.filter_cons_of_neg (by simp),ha];omega
    ·rw [List.filter_cons_of_pos (by simpa using he),dM,dV,hg e he]
     have hmem:(a.no∈e::E)↔a.no∈E:=by rw[aR];exact⟨fun h=>h.resolve_left (dA he),.inr⟩
     by_cases h4:a.no∈E
     ·rw[af h4]at this;rw[af (hmem.2 h4)];omega
     ·rw[ac h4]at this;rw[ac (fun k=>h4 (hmem.1 k))];omega
  have k1:=key E h1 h2;have k2:=ih (E.filter fun e=>decide (e≠a.no)) (h1.filter _) (fun e he=>by
   rw[gz]at he;obtain⟨n,hn,e1⟩:=h2 e he.1;rcases aR.1 hn with rfl|hn
   ·have:=he.2;simp[e1]at this
   ·exact⟨n,hn,e1⟩) h3.2
  rw[dM,dV];split at k1<;>omega
theorem Lm (h:eB c S) (k:Kids S) (cu cg:Int) (x0:Int) {t l:List au} {b:au} (hd:lE S cu cg t l b e) :
  ∀ (E:List Int) (d:Int->Nat),(∀n∈S.nodes,n.kind=1->n.up≠n.no->d n.up<d n.no)->E.Nodup->(∀y∈E,(aa S.nodes y).kind=1/\d x0<=d y/\(y=x0\/(aa S.nodes y).up∈E)) ->
   (∀y∈t,nR S cu cg y->y.no∉E/\d x0<=d y.no/\(y.no=x0\/(aa S.nodes y.no).up∈E))->t.Pairwise (fun a b=>nR S cu cg a->nR S cu cg b->a.no≠b.no) ->
   l.length+(E.map fun y=>(aa S.nodes y).ah.length).sum<=t.length+bj S:=by
 induction hd with
 | nil =>
  intro E d _ h1 h2 _ _;have:=xq S.nodes (fun n=>n.ah.length) E h1 (fun y hy=>⟨_,(bP (h2 y hy).1).2.2,(bP (h2 y hy).1).2.1⟩) h.bL.1;unfold bj;simp only[gj];omega
 | bad hx =>
  intro E d _ h1 h2 _ _;have:=xq S.nodes (fun n=>n.ah.length) E h1 (fun y hy=>⟨_,(bP (h2 y hy).1).2.2,(bP (h2 y hy).1).2.1⟩) h.bL.1;unfold bj;simp only[gj];omega
 | @step x t l b e h0 hd ih =>
  intro E d hdp h1 h2 h3 h4;rw[oc]at h4
  by_cases hx:nR S cu cg x
  ·obtain ⟨x1,x2,x3⟩:=h3 x (bY ..) hx
   have hlen:(ia S cu cg x).length=(aa S.nodes x.no).ah.length:=by rw[lO hx,jP,iC]
   have hch:∀y∈ia S cu cg x,nR S cu cg y->y.no∉x.no::E/\d x0<=d y.no/\(y.no=x0\/(aa S.nodes y.no).up∈x.no::E)/\y.no≠x0/\(aa S.nodes y.no).up=x.no:=by
    intro y hy ly;obtain⟨c1,c2,c3,_⟩:=Bi h k hx hy ly;obtain⟨j1,j2,j3⟩:=bP ly.2;have hlt:=hdp _ j3 ly.2 (by rw[c2,j2];exact dA c3);rw[c2,j2]at hlt;have hne:y.no≠x0:=fun e=>by rw[e]at hlt;omega
    refine⟨fun hm=>?_,by omega,.inr (by rw[c2];exact bY ..),hne,c2⟩;rcases aR.1 hm with e|hm
    ·exact c3 e
    ·rcases (h2 y.no hm).2.2 with e|e
     ·exact hne e
     ·rw[c2]at e;exact x1 e
   have := ih (x.no::E) d hdp (JD.2 ⟨x1,h1⟩)
    (fun y hy=>by
     rcases aR.1 hy with rfl|hy
     ·exact⟨hx.2,x2,x3.imp id (cf _)⟩
     ·obtain ⟨a1,a2,a3⟩:=h2 y hy
      exact⟨a1,a2,a3.imp id (cf _)⟩)
    (fun y hy ly=>by
     rcases dn.1 hy with hy|hy
     ·obtain ⟨a1,a2,a3,_⟩:=hch y hy ly
      exact⟨a1,a2,a3⟩
     ·obtain ⟨a1,a2,a3⟩:=h3 y (cf _ hy) ly
      refine⟨fun hm=>?_,a2,a3.imp id (cf _)⟩;rcases aR.1 hm with e|hm
      ·exact h4.1 y hy hx ly e.symm
      ·exact a1 hm)
    (zh.2 ⟨?_,h4.2,fun a ha b hb la lb e=>?_⟩)
   ·rw [dM,dV,aZ,hlen]at this
    simp only[bk];omega
   ·rw [lO hx,zi]
    have hr:=h.qO _ (bP hx.2).2.2;unfold b_;rw[zi];refine List.Pairwise.imp_of_mem ?_ hr;intro a b ha hb hab la lb e;have ca:=Bi h k hx (y:=fM x (a.1,aw S.ae a.2)) (by rw[lO hx];exact vX (by unfold b_;exact vX ha)) la;have cb:=Bi h k hx (y:=fM x (b.1,aw S.ae b.2)) (by rw[lO hx];exact vX (by unfold b_;exact vX hb)) lb;obtain⟨j1,j2,j3⟩:=bP la.2;have:=k.once _ (bP hx.2).2.2 _ ca.1 _ cb.1 _ j3 j2 la.2 e;have e1:a.1=b.1:=by have:=nu Prod.fst this;exact this
    rw[e1,dD]at hab;cases hab
   ·obtain ⟨a1,a2,a3,a4,a5⟩:=hch a ha la
    rcases (h3 b (cf _ hb) lb).2.2 with e1|e1
    ·exact a4 (e.trans e1)
    ·rw[<-e,a5]at e1;exact x1 e1
  ·have:=ih E d hdp h1 h2 (fun y hy ly=>h3 y (cf _ (by rw[sE hx]at hy;exact hy)) ly) (by rw[sE hx];exact h4.2)
   rw[sE hx]at this;simp only[jG]at this;simp only[bk];omega
theorem Ib (h:eB c S) (k:Kids S) (cu cg:Int) (x:au) {l:List au} {b:au} (hd:lE S cu cg [x] l b e):l.length<=1+bj S:=by
 obtain⟨d,hdp⟩:=h.deep;have:=Lm h k cu cg x.no hd [] d hdp List.nodup_nil (fun y hy=>by cases hy) (fun y hy _=>by rw[ax]at hy;subst hy;exact⟨by simp,aE _,.inl rfl⟩) (DT _ _);simpa using this
theorem mg {F:Fence} {n:Nat} {P:Program} (w:World) {ops:Array Oper} {rest:List Oper} {o:Oper} {Q:Exit->Act->World->Prop} (hg:o.guard=none) (s x:Operand) (t tn:TypeId)
  (hop:o.op=.call {callee:=.builtin .append,args:=#[s,x],argTypes:=#[t,tn]}) (vs vx:Value) (hs:a.eval s=vs) (hx:a.eval x=vx)
  (v':Value) (w':World) (hr:(Builtin.append_ #[t,tn] o.type #[vs,vx]).run P w=.ok v' w') (h:wpListIn F n P ops Q rest (a.put o.dst v') w'):wpListIn F n P ops Q (o::rest) a w:=by
 refine wpListIn_plain hg fun K hK'=>?_
 unfold Oper.wpIn;refine⟨?_,?_⟩
 ·simp[Oper.about,hop,resolve,Target.leads]
 ·rw [Jw F _ _ (by rw[hop];intro c hc';cases hc')]
  simp[execOp,hop,resolve,invoke,builtin,hs,hx,hr,Result.andThen];exact hK' _ _ h
theorem ij {F:Fence} {n:Nat} {ops:Array Oper} {rest:List Oper} {op:Oper} {Q:Exit->Act->World->Prop} (hgd:op.guard=none) (x y:Operand) (ho:op.op=.store 41 x y)
  (b:Nat) (d d':au) (hx:a.eval x=.pointer (some ⟨b,0,none⟩)) (hy:a.eval y=.agg (bt d').toArray) (hb:Has w b (.cells (bt d).toArray 41))
  (h:∀w',Has w' b (.cells (bt d').toArray 41)->Only [b] w w'->wpListIn F n prog ops Q rest (a.put op.dst undef) w'):wpListIn F n prog ops Q (op::rest) a w:=by
 refine wpListIn_plain hgd fun K hK'=>?_
 unfold Oper.wpIn;refine⟨?_,?_⟩
 ·simp[Oper.about,ho]
 ·rw [Jw F _ _ (by rw[ho];intro c hc';cases hc')]
  simp only[execOp,ho,hx,hy,tF w b 0 41 (bt d').toArray hb.there pR (rv (cs:=bt d') (pQ d')),nr,o7,rn];exact hK' _ _ (h _ (hb.yQ d') (cr (bt d') 0 w))
def told (l:List au) (b:au) (e:Int):List (au×Int):=l.map (fun x=>(x,0))++(if e=0 then [] else [(b,e)])
theorem UD:told [] mJ 0=[]:=rfl
theorem Bj {b:au} (h:e≠0):told [] b e=[(b,e)]:=by unfold told;rw[ac h];rfl
theorem Dy (x:au) (l:List au) (b:au) (e:Int):told (x::l) b e=(x,0)::told l b e:=rfl
theorem Ic (l:List au) (b:au) (e:Int):(told l b e).length<=l.length+1:=by
 unfold told;rw[aZ,jP];split<;>simp
def Bk (s:aH) (cu cg dir:Int) (nm:List UInt8) (l:List au) (b:au) (e:Int):Prop:=
 (dw s cu cg dir nm≠0/\l=[]/\b=du s cu cg dir nm/\e=dw s cu cg dir nm)\/(dw s cu cg dir nm=0/\s.dead=false/\lE s.t cu cg [du s cu cg dir nm] l b e)
theorem Yb (h:eB c s.t) (k:Kids s.t) (cu cg dir:Int) (nm:List UInt8):∃l b e,Bk s cu cg dir nm l b e/\l.length<=1+bj s.t:=by
 by_cases h0:dw s cu cg dir nm=0
 ·have hd:s.dead=false:=by
   unfold dw gY at h0
   cases hd:s.dead
   ·rfl
   ·rw[af hd]at h0;cases h0
  obtain⟨l,b,e,hr⟩:=Du h k.up cu cg [du s cu cg dir nm];exact⟨l,b,e,.inr ⟨h0,hd,hr⟩,Ib h k cu cg _ hr⟩
 ·exact⟨[],_,_,.inl ⟨h0,rfl,rfl,rfl⟩,bC _⟩
theorem Ie (hd:s.dead=false) (cu cg:Int) (x:au):ln s cu cg x=iW s.t cu cg x/\oY s cu cg x=ia s.t cu cg x:=by
 unfold ln oY gY tV;rw[ac (by rw[hd];decide),ac (by rw[hd];decide)];exact⟨rfl,rfl⟩
theorem Dz (h:eB c S) (cu cg:Int) (x:au):(ia S cu cg x).length<=c:=by
 unfold ia;split
 ·rw[jP,iC];exact (h.aa x.no).2
 ·exact bC _
theorem yb {x y:au} (h:y∈ia S cu cg x):y.depth=x.depth+1:=by
 unfold ia at h;split at h
 ·rw [fH]at h
  obtain⟨z,_,rfl⟩:=h;rfl
 ·cases h
attribute [local go_sem] ol
def Fs (W:World) (k b:Nat) (cu cg dir:Int) (nm:List UInt8):Prop:=
 Has W k (.cells #[((),b)] 33)/\Has W (k+1) (.cells #[cu,cg] 27)/\Has W (k+2) (.cells #[dir] 3)/\Has W (k+3) (.cells #[bs nm] 9)
abbrev Ln (x:au×Int):Array Value:=#[.agg #[x.1.dir,bs x.1.name,x.1.no,x.1.depth],x.2]
theorem eO.keep {base:Nat} {l:List au} (h:eO w base v l) (hk:∀g,v.ownBlock=some g->w'.heap[g]?=w.heap[g]?):eO w' base v l:=by
 refine⟨h.1,?_⟩;rcases h.2 with e|⟨g,cap,cur,rfl,hb,hg,h1,h2,h3,h4⟩
 ·exact .inl e
 ·exact .inr ⟨g,cap,cur,rfl,hb,(hk g rfl).trans hg,h1,h2,h3,h4⟩
theorem eO.Qa {base g:Nat} {l:List au} (h:eO w base v l) (hv:v.ownBlock=some g):iF w g:=by
 rcases h.2 with⟨rfl,_⟩|⟨g',cap,cur,rfl,hb,hg,_⟩
 ·cases hv
 ·injection hv with hv
  subst hv;exact iF.of hg (by decide) (by decide)
theorem UE (F:Fence) (hF:F=Fence.wide) (n:Nat) (hn:1<=n) (B b:Nat) (g:dL) (s:aH) (hs:d_ c s) (hc:c<=900) (k:Nat) (cu cg dir:Int) (nm:List UInt8) (l:List au) (b0:au) (e0:Int)
  (hT:Bk s cu cg dir nm l b0 e0) (hlen:l.length<=1000) (w0:World) :
  aa5 F n prog 86 #[((),k),.pointer (some ⟨k+1,0,none⟩),.pointer (some ⟨k+2,0,none⟩),.pointer (some ⟨k+3,0,none⟩)] Ln (fun xs=>xs=told l b0 e0) (fun pre=>pre <+: told l b0 e0)
   (fun pre x=>pre++[x] <+: told l b0 e0) (fun _ V=>PS V B b g s/\Fs V k b cu cg dir nm) w0:=by
 intro lp J Jx W _ hJ1 Jc hJx hY h0;have hro:F.round=none:=by rw[hF];rfl
 have hfn:F.fn 86:=by rw[hF];trivial
 have Rk:F.fn 87:=by rw[hF];trivial
 have JS:F.fn 88:=by rw[hF];trivial
 have CF:∀(j:Nat) (u:World),PS u B b g s->CallsIn F j prog 87 #[((),b),.agg #[cu,cg],dir,bs nm] u (aO u (.tuple #[.agg #[.int .i64 (du s cu cg dir nm).dir,.string (bs (du s cu cg dir nm).name),.int .i64 (du s cu cg dir nm).no,.int .i64 (du s cu cg dir nm).depth],.int .i64 (dw s cu cg dir nm)])):=by
  rw[hF];exact fun j u hu=>km.2 (hu.first hs hc cu cg dir nm)
 have CI:Hid (∀(j:Nat) (u:World) (x:au),0<=x.depth->x.depth<=1000000->PS u B b g s->CallsIn F j prog 88 #[((),b),.agg #[cu,cg],.agg #[x.dir,bs x.name,x.no,x.depth]] u (Ng u (oY s cu cg x) (ln s cu cg x))):=by
  show ∀_ _ _,_;rw[hF];exact fun j u x h1 h2 hu=>km.2 (hu.into hs hc cu cg x h1 h2)
 obtain⟨L,hL⟩:=ai (told l b0 e0);rw[<-hL]at hY|-;have X_:L.length<=1001:=by rw[hL];have:=Ic l b0 e0;omega
 obtain⟨X,hX⟩:=ai (du s cu cg dir nm);obtain⟨e1,m_⟩:=ai (dw s cu cg dir nm);have Ig:X.depth=0:=by rw[hX];rfl
 have Ft:(e1≠0/\L=[(X,e1)])\/(e1=0/\s.dead=false/\lE s.t cu cg [X] l b0 e0/\L=told l b0 e0):=by
  rw[hX,m_];rcases hT with⟨h1,h2,h3,h4⟩|⟨h1,h2,h3⟩
  ·exact .inl ⟨h1,by rw[hL,h2,h3,h4,Bj h1]⟩
  ·exact .inr ⟨h1,h2,h3,hL⟩
 rw[<-hX,<-m_]at CF;have HS:=zH hs;have HT:=zH Ft;have UF:=zH Ig;have Ih:=zH hJ1;have Qb:=zH Jc;have HJX:=zH hJx;have HY:=zH hY;clear hF hT hlen hX m_ hs hL Ft Ig;obtain⟨⟨hP0,Cp⟩,_,_⟩:=hJ1 _ _ _ h0;have k0:=Cp.1.cell 0;have k1:=Cp.2.1.cell 0;have k2:=Cp.2.1.cell 1;have k3:=Cp.2.2.1.cell 0;have k4:=Cp.2.2.2.cell 0;have z0:=Cp.1.lt;have z1:=Cp.2.1.lt;have z2:=Cp.2.2.1.lt;have z3:=Cp.2.2.2.lt;have CF0:=zH (CF (n-1) W hP0);have H0:=zH h0;clear hJ1 Jc hJx hY h0 CF hP0 Cp;refine uq func86 rfl hfn ?_ hro;simp only[ntmps86,lA,bk,gj,Nat.reduceAdd,Nat.reduceSub,o_,pd,pg,ph,jG,oo];gi_wp2_with (gi_at_call 87;refine CF0.o.mono ?_;rintro e w1 ⟨rfl,b1⟩);obtain⟨W2,dp⟩:=ai ((w1.alloc (.cells #[X.dir,bs X.name,X.no,X.depth] 41)).alloc (.cells #[X.dir,bs X.name,X.no,X.depth] 41));obtain⟨bx,vT⟩:=ai w1.heap.size;obtain⟨br,Lo⟩:=ai (w1.heap.size+1);have ui:Has W2 bx (.cells (bt X).toArray 41):=by rw[dp,vT];exact (Has.new w1 _).alloc _
 have xZ:Has W2 br (.cells (bt X).toArray 41):=by rw[dp,Lo];have:=Has.new (w1.alloc (.cells #[X.dir,bs X.name,X.no,X.depth] 41)) (.cells #[X.dir,bs X.name,X.no,X.depth] 41);rw[bi]at this;exact this
 have E2:Ext W W2:=by rw[dp];exact (b1.alloc _).alloc _
 have acP:W.heap.size<=bx:=by have:=b1.size;omega
 have UG:W.heap.size<=br:=by omega
 have hxr:bx≠br:=by omega
 have Jc:J [bx,br] [] W2:=Qb.o [] [] W [bx,br] W2 H0.o (Only.az E2) (fun x hx=>by
   simp only[aR,bg,bh]at hx;rcases hx with rfl|rfl
   ·exact .inr acP
   ·exact .inr UG) (fun x hx=>by
   simp only[aR,bg,bh]at hx;rcases hx with rfl|rfl
   ·exact iF.of ui (by decide) (by decide)
   ·exact iF.of xZ (by decide) (by decide))
 have hO2:eO W2 W.heap.size (.slice (some br) 1 1) [X]:=⟨rfl,.inr ⟨br,1,_,rfl,UG,xZ,aE _,by decide,rfl,rfl⟩⟩;rw[<-dp,<-Lo,<-vT];clear dp vT Lo k0 k1 k2 k3 k4 z0 z1 z2 z3 b1 CF0 H0 E2;gi_loopg [7,8] (l.length+1) (fun m ve vt wr=>∃(e2:Int) (t:List au) (x:au) (O:List Nat) (pre:List (au×Int)),ve=.int .i64 e2/\J O pre wr/\bx∈O/\Has wr bx (.cells (bt x).toArray 41)/\eO wr W.heap.size vt t.reverse/\(∀g,vt.ownBlock=some g->g∈O/\g≠bx)/\t.length<=1+pre.length*1000/\(∀y∈t,0<=y.depth/\y.depth<=pre.length) /\
  ((e2=0/\s.dead=false/\∃l1,lE s.t cu cg t l1 b0 e0/\L=pre++told l1 b0 e0/\m=l1.length+1)\/(e2≠0/\L=pre++[(x,e2)])))
 case atStart =>
  refine⟨e1,[X],X,_,[],rfl,Jc,by simp,ui,hO2,fun g hg=>?_,by simp,fun y hy=>?_,?_⟩
  ·injection hg with hg;subst hg;exact⟨by simp,dA hxr⟩
  ·rw[ax]at hy;subst hy;rw[UF.o];simp
  ·rcases HT.o with⟨h1,h2⟩|⟨h1,h2,h3,h4⟩
   ·exact .inr ⟨h1,h2⟩
   ·exact .inl ⟨h1,h2,l,h3,h4,rfl⟩
 case round =>
  obtain⟨e2,t,x,O,pre,rfl,hJ,Rq,hX,hO,hown,sO,sS,hrest⟩:=hrel;clear Jc ui xZ hO2 HT UF;obtain⟨A,cap,rfl,yc,s3,hat,hA0⟩:=hO.at_;rw[kV]at hO yc|-;have x0:=aA hX 0 rfl;have x1:=aA hX 1 rfl;have x2:=aA hX 2 rfl;have x3:=aA hX 3 rfl;have xz:=hX.lt
  by_cases he:e2=0
  case neg =>
   have t2:(e2 == 0)=false:=by simpa using he
   have t3:(e2 != 0)=true:=by simpa using he
   have hL:L=pre++[(x,e2)]:=by
    rcases hrest with⟨h1,_⟩|⟨_,h2⟩
    ·exact absurd h1 he
    ·exact h2
   have HL:=zH hL;obtain⟨fn,tmps,assign,body,hy,hR⟩:=HY.o O pre (x,e2) wr hJ (by rw[hL];exact wu _)
   try dsimp only[Ln]at hy
   clear he hrest hL sS sO hown hO hat;gi_wp2;refine hR.mono ?_;rintro e W3 (⟨rfl,Jd,qg⟩|⟨rfl,zO⟩)
   ·gi_wp2
    go_end0;exact⟨⟨_,rfl⟩,.inl ⟨_,_,HL.o.symm,Jd⟩⟩
   ·gi_wp2
    go_end0;exact⟨⟨_,rfl⟩,.inr ⟨_,by rw[HL.o];exact wu _,zO⟩⟩
  obtain ⟨_,hd,l1,hD,hL,hm⟩:e2=0/\s.dead=false/\∃l1,lE s.t cu cg t l1 b0 e0/\L=pre++told l1 b0 e0/\gk=l1.length+1:=by
   rcases hrest with h1|⟨h1,_⟩
   ·exact h1
   ·exact absurd he h1
  subst he;clear hrest;obtain⟨T,hTn⟩:=ai t.length;rw[<-hTn]at hO yc sO|-
  cases t with
  | nil =>
   obtain rfl:T=0:=hTn;have hLp:L=pre:=by cases hD;rw[hL,UD,iR]
   have HL:=zH hLp;clear hD hL hLp sS sO hown hO hat hm x0 x1 x2 x3 xz;gi_wp2;go_end0;exact⟨⟨_,rfl⟩,.inl ⟨_,by rw[HL.o];exact hJ⟩⟩
  | cons x' t' =>
   obtain⟨T',Ft⟩:=ai t'.length;obtain rfl:T=T'+1:=by rw[hTn,Ft];rfl
   clear hTn hat x0 x1 x2 x3 xz;rw[p_]at hO;have Qc:(t'.reverse++[x']).length=T'+1:=by rw[aZ,kV,Ft];rfl
   rw [<-Qc]at hO;have hO0:=hO;obtain⟨gr,rfl⟩:∃gr,A=some ⟨gr,0,none⟩:=by
    rcases hO.cases with⟨_,h2⟩|⟨gr,_,_,h2,_⟩
    ·simp at h2
    ·injection h2 with h2;exact⟨gr,h2⟩
   have Yc:=hown gr rfl;have hpl:pre.length<=1000:=by
    have:=nu List.length hL;rw[aZ]at this;have h1:1<=(told l1 b0 e0).length:=by
     cases hD with
     | bad h=>rw[Bj h];simp
     | step _ _=>rw[Dy];simp
    omega
   have hdx:=sS x' (bY ..);obtain⟨_,_,cur,hv,aeG,UH,_,_,hcell⟩:∃g cap' cur,Value.slice (some gr) (t'.reverse++[x']).length cap=.slice (some ⟨g,0,none⟩) (t'.reverse++[x']).length cap'/\W.heap.size<=g/\Has wr g (.cells cur 41)/\(t'.reverse++[x']).length<=cap'/\cap'<=maxLen/\∀k,(h:k<(t'.reverse++[x']).length)->∀j,j<4->wr.cell? ⟨g,k*4+j,none⟩=(bt (t'.reverse++[x'])[k])[j]?:=by
    rcases hO.cases with⟨h1,_⟩|h2
    ·cases h1
    ·exact h2
   injection hv with He _ hv3;injection He with He;injection He with He;subst He;subst hv3;have lf:∀h,(t'.reverse++[x'])[T']'h=x':=fun h=>by
    rw[Cw (by rw[kV,Ft];exact aE _)];simp[Ft]
   have hq:∀j,j<4->wr.cell? ⟨gr,T'*4+j,none⟩=(bt x')[j]?:=fun j hj=>(hcell T' (by rw[Qc];omega) j hj).trans (by rw[lf])
   have q0:wr.cell? (gr,T'*4)=some (.int .i64 x'.dir):=hq 0 (by decide);have q1:wr.cell? (gr,T'*4+1)=some (.string (bs x'.name)):=hq 1 (by decide);have q2:wr.cell? (gr,T'*4+2)=some (.int .i64 x'.no):=hq 2 (by decide);have q3:wr.cell? (gr,T'*4+3)=some (.int .i64 x'.depth):=hq 3 (by decide);have qz:=UH.lt;have Xx:T'+1<=cap:=yc;have BS:IntKind.i64.wrap (T':Int)=(T':Int):=cB _ (by omega);have w2w:IntKind.i64.wrap ((T':Int)+1-1)=(T':Int):=by rw[cB _ (by omega)];omega
   have p0:(0:Int)<=(T':Int):=cO _;have afV:bx<wr.heap.size:=hX.lt;have Lp:∀y∈O,iF wr y:=fun y hy=>((Ih.o _ _ _ hJ).2.2 y hy).2
   have KS:Hid (∀w9,Has w9 bx (.cells (bt x').toArray 41)->Only [bx] wr w9->(J O pre w9/\PS w9 B b g s/\w9.cell? (k,0)=some (.pointer (some ⟨b,0,none⟩))/\w9.cell? ⟨k+1,0,none⟩=some (.int .i64 cu)/\w9.cell? ⟨k+1,1,none⟩=some (.int .i64 cg)/\k<w9.heap.size/\k+1<w9.heap.size /\
     w9.cell? (bx,0)=some (.int .i64 x'.dir)/\w9.cell? (bx,1)=some (.string (bs x'.name))/\w9.cell? (bx,2)=some (.int .i64 x'.no)/\w9.cell? (bx,3)=some (.int .i64 x'.depth)/\bx<w9.heap.size)):=by
    show ∀w9,_;intro w9 R9 O9;have Rs:=Qb.o O pre wr O w9 hJ (O9.mono (by intro y hy;rw[ax]at hy;subst hy;exact Rq)) (fun y hy=>.inl hy) (fun y hy=>(Lp y hy).only O9 (fun z hz=>by rw[ax]at hz;subst hz;exact iF.of R9 (by decide) (by decide)));obtain⟨⟨P9,C9⟩,_⟩:=Ih.o _ _ _ Rs;exact⟨Rs,P9,C9.1.cell 0,C9.2.1.cell 0,C9.2.1.cell 1,C9.1.lt,C9.2.1.lt,R9.cell 0,R9.cell 1,R9.cell 2,R9.cell 3,R9.lt⟩
   have CIx:=zH (fun (j:Nat) (u:World) (hu:PS u B b g s)=>CI.o j u x' hdx.1 (by omega) hu);have lm:=Ie hd cu cg x';obtain⟨e3,pX⟩:=ai (ln s cu cg x');obtain⟨l4,xO⟩:=ai (oY s cu cg x');rw[<-pX,<-xO]at CIx lm;have MU:=zH lm;have HD:=zH hD;have HL:=zH hL;have HM:=zH hm;have aa8:=zH sS;have Wv:=zH hO0;have Xq:=zH hown;have Yd:=zH Ft;have FL:=zH hX;clear lm pX xO hD hL hm sS hO hO0 hq hcell lf Qc yc hown Ft CI
   by_cases h3:e3=0
   case neg =>
    have t3:(e3 != 0)=true:=by simpa using h3
    have hLb:Hid (L=pre++[(x',e3)]):=by
     show _=_;have hne:iW s.t cu cg x'≠0:=by rw[<-MU.o.1];exact h3
     have mZ:=HD.o
     cases mZ with
     | bad h=>rw[HL.o,Bj h,MU.o.1]
     | step h _=>exact absurd h hne
    clear h3;gi_wp2_with (first|(refine ij rfl _ _ rfl bx x x' rfl rfl FL.o ?_;intro w9 R9 O9;obtain⟨Rs,P9,k0,k1,k2,z0,z1,y0,y1,y2,y3,yz⟩:=KS.o w9 R9 O9)|(gi_at_call 88;refine (CIx.o _ w9 P9).mono ?_;rintro e w4 ⟨v4,rfl,EC,b4⟩;have u0:w4.cell? (bx,0)=some (.int .i64 x'.dir):=(b4.cell yz).trans y0;have u1:w4.cell? (bx,1)=some (.string (bs x'.name)):=(b4.cell yz).trans y1;have u2:w4.cell? (bx,2)=some (.int .i64 x'.no):=(b4.cell yz).trans y2;have u3:w4.cell? (bx,3)=some (.int .i64 x'.depth):=(b4.cell yz).trans y3;have uz:bx<w4.heap.size:=(by have:=b4.size;omega);have hJ4:=Qb.o O pre w9 O w4 Rs (Only.az b4) (fun y hy=>.inl hy) (fun y hy=>((Ih.o _ _ _ Rs).2.2 y hy).2.ext b4);obtain⟨fn,tmps,assign,body,hy,hR⟩:=HY.o O pre (x',e3) w4 hJ4 (by rw[hLb.o];exact wu _);try dsimp only[Ln]at hy));refine hR.mono ?_;rintro e W3 (⟨rfl,Jd,qg⟩|⟨rfl,zO⟩)
    ·gi_wp2
     go_end0;exact⟨⟨_,rfl⟩,.inl ⟨_,_,hLb.o.symm,Jd⟩⟩
    ·gi_wp2
     go_end0;exact⟨⟨_,rfl⟩,.inr ⟨_,by rw[hLb.o];exact wu _,zO⟩⟩
   have t3:(e3 != 0)=false:=by simpa using h3
   obtain ⟨l2,J2⟩:∃l2,l1=x'::l2/\lE s.t cu cg (l4++t') l2 b0 e0:=by
    have h0:iW s.t cu cg x'=0:=by rw[<-MU.o.1];exact h3
    have mZ:=HD.o;rw[MU.o.2]
    cases mZ with
    | bad h=>exact absurd h0 h
    | step _ hd3=>exact⟨_,rfl,hd3⟩
   have Xw:=zH J2;have HLb:Hid (L=(pre++[(x',0)])++told l2 b0 e0):=by show _=_;rw[HL.o,J2.1,Dy,l6];rfl
   have xO:Hid (l4.length<=900/\∀y∈l4,y.depth=x'.depth+1):=by
    show _/\_;rw[MU.o.2];exact⟨nk (Dz HS.o.fN cu cg x') hc,fun y hy=>yb hy⟩
   have yK:=zH h3;clear h3 J2;gi_wp2_with (first|(refine ij rfl _ _ rfl bx x x' rfl rfl FL.o ?_;intro w9 R9 O9;obtain⟨Rs,P9,k0,k1,k2,z0,z1,y0,y1,y2,y3,yz⟩:=KS.o w9 R9 O9)|(gi_at_call 88;refine (CIx.o _ w9 P9).mono ?_;rintro e w4 ⟨v4,rfl,EC,b4⟩;have u0:w4.cell? (bx,0)=some (.int .i64 x'.dir):=(b4.cell yz).trans y0;have u1:w4.cell? (bx,1)=some (.string (bs x'.name)):=(b4.cell yz).trans y1;have u2:w4.cell? (bx,2)=some (.int .i64 x'.no):=(b4.cell yz).trans y2;have u3:w4.cell? (bx,3)=some (.int .i64 x'.depth):=(b4.cell yz).trans y3;have uz:bx<w4.heap.size:=(by have:=b4.size;omega);have hJ4:=Qb.o O pre w9 (O++v4.ownBlock.toList) w4 Rs (Only.az b4) (fun y hy=>(dn.1 hy).imp id (fun hm=>(EC.lt (cR.1 hm)).1)) (fun y hy=>(dn.1 hy).elim (fun hm=>((Ih.o _ _ _ Rs).2.2 y hm).2.ext b4) (fun hm=>EC.Qa (cR.1 hm)));obtain⟨fn,tmps,assign,body,hy,hR⟩:=HY.o (O++v4.ownBlock.toList) pre (x',0) w4 hJ4 (by rw[HLb.o];exact JE _ _);try dsimp only[Ln]at hy));refine hR.mono ?_;rintro e W5 (⟨rfl,hJ5,Ye⟩|⟨rfl,aa9⟩)
   ·have X4 := R9.ext b4
    have X5:Has W5 bx (.cells (bt x').toArray 41):=(Ye bx (kj _ Rq)).trans X4;have T5:eO W5 W.heap.size (.slice (some gr) t'.reverse.length cap) t'.reverse:=
     ((Wv.o.pop.only O9 (fun g hg=>by injection hg with hg;subst hg;simpa using Yc.2)).ext b4).keep (fun g hg=>by injection hg with hg;subst hg;exact Ye _ (kj _ Yc.1))
    have L5:=EC.keep (fun g hg=>Ye g (jO _ (cR.2 hg)));have acQ:∀g,v4.ownBlock=some g->w9.heap.size<=g:=fun g hg=>(EC.lt hg).1
    have aeH:gr<w9.heap.size:=Nat.lt_of_lt_of_le UH.lt O9.size;obtain⟨O4,UI⟩:=ai (O++v4.ownBlock.toList);have aeI:bx∈O4:=by rw[UI];exact kj _ Rq
    have aeJ:gr∈O4:=by rw[UI];exact kj _ Yc.1
    have aeK:∀g,v4.ownBlock=some g->g∈O4:=fun g hg=>by rw[UI];exact jO _ (cR.2 hg)
    rw[<-UI]at hJ5;obtain⟨A4,c4,hv4,acR,afW,_,_⟩:=EC.at_;obtain⟨n4,Jm⟩:=ai l4.length;rw[<-Jm]at hv4 acR;have hl5:=xO.o;rw[<-Jm]at hl5;have Rt:=zH Jm;have HV4:=zH hv4;have aeL:=zH acQ;have HL5:=zH L5;have HT5:=zH T5;have HX5:=zH X5;have HJ5:=zH hJ5;have n41:=hl5.1;have wn:IntKind.i64.wrap ((n4:Int)-1)=(n4:Int)-1:=cB _ (by omega);have t'l:Hid (t'.reverse.length=T'):=by show _=_;rw[kV];exact Yd.o.symm
    have p4:(0:Int)<=(n4:Int):=cO _;clear Jm acQ EC T5 X5 X4 hJ5 L5 UI hy hR hJ4 Rs P9 k0 k1 k2 z0 z1 y0 y1 y2 y3 yz u0 u1 u2 u3 uz R9 Ye hl5 q0 q1 q2 q3 qz KS;subst hv4;gi_wp2;gi_loopw [8,10] (fun vt vi Ru=>∃(p:Nat) (O2:List Nat),vi=.int .i64 ((p:Int)-1)/\p<=n4/\J O2 (pre++[(x',0)]) Ru/\bx∈O2/\(∀g,(Value.slice A4 n4 c4).ownBlock=some g->g∈O2)/\Has Ru bx (.cells (bt x').toArray 41)/\eO Ru w9.heap.size (.slice A4 n4 c4) l4/\eO Ru W.heap.size vt (t'.reverse++(l4.drop p).reverse)/\(∀g,vt.ownBlock=some g->g∈O2/\g≠bx/\(Value.slice A4 n4 c4).ownBlock≠some g)) (fun _ vi _=>(intOf vi+1).toNat)
    case atStart =>
     refine⟨n4,O4,rfl,aE _,HJ5.o,aeI,aeK,HX5.o,HL5.o,?_,fun g hg=>?_⟩
     ·rw [show l4.drop n4=[] by rw[Rt.o,uo],List.reverse_nil,iR]
      have:=HT5.o;rw[t'l.o]at this;exact this
     ·injection hg with hg
      subst hg;exact⟨aeJ,Yc.2,fun e=>absurd (aeL.o _ e) (Nat.not_le.2 aeH)⟩
    case round =>
     obtain⟨p,O2,Ls,hp,hJ6,GL,hv6,hX6,hL6,Rv,UJ⟩:=hrel;rcases p with _|p
     ·have Bl:u10=.int .i64 (-1):=Ls
      subst Bl;have HJ6:=zH hJ6;have HX6:=zH hX6;have HO6:=zH Rv;have HW6:=zH UJ;clear Ls hJ6 hX6 hL6 Rv UJ hv6;gi_wp2;gi_roundg (l2.length+1)
      case measure=>rw[HM.o,Xw.o.1];simp
      case rel =>
       refine⟨e3,l4++t',x',O2,pre++[(x',0)],rfl,HJ6.o,GL,HX6.o,?_,fun g hg=>⟨(HW6.o g hg).1,(HW6.o g hg).2.1⟩,?_,fun y hy=>?_,.inl ⟨yK.o,hd,l2,Xw.o.2,HLb.o,rfl⟩⟩
       ·have:=HO6.o
        rw[jN]at this;rw[wi];exact this
       ·have:=Rt.o
        have:=Yd.o;rw[aZ,aZ,lF];omega
       ·rw [aZ,lF]
        rcases dn.1 hy with hm|hm
        ·have:=xO.o.2 y hm
         omega
        ·have:=aa8.o y (cf _ hm)
         omega
     ·have Bl:u10=.int .i64 (p:Int):=by rw[Ls];simp
      subst Bl;have hpl:p<l4.length:=by have:=Rt.o;omega
      obtain ⟨gl,hA4⟩:∃gl,A4=some ⟨gl,0,none⟩:=by
       rcases hL6.cases with⟨_,h2⟩|⟨gl,_,_,h2,_⟩
       ·rw[h2]at hpl;simp at hpl
       ·injection h2 with h2;exact⟨gl,h2⟩
      subst hA4;obtain⟨DA,hgl⟩:(∀j,j<4->wr.cell? ⟨gl,p*4+j,none⟩=(bt l4[p])[j]?)/\gl<wr.heap.size:=by
       rcases hL6.cases with⟨h1,_⟩|⟨gl',_,_,h2,_,h3,_,_,h4⟩
       ·cases h1
       ·injection h2 with h2
        injection h2 with h2;injection h2 with h2;subst h2;exact⟨h4 p hpl,h3.lt⟩
      have Mr:Hid (t'.reverse++(l4.drop p).reverse=(t'.reverse++(l4.drop (p+1)).reverse)++[l4[p]]):=by
       show _=_;rw[jg hpl,p_,l6]
      obtain⟨y,NY⟩:=ai (l4[p]);rw[<-NY]at DA Mr;have q0:wr.cell? (gl,p*4)=some (.int .i64 y.dir):=DA 0 (by decide);have q1:wr.cell? (gl,p*4+1)=some (.string (bs y.name)):=DA 1 (by decide);have q2:wr.cell? (gl,p*4+2)=some (.int .i64 y.no):=DA 2 (by decide);have q3:wr.cell? (gl,p*4+3)=some (.int .i64 y.depth):=DA 3 (by decide);have r0:(0:Int)<=(p:Int):=cO _;have r1:(p:Int)<(n4:Int):=by omega
      have r2:IntKind.i64.wrap ((p:Int)-1)=(p:Int)-1:=cB _ (by omega);have XC:(t'.reverse++(l4.drop (p+1)).reverse).length<=2000000:=by
       have:=Rt.o;have:=Yd.o;rw[aZ,kV,kV,oh];omega
      have acS:W.heap.size<=wr.heap.size:=(Ih.o _ _ _ hJ6).2.1;obtain⟨v',w',hr,Jk,hg,Ii⟩:=vC wr Rv acS y XC;have HR:=zH hr;have o6:Only u8.ownBlock.toList wr w':=(Only.lh _ _ _).then (Only.of_grownBy hg (fun g hv=>cR.2 hv));have hB6:∀y∈O2,iF wr y:=fun y hy=>((Ih.o _ _ _ hJ6).2.2 y hy).2
      have aba:∀y∈O2,y<wr.heap.size:=fun y hy=>(hB6 y hy).lt
      obtain⟨O3,Cn⟩:=ai ((O2.filter fun y=>decide (y∉u8.ownBlock.toList))++v'.ownBlock.toList);have abb:∀y,y∈O3->(y∈O2/\y∉u8.ownBlock.toList)\/v'.ownBlock=some y:=fun y hy=>by
       rw[Cn]at hy;rcases dn.1 hy with hm|hm
       ·rw[gz,lZ]at hm;exact .inl hm
       ·exact .inr (cR.1 hm)
      have in3:∀y,y∈O2->u8.ownBlock≠some y->y∈O3:=fun y hy hn=>by
       rw[Cn];exact kj _ (gz.2 ⟨hy,by rw[lZ];exact fun hm=>hn (cR.1 hm)⟩)
      have Nk:∀g',v'.ownBlock=some g'->(u8.ownBlock=some g')\/g'=wr.heap.size+1:=fun g' hg'=>by
       rcases Ii with e|e
       ·rw[e]at hg';exact .inl hg'
       ·rw[e]at hg';injection hg' with hg';exact .inr hg'.symm
      have hJ7:J O3 (pre++[(x',0)]) w':=Qb.o O2 _ wr _ w' hJ6 (o6.mono (fun y hy=>(UJ y (cR.1 hy)).1)) (fun y hy=>by
        rcases abb y hy with hm|hm
        ·exact .inl hm.1
        ·rcases Nk y hm with e|e
         ·exact .inl (UJ y e).1
         ·exact .inr (by omega)) (fun y hy=>by
        rcases abb y hy with hm|hm
        ·exact (hB6 y hm.1).keep (o6.block y (aba y hm.1) hm.2)
        ·exact Jk.Qa hm)
      have hX7:=o6.has hX6 (fun hm=>(UJ bx (cR.1 hm)).2.1 rfl);have Wd:=hL6.only o6 (fun g hv hm=>(UJ g (cR.1 hm)).2.2 hv);have Zx:∀g',v'.ownBlock=some g'->g'∈O3/\g'≠bx/\(Value.slice (some gl) n4 c4).ownBlock≠some g':=fun g' hg'=>by
       refine⟨by rw[Cn];exact jO _ (cR.2 hg'),?_,?_⟩
       ·rcases Nk g' hg' with e|e
        ·exact (UJ g' e).2.1
        ·have:=aba bx GL;omega
       ·rcases Nk g' hg' with e|e
        ·exact (UJ g' e).2.2
        ·intro e2
         have e3:some gl=some g':=e2;injection e3 with e3;omega
      have HJ7:=zH hJ7;have HX7:=zH hX7;have HL7:=zH Wd;have Yf:=zH Jk;have HW7:=zH Zx;have HV6:=zH (fun g (hv:(Value.slice (some gl) n4 c4).ownBlock=some g)=>in3 g (hv6 g hv) (fun e=>(UJ g e).2.2 hv));have HB7:=zH (in3 bx GL (fun e=>(UJ bx e).2.1 rfl));clear Ls hJ6 hX6 hL6 Rv UJ hv6 hr Jk hg Ii Nk o6 hJ7 hX7 Wd Zx DA NY aba hB6 abb in3 Cn;gi_wp2_with (gi_at_builtin;refine mg _ rfl _ _ 39 39 rfl _ _ rfl rfl _ _ HR.o ?_);go_roundw
      case rel=>exact⟨p,_,rfl,by omega,HJ7.o,HB7.o,HV6.o,HX7.o,HL7.o,by rw[Mr.o];exact Yf.o,HW7.o⟩
      case measure=>simp[intOf]
   ·gi_wp2
    refine aT (FZ rfl _ _ _) rfl ?_;exact⟨⟨_,rfl⟩,.inr ⟨_,by rw[HLb.o];exact JE _ _,aa9⟩⟩
end
end Go.Proofs.YtpibnfdolojpcaaGreat
