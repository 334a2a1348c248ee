import Derived.Test.YtblbohcaphcobaaGreatDoorBunE
import Derived.Test.YtblbohcaphcobaaGreatDoorBunD
import Derived.Test.YtblbohcaphcobaaGreatDoorBunL
import Derived.Test.YtblbohcaphcobaaGreatDoorBunX
import Derived.Test.YtblbohcaphcobaaGreatDoorBunJ
import Derived.Test.YtblbohcaphcobaaGreatDoorBunB
import Derived.Test.YtblbohcaphcobaaGreatDoorBunM
import Derived.Test.YtblbohcaphcobaaGreatDoorBunK
import Derived.RangeFuncNested
import Derived.RangeFuncBound
import Derived.RangeFuncCalls
import Derived.RangeFuncLeaves
import Derived.RangeFuncBox
import Derived.Maps.AppendAt
import Derived.OwnWalkIn
import Derived.TacticsInMore
import Derived.LoopNIn
import Derived.LoopIn
import Derived.Sort.LoopGhostIn
set_option maxHeartbeats 16000000
set_option maxRecDepth 100000
namespace Go.Proofs.YtblbohcaphcobaaGreatDoor
section
open Go.ChangeShapes Go.WideShapes Go.ChangeAt Go.RowKit
structure Kk (S:aa):Prop where
 pF:∀h:0<S.ag.length,S.ag[0].over=0
 roots:∀k,(h:k<S.ag.length)->∃m∈S.nodes,m.no=S.ag[k].root/\m.kind=1/\m.dev=(k:Int)+1
 free:∀k,(h:k+1<S.ag.length)->∃m∈S.nodes,m.no=S.ag[k+1].over/\aB S.ag m.dev≠S.ag[k+1].over
theorem gi {S:aa} (m:Kk S) {no:Int} (hn:0<no):ar S.ag no=no\/∃k,∃hk:k+1<S.ag.length,S.ag[k+1].over=no/\ar S.ag no=S.ag[k+1].root:=by
 unfold ar;rw [if_pos hn]
 cases hf:S.ag.find? (fun d=>d.over == no) with
 | none=>exact .inl rfl
 | some d =>
  right
  have hm:=List.mem_of_find?_eq_some hf;have ho:d.over=no:=by simpa using List.find?_some hf
  obtain ⟨k,hk,e⟩:=List.getElem_of_mem hm
  match k,hk,e with
  | 0,hk,e =>
   have:=m.pF hk;rw [e]at this;omega
  | k+1,hk,e=>exact⟨k,hk,by rw[e];exact ho,by rw[e]⟩
theorem dC.oT {c:Nat} {S:aa} (h:dC c S):Kk S:=⟨h.pF,h.eY,fun k hk=>by
 obtain ⟨m,hm,a,_,_,b⟩:=h.lC k hk;exact ⟨m,hm,a,by rw[<-a];exact b⟩⟩
def oU (S:aa):Prop:=∀m∈S.nodes,∀x∈m.af,∀q∈S.nodes,q.no=x.2->q.kind=1->q.up=m.no
structure ak where
 dir:Int
 name:List UInt8
 no:Int
 depth:Int
def jA:ak:=⟨0,[],0,0⟩
def gj (S:aa) (cu cg:Int) (x:ak):Int:=
 if aK S.nodes x.no=false then 5 else if aK S.nodes x.dir=false then 5
 else if (ac S.nodes x.no).dev≠(ac S.nodes x.dir).dev then 16
 else if (ac S.nodes x.no).kind≠1 then 0 else bf S cu cg x.no 1 4
def iW (x:ak) (y:aw):ak:=⟨x.no,y.1,y.2,x.depth+1⟩
def gp (S:aa) (cu cg:Int) (x:ak):List ak:=
 if gj S cu cg x=0/\(ac S.nodes x.no).kind=1 then (dn S (ac S.nodes x.no).af).map (iW x) else []
inductive jB (S:aa) (cu cg:Int):List ak->List ak->ak->Int->Prop
 | nil:jB S cu cg [] [] jA 0
 | bad {x:ak} {t:List ak}:gj S cu cg x≠0->jB S cu cg (x::t) [] x (gj S cu cg x)
 | step {x:ak} {t l:List ak} {b:ak} {e:Int}:gj S cu cg x=0->jB S cu cg (gp S cu cg x++t) l b e->jB S cu cg (x::t) (x::l) b e
theorem jB.err {S:aa} {cu cg:Int} {t l:List ak} {b:ak} {e:Int} (h:jB S cu cg t l b e):e=0->b=jA:=by
 induction h with
 | nil=>intro _;rfl
 | bad h=>intro k;exact absurd k h
 | step _ _ ih=>exact ih
theorem l7 {c:Nat} {S:aa} (h:dC c S) (hl:oU S) {m:ai} (hm:m∈S.nodes) {x:aw} (hx:x∈m.af) (hk:(ac S.nodes (ar S.ag x.2)).kind=1) :
  a_ S (ar S.ag x.2)=m.no/\ar S.ag x.2≠m.no:=by
 obtain ⟨k1,k2,k3⟩:=h.xR m hm x hx;have hp:=h.pos m hm x hx;rcases gi h.oT (show 0<x.2 by omega) with e|⟨k,hk2,e1,e2⟩
 ·rw [e]at hk|-
  obtain ⟨i1,i2,i3⟩:=bo hk;refine ⟨?_,k1⟩;unfold a_;rw [if_pos hk,if_neg]
  ·exact hl m hm x hx _ i3 i2 hk
  ·rintro ⟨r,_⟩
   rcases dQ h.roots (ac S.nodes x.2).dev with⟨e1,_⟩|⟨j,hj,_,_,_,e4,_⟩
   ·rw[e1]at r;omega
   ·exact k2 _ (List.getElem_mem hj) (by rw[<-e4,r])
 ·rw [e2]at hk|-
  obtain ⟨q,hq,q1,q2,q3,q4⟩:=h.lC k hk2;obtain ⟨y,hy,y1,y2,y3⟩:=h.eY (k+1) hk2;have gq:=(dy h.aC hq).1;have gy:=(dy h.aC hy).1;rw [q1]at gq;rw [y1]at gy;have UQ:=hl m hm x hx q hq (by rw[q1,e1]) q2;have Mr:aB S.ag y.dev=S.ag[k+1].root/\(iO S.ag y.dev).over=S.ag[k+1].over:=by
   rcases dQ h.roots y.dev with⟨_,e2⟩|⟨j,hj,e1,e2,e3,e4,_⟩
   ·have:=(h.on y hy).1;rw[e2]at this;cases this
   ·have PC:j=k+1:=by omega
    subst PC;exact ⟨e4,by rw[e3]⟩
  refine ⟨?_,?_⟩
  ·unfold a_
   rw [gy,if_pos y2,if_pos ⟨Mr.1,by rw[y3];omega⟩,Mr.2,gq];exact UQ
  ·intro e
   have QU:y=m:=gw h.aC hy hm (by rw[y1,e]);have hd:=k3 q hq (by rw[q1,e1]);rw [<-QU,y3]at hd;omega
def BO (S:aa) (r:Int->Nat) (c:Nat) (no:Int):Nat:=if (ac S.nodes no).kind=1 then (c+2) ^ (S.nodes.length+1-r no) else 1
def VL (S:aa) (r:Int->Nat) (c:Nat) (l:List ak):Nat:=(l.map fun x=>BO S r c x.no).sum
theorem oV (S:aa) (r:Int->Nat) (c:Nat) (no:Int):0<BO S r c no:=by
 unfold BO;split
 ·exact Nat.pow_pos (by omega)
 ·decide
theorem Kl {α:Type} (f:α->Nat) (b:Nat) (l:List α) (h:∀x∈l,f x<=b):(l.map f).sum<=l.length*b:=by
 induction l with
 | nil=>simp
 | cons x l ih =>
  have h1:=ih fun y hy=>h y (List.mem_cons_of_mem _ hy)
  have h2:=h x (List.mem_cons_self ..);rw [List.map_cons,List.sum_cons,List.length_cons,Nat.add_mul];omega
theorem Oj {c:Nat} {S:aa} (h:dC c S) (hl:oU S) {r:Int->Nat} (hr:tf S r) (cu cg:Int) (x:ak):VL S r c (gp S cu cg x)<BO S r c x.no:=by
 unfold gp;split
 ·rename_i hx
  obtain ⟨_,hk⟩:=hx;obtain ⟨i1,i2,i3⟩:=bo hk;have hrx:=hr.top x.no;have hs:=h.small _ i3;unfold VL;rw [List.map_map];have hle:∀y∈dn S (ac S.nodes x.no).af,((fun x=>BO S r c x.no)∘iW x) y<=(c+2) ^ (S.nodes.length-r x.no):=by
   intro y hy;unfold dn at hy;rw [List.mem_map]at hy;obtain ⟨z,hz,rfl⟩:=hy;show BO S r c (ar S.ag z.2)<=_;unfold BO;split
   ·rename_i hk2
    obtain ⟨a1,a2⟩:=l7 h hl i3 hz hk2;rw [i2]at a1 a2;have hx1:=(h.aC.2 _ i3).1;rw [i2]at hx1;have h0:ar S.ag z.2≠0:=by
     intro e;rw[e]at hk2;have:=(bo hk2).1;rw [h.aC.zero (.inl (by decide))]at this;cases this
    have:=hr.step (ar S.ag z.2) h0 (by rw[a1];omega) (by rw[a1];exact Ne.symm a2);rw [a1]at this;exact Nat.pow_le_pow_right (by omega) (by omega)
   ·exact Nat.pow_pos (by omega)
  have h1:=Kl _ _ _ hle;rw [jo]at h1;have h2:BO S r c x.no=(c+2) ^ (S.nodes.length-r x.no)*(c+2):=by
   unfold BO;rw [if_pos hk,show S.nodes.length+1-r x.no=(S.nodes.length-r x.no)+1 by omega,Nat.pow_succ]
  rw [h2];have h3:0<(c+2) ^ (S.nodes.length-r x.no):=Nat.pow_pos (by omega)
  generalize (c+2) ^ (S.nodes.length-r x.no)=P at *
  have h4:(ac S.nodes x.no).af.length*P<=c*P:=Nat.mul_le_mul_right P hs;have h5:P*(c+2)=c*P+2*P:=by rw[Nat.mul_add,Nat.mul_comm P c,Nat.mul_comm P 2]
  refine Nat.lt_of_le_of_lt h1 ?_;omega
 ·exact oV S r c x.no
theorem GC {c:Nat} {S:aa} (h:dC c S) (hl:oU S) (cu cg:Int) (t:List ak):∃l b e,jB S cu cg t l b e:=by
 obtain ⟨r,hr⟩:=h.Jb;have key : ∀n t,VL S r c t<=n->∃l b e,jB S cu cg t l b e:=by
  intro n
  induction n with
  | zero =>
   intro t ht
   cases t with
   | nil=>exact⟨_,_,_,.nil⟩
   | cons x t =>
    have:=oV S r c x.no;unfold VL at ht;rw [List.map_cons,List.sum_cons]at ht;omega
  | succ n ih =>
   intro t ht
   cases t with
   | nil=>exact⟨_,_,_,.nil⟩
   | cons x t =>
    by_cases he:gj S cu cg x=0
    ·have hw:=Oj h hl hr cu cg x
     obtain ⟨l,b,e,hd⟩:=ih (gp S cu cg x++t) (by
      unfold VL at ht hw|-;rw [List.map_cons,List.sum_cons]at ht;rw [List.map_append,List.sum_append];omega)
     exact ⟨_,_,_,.step he hd⟩
    ·exact⟨_,_,_,.bad he⟩
 exact key _ t (Nat.le_refl _)
open Go Go.RowKit
def R_ (B:Nat) (R:List Nat) (W:World):Prop:=∀r∈R,B<=r/\∃o:Obj,W.heap[r]?=some o/\o.isCells=false
def ib (W:World) (x:Nat):Prop:=∃t,fS W x t/\t≠106/\t≠198
theorem ib.lt {W:World} {x:Nat} (h:ib W x):x<W.heap.size:=by obtain⟨t,⟨c,f,h⟩,_⟩:=h;exact (Array.getElem?_eq_some_iff.1 h).1
theorem ib.keep {W W':World} {x:Nat} (h:ib W x) (e:W'.heap[x]?=W.heap[x]?):ib W' x:=by obtain⟨t,⟨c,f,h⟩,h2⟩:=h;exact⟨t,⟨c,f,e.trans h⟩,h2⟩
theorem ib.only {W W':World} {x:Nat} {L:List Nat} (h:ib W x) (o:Only L W W') (hL:∀y∈L,ib W' y):ib W' x:=by
 by_cases hx:x∈L
 ·exact hL x hx
 ·exact h.keep (o.block x h.lt hx)
theorem ib.ext {W W':World} {x:Nat} (h:ib W x) (o:Ext W W'):ib W' x:=h.keep (Below.block o x h.lt)
theorem ib.of {W:World} {x:Nat} {cs:Array Value} {t:TypeId} {fr:Nat×Nat} (h:W.heap[x]?=some (.cells cs t fr)) (h1:t≠106) (h2:t≠198):ib W x:=⟨t,⟨cs,fr,h⟩,h1,h2⟩
def Bears {α:Type} (B:Nat) (I:List Nat->List α->World->Prop):Prop:=
 ∀ O pre W O' R W',I O pre W->Only (O++R) W W'->R_ B R W->(∀x∈O',x∈O\/W.heap.size<=x)->(∀x∈O',ib W' x)->I O' pre W'
def Sa {α:Type} (B:Nat) (I:List α->World->Prop):Prop:=∀pre W R W',I pre W->Only R W W'->R_ B R W->I pre W'
def mh (O:List Nat) (W W':World):Prop:=∀b∈O,W'.heap[b]?=W.heap[b]?
theorem mh.trans {O:List Nat} {A B C:World} (h:mh O A B) (k:mh O B C):mh O A C:=fun b hb=>(k b hb).trans (h b hb)
theorem Only.EC {L O:List Nat} {W W':World} (o:Only L W W') (h1:∀b∈O,b<W.heap.size) (h2:∀b∈O,b∉L):mh O W W':=fun b hb=>o.block b (h1 b hb) (h2 b hb)
theorem Only.putObj (W:World) (l:Nat) (o:Obj):Only [l] W (W.putObj l o):=
 ⟨rfl,rfl,rfl,by simp,fun k _ hk=>World.putObj_heap_other (fun e=>hk (by simp[e]))⟩
theorem Only.gJ (L:List Nat) (W:World) (o:Obj):Only L W (W.alloc o):=Only.av ((Ext.refl W).alloc o)
theorem Only.lE {L:List Nat} {B:Nat} {W W':World} (o:Only L W W') (h:∀b∈L,b<B\/∃x:Obj,W.heap[b]?=some x/\x.isCells=true):KeepsFrom B W W':=
 ⟨o.size,fun k x hB hk hx=>by
  refine (o.block k (Array.getElem?_eq_some_iff.1 hk).1 fun hm=>?_).trans hk;rcases h k hm with e|⟨y,hy,hc⟩
  ·omega
  ·rw[hk]at hy;cases hy;rw[hx]at hc;cases hc⟩
section
variable {F:Fence} {n:Nat} {P:Program}
def VM {α:Type} (F:Fence) (n:Nat) (P:Program) (g:Nat) (lb:Array Value) (vK:α->Array Value) (S Sp:List α->Prop) (G:List α->α->Prop) (Ex:List α->World->Prop) (w0:World):Prop:=
 ∀ (l : Nat) (J:List Nat->List α->World->Prop) (Jx:List α->World->Prop) (W:World),w0.heap.size<=W.heap.size ->
  (∀O pre V,J O pre V->Ex pre V/\W.heap.size<=V.heap.size/\∀b∈O,W.heap.size<=b/\ib V b) ->
  (∀O pre V O' V',J O pre V->Only O V V'->(∀x∈O',x∈O\/V.heap.size<=x)->(∀x∈O',ib V' x)->J O' pre V') ->
  (∀pre V V',Jx pre V->Ext V V'->Jx pre V') ->
  (∀ O pre x V,J O pre V->G pre x->YieldAt F (n-1) P l (vK x) V fun e V' =>
   (e=.returned (.bool true)/\J O (pre++[x]) V'/\mh O V V')\/(e=.returned (.bool false)/\Jx (pre++[x]) V')) ->
  J [] [] W ->
  CallsIn F n P g (#[.func (.yield l) #[] #[]]++lb) W fun e W'=>(∃v,e=.returned v)/\((∃O xs,S xs/\J O xs W')\/(∃pre,Sp pre/\Jx pre W'))
def Km {α:Type} (B:Nat) (I:List Nat->List α->World->Prop) (Ix:Code->List α->World->Prop) (O:List Nat) (xs:List α) (W:World):Exit->Act->World->Prop
 | .normal,_,W'=>KeepsFrom B W W'/\mh O W W'/\I O xs W'
 | .ret,_,W'=>KeepsFrom B W W'/\Ix .ret xs W'
 | .exit id,_,W'=>KeepsFrom B W W'/\Ix (.exit id) xs W'
 | .goto t,_,W'=>KeepsFrom B W W'/\Ix (.goto t) xs W'
 | .panic _,_,_=>False
 | .outgrown,_,_=>False
theorem pT {α:Type} {g:Operand} {ps:Array Tmp} {assign body:Code} {Q:Exit->Act->World->Prop} {a:Act} {w:World}
  (hro:F.round=none) (h1:1<=n) {gf:Nat} {lb:Array Value} (hg:a.eval g=.func (.func gf) #[] lb) (hFg:F.fn gf) (eg:∀args w,(callFunc gf args).run P w=.ok (.enter gf args) w)
  {vK:α->Array Value} {S Sp:List α->Prop} {G:List α->α->Prop} {Ex:List α->World->Prop} {w0:World} (Sb:VM F (n-1) P gf lb vK S Sp G Ex w0) (gh:w0.heap.size<=w.heap.size) (PK:∀x,(vK x).size=ps.size)
  (I:List Nat->List α->World->Prop) (Ix:Code->List α->World->Prop) (hI:Bears w.heap.size I) (hIx:∀c,Sa w.heap.size (Ix c)) (J8:∀O pre V,I O pre V->Ex pre V) (h0:I [] [] w)
  (Ax:α->Act->World->Prop) (hAx:∀x a' V l o o',Ax x a' V->w.heap.size<=l->V.heap[l]?=some o->o.isCells=false->Ax x a' (V.putObj l o'))
  (yu:∀(l:Nat) (O:List Nat) (pre:List α) (x:α) (V:World) (K:Act->World->Prop),I O pre V->G pre x->(∀b∈O,ib V b)->(∀a' V',KeepsFrom w.heap.size V V'->mh O V V'->I O pre V'->Ax x a' V'->K a' V') ->
   assign.wpIn (F.inRound l) (n-1-1) P (Exit.then K (fun _ _ _=>False)) {tmps:=(ps.zip (vK x)).foldl (fun t (p,v)=>t.setIfInBounds p v) a.tmps,defers:=[]} V)
  (Kn:∀(l:Nat) (O:List Nat) (pre:List α) (x:α) (a':Act) (V:World),I O pre V->Ax x a' V->G pre x->(∀b∈O,ib V b)->body.wpIn (F.inRound l) (n-1-1) P (Km w.heap.size I Ix O (pre++[x]) V) a' V)
  (jP:∀(D:Nat) (O:List Nat) (xs:List α) (V:World),w.heap.size<=D->S xs->I O xs V->V.heap[D]?=some (.deferred (some []))->Q .normal {a with defers:={target:=.collected D,args:=#[]}::a.defers} V)
  (VN:∀(D:Nat) (c:Code) (pre:List α) (V:World),w.heap.size<=D->Sp pre->Ix c pre V->V.heap[D]?=some (.deferred (some []))->c.wpIn F n P Q {a with defers:={target:=.collected D,args:=#[]}::a.defers} V) :
  (Code.rangeFunc g ps assign body).wpIn F n P Q a w:=by
 refine wpIn_rangeFunc (fun fn hfn=>?_);rw [hro];obtain⟨D,hD⟩:=aq w.heap.size;obtain ⟨R,hR⟩:∃R:LoopState->Option Code->Loop,R=fun st pe=>{state:=st,pending:=pe,fn,tmps:=a.tmps,params:=ps,assign,body,defers:=w.heap.size}:=⟨_,rfl⟩
 obtain ⟨V,hV⟩:∃V,(w.alloc (.deferred (some []))).alloc (.loop (R .ready none))=V:=⟨_,rfl⟩;have vl:V.heap[D+1]?=some (.loop (R .ready none)):=by
  rw [<-hV,hD];have:=World.alloc_heap_new (w.alloc (.deferred (some []))) (.loop (R .ready none))
  rwa [World.size_alloc]at this
 have vd:V.heap[D]?=some (.deferred (some [])):=by
  rw [<-hV,hD];exact (Below.heap_alloc _ _ _ (by simp)).trans (World.alloc_heap_new w _)
 have vI:I [] [] V:=by
  rw [<-hV];exact hI [] [] w [] [] _ h0 ((Only.gJ _ _ _).then (Only.gJ _ _ _)) (fun r hr=>by cases hr) (fun x hx=>by cases hx) (fun x hx=>by cases hx)
 have vs:V.heap.size=D+2:=by rw[<-hV,hD];simp
 refine ⟨D+1,[{target:=.collected D,args:=#[]}],V,{target:=.fn (.func gf) lb,args:=#[.func (.yield (D+1)) #[] #[]]},V,gf,#[.func (.yield (D+1)) #[] #[]]++lb,V,?_,?_,?_,?_,fun _=>h1,?_⟩
 ·rw[<-hV,hR,hD];exact run_enterLoop_outer _ _ _ _ _
 ·simp only[resolve,hg]
  simp [go_sem]
 ·intro f' Yc;simp[Target.leads]at Yc;subst Yc;exact hFg
 ·simp[invoke,go_sem,eg]
 ·refine (Sb (D+1)
   (fun O pre W=>I O pre W/\W.heap[D+1]?=some (.loop (R .ready none))/\W.heap[D]?=some (.deferred (some []))/\V.heap.size<=W.heap.size/\∀b∈O,V.heap.size<=b/\ib W b)
   (fun pre W=>∃c,Ix c pre W/\W.heap[D+1]?=some (.loop (R .done (some c)))/\W.heap[D]?=some (.deferred (some []))) V (by omega)
   (fun O pre W h=>⟨J8 O pre W h.1,h.2.2.2.1,h.2.2.2.2⟩)
   (fun O pre X O' Y h o hO Db=>by
    obtain ⟨h1,h2,h3,h4,h5⟩:=h;have nD:∀k,k<V.heap.size->k∉O:=fun k hk hm=>by have:=(h5 k hm).1;omega
    refine ⟨hI O pre X O' [] Y h1 (by rw[List.append_nil];exact o) (fun r hr=>by cases hr) hO Db,?_,?_,Nat.le_trans h4 o.size,fun b hb=>⟨?_,Db b hb⟩⟩
    ·exact (o.block _ (by omega) (nD _ (by omega))).trans h2
    ·exact (o.block _ (by omega) (nD _ (by omega))).trans h3
    ·rcases hO b hb with e|e
     ·exact (h5 b e).1
     ·omega)
   (fun pre X Y ⟨c,hc,hl,hk⟩ e=>⟨c,hIx c pre X [] Y hc (Only.av e) (fun r hr=>by cases hr),(Below.block e _ (Array.getElem?_eq_some_iff.1 hl).1).trans hl,(Below.block e _ (Array.getElem?_eq_some_iff.1 hk).1).trans hk⟩)
   ?_ ⟨vI,vl,vd,Nat.le_refl _,fun b hb=>by cases hb⟩).mono ?_
  ·rintro O pre x W ⟨hi,hl,hk,hs,hO⟩ hG
   have hlt:D+1<W.heap.size:=(Array.getElem?_eq_some_iff.1 hl).1;have hy:=run_yield (P:=P) (args:=vK x) hl (by rw[hR];exact PK x);rw [hR]at hy;refine ⟨fn,_,assign,body,hy,roundIn_of_wpIn hfn (yu _ O pre x W _ hi hG (fun b hb=>(hO b hb).2) ?_)⟩;clear hy;intro a' Wa Sc VO hia VP;have Yu:=Sc.same _ _ (by omega) hl rfl;have hka:=Sc.same _ _ (by omega) hk rfl;have aar:D+1<Wa.heap.size:=(Array.getElem?_eq_some_iff.1 Yu).1;have hOa:∀b∈O,ib Wa b:=fun b hb=>(hO b hb).2.keep (VO b hb)
   refine ⟨_,run_beginRound Yu (by rw[hR]),?_⟩;obtain ⟨W2,du⟩:∃W2,W2=Wa.putObj (D+1) (.loop {R .ready none with state:=.busy}):=⟨_,rfl⟩;have qd:W2.heap[D+1]?=some (.loop {R .ready none with state:=.busy}):=by rw[du];exact World.putObj_heap_same aar
   have hk2:W2.heap[D]?=some (.deferred (some [])):=by rw[du];exact (World.putObj_heap_other (by omega)).trans hka
   have hs2:W2.heap.size=Wa.heap.size:=by rw[du];simp
   have put:∀(O:List Nat) (pre:List α) (X:World) (o o':Obj),I O pre X->X.heap[D+1]?=some o->o.isCells=false->(∀b∈O,V.heap.size<=b/\ib X b)->I O pre (X.putObj (D+1) o'):=fun O pre X o o' h1 h2 h3 h4 =>
    hI O pre X O [D+1] _ h1 ((Only.putObj X _ o').mono (fun y hy=>List.mem_append_right _ hy)) (fun r hr=>by rw[List.mem_singleton]at hr;subst hr;exact⟨by omega,o,h2,h3⟩) (fun y hy=>.inl hy) (fun y hy=>(h4 y hy).2.keep (World.putObj_heap_other (by have:=(h4 y hy).1;omega)))
   have oh:I O pre W2:=by rw[du];exact put O pre Wa _ _ hia Yu rfl (fun b hb=>⟨(hO b hb).1,hOa b hb⟩)
   have Ko:∀X o',mh O X (X.putObj (D+1) o'):=fun X o' b hb=>by have:=(hO b hb).1;exact World.putObj_heap_other (by omega)
   rw [<-du];refine wpIn_mono (Kn _ O pre x a' W2 oh (by rw[du];exact hAx _ _ _ _ _ _ VP (by omega) Yu rfl) hG (fun b hb=>by rw[du];exact (hOa b hb).keep (Ko _ _ b hb))) ?_;have fin:∀(jump:Option Code) (W3:World),KeepsFrom w.heap.size W2 W3->∃W4,W4=W3.putObj (D+1) (.loop (R (if jump.isNone then .ready else .done) jump)) /\
     (Instr.endRound (D+1) jump).run P W3=.ok (.bool jump.isNone) W4/\W3.heap[D+1]?=some (.loop {R .ready none with state:=.busy}) /\
     W4.heap[D+1]?=some (.loop (R (if jump.isNone then .ready else .done) jump))/\W4.heap[D]?=some (.deferred (some []))/\W2.heap.size<=W3.heap.size/\W4.heap.size=W3.heap.size:=fun jump W3 lr=>by
    have MP:=lr.same _ _ (by omega) qd rfl;have hd3:=lr.same _ _ (by omega) hk2 rfl;have CO:=run_endRound (P:=P) jump MP;rw [hR]at CO;refine ⟨_,rfl,?_,MP,World.putObj_heap_same (Array.getElem?_eq_some_iff.1 MP).1,(World.putObj_heap_other (by omega)).trans hd3,lr.size,by simp⟩;rw [hR];exact CO
   rintro e a3 W3 hp;have leave:∀c,KeepsFrom w.heap.size W2 W3->Ix c (pre++[x]) W3->∃v W4,(Instr.endRound (D+1) (some c)).run P W3=.ok v W4/\v=.bool false/\∃c,Ix c (pre++[x]) W4/\W4.heap[D+1]?=some (.loop (R .done (some c)))/\W4.heap[D]?=some (.deferred (some [])):=fun c lr hi3=>by
    obtain ⟨W4,fO,hr,MP,Fu,MC,_,_⟩:=fin (some c) W3 lr;exact ⟨_,W4,hr,rfl,c,by rw[fO];exact hIx _ _ W3 [D+1] _ hi3 (Only.putObj _ _ _) (fun r hr=>by rw[List.mem_singleton]at hr;subst hr;exact⟨by omega,_,MP,rfl⟩),Fu,MC⟩
   cases e with
   | normal =>
    obtain ⟨lr,VQ,hi3⟩:=hp;obtain ⟨W4,fO,hr,MP,Fu,MC,hs3,hs4⟩:=fin none W3 lr;have q1:mh O Wa W2:=by rw[du];exact Ko _ _
    have MQ:∀b∈O,V.heap.size<=b/\ib W3 b:=fun b hb=>⟨(hO b hb).1,((hOa b hb).keep (q1 b hb)).keep (VQ b hb)⟩
    have q2:mh O W3 W4:=by rw[fO];exact Ko _ _
    refine ⟨_,W4,hr,.inl ⟨rfl,⟨by rw[fO];exact put O _ W3 _ _ hi3 MP rfl MQ,Fu,MC,by have:=Sc.size;omega,fun b hb=>⟨(hO b hb).1,(MQ b hb).2.keep (q2 b hb)⟩⟩,?_⟩⟩;exact ((VO.trans q1).trans VQ).trans q2
   | ret =>
    obtain ⟨v,W4,hr,hv,hc⟩:=leave .ret hp.1 hp.2;exact ⟨v,W4,hr,.inr ⟨by rw[hv],hc⟩⟩
   | exit id =>
    obtain ⟨v,W4,hr,hv,hc⟩:=leave (.exit id) hp.1 hp.2;exact ⟨v,W4,hr,.inr ⟨by rw[hv],hc⟩⟩
   | goto t =>
    obtain ⟨v,W4,hr,hv,hc⟩:=leave (.goto t) hp.1 hp.2;exact ⟨v,W4,hr,.inr ⟨by rw[hv],hc⟩⟩
   | panic ch=>exact hp.elim
   | outgrown=>exact hp.elim
  ·rintro e W2 ⟨⟨v,rfl⟩,(⟨O,xs,hS,hi,hl,hk,hs,hO⟩|⟨pre,hSp,c,hi,hl,hk⟩)⟩
   ·have hr:=run_endLoop (P:=P) hl (by rw[hR];simp)
    refine ⟨none,_,by rw[hR]at hr;exact hr,?_⟩;rw [hD]at hk|-;refine jP _ O xs _ (Nat.le_refl _) hS (hI O xs W2 O [D+1] _ hi ((Only.putObj W2 _ _).mono (fun y hy=>List.mem_append_right _ (by rw[hD];exact hy))) (fun r hr=>by rw[List.mem_singleton]at hr;subst hr;exact⟨by omega,_,hl,rfl⟩) (fun y hy=>.inl hy) (fun y hy=>(hO y hy).2.keep (World.putObj_heap_other (by have:=(hO y hy).1;omega)))) ((World.putObj_heap_other (by omega)).trans hk)
   ·have hr:=run_endLoop (P:=P) hl (by rw[hR];simp)
    refine ⟨some c,_,by rw[hR]at hr;exact hr,?_⟩;rw [hD]at hk|-;exact VN _ c pre _ (Nat.le_refl _) hSp (hIx c _ W2 [D+1] _ hi ((Only.putObj W2 _ _).mono (fun y hy=>by rw[hD];exact hy)) (fun r hr=>by rw[List.mem_singleton]at hr;subst hr;exact⟨by omega,_,hl,rfl⟩)) ((World.putObj_heap_other (by omega)).trans hk)
end
end
section
open Go.ChangeShapes Go.WideShapes Go.ChangeAt Go.RowKit
abbrev cM (x:ak):List Value:=[.int .i64 x.dir,.string (bs x.name),.int .i64 x.no,.int .i64 x.depth]
def eu (l:List ak):List Value:=l.flatMap cM
theorem ju (l:List ak):(eu l).length=l.length*4:=by
 unfold eu
 induction l with
 | nil=>rfl
 | cons x l ih=>rw[List.flatMap_cons,List.length_append,ih];simp;omega
theorem lF (a b:List ak):eu (a++b)=eu a++eu b:=by unfold eu;rw[List.flatMap_append]
theorem oC (l:List ak):∀k,(h:k<l.length)->∀j,j<4->(eu l)[k*4+j]?=(cM l[k])[j]?:=by
 induction l with
 | nil=>intro k h;cases h
 | cons x l ih =>
  intro k h j hj;have e:eu (x::l)=cM x++eu l:=rfl;rw [e]
  cases k with
  | zero =>
   simp only[Nat.zero_mul,Nat.zero_add,List.getElem_cons_zero];rw [List.getElem?_append_left (by simpa using hj)]
  | succ k =>
   have:=ih k (by simpa using h) j hj;rw [List.getElem?_append_right (by simp;omega)];simp only[List.length_cons,List.length_nil,List.getElem_cons_succ];rw [show (k+1)*4+j-(0+1+1+1+1)=k*4+j by omega];exact this
theorem qO (x:ak):∀u∈cM x,u.oneCell'=true:=by
 intro u hu;simp only[List.mem_cons,List.not_mem_nil,or_false]at hu;rcases hu with rfl|rfl|rfl|rfl<;>rfl
theorem vL (l:List ak):∀u∈eu l,u.oneCell'=true:=by
 intro u hu;unfold eu at hu;rw [List.mem_flatMap]at hu;obtain ⟨x,_,hx⟩:=hu;exact qO x u hx
theorem Kq:(Tryz.prog.info? 50).map (fun i=>(i.zero,i.size,i.bytes))=some (some (.agg #[.int .i64 0,.string ⟨#[]⟩,.int .i64 0,.int .i64 0]),4,40):=by kernel_rfl
theorem qP:(Tryz.prog.info? 50).map (·.size)=some 4:=by kernel_rfl
def dI (w:World) (base:Nat) (v:Value) (l:List ak):Prop:=w.ownsRow base 50 4 v l.length (eu l)
theorem dI.nil (w:World) (base:Nat):dI w base (.slice none 0 0) []:=World.ownsRow_nil _ _ _ _
def pU (w:World) (A:Option Addr) (l:List ak):Prop:=
 l = []\/∃b o,A=some ⟨b,o,none⟩/\b<w.heap.size/\∀k,(h:k<l.length)->∀j,j<4->w.cell? ⟨b,o+k*4+j,none⟩=(cM l[k])[j]?
theorem pU.ext {w w':World} {A:Option Addr} {l:List ak} (h:pU w A l) (k:Ext w w'):pU w' A l:=by
 rcases h with h|⟨b,o,hA,hb,hc⟩
 ·exact .inl h
 ·exact .inr ⟨b,o,hA,by have:=k.size;omega,fun i hi j hj=>(k.cell hb).trans (hc i hi j hj)⟩
theorem dI.cases {w:World} {base:Nat} {v:Value} {l:List ak} (h:dI w base v l) :
  (v=.slice none 0 0/\l=[])\/∃g cap cur,v=.slice (some ⟨g,0,none⟩) l.length cap/\base<=g/\Has w g (.cells cur 50)/\l.length<=cap/\cap<=maxLen/\∀k,(h:k<l.length)->∀j,j<4->w.cell? ⟨g,k*4+j,none⟩=(cM l[k])[j]?:=by
 rcases h.2 with⟨e,h0⟩|⟨g,cap,cur,rfl,hb,hg,hn,hm,hs,ht⟩
 ·exact .inl ⟨e,List.eq_nil_of_length_eq_zero h0⟩
 ·refine .inr ⟨g,cap,cur,rfl,hb,hg,hn,hm,fun k hk j hj=>?_⟩
  have:=World.ownsRow.cellAt h (k*4+j) (by omega);rw [this];exact oC l k hk j hj
theorem dI.at_ {w:World} {base:Nat} {v:Value} {l:List ak} (h:dI w base v l):∃A cap,v=.slice A l.length cap/\l.length<=cap/\cap<=maxLen/\pU w A l/\(A=none->cap=0):=by
 rcases h.cases with⟨rfl,rfl⟩|⟨g,cap,cur,rfl,hb,hg,hn,hm,hc⟩
 ·exact⟨none,0,rfl,Nat.le_refl _,by decide,.inl rfl,fun _=>rfl⟩
 ·exact⟨_,cap,rfl,hn,hm,.inr ⟨g,0,rfl,hg.lt,fun k hk j hj=>by rw[Nat.zero_add];exact hc k hk j hj⟩,fun e=>by cases e⟩
theorem dI.ext {w w':World} {base:Nat} {v:Value} {l:List ak} (h:dI w base v l) (k:Ext w w'):dI w' base v l:=World.ownsRow.kept h k.grownBy (by cases v.ownBlock<;>simp)
theorem dI.only {w w':World} {base:Nat} {v:Value} {l:List ak} {L:List Nat} (h:dI w base v l) (o:Only L w w') (hn:∀g,v.ownBlock=some g->g∉L):dI w' base v l:=au h o hn
theorem dI.base {w:World} {base base':Nat} {v:Value} {l:List ak} (h:dI w base v l) (hb:base'<=base):dI w base' v l:=by
 refine ⟨h.1,?_⟩;rcases h.2 with e|⟨g,cap,cur,hv,hg,rest⟩
 ·exact .inl e
 ·exact .inr ⟨g,cap,cur,hv,by omega,rest⟩
theorem dI.pop {w:World} {base:Nat} {g cap:Nat} {l:List ak} {x:ak} (h:dI w base (.slice (some ⟨g,0,none⟩) (l++[x]).length cap) (l++[x])):dI w base (.slice (some ⟨g,0,none⟩) l.length cap) l:=by
 refine ⟨by rw[ju],?_⟩;rcases h.2 with⟨e,_⟩|⟨g',cap',cur,hv,hb,hg,hn,hm,hs,ht⟩
 ·cases e
 ·injection hv with h1 h2 h3
  injection h1 with h1;injection h1 with h1;subst h1;subst h3;refine .inr ⟨g,cap,cur,rfl,hb,hg,by rw[List.length_append]at hn;omega,hm,hs,?_⟩;have e:cur.toList.take (l.length*4)=(cur.toList.take ((l++[x]).length*4)).take (l.length*4):=by rw[List.take_take];congr 1;rw[List.length_append];omega
  rw [e,ht,lF,List.take_left' (ju l)]
theorem dI.lt {w:World} {base:Nat} {v:Value} {l:List ak} (h:dI w base v l) {g:Nat} (hv:v.ownBlock=some g):base<=g/\g<w.heap.size:=World.ownsRow.lt h g hv
theorem GD (w:World) {base:Nat} {v:Value} {l:List ak} (h:dI w base v l) (hb:base<=w.heap.size) (l2:List ak) (bb o c2:Nat) (h2:∀k,(h:k<l2.length)->∀j,j<4->w.cell? ⟨bb,o+k*4+j,none⟩=(cM l2[k])[j]?)
  (hl:l.length<=2000000) (qd:l2.length<=1000000) :
  ∃ v' w',(Builtin.append_ #[42,42] 42 #[v,.slice (some ⟨bb,o,none⟩) l2.length c2]).run Tryz.prog w=.ok v' w'/\dI w' base v' (l++l2)/\w.grownBy w' v.ownBlock/\(v'.ownBlock=v.ownBlock\/v'.ownBlock=some w.heap.size):=by
 obtain ⟨i0,hi,hz0,hz1,hz2⟩:=info_parts Kq;obtain ⟨v',w',hr,h3,h4,_,h5⟩:=run_append_own_at (P:=Tryz.prog) (w:=w) base 42 42 50 i0 (.agg #[.int .i64 0,.string ⟨#[]⟩,.int .i64 0,.int .i64 0]) 4 40 Tryz.underlying42 hi hz0 hz1 hz2 rfl (by decide) v l.length _ h ⟨bb,o,none⟩ l2.length c2 (eu l2) (ju l2)
  (by
   intro j u hu;rw [Addr.add_lit];have hj:j<l2.length*4:=by
    rcases Nat.lt_or_ge j (l2.length*4) with h'|h'
    ·exact h'
    ·rw[List.getElem?_eq_none (by rw[ju];exact h')]at hu;cases hu
   have hk:j / 4<l2.length:=by omega
   have e:j=j / 4*4+j % 4:=by omega
   have a:=oC l2 (j / 4) hk (j % 4) (by omega);rw [<-e,hu]at a;have b:=h2 (j / 4) hk (j % 4) (by omega);rw [Nat.add_assoc,<-e]at b;rw [b,<-a])
  (vL l2) (by unfold maxLen;omega) (by omega) hb
 refine ⟨v',w',hr,?_,h4,h5⟩;unfold dI;rw [lF,List.length_append];exact h3
theorem uf (w:World) {base:Nat} {v:Value} {l:List ak} (h:dI w base v l) (hb:base<=w.heap.size) (x:ak) (hl:l.length<=2000000) :
  ∃ v' w',(Builtin.append_ #[42,42] 42 #[v,.slice (some ⟨w.heap.size,0,none⟩) 1 1]).run Tryz.prog (w.alloc (.cells (cM x).toArray 50))=.ok v' w'/\dI w' base v' (l++[x])/\(w.alloc (.cells (cM x).toArray 50)).grownBy w' v.ownBlock/\(v'.ownBlock=v.ownBlock\/v'.ownBlock=some (w.heap.size+1)):=by
 have hN:=Has.new w (.cells (cM x).toArray 50);have E:Ext w (w.alloc (.cells (cM x).toArray 50)):=(Ext.refl _).alloc _;obtain ⟨v',w',hr,h3,h4,h5⟩:=GD (w.alloc (.cells (cM x).toArray 50)) (h.ext E) (by simp;omega) [x] w.heap.size 0 1
  (fun k hk j hj=>by
   have:k=0:=by simpa using hk
   subst this;rw [show 0+0*4+j=j by omega];have:=hN.cell j;rw [this];simp) hl (by simp)
 exact ⟨v',w',hr,h3,h4,by rw[World.size_alloc]at h5;exact h5⟩
theorem Only.of_grownBy {w w':World} {v:Value} {L:List Nat} (h:w.grownBy w' v.ownBlock) (hL:∀g,v.ownBlock=some g->g∈L):Only L w w':=
 ⟨h.os,h.tape,h.output,h.size,fun k hk hn=>h.block k hk fun e=>hn (hL k e.symm)⟩
theorem Has.EE {w:World} {b:Nat} {t:TypeId} {x:ak} (y:ak) (h:Has w b (.cells (cM x).toArray t)):Has (w.setCells b 0 (cM y)) b (.cells (cM y).toArray t):=by
 have h0:=Has.setCell h 0 (.int .i64 y.dir);have h1:=Has.setCell h0 1 (.string (bs y.name));have h2:=Has.setCell h1 2 (.int .i64 y.no);have h3:=Has.setCell h2 3 (.int .i64 y.depth);exact h3
theorem pV {ops:Array Oper} {rest:List Oper} {op:Oper} {a:Act} {w:World} {Q:Exit->Act->World->Prop} (hgd:op.guard=none) (x y:Operand) (ho:op.op=.store 50 x y)
  (b:Nat) (d d':ak) (hx:a.eval x=.pointer (some ⟨b,0,none⟩)) (hy:a.eval y=.agg (cM d').toArray) (hb:Has w b (.cells (cM d).toArray 50))
  (h:∀w',Has w' b (.cells (cM d').toArray 50)->Only [b] w w'->wpList Tryz.prog ops Q rest (a.put op.dst undef) w'):wpList Tryz.prog ops Q (op::rest) a w:=by
 refine wpList_store_mid hgd 50 x y ho b 0 (cM d').toArray hx hy hb.there qP (all_oneCell_toArray (cs:=cM d') (qO d')) ?_;exact h _ (hb.EE d') (cG (cM d') 0 w)
theorem Kr {fn:Func} {p t:Tmp} (h:fn.results=#[.cell p 50,.tmp t]) (tmps:Array Value) (w:World) (g:Nat) (d:ak) (v:Value)
  (hp:tmps.getD p undef=.pointer (some ⟨g,0,none⟩)) (hv:tmps.getD t undef=v) (hg:Has w g (.cells (cM d).toArray 50)) :
  (results fn tmps).run Tryz.prog w=.ok (.tuple #[.agg (cM d).toArray,v]) w:=
 j8 h tmps w g 50 _ _ v hp hv hg Tryz.underlying50 rfl qP
def sa (s:az) (cu cg:Int) (x:ak):Int:=dH s (gj s.t cu cg x)
def Dc (s:az) (cu cg:Int) (x:ak):List ak:=nP s (gp s.t cu cg x)
def Qj (w:World) (L:List ak) (x:Int) (e:Ending) (w':World):Prop:=∃v,e=.returned (.tuple #[v,.int .i64 x])/\dI w' w.heap.size v L/\Ext w w'
theorem GF {S:aa} {cu cg:Int} {x:ak} (h:gj S cu cg x≠0):gp S cu cg x=[]:=by
 unfold gp;rw[if_neg (fun k=>h k.1)]
theorem Dd {S:aa} {cu cg:Int} {x:ak} (h:(ac S.nodes x.no).kind≠1):gp S cu cg x=[]:=by
 unfold gp;rw[if_neg (fun k=>h k.2)]
theorem Ol {s:az} {cu cg:Int} {x:ak} (h:sa s cu cg x≠0):Dc s cu cg x=[]:=by
 unfold sa dH at h;unfold Dc nP;split
 ·rfl
 ·rename_i hd;rw[if_neg hd]at h;exact GF h
def ic (s:az) (cu cg dir:Int) (nm:List UInt8):ak:=⟨dir,nm,Qi s (kH s.t cu cg dir nm),0⟩
def jr (s:az) (cu cg dir:Int) (nm:List UInt8):Int:=dH s (iz s.t cu cg dir nm)
section
variable {s:az} {cu cg:Int} {x:ak}
theorem eS (s:az) (no:Int):(dH s (cC s.t no)=0/\s.dead=false/\aK s.t.nodes no=true)\/(dH s (cC s.t no)≠0/\(s.dead=true\/(s.dead=false/\aK s.t.nodes no=false))):=by
 unfold dH cC
 cases hd:s.dead
 ·rw [if_neg (by decide)]
  cases hi:aK s.t.nodes no
  ·exact .inr ⟨by decide,.inr ⟨rfl,rfl⟩⟩
  ·exact .inl ⟨rfl,rfl,rfl⟩
 ·rw[if_pos rfl];exact .inr ⟨by decide,.inl rfl⟩
theorem Sd (h:dH s (cC s.t x.no)≠0):sa s cu cg x=dH s (cC s.t x.no):=by
 rcases eS s x.no with⟨h1,_⟩|⟨_,hd|⟨hd,hi⟩⟩
 ·exact absurd h1 h
 ·unfold sa dH;rw[if_pos hd,if_pos hd]
 ·unfold sa dH gj cC;rw[hi,if_pos rfl];rfl
theorem Sg (h1:dH s (cC s.t x.no)=0) (h:dH s (cC s.t x.dir)≠0):sa s cu cg x=dH s (cC s.t x.dir):=by
 rcases eS s x.no with⟨_,hd,hi⟩|⟨h2,_⟩
 case inr=>exact absurd h1 h2
 rcases eS s x.dir with⟨h2,_⟩|⟨_,vc|⟨_,oh⟩⟩
 ·exact absurd h2 h
 ·rw[hd]at vc;cases vc
 ·unfold sa dH gj cC;rw[hi,oh,if_neg (show ¬true=false by decide),if_pos rfl];rfl
theorem Sh (h1:dH s (cC s.t x.no)=0) (h2:dH s (cC s.t x.dir)=0) (h:(ue s (ac s.t.nodes x.no)).dev≠(ue s (ac s.t.nodes x.dir)).dev):sa s cu cg x=16:=by
 rcases eS s x.no with⟨_,hd,hi⟩|⟨k,_⟩
 case inr=>exact absurd h1 k
 rcases eS s x.dir with⟨_,_,oh⟩|⟨k,_⟩
 case inr=>exact absurd h2 k
 unfold ue at h;rw [if_neg (by rw[hd];decide),if_neg (by rw[hd];decide)]at h;unfold sa dH gj;rw [hi,oh,if_neg (by rw[hd];decide),if_neg (by decide),if_neg (by decide),if_pos h]
theorem Om (h1:dH s (cC s.t x.no)=0) (h2:dH s (cC s.t x.dir)=0) (h:(ue s (ac s.t.nodes x.no)).dev=(ue s (ac s.t.nodes x.dir)).dev) (hk:(ue s (ac s.t.nodes x.no)).kind≠1):sa s cu cg x=0/\Dc s cu cg x=[]:=by
 rcases eS s x.no with⟨_,hd,hi⟩|⟨k,_⟩
 case inr=>exact absurd h1 k
 rcases eS s x.dir with⟨_,_,oh⟩|⟨k,_⟩
 case inr=>exact absurd h2 k
 unfold ue at h hk;rw [if_neg (by rw[hd];decide)]at h hk;rw [if_neg (by rw[hd];decide)]at h;unfold sa Dc dH nP;rw [if_neg (by rw[hd];decide),if_neg (by rw[hd];decide)];refine ⟨?_,Dd hk⟩;unfold gj;rw [hi,oh,if_neg (by decide),if_neg (by decide),if_neg (fun k=>k h),if_pos hk]
theorem Oo (h1:dH s (cC s.t x.no)=0) (h2:dH s (cC s.t x.dir)=0) (h:(ue s (ac s.t.nodes x.no)).dev=(ue s (ac s.t.nodes x.dir)).dev) (hk:¬(ue s (ac s.t.nodes x.no)).kind≠1) :
  sa s cu cg x=dH s (bf s.t cu cg x.no 1 4)/\(dH s (bf s.t cu cg x.no 1 4)=0->Dc s cu cg x=(nP s (dn s.t (aT s.t cu cg x.no 1 4).af)).map (iW x)):=by
 rcases eS s x.no with⟨_,hd,hi⟩|⟨k,_⟩
 case inr=>exact absurd h1 k
 rcases eS s x.dir with⟨_,_,oh⟩|⟨k,_⟩
 case inr=>exact absurd h2 k
 unfold ue at h hk;rw [if_neg (by rw[hd];decide)]at h hk;rw [if_neg (by rw[hd];decide)]at h;have hE:gj s.t cu cg x=bf s.t cu cg x.no 1 4:=by
  unfold gj;rw [hi,oh,if_neg (by decide),if_neg (by decide),if_neg (fun k=>k h),if_neg hk]
 unfold sa Dc dH nP;rw [if_neg (by rw[hd];decide),if_neg (by rw[hd];decide),if_neg (by rw[hd];decide),if_neg (by rw[hd];decide)];refine ⟨hE,fun h0=>?_⟩;unfold gp;rw [if_pos ⟨hE.trans h0,Decidable.not_not.1 hk⟩];unfold aT;rw [if_pos h0]
end
section
variable {c:Nat} {w:World} {B b:Nat} {g:bJ} {s:az}
theorem PS.first (h:PS w B b g s) (hs:fJ c s) (hc:c<=900) (cu cg dir:Int) (nm:List UInt8) :
  Calls Tryz.prog 70 #[.pointer (some ⟨b,0,none⟩),.agg #[cu,cg],.int .i64 dir,bs nm] w (aH w (.tuple #[.agg (cM (ic s cu cg dir nm)).toArray,.int .i64 (jr s cu cg dir nm)])):=by
 obtain ⟨W0,aY⟩:∃W,W=(w.alloc (.cells #[cu,cg] 27)).alloc (.cells #[.int .i64 0,.string ⟨#[]⟩,.int .i64 0,.int .i64 0] 50):=⟨_,rfl⟩;obtain ⟨b5,kF⟩:∃b,b=w.heap.size:=⟨_,rfl⟩;obtain ⟨b8,fP⟩:∃b,b=w.heap.size+1:=⟨_,rfl⟩;have E0:Ext w W0:=by rw[aY];exact ((Ext.refl _).alloc _).alloc _
 have R0:Has W0 b8 (.cells (cM jA).toArray 50):=by rw[aY,fP];have:=Has.new (w.alloc (.cells #[cu,cg] 27)) (.cells #[.int .i64 0,.string ⟨#[]⟩,.int .i64 0,.int .i64 0] 50);rw[World.size_alloc]at this;exact this
 have C0:Has W0 b5 (.cells #[cu,cg] 27):=by rw[aY,kF];exact (Has.new w _).alloc _
 have uY:w.heap.size<=b8:=by omega
 have KL:=zH ((h.ext E0).look hs hc cu cg dir nm);obtain⟨y,hy⟩:=aq (Qi s (kH s.t cu cg dir nm));obtain⟨z,hz⟩:=aq (dH s (iz s.t cu cg dir nm));unfold ic jr;rw [<-hy,<-hz]at KL|-;have c0:=C0.cell 0;have c1:=C0.cell 1;have cz:=C0.lt;clear h hs hy hz;go_enter Tryz.func70,Tryz.ntmps70;go_upto_region 1 with fail;rw [show (w.alloc _).alloc _=W0 from aY.symm,<-fP,<-kF];clear aY kF fP;go_wp2_with fail;refine KL.out.mono ?_;rintro e w1 ⟨rfl,b1⟩;have R1:=R0.ext b1;have E1:=E0.trans b1;clear c0 c1 cz KL;go_upto_region 3 with fail;obtain ⟨W2,du⟩:∃W,W=w1.alloc (.cells #[.int .i64 dir,bs nm,.int .i64 y,.int .i64 0] 50):=⟨_,rfl⟩;obtain ⟨b2,hb2⟩:∃b,b=w1.heap.size:=⟨_,rfl⟩;have N2:Has W2 b2 (.cells #[.int .i64 dir,bs nm,.int .i64 y,.int .i64 0] 50):=by rw[du,hb2];exact Has.new _ _
 have R2:Has W2 b8 (.cells (cM jA).toArray 50):=by rw[du];exact R1.alloc _
 have E2:Ext w W2:=by rw[du];exact E1.alloc _
 rw [<-du,<-hb2];have n0:=N2.cell 0;have n1:=N2.cell 1;have n2:=N2.cell 2;have n3:=N2.cell 3;have nz:=N2.lt;clear du hb2 R1 E1;go_wp2_with (refine pV rfl _ _ rfl b8 jA ⟨dir,nm,y,0⟩ rfl rfl R2 ?_;intro w9 R9 O9);refine bodyPost_ret (v:=.tuple #[.agg (cM ⟨dir,nm,y,0⟩).toArray,.int .i64 z]) (Kr Tryz.results70 _ _ b8 ⟨dir,nm,y,0⟩ _ rfl rfl R9) rfl ?_;exact ⟨rfl,O9.after E2 (by simpa using uY)⟩
theorem PS.into (h:PS w B b g s) (hs:fJ c s) (hc:c<=900) (cu cg:Int) (x:ak) (hx0:0<=x.depth) (hx1:x.depth<=1000000) :
  Calls Tryz.prog 71 #[.pointer (some ⟨b,0,none⟩),.agg #[cu,cg],.agg #[.int .i64 x.dir,bs x.name,x.no,.int .i64 x.depth]] w (Qj w (Dc s cu cg x) (sa s cu cg x)):=by
 obtain ⟨W0,aY⟩:∃W,W=(w.alloc (.cells #[cu,cg] 27)).alloc (.cells #[.int .i64 x.dir,bs x.name,x.no,.int .i64 x.depth] 50):=⟨_,rfl⟩;obtain ⟨b4,ug⟩:∃b,b=w.heap.size:=⟨_,rfl⟩;obtain ⟨b5,kF⟩:∃b,b=w.heap.size+1:=⟨_,rfl⟩;have E0:Ext w W0:=by rw[aY];exact ((Ext.refl _).alloc _).alloc _
 have X0:Has W0 b5 (.cells #[.int .i64 x.dir,bs x.name,x.no,.int .i64 x.depth] 50):=by rw[aY,kF];have:=Has.new (w.alloc (.cells #[cu,cg] 27)) (.cells #[.int .i64 x.dir,bs x.name,x.no,.int .i64 x.depth] 50);rw[World.size_alloc]at this;exact this
 have C0:Has W0 b4 (.cells #[cu,cg] 27):=by rw[aY,ug];exact (Has.new w _).alloc _
 have h0:=h.ext E0;obtain ⟨e1,qf⟩:∃e,e=dH s (cC s.t x.no):=⟨_,rfl⟩;obtain ⟨e2,rA⟩:∃e,e=dH s (cC s.t x.dir):=⟨_,rfl⟩;obtain ⟨e3,Hj⟩:∃e,e=dH s (bf s.t cu cg x.no 1 4):=⟨_,rfl⟩;obtain ⟨m1,i6⟩:∃m,m=ue s (ac s.t.nodes x.no):=⟨_,rfl⟩;obtain ⟨m2,cF⟩:∃m,m=ue s (ac s.t.nodes x.dir):=⟨_,rfl⟩;obtain⟨L,hL⟩:=aq (nP s (dn s.t (aT s.t cu cg x.no 1 4).af));have Qk:L.length<=1000000:=by
  rw [hL];unfold nP;split
  ·simp
  ·rw[jo];have:=(hs.eD.aT cu cg x.no 1 4).2;omega
 have K1:Hid (∀u,Ext W0 u->Calls Tryz.prog 12 #[.pointer (some ⟨b,0,none⟩),x.no] u (aH u (.tuple #[fG m1,.int .i64 e1]))):=by
  show ∀u,_;intro u hu;rw [i6,qf];exact (h0.ext hu).stat hs x.no
 have K2:Hid (∀u,Ext W0 u->Calls Tryz.prog 12 #[.pointer (some ⟨b,0,none⟩),.int .i64 x.dir] u (aH u (.tuple #[fG m2,.int .i64 e2]))):=by
  show ∀u,_;intro u hu;rw [cF,rA];exact (h0.ext hu).stat hs x.dir
 have K3:Hid (∀u,Ext W0 u->Calls Tryz.prog 105 #[.pointer (some ⟨b,0,none⟩),.agg #[cu,cg],x.no] u (Et u L e3)):=by
  show ∀u,_;intro u hu;rw [hL,Hj];exact (h0.ext hu).list hs hc cu cg x.no
 have N1:Hid (e1≠0->sa s cu cg x=e1):=fun k=>by rw[qf]at k|-;exact Sd k
 have N2:Hid (e1=0->e2≠0->sa s cu cg x=e2):=fun k1 k2=>by rw[qf]at k1;rw[rA]at k2|-;exact Sg k1 k2
 have N3:Hid (e1=0->e2=0->m1.dev≠m2.dev->sa s cu cg x=16):=fun k1 k2 k3=>by rw[qf]at k1;rw[rA]at k2;rw[i6,cF]at k3;exact Sh k1 k2 k3
 have N4:Hid (e1=0->e2=0->m1.dev=m2.dev->m1.kind≠1->sa s cu cg x=0/\Dc s cu cg x=[]):=fun k1 k2 k3 k4=>by rw[qf]at k1;rw[rA]at k2;rw[i6,cF]at k3;rw[i6]at k4;exact Om k1 k2 k3 k4
 have N5:Hid (e1=0->e2=0->m1.dev=m2.dev->¬m1.kind≠1->sa s cu cg x=e3/\(e3=0->Dc s cu cg x=L.map (iW x))):=fun k1 k2 k3 k4=>by rw[qf]at k1;rw[rA]at k2;rw[i6,cF]at k3;rw[i6]at k4;rw[Hj,hL];exact Oo k1 k2 k3 k4
 have NE:Hid (sa s cu cg x≠0->Dc s cu cg x=[]):=fun k=>Ol k
 obtain ⟨IE,hIE⟩:∃e,e=sa s cu cg x:=⟨_,rfl⟩;obtain ⟨IL,hIL⟩:∃e,e=Dc s cu cg x:=⟨_,rfl⟩;rw [<-hIE]at N1 N2 N3 N4 N5 NE|-;rw [<-hIL]at N4 N5 NE|-;have c0:=C0.cell 0;have c1:=C0.cell 1;have cz:=C0.lt;have x0:=X0.cell 0;have x1:=X0.cell 1;have x2:=X0.cell 2;have x3:=X0.cell 3;have xz:=X0.lt;simp only[gA,gB,gC]at x0 x1 x2 x3;clear h h0 hs qf rA Hj i6 cF hL hIE hIL;go_enter Tryz.func71,Tryz.ntmps71;go_upto_region 1 with fail;rw [show (w.alloc _).alloc _=W0 from aY.symm,<-kF,<-ug];clear aY ug kF;unfold fG at K1 K2;go_wp2_with fail;refine (K1.out _ (Ext.refl _)).mono ?_;rintro e w1 ⟨rfl,b1⟩;clear c0 c1 cz x0 x1 x2 x3 xz K1;go_upto_region 2 with fail;obtain ⟨W1,bV⟩:∃W,W=w1.alloc (.cells #[m1.no,m1.dev,m1.kind,m1.mode,m1.uid,m1.gid,m1.ah,.int .i64 m1.data.length,m1.mtime,m1.ctime] 46):=⟨_,rfl⟩;obtain ⟨b8,fP⟩:∃b,b=w1.heap.size:=⟨_,rfl⟩;have S1:Has W1 b8 (.cells #[m1.no,m1.dev,m1.kind,m1.mode,m1.uid,m1.gid,m1.ah,.int .i64 m1.data.length,m1.mtime,m1.ctime] 46):=by rw[bV,fP];exact Has.new _ _
 have E1:Ext W0 W1:=by rw[bV];exact b1.alloc _
 rw [<-bV,<-fP];clear bV fP b1;have x0:=(X0.ext E1).cell 0;have xz:=(X0.ext E1).lt;simp only[gA,gB]at x0;go_wp2_with fail;refine (K2.out _ E1).mono ?_;rintro e w2 ⟨rfl,b2⟩;clear x0 xz K2;go_upto_region 3 with fail;obtain ⟨W2,du⟩:∃W,W=w2.alloc (.cells #[m2.no,m2.dev,m2.kind,m2.mode,m2.uid,m2.gid,m2.ah,.int .i64 m2.data.length,m2.mtime,m2.ctime] 46):=⟨_,rfl⟩;obtain ⟨jb,jC⟩:∃b,b=w2.heap.size:=⟨_,rfl⟩;have S2:Has W2 jb (.cells #[m2.no,m2.dev,m2.kind,m2.mode,m2.uid,m2.gid,m2.ah,.int .i64 m2.data.length,m2.mtime,m2.ctime] 46):=by rw[du,jC];exact Has.new _ _
 have S1':Has W2 b8 (.cells #[m1.no,m1.dev,m1.kind,m1.mode,m1.uid,m1.gid,m1.ah,.int .i64 m1.data.length,m1.mtime,m1.ctime] 46):=by rw[du];exact (S1.ext b2).alloc _
 have E2:Ext W0 W2:=by rw[du];exact (E1.trans b2).alloc _
 rw [<-du,<-jC];clear du jC b2 S1 E1
 by_cases k1:e1=0
 case neg =>
  have t1:(e1 != 0)=true:=by simpa using k1
  have HK:=zH k1;have H1:=zH (N1.out k1);clear k1;go_wp2_with fail;go_ret2;have hz:IL=[]:=NE.out (by rw[H1.out];exact HK.out);exact ⟨.slice none 0 0,by rw[H1.out];rfl,by rw[hz];exact dI.nil _ _,E0.trans E2⟩
 have Ke:=zH k1
 by_cases k2:e2=0
 case neg =>
  have t1:(e1 != 0)=false:=by simpa using k1
  have t2:(e2 != 0)=true:=by simpa using k2
  have HK:=zH k2;have H1:=zH (N2.out k1 k2);clear k1 k2;go_wp2_with fail;go_ret2;have hz:IL=[]:=NE.out (by rw[H1.out];exact HK.out);exact ⟨.slice none 0 0,by rw[H1.out];rfl,by rw[hz];exact dI.nil _ _,E0.trans E2⟩
 have MR:=zH k2;have t1:(e1 != 0)=false:=by simpa using k1
 have t2:(e2 != 0)=false:=by simpa using k2
 clear k1 k2;have y1:=S1'.cell 1;have y2:=S1'.cell 2;have yz:=S1'.lt;have z1:=S2.cell 1;have zz:=S2.lt
 by_cases k3:m1.dev=m2.dev
 case neg =>
  have t3:(m1.dev != m2.dev)=true:=by simpa using k3
  have H1:=zH (N3.out Ke.out MR.out k3);clear k3;go_wp2_with fail;go_ret2;have hz:IL=[]:=NE.out (by rw[H1.out];decide);exact ⟨.slice none 0 0,by rw[H1.out];rfl,by rw[hz];exact dI.nil _ _,E0.trans E2⟩
 have t3:(m1.dev != m2.dev)=false:=by simpa using k3
 have MG:=zH k3;clear k3
 by_cases k4:m1.kind=1
 case neg =>
  have t4:(m1.kind != 1)=true:=by simpa using k4
  have H1:=zH (N4.out Ke.out MR.out MG.out k4);clear k4;go_wp2_with fail;go_ret2;exact ⟨.slice none 0 0,by rw[H1.out.1];rfl,by rw[H1.out.2];exact dI.nil _ _,E0.trans E2⟩
 have t4:(m1.kind != 1)=false:=by simpa using k4
 have H5:=zH (N5.out Ke.out MR.out MG.out (fun k=>k k4));clear k4;have c0:=(C0.ext E2).cell 0;have c1:=(C0.ext E2).cell 1;have cz:=(C0.ext E2).lt;have x2:=(X0.ext E2).cell 2;have xz:=(X0.ext E2).lt;simp only[gA,gB,gC]at x2;go_wp2_with fail;refine (K3.out _ E2).mono ?_;rintro e w3 ⟨A,cap,rfl,⟨hat,_⟩,b3⟩;clear c0 c1 cz x2 xz K3 t1 t2 t3 t4 y1 y2 yz z1 zz
 by_cases k5:e3=0
 case neg =>
  have t5:(e3 != 0)=true:=by simpa using k5
  have HK:=zH k5;clear k5;go_wp2_with fail;go_ret2;have hz:IL=[]:=NE.out (by rw[H5.out.1];exact HK.out);exact ⟨.slice none 0 0,by rw[H5.out.1];rfl,by rw[hz];exact dI.nil _ _,E0.trans (E2.trans b3)⟩
 have t5:(e3 != 0)=false:=by simpa using k5
 have HZ:=zH k5;have HIL:=zH (H5.out.2 k5);clear k5;obtain⟨n,hn⟩:=aq L.length;rw [<-hn]at Qk|-;have HN:=zH hn;have Ql:=zH (E0.trans (E2.trans b3));have X3:=X0.ext (E2.trans b3);have Qm:=zH X3;have hsz:w.heap.size<=w3.heap.size:=Ql.out.size;have My:=zH hat;clear hn hat X3;go_wp2_with fail;go_loopw [13,61] (fun vo vi wr=>∃k:Nat,vi=.int .i64 k/\k<=n/\dI wr w3.heap.size vo ((L.take k).map (iW x))/\Ext w3 wr) (fun _ vi _=>n-(intOf vi).toNat)
 case atStart=>exact⟨0,rfl,Nat.zero_le _,dI.nil _ _,Ext.refl _⟩
 case round =>
  obtain ⟨k,rfl,hk,hO,hE⟩:=hrel
  by_cases hlt:(k:Int)<n
  ·have dh:k<L.length:=by have:=HN.out;omega
   obtain ⟨ba,o,rfl,yX,ea,eb⟩:=(My.out.ext hE).lt0 dh;have lM:Hid ((L.take (k+1)).map (iW x)=(L.take k).map (iW x)++[iW x L[k]]):=by
    show _=_;rw [List.take_succ_eq_append_getElem dh,List.map_append];rfl
   have hlk:((L.take k).map (iW x)).length<=1000000:=by rw[List.length_map,List.length_take];omega
   obtain⟨y,hy⟩:=aq (L[k]);rw [<-hy]at ea eb lM;obtain ⟨yn,yo⟩:=y;have q0:(0:Int)<=(k:Int):=Int.natCast_nonneg _;have w3w:IntKind.i64.wrap ((k:Int)+1)=(k:Int)+1:=IntWalk.i64_in _ (by omega);have wdw:IntKind.i64.wrap (x.depth+1)=x.depth+1:=IntWalk.i64_in _ (by omega);obtain ⟨W5,lj⟩:∃W,W=wr.alloc (.cells #[bs yn,.int .i64 yo] 106):=⟨_,rfl⟩;obtain ⟨mP,qG⟩:∃b,b=wr.heap.size:=⟨_,rfl⟩;have Yv:Has W5 mP (.cells #[bs yn,.int .i64 yo] 106):=by rw[lj,qG];exact Has.new _ _
   have E5:Ext wr W5:=by rw[lj];exact (Ext.refl _).alloc _
   clear hy;go_upto_region 18 with fail;rw [<-lj,<-qG];clear lj qG ea eb yX;have aas:w3.heap.size<=W5.heap.size:=by have:=hE.size;have:=E5.size;omega
   obtain ⟨v',w',hr,Db,hg,_⟩:=uf W5 (hO.ext E5) aas ⟨x.no,yn,yo,x.depth+1⟩ (by omega);have HR:=zH hr;have X5:=Qm.out.ext (hE.trans E5);have x2:=X5.cell 2;have x3:=X5.cell 3;have xz:=X5.lt;simp only[gA,gB,gC]at x2 x3;have n0:=Yv.cell 0;have n1:=Yv.cell 1;have nz:=Yv.lt;have HO:=zH Db;have HG:=zH hg;have HOW:=zH hO;have TJ:=zH hE;clear hr Db hg X5 Yv hO hE;go_wp2_with (at_builtin;refine Lib.wpList_append_run _ rfl _ _ 42 42 rfl _ _ rfl rfl _ _ HR.out ?_);go_roundw
   case rel=>exact⟨k+1,by go_num,by omega,by rw[lM.out];exact HO.out,((TJ.out.trans E5).alloc _).grown HG.out (fun g hv=>(HOW.out.lt hv).1)⟩
   case measure=>simp[intOf];omega
  ·have IX:k=L.length:=by have:=HN.out;omega
   have HOW:=zH hO;have TJ:=zH hE;have hf:Hid ((L.take k).map (iW x)=L.map (iW x)):=by show _=_;rw[IX,List.take_length]
   clear hO hE IX;go_wp2_with fail;go_ret2;exact ⟨_,by rw[H5.out.1,HZ.out];rfl,by rw[HIL.out,<-hf.out];exact HOW.out.base hsz,Ql.out.trans TJ.out⟩
end
end
section
structure Kids (S:aa):Prop where
 up:∀m∈S.nodes,∀x∈m.af,∀q∈S.nodes,q.no=x.2->q.kind=1->q.up=m.no
 once:∀m∈S.nodes,∀x∈m.af,∀y∈m.af,∀q∈S.nodes,q.no=x.2->q.kind=1->x.2=y.2->x=y
theorem qQ {S T:aa} (h:Kids S) {D N:Int} {nm:List UInt8}
  (hq:∀q∈T.nodes,q.kind=1->(∃q'∈S.nodes,q'.no=q.no/\q'.kind=1/\q'.up=q.up)\/(q.no=N/\q.up=D/\∀m∈S.nodes,∀y∈m.af,y.2≠N))
  (hm:∀m∈T.nodes,∀x∈m.af,(∃m'∈S.nodes,m'.no=m.no/\x∈m'.af)\/(m.no=D/\x=(nm,N)))
  (hN:∀q∈T.nodes,q.no=N->q.kind=1->q.up=D/\∀m∈S.nodes,∀y∈m.af,y.2≠N)
  (hu:aD S.nodes S.last):Kids T:=by
 have old:∀m'∈S.nodes,∀x∈m'.af,∀q∈T.nodes,q.no=x.2->q.kind=1->∃q'∈S.nodes,q'.no=x.2/\q'.kind=1/\q'.up=q.up:=by
  intro m' hm' x hx q NC e hk;rcases hq q NC hk with⟨q',h1,h2,h3,h4⟩|⟨h1,_,h3⟩
  ·exact⟨q',h1,h2.trans e,h3,h4⟩
  ·exact absurd (e.symm.trans h1) (h3 m' hm' x hx)
 refine ⟨fun m i6 x hx q NC e hk=>?_,fun m i6 x hx y hy q NC e hk TW=>?_⟩
 ·rcases hm m i6 x hx with⟨m',h1,h2,h3⟩|⟨h1,h2⟩
  ·obtain ⟨q',k1,k2,k3,k4⟩:=old m' h1 x h3 q NC e hk
   rw [<-k4,<-h2];exact h.up m' h1 x h3 q' k1 k2 k3
  ·rw [h1]
   exact (hN q NC (by rw[e,h2]) hk).1
 ·rcases hm m i6 x hx with⟨m',h1,h2,h3⟩|⟨h1,h2⟩
  ·rcases hm m i6 y hy with⟨m2,k1,k2,k3⟩|⟨k1,k2⟩
   ·have:m'=m2:=gw hu h1 k1 (h2.trans k2.symm)
    subst this;obtain ⟨q',j1,j2,j3,j4⟩:=old m' h1 x h3 q NC e hk;exact h.once m' h1 x h3 y k3 q' j1 j2 j3 TW
   ·have:=(hN q NC (by rw[e,TW,k2]) hk).2 m' h1 x h3
    rw [TW,k2]at this;exact absurd rfl this
  ·rcases hm m i6 y hy with⟨m2,k1,k2,k3⟩|⟨k1,k2⟩
   ·have:=(hN q NC (by rw[e,h2]) hk).2 m2 k1 y k3
    rw [<-TW,h2]at this;exact absurd rfl this
   ·rw[h2,k2]
theorem ny {S T:aa} (h:Kids S) (hu:aD S.nodes S.last)
  (hm:∀m∈T.nodes,∃m'∈S.nodes,m'.no=m.no/\(m.kind=1->m'.kind=1/\m'.up=m.up)/\∀x∈m.af,x∈m'.af):Kids T:=by
 refine qQ (D:=0) (N:=-1) (nm:=[]) h (fun q hq hk=>?_) (fun m i6 x hx=>?_) (fun q hq e hk=>?_) hu
 ·obtain ⟨m',h1,h2,h3,_⟩:=hm q hq
  exact .inl ⟨m',h1,h2,(h3 hk).1,(h3 hk).2⟩
 ·obtain ⟨m',h1,h2,_,h4⟩:=hm m i6
  exact .inl ⟨m',h1,h2,h4 x hx⟩
 ·obtain ⟨m',h1,h2,_⟩:=hm q hq
  have:=(hu.2 m' h1).1;omega
theorem qR {S:aa} (h:Kids S) (hu:aD S.nodes S.last) {no:Int} (hi:aK S.nodes no=true) {n:ai} (aU:n.no=no) (hk:n.kind=(ac S.nodes no).kind) (UQ:n.up=(ac S.nodes no).up) (he:∀x∈n.af,x∈(ac S.nodes no).af):Kids (aJ S n):=by
 refine ny h hu fun m hm=>?_
 rcases aM hm with⟨hm,_⟩|rfl
 ·exact⟨m,hm,rfl,fun hk=>⟨hk,rfl⟩,fun x hx=>hx⟩
 ·exact⟨_,(aj hi).2.2,(aj hi).2.1.trans aU.symm,fun jI=>⟨hk▸jI,UQ.symm⟩,he⟩
theorem qT {S:aa} {c:Nat} (hT:dC c S) (h:Kids S) (cu cg now dir:Int) (nm:List UInt8) (n:ai) (hn:n.af=[]) (hk:n.kind=1->n.up=dir):Kids (aW S cu cg now dir nm n):=by
 unfold aW;split
 case isFalse=>exact h
 rename_i h0;obtain ⟨h1,_,h3⟩:=eA h0;obtain ⟨p1,p2,_⟩:=aE h1;obtain ⟨_,aU,hmem⟩:=aj p1;have mD:(aQ S (bi S cu cg now dir n)).nodes=S.nodes++[{bi S cu cg now dir n with no:=S.last+1}]:=by unfold aQ;rw[if_pos h3]
 have hg:=fk hT.aC (bi S cu cg now dir n) p1;obtain ⟨N,hN⟩:∃N:ai,N={bi S cu cg now dir n with no:=S.last+1}:=⟨_,rfl⟩;have Ks:N.no=S.last+1:=by rw[hN]
 have hNe:N.af=[]:=by rw[hN];exact hn
 have hNk:N.kind=1->N.up=dir:=by rw[hN];exact hk
 rw [<-hN]at mD;obtain ⟨M,hM⟩:∃M:ai,M=eQ (aQ S (bi S cu cg now dir n)) dir now (dq (ac S.nodes dir).af (nm,S.last+1)):=⟨_,rfl⟩;have kO:M.no=dir:=by rw[hM];show (ac (aQ S _).nodes dir).no=dir;rw[hg.1];exact aU
 have Kt:M.up=(ac S.nodes dir).up:=by rw[hM];show (ac (aQ S _).nodes dir).up=_;rw[hg.1]
 have EF:M.af=dq (ac S.nodes dir).af (nm,S.last+1):=by rw[hM];rfl
 show Kids (aJ _ _);rw [<-hM];have mem:∀m∈(aJ (aQ S (bi S cu cg now dir n)) M).nodes,m∈S.nodes\/m=N\/m=M:=fun m hm=>by
  rcases aM hm with⟨hm,_⟩|rfl
  ·rw [mD]at hm
   rcases List.mem_append.1 hm with hm|hm
   ·exact .inl hm
   ·exact .inr (.inl (List.mem_singleton.1 hm))
  ·exact .inr (.inr rfl)
 have fresh:∀m∈S.nodes,∀y∈m.af,y.2≠S.last+1:=fun m hm y hy=>by have:=(hT.pos m hm y hy).2;omega
 have hle:∀m∈S.nodes,m.no≠S.last+1:=fun m hm=>by have:=(hT.aC.2 m hm).2;omega
 refine qQ (D:=dir) (N:=S.last+1) (nm:=nm) h (fun q hq jI=>?_) (fun m hm x hx=>?_) (fun q hq e jI=>?_) hT.aC
 ·rcases mem q hq with hq|rfl|rfl
  ·exact .inl ⟨q,hq,rfl,jI,rfl⟩
  ·exact .inr ⟨Ks,hNk jI,fresh⟩
  ·exact .inl ⟨_,hmem,aU.trans kO.symm,p2,Kt.symm⟩
 ·rcases mem m hm with hm|rfl|rfl
  ·exact .inl ⟨m,hm,rfl,hx⟩
  ·rw[hNe]at hx;cases hx
  ·rw [EF]at hx
   rcases fW hx with hx|rfl
   ·exact .inl ⟨_,hmem,aU.trans kO.symm,hx⟩
   ·exact .inr ⟨kO,rfl⟩
 ·rcases mem q hq with hq|rfl|rfl
  ·exact absurd e (hle q hq)
  ·exact⟨hNk jI,fresh⟩
  ·exact absurd (e▸kO▸aU:(ac S.nodes dir).no=S.last+1) (hle _ hmem)
theorem uh {S T:aa} {p:Int} (h:Kids S) (k:Kids T):Kids (dR p S T):=by unfold dR;split;exact h;exact k
theorem GG {S:aa} {c:Nat} (hT:dC c S) (h:Kids S) (cu cg now no dir:Int) (nm:List UInt8):Kids (eW S cu cg now no dir nm):=by
 unfold eW;split
 case isFalse=>exact h
 rename_i h0;obtain ⟨hp,hi,hk,hf,hv,hl⟩:=g_ h0;obtain ⟨hid,qD,hc⟩:=aE hp;obtain ⟨_,aU,hmem⟩:=aj hi;obtain ⟨_,lg,jg⟩:=aj hid;have hne:dir≠no:=fun e=>by subst e;exact hk qD
 have e0:(cy S now no).no=no:=aU;obtain ⟨g1,g2⟩:=fZ (S:=S) (n:=cy S now no) (no:=dir) (by rw[e0];exact hne);obtain ⟨M,hM⟩:∃M:ai,M=eQ (aJ S (cy S now no)) dir now (dq (ac S.nodes dir).af (nm,no)):=⟨_,rfl⟩;have kO:M.no=dir:=by rw[hM];show (ac (aJ S _).nodes dir).no=dir;rw[g1];exact lg
 have Kt:M.up=(ac S.nodes dir).up:=by rw[hM];show (ac (aJ S _).nodes dir).up=_;rw[g1]
 have EF:M.af=dq (ac S.nodes dir).af (nm,no):=by rw[hM];rfl
 show Kids (aJ _ _);rw [<-hM];have mem:∀m∈(aJ (aJ S (cy S now no)) M).nodes,m∈S.nodes\/m=cy S now no\/m=M:=fun m hm=>by
  rcases aM hm with⟨hm,_⟩|rfl
  ·rcases aM hm with⟨hm,_⟩|rfl
   ·exact .inl hm
   ·exact .inr (.inl rfl)
  ·exact .inr (.inr rfl)
 refine qQ (D:=dir) (N:=no) (nm:=nm) h (fun q hq jI=>?_) (fun m hm x hx=>?_) (fun q hq e jI=>?_) hT.aC
 ·rcases mem q hq with hq|rfl|rfl
  ·exact .inl ⟨q,hq,rfl,jI,rfl⟩
  ·exact absurd jI hk
  ·exact .inl ⟨_,jg,lg.trans kO.symm,qD,Kt.symm⟩
 ·rcases mem m hm with hm|rfl|rfl
  ·exact .inl ⟨m,hm,rfl,hx⟩
  ·exact .inl ⟨_,hmem,rfl,hx⟩
  ·rw [EF]at hx
   rcases fW hx with hx|rfl
   ·exact .inl ⟨_,jg,lg.trans kO.symm,hx⟩
   ·exact .inr ⟨kO,rfl⟩
 ·rcases mem q hq with hq|rfl|rfl
  ·have:=gw hT.aC hq hmem (by rw[aU];exact e)
   subst this;exact absurd jI hk
  ·exact absurd jI hk
  ·exact absurd (kO.symm.trans e) hne
theorem wY {S:aa} (h:Kids S) (hu:aD S.nodes S.last) {now dir no:Int} {nm:List UInt8} (hi:aK S.nodes dir=true) (oF:aK S.nodes no=true):Kids (mg S now (ac S.nodes dir) (ac S.nodes no) nm):=by
 obtain ⟨_,lg,jg⟩:=aj hi;obtain ⟨_,aU,hmem⟩:=aj oF;obtain ⟨M,hM⟩:∃M:ai,M=eQ S (ac S.nodes dir).no now (ij (ac S.nodes dir).af nm):=⟨_,rfl⟩;have kO:M.no=dir:=by rw[hM,lg];exact lg
 have hMk:M.kind=(ac S.nodes dir).kind:=by rw[hM,lg];rfl
 have Kt:M.up=(ac S.nodes dir).up:=by rw[hM,lg];rfl
 have EF:M.af=ij (ac S.nodes dir).af nm:=by rw[hM];rfl
 have mem:∀m∈(aJ (aJ S M) (jy now (ac S.nodes no))).nodes,m∈S.nodes\/m=jy now (ac S.nodes no)\/m=M:=fun m hm=>by
  rcases aM hm with⟨hm,_⟩|rfl
  ·rcases aM hm with⟨hm,_⟩|rfl
   ·exact .inl hm
   ·exact .inr (.inr rfl)
  ·exact .inr (.inl rfl)
 have key:∀m∈(aJ (aJ S M) (jy now (ac S.nodes no))).nodes,∃m'∈S.nodes,m'.no=m.no/\(m.kind=1->m'.kind=1/\m'.up=m.up)/\∀x∈m.af,x∈m'.af:=fun m hm=>by
  rcases mem m hm with hm|rfl|rfl
  ·exact⟨m,hm,rfl,fun hk=>⟨hk,rfl⟩,fun x hx=>hx⟩
  ·exact⟨_,hmem,rfl,fun hk=>⟨hk,rfl⟩,fun x hx=>hx⟩
  ·exact⟨_,jg,lg.trans kO.symm,fun hk=>⟨hMk▸hk,Kt.symm⟩,fun x hx=>by rw[EF]at hx;exact (kn hx).1⟩
 have k2:Kids (aJ (aJ S M) (jy now (ac S.nodes no))):=ny h hu key;unfold mg cI;rw [<-hM];unfold mQ;split
 ·unfold kG
  split
  ·exact ny h hu fun m hm=>key m (dK hm).1
  ·exact k2
 ·exact k2
theorem Ku {S:aa} {c:Nat} (hT:dC c S) (h:Kids S) (cu cg now:Int) (x:ia) (hx:∀fr a to_ b,x≠.rename fr a to_ b):Kids (cq S cu cg now x):=by
 cases x with
 | bB dir nm mode=>exact uh h (qT hT h _ _ _ _ _ _ rfl fun _=>rfl)
 | bc dir nm mode data=>exact uh h (qT hT h _ _ _ _ _ _ rfl fun hk=>by cases hk)
 | symlink dir nm text=>exact uh h (qT hT h _ _ _ _ _ _ rfl fun hk=>by cases hk)
 | link no dir nm=>exact GG hT h _ _ _ _ _ _
 | unlink dir nm =>
  show Kids (iU S cu cg now dir nm);unfold iU;split
  ·rename_i h0
   unfold nt at h0;split at h0
   ·rename_i h1;exact absurd h0 h1
   ·rename_i h1
    obtain ⟨z1,z2,_,z4,z5⟩:=f_ (Decidable.not_not.1 h1);rw [z4,z5];exact wY h hT.aC (aE z1).1 z2
  ·exact h
 | ou dir nm =>
  show Kids (kI S cu cg now dir nm);unfold kI;split
  ·rename_i h0
   unfold qH at h0;split at h0
   ·rename_i h1;exact absurd h0 h1
   ·rename_i h1
    obtain ⟨z1,z2,_,z4,z5⟩:=f_ (Decidable.not_not.1 h1);rw [z4,z5];exact wY h hT.aC (aE z1).1 z2
  ·exact h
 | rename fr a to_ b=>exact absurd rfl (hx fr a to_ b)
 | cJ no mode =>
  show Kids (dX S cu now no mode);unfold dX;split
  ·rename_i h0
   unfold eN at h0;split at h0
   ·rename_i h1;exact absurd h0 h1
   ·rename_i h1
    have hi:=eZ (Decidable.not_not.1 h1);exact qR h hT.aC hi (aj hi).2.1 rfl rfl fun x hx=>hx
  ·exact h
 | cK no uid gid =>
  show Kids (fj S cu now no uid gid);unfold fj;split
  ·rename_i h0
   unfold fF at h0;split at h0
   ·rename_i h1;exact absurd h0 h1
   ·rename_i h1
    have hi:=eZ (Decidable.not_not.1 h1);exact qR h hT.aC hi (aj hi).2.1 rfl rfl fun x hx=>hx
  ·exact h
 | dA no mt =>
  show Kids (ef S cu now no mt);unfold ef;split
  ·rename_i h0
   unfold fq at h0;split at h0
   ·rename_i h1;exact absurd h0 h1
   ·rename_i h1
    have hi:=eZ (Decidable.not_not.1 h1);exact qR h hT.aC hi (aj hi).2.1 rfl rfl fun x hx=>hx
  ·exact h
 | write no data =>
  show Kids (xU S cu cg now no data);unfold xU;split
  ·rename_i h0
   have hi:aK S.nodes no=true:=by
    unfold FK at h0;split at h0
    ·cases h0
    ·rename_i h1;simpa using h1
   have hf:∀m∈(jf S no data).nodes,∃m'∈S.nodes,m'.no=m.no/\(m.kind=1->m'.kind=1/\m'.up=m.up)/\∀x∈m.af,x∈m'.af:=fun m hm=>by
    unfold jf at hm;split at hm
    ·rcases zB hm with hm|rfl
     ·exact⟨m,hm,rfl,fun hk=>⟨hk,rfl⟩,fun x hx=>hx⟩
     ·exact⟨_,(aj hi).2.2,rfl,fun hk=>⟨hk,rfl⟩,fun x hx=>hx⟩
    ·exact⟨m,hm,rfl,fun hk=>⟨hk,rfl⟩,fun x hx=>hx⟩
   have oh:aK (jf S no data).nodes no=true:=by
    unfold jf;split
    ·show aK (cA S.nodes _) no=true;rw[gW];exact hi
    ·exact hi
   refine ny h hT.aC fun m hm=>?_
   rcases aM hm with⟨hm,_⟩|rfl
   ·exact hf m hm
   ·obtain ⟨m',h1,h2,h3,h4⟩:=hf _ (aj oh).2.2
    exact ⟨m',h1,h2,h3,h4⟩
  ·exact h
theorem GH {S:aa} {c:Nat} (hT:dC c S) (h:Kids S) (over b n:Int):Kids (b_ S over b n):=by
 have mem:∀m∈(b_ S over b n).nodes,m∈S.nodes\/(m.no=S.last+1/\m.af=[]):=fun m hm=>by
  rcases List.mem_append.1 hm with hm|hm
  ·exact .inl hm
  ·rw [List.mem_singleton]at hm
   subst hm;exact .inr ⟨rfl,rfl⟩
 refine ⟨fun m hm x hx q hq e hk=>?_,fun m hm x hx y hy q hq e hk TW=>?_⟩
 ·rcases mem m hm with hm|⟨_,h2⟩
  ·have hp:=(hT.pos m hm x hx).2
   rcases mem q hq with hq|⟨h1,_⟩
   ·exact h.up m hm x hx q hq e hk
   ·omega
  ·rw[h2]at hx;cases hx
 ·rcases mem m hm with hm|⟨_,h2⟩
  ·have hp:=(hT.pos m hm x hx).2
   rcases mem q hq with hq|⟨h1,_⟩
   ·exact h.once m hm x hx y hy q hq e hk TW
   ·omega
  ·rw[h2]at hx;cases hx
theorem De {S:aa} {c:Nat} (hT:dC c S) (h:Kids S) (a b n:Int):Kids (cx S a b n):=by
 unfold cx;split
 ·exact GH hT h _ _ _
 ·exact h
theorem Df (b n:Int):Kids (b_ cB 0 b n):=by
 have mem:∀m∈(b_ cB 0 b n).nodes,m.af=[]:=fun m hm=>by
  have hm':m∈[bj cB]:=hm;rw [List.mem_singleton]at hm';subst hm';rfl
 exact ⟨fun m hm x hx=>(by rw[mem m hm]at hx;cases hx),fun m hm x hx=>(by rw[mem m hm]at hx;cases hx)⟩
def bH (S:aa):Nat:=(S.nodes.map fun n=>n.af.length).sum
def kK (S:aa) (cu cg:Int) (x:ak):Prop:=gj S cu cg x=0/\(ac S.nodes x.no).kind=1
theorem GI {S:aa} {cu cg:Int} {x:ak} (h:gj S cu cg x=0):aK S.nodes x.no=true/\aK S.nodes x.dir=true/\(ac S.nodes x.no).dev=(ac S.nodes x.dir).dev/\((ac S.nodes x.no).kind=1->bf S cu cg x.no 1 4=0):=by
 unfold gj at h;split at h
 ·cases h
 rename_i h1;split at h
 ·cases h
 rename_i h2;split at h
 ·cases h
 rename_i h3;refine ⟨by simpa using h1,by simpa using h2,Decidable.not_not.1 h3,fun hk=>?_⟩;rw [if_neg (fun k=>k hk)]at h;exact h
theorem ku {S:aa} {cu cg:Int} {x:ak} (h:kK S cu cg x):gp S cu cg x=(dn S (ac S.nodes x.no).af).map (iW x):=by unfold kK at h;unfold gp;rw[if_pos h]
theorem nA {S:aa} {cu cg:Int} {x:ak} (h:¬kK S cu cg x):gp S cu cg x=[]:=by unfold kK at h;unfold gp;rw[if_neg h]
theorem ui {c:Nat} {S:aa} (h:dC c S) (k:Kids S) {cu cg:Int} {x y:ak} (hx:kK S cu cg x) (hy:y∈gp S cu cg x) (ly:kK S cu cg y) :
  (y.name,y.no)∈(ac S.nodes x.no).af/\(ac S.nodes y.no).up=x.no/\y.no≠x.no/\y.dir=x.no:=by
 rw [ku hx]at hy;rw [List.mem_map]at hy;obtain ⟨z',hz',rfl⟩:=hy;unfold dn at hz';rw [List.mem_map]at hz';obtain ⟨z,hz,rfl⟩:=hz';obtain ⟨ix,nx,mx⟩:=bo hx.2;obtain ⟨i1,i2,i3,_⟩:=GI ly.1;have i3':(ac S.nodes (ar S.ag z.2)).dev=(ac S.nodes x.no).dev:=i3;have hk:(ac S.nodes (ar S.ag z.2)).kind=1:=ly.2;obtain ⟨k1,k2,k3⟩:=h.xR _ mx z hz;have hp:=h.pos _ mx z hz;rcases gi h.oT (show 0<z.2 by omega) with e|⟨j,hj,e1,e2⟩
 ·show (z.1,ar S.ag z.2)∈_/\(ac S.nodes (ar S.ag z.2)).up=_/\ar S.ag z.2≠_/\x.no=x.no
  rw [e]at hk|-;obtain ⟨j1,j2,j3⟩:=bo hk;refine ⟨hz,?_,by rw[<-nx];exact k1,rfl⟩;rw [<-nx];exact k.up _ mx z hz _ j3 j2 hk
 ·exfalso
  obtain ⟨q,hq,q1,q2,q3,q4⟩:=h.lC j hj;obtain ⟨r,hr,r1,r2,r3⟩:=h.eY (j+1) hj;have gr:=(dy h.aC hr).1;rw [r1]at gr;rw [e2,gr,r3]at i3';have:=k3 q hq (by rw[q1,e1]);rw [nx]at *;omega
theorem qU (ns:List ai) (f:ai->Nat):∀(E:List Int),E.Nodup->(∀e∈E,∃n∈ns,n.no=e)->ns.Pairwise (fun a b=>a.no<b.no)->(E.map fun e=>f (ac ns e)).sum<=(ns.map f).sum:=by
 induction ns with
 | nil =>
  intro E _ h2 _
  cases E with
  | nil=>simp
  | cons e E=>obtain⟨n,hn,_⟩:=h2 e (List.mem_cons_self ..);cases hn
 | cons a ns ih =>
  intro E h1 h2 h3;rw [List.pairwise_cons]at h3;have hg:∀e,e≠a.no->ac (a::ns) e=ac ns e:=fun e he=>by
   unfold ac eX;rw [List.find?_cons];have:(a.no == e)=false:=by simpa using Ne.symm he
   rw [this]
  have ha:ac (a::ns) a.no=a:=by unfold ac eX;rw[List.find?_cons];simp
  have key:∀E:List Int,E.Nodup->(∀e∈E,∃n∈a::ns,n.no=e)->(E.map fun e=>f (ac (a::ns) e)).sum<=(if a.no∈E then f a else 0)+((E.filter fun e=>decide (e≠a.no)).map fun e=>f (ac ns e)).sum:=by
   intro E
   induction E with
   | nil=>intro _ _;simp
   | cons e E ihE =>
    intro hd hm;rw [List.nodup_cons]at hd;have:=ihE hd.2 fun x hx=>hm x (List.mem_cons_of_mem _ hx)
    rw [List.map_cons,List.sum_cons]
    by_cases he:e=a.no
    ·subst he
     rw [if_neg hd.1]at this;rw [if_pos (List.mem_cons_self ..),List.filter_cons_of_neg (by simp),ha];omega
    ·rw [List.filter_cons_of_pos (by simpa using he),List.map_cons,List.sum_cons,hg e he]
     have hmem:(a.no∈e::E)↔a.no∈E:=by rw[List.mem_cons];exact⟨fun h=>h.resolve_left (Ne.symm he),.inr⟩
     by_cases h4:a.no∈E
     ·rw[if_pos h4]at this;rw[if_pos (hmem.2 h4)];omega
     ·rw[if_neg h4]at this;rw[if_neg (fun k=>h4 (hmem.1 k))];omega
  have k1:=key E h1 h2;have k2:=ih (E.filter fun e=>decide (e≠a.no)) (h1.filter _) (fun e he=>by
   rw [List.mem_filter]at he;obtain ⟨n,hn,e1⟩:=h2 e he.1;rcases List.mem_cons.1 hn with rfl|hn
   ·have:=he.2;simp[e1]at this
   ·exact⟨n,hn,e1⟩) h3.2
  rw [List.map_cons,List.sum_cons];split at k1<;>omega
theorem Dg {c:Nat} {S:aa} (h:dC c S) (k:Kids S) (cu cg:Int) (x0:Int) {t l:List ak} {b:ak} {e:Int} (hd:jB S cu cg t l b e) :
  ∀ (E:List Int) (d:Int->Nat),(∀n∈S.nodes,n.kind=1->n.up≠n.no->d n.up<d n.no)->E.Nodup->(∀y∈E,(ac S.nodes y).kind=1/\d x0<=d y/\(y=x0\/(ac S.nodes y).up∈E)) ->
   (∀y∈t,kK S cu cg y->y.no∉E/\d x0<=d y.no/\(y.no=x0\/(ac S.nodes y.no).up∈E))->t.Pairwise (fun a b=>kK S cu cg a->kK S cu cg b->a.no≠b.no) ->
   l.length+(E.map fun y=>(ac S.nodes y).af.length).sum<=t.length+bH S:=by
 induction hd with
 | nil =>
  intro E d _ h1 h2 _ _;have:=qU S.nodes (fun n=>n.af.length) E h1 (fun y hy=>⟨_,(bo (h2 y hy).1).2.2,(bo (h2 y hy).1).2.1⟩) h.aC.1;unfold bH;simp only[List.length_nil];omega
 | bad hx =>
  intro E d _ h1 h2 _ _;have:=qU S.nodes (fun n=>n.af.length) E h1 (fun y hy=>⟨_,(bo (h2 y hy).1).2.2,(bo (h2 y hy).1).2.1⟩) h.aC.1;unfold bH;simp only[List.length_nil];omega
 | @step x t l b e h0 hd ih =>
  intro E d VR h1 h2 h3 h4;rw [List.pairwise_cons]at h4
  by_cases hx:kK S cu cg x
  ·obtain ⟨x1,x2,x3⟩:=h3 x (List.mem_cons_self ..) hx
   have hlen:(gp S cu cg x).length=(ac S.nodes x.no).af.length:=by rw[ku hx,List.length_map,jo]
   have hch:∀y∈gp S cu cg x,kK S cu cg y->y.no∉x.no::E/\d x0<=d y.no/\(y.no=x0\/(ac S.nodes y.no).up∈x.no::E)/\y.no≠x0/\(ac S.nodes y.no).up=x.no:=by
    intro y hy ly;obtain ⟨c1,c2,c3,_⟩:=ui h k hx hy ly;obtain ⟨j1,j2,j3⟩:=bo ly.2;have hlt:=VR _ j3 ly.2 (by rw[c2,j2];exact Ne.symm c3);rw [c2,j2]at hlt;have hne:y.no≠x0:=fun e=>by rw[e]at hlt;omega
    refine ⟨fun hm=>?_,by omega,.inr (by rw[c2];exact List.mem_cons_self ..),hne,c2⟩;rcases List.mem_cons.1 hm with e|hm
    ·exact c3 e
    ·rcases (h2 y.no hm).2.2 with e|e
     ·exact hne e
     ·rw[c2]at e;exact x1 e
   have := ih (x.no::E) d VR (List.nodup_cons.2 ⟨x1,h1⟩)
    (fun y hy=>by
     rcases List.mem_cons.1 hy with rfl|hy
     ·exact⟨hx.2,x2,x3.imp id (List.mem_cons_of_mem _)⟩
     ·obtain ⟨a1,a2,a3⟩:=h2 y hy
      exact ⟨a1,a2,a3.imp id (List.mem_cons_of_mem _)⟩)
    (fun y hy ly=>by
     rcases List.mem_append.1 hy with hy|hy
     ·obtain ⟨a1,a2,a3,_⟩:=hch y hy ly
      exact ⟨a1,a2,a3⟩
     ·obtain ⟨a1,a2,a3⟩:=h3 y (List.mem_cons_of_mem _ hy) ly
      refine ⟨fun hm=>?_,a2,a3.imp id (List.mem_cons_of_mem _)⟩;rcases List.mem_cons.1 hm with e|hm
      ·exact h4.1 y hy hx ly e.symm
      ·exact a1 hm)
    (List.pairwise_append.2 ⟨?_,h4.2,fun a ha b hb la lb e=>?_⟩)
   ·rw [List.map_cons,List.sum_cons,List.length_append,hlen]at this
    simp only[List.length_cons];omega
   ·rw [ku hx,List.pairwise_map]
    have hr:=h.mq _ (bo hx.2).2.2;unfold dn;rw [List.pairwise_map];refine List.Pairwise.imp_of_mem ?_ hr;intro a b ha hb hab la lb e;have ca:=ui h k hx (y:=iW x (a.1,ar S.ag a.2)) (by rw[ku hx];exact List.mem_map_of_mem (by unfold dn;exact List.mem_map_of_mem ha)) la;have cb:=ui h k hx (y:=iW x (b.1,ar S.ag b.2)) (by rw[ku hx];exact List.mem_map_of_mem (by unfold dn;exact List.mem_map_of_mem hb)) lb;obtain ⟨j1,j2,j3⟩:=bo la.2;have:=k.once _ (bo hx.2).2.2 _ ca.1 _ cb.1 _ j3 j2 la.2 e;have e1:a.1=b.1:=by have:=congrArg Prod.fst this;exact this
    rw [e1,cD]at hab;cases hab
   ·obtain ⟨a1,a2,a3,a4,a5⟩:=hch a ha la
    rcases (h3 b (List.mem_cons_of_mem _ hb) lb).2.2 with e1|e1
    ·exact a4 (e.trans e1)
    ·rw[<-e,a5]at e1;exact x1 e1
  ·have:=ih E d VR h1 h2 (fun y hy ly=>h3 y (List.mem_cons_of_mem _ (by rw[nA hx]at hy;exact hy)) ly) (by rw[nA hx];exact h4.2)
   rw [nA hx]at this;simp only[List.nil_append]at this;simp only[List.length_cons];omega
theorem Kv {c:Nat} {S:aa} (h:dC c S) (k:Kids S) (cu cg:Int) (x:ak) {l:List ak} {b:ak} {e:Int} (hd:jB S cu cg [x] l b e):l.length<=1+bH S:=by
 obtain ⟨d,VR⟩:=h.deep;have:=Dg h k cu cg x.no hd [] d VR List.nodup_nil (fun y hy=>by cases hy) (fun y hy _=>by rw[List.mem_singleton]at hy;subst hy;exact⟨by simp,Nat.le_refl _,.inl rfl⟩) (List.pairwise_singleton _ _);simpa using this
open Go.ChangeShapes Go.WideShapes Go.ChangeAt Go.RowKit
theorem jD {F:Fence} {n:Nat} {P:Program} (w:World) {ops:Array Oper} {rest:List Oper} {o:Oper} {a:Act} {Q:Exit->Act->World->Prop} (hg:o.guard=none) (s x:Operand) (t tn:TypeId)
  (hop:o.op=.call {callee:=.builtin .append,args:=#[s,x],argTypes:=#[t,tn]}) (vs vx:Value) (hs:a.eval s=vs) (hx:a.eval x=vx)
  (v':Value) (w':World) (hr:(Builtin.append_ #[t,tn] o.type #[vs,vx]).run P w=.ok v' w') (h:wpListIn F n P ops Q rest (a.put o.dst v') w'):wpListIn F n P ops Q (o::rest) a w:=by
 refine wpListIn_plain hg fun K hK'=>?_
 unfold Oper.wpIn;refine ⟨?_,?_⟩
 ·simp[Oper.about,hop,resolve,Target.leads,Sem.run_pure]
 ·rw [Oper.semAt_plain F _ _ (by rw[hop];intro c hc';cases hc')]
  simp [execOp,hop,resolve,invoke,builtin,hs,hx,hr,Result.andThen];exact hK' _ _ h
theorem jS {F:Fence} {n:Nat} {ops:Array Oper} {rest:List Oper} {op:Oper} {a:Act} {w:World} {Q:Exit->Act->World->Prop} (hgd:op.guard=none) (x y:Operand) (ho:op.op=.store 50 x y)
  (b:Nat) (d d':ak) (hx:a.eval x=.pointer (some ⟨b,0,none⟩)) (hy:a.eval y=.agg (cM d').toArray) (hb:Has w b (.cells (cM d).toArray 50))
  (h:∀w',Has w' b (.cells (cM d').toArray 50)->Only [b] w w'->wpListIn F n Tryz.prog ops Q rest (a.put op.dst undef) w'):wpListIn F n Tryz.prog ops Q (op::rest) a w:=by
 refine wpListIn_plain hgd fun K hK'=>?_
 unfold Oper.wpIn;refine ⟨?_,?_⟩
 ·simp[Oper.about,ho]
 ·rw [Oper.semAt_plain F _ _ (by rw[ho];intro c hc';cases hc')]
  simp only[execOp,ho,hx,hy,run_storeAt_mid w b 0 50 (cM d').toArray hb.there qP (all_oneCell_toArray (cs:=cM d') (qO d')),Sem.run_bind,Sem.run_pure,Result.andThen_ok];exact hK' _ _ (h _ (hb.EE d') (cG (cM d') 0 w))
def told (l:List ak) (b:ak) (e:Int):List (ak×Int):=l.map (fun x=>(x,0))++(if e=0 then [] else [(b,e)])
theorem Kw:told [] jA 0=[]:=rfl
theorem uj {b:ak} {e:Int} (h:e≠0):told [] b e=[(b,e)]:=by unfold told;rw[if_neg h];rfl
theorem wZ (x:ak) (l:List ak) (b:ak) (e:Int):told (x::l) b e=(x,0)::told l b e:=rfl
theorem uk (l:List ak) (b:ak) (e:Int):(told l b e).length<=l.length+1:=by
 unfold told;rw [List.length_append,List.length_map];split<;>simp
def mV (s:az) (cu cg dir:Int) (nm:List UInt8) (l:List ak) (b:ak) (e:Int):Prop:=
 (jr s cu cg dir nm≠0/\l=[]/\b=ic s cu cg dir nm/\e=jr s cu cg dir nm)\/(jr s cu cg dir nm=0/\s.dead=false/\jB s.t cu cg [ic s cu cg dir nm] l b e)
theorem EH {c:Nat} {s:az} (h:dC c s.t) (k:Kids s.t) (cu cg dir:Int) (nm:List UInt8):∃l b e,mV s cu cg dir nm l b e/\l.length<=1+bH s.t:=by
 by_cases h0:jr s cu cg dir nm=0
 ·have hd:s.dead=false:=by
   unfold jr dH at h0
   cases hd:s.dead
   ·rfl
   ·rw[if_pos hd]at h0;cases h0
  obtain ⟨l,b,e,hr⟩:=GC h k.up cu cg [ic s cu cg dir nm];exact ⟨l,b,e,.inr ⟨h0,hd,hr⟩,Kv h k cu cg _ hr⟩
 ·exact⟨[],_,_,.inl ⟨h0,rfl,rfl,rfl⟩,Nat.zero_le _⟩
theorem Kx {s:az} (hd:s.dead=false) (cu cg:Int) (x:ak):sa s cu cg x=gj s.t cu cg x/\Dc s cu cg x=gp s.t cu cg x:=by
 unfold sa Dc dH nP;rw [if_neg (by rw[hd];decide),if_neg (by rw[hd];decide)];exact ⟨rfl,rfl⟩
theorem GJ {c:Nat} {S:aa} (h:dC c S) (cu cg:Int) (x:ak):(gp S cu cg x).length<=c:=by
 unfold gp;split
 ·rw[List.length_map,jo];exact (h.ac x.no).2
 ·exact Nat.zero_le _
theorem AL {S:aa} {cu cg:Int} {x y:ak} (h:y∈gp S cu cg x):y.depth=x.depth+1:=by
 unfold gp at h;split at h
 ·rw [List.mem_map]at h
  obtain ⟨z,_,rfl⟩:=h;rfl
 ·cases h
attribute [local go_sem] Oper.semAt_some
def Dh (W:World) (k b:Nat) (cu cg dir:Int) (nm:List UInt8):Prop:=
 Has W k (.cells #[.pointer (some ⟨b,0,none⟩)] 33)/\Has W (k+1) (.cells #[cu,cg] 27)/\Has W (k+2) (.cells #[.int .i64 dir] 3)/\Has W (k+3) (.cells #[bs nm] 9)
abbrev Oq (x:ak×Int):Array Value:=#[.agg #[.int .i64 x.1.dir,bs x.1.name,x.1.no,.int .i64 x.1.depth],.int .i64 x.2]
theorem dI.keep {w w':World} {base:Nat} {v:Value} {l:List ak} (h:dI w base v l) (hk:∀g,v.ownBlock=some g->w'.heap[g]?=w.heap[g]?):dI w' base v l:=by
 refine ⟨h.1,?_⟩;rcases h.2 with e|⟨g,cap,cur,rfl,hb,hg,h1,h2,h3,h4⟩
 ·exact .inl e
 ·exact .inr ⟨g,cap,cur,rfl,hb,(hk g rfl).trans hg,h1,h2,h3,h4⟩
theorem dI.Ky {w:World} {base g:Nat} {v:Value} {l:List ak} (h:dI w base v l) (hv:v.ownBlock=some g):ib w g:=by
 rcases h.2 with⟨rfl,_⟩|⟨g',cap,cur,rfl,hb,hg,_⟩
 ·cases hv
 ·injection hv with hv
  subst hv;exact ib.of hg (by decide) (by decide)
theorem AO {c : Nat} (F:Fence) (hF:F=Fence.wide) (n:Nat) (hn:1<=n) (B b:Nat) (g:bJ) (s:az) (hs:fJ c s) (hc:c<=900) (k:Nat) (cu cg dir:Int) (nm:List UInt8) (l:List ak) (b0:ak) (e0:Int)
  (hT:mV s cu cg dir nm l b0 e0) (hlen:l.length<=1000) (w0:World) :
  VM F n Tryz.prog 69 #[.pointer (some ⟨k,0,none⟩),.pointer (some ⟨k+1,0,none⟩),.pointer (some ⟨k+2,0,none⟩),.pointer (some ⟨k+3,0,none⟩)] Oq (fun xs=>xs=told l b0 e0) (fun pre=>pre <+: told l b0 e0)
   (fun pre x=>pre++[x] <+: told l b0 e0) (fun _ V=>PS V B b g s/\Dh V k b cu cg dir nm) w0:=by
 intro lp J Jx W _ hJ1 Ni hJx hY h0;have hro:F.round=none:=by rw[hF];rfl
 have hfn:F.fn 69:=by rw[hF];trivial
 have JN:F.fn 70:=by rw[hF];trivial
 have PG:F.fn 71:=by rw[hF];trivial
 have CF:∀(j:Nat) (u:World),PS u B b g s->CallsIn F j Tryz.prog 70 #[.pointer (some ⟨b,0,none⟩),.agg #[cu,cg],.int .i64 dir,bs nm] u (aH u (.tuple #[.agg #[.int .i64 (ic s cu cg dir nm).dir,.string (bs (ic s cu cg dir nm).name),.int .i64 (ic s cu cg dir nm).no,.int .i64 (ic s cu cg dir nm).depth],.int .i64 (jr s cu cg dir nm)])):=by
  rw [hF];exact fun j u hu=>callsIn_wide.2 (hu.first hs hc cu cg dir nm)
 have CI:Hid (∀(j:Nat) (u:World) (x:ak),0<=x.depth->x.depth<=1000000->PS u B b g s->CallsIn F j Tryz.prog 71 #[.pointer (some ⟨b,0,none⟩),.agg #[cu,cg],.agg #[.int .i64 x.dir,bs x.name,x.no,.int .i64 x.depth]] u (Qj u (Dc s cu cg x) (sa s cu cg x))):=by
  show ∀_ _ _,_;rw [hF];exact fun j u x h1 h2 hu=>callsIn_wide.2 (hu.into hs hc cu cg x h1 h2)
 obtain⟨L,hL⟩:=aq (told l b0 e0);rw [<-hL]at hY|-;have Qk:L.length<=1001:=by rw[hL];have:=uk l b0 e0;omega
 obtain⟨X,hX⟩:=aq (ic s cu cg dir nm);obtain⟨e1,qf⟩:=aq (jr s cu cg dir nm);have hXd:X.depth=0:=by rw[hX];rfl
 have yw:(e1≠0/\L=[(X,e1)])\/(e1=0/\s.dead=false/\jB s.t cu cg [X] l b0 e0/\L=told l b0 e0):=by
  rw [hX,qf];rcases hT with⟨h1,h2,h3,h4⟩|⟨h1,h2,h3⟩
  ·exact .inl ⟨h1,by rw[hL,h2,h3,h4,uj h1]⟩
  ·exact .inr ⟨h1,h2,h3,hL⟩
 rw [<-hX,<-qf]at CF;have HS:=zH hs;have HT:=zH yw;have HXD:=zH hXd;have TX:=zH hJ1;have VS:=zH Ni;have HJX:=zH hJx;have HY:=zH hY;clear hF hT hlen hX qf hs hL yw hXd;obtain ⟨⟨hP0,MS⟩,_,_⟩:=hJ1 _ _ _ h0;have k0:=MS.1.cell 0;have k1:=MS.2.1.cell 0;have k2:=MS.2.1.cell 1;have k3:=MS.2.2.1.cell 0;have k4:=MS.2.2.2.cell 0;have z0:=MS.1.lt;have z1:=MS.2.1.lt;have z2:=MS.2.2.1.lt;have z3:=MS.2.2.2.lt;have CF0:=zH (CF (n-1) W hP0);have H0:=zH h0;clear hJ1 Ni hJx hY h0 CF hP0 MS;refine callsIn_of_wp Tryz.func69 rfl hfn ?_ hro;simp only[Tryz.ntmps69,List.size_toArray,List.length_cons,List.length_nil,Nat.reduceAdd,Nat.reduceSub,Array.replicate_succ,Array.replicate_zero,List.push_toArray,List.append_toArray,List.nil_append,List.cons_append];gi_wp2_with (gi_at_call 70;refine CF0.out.mono ?_;rintro e w1 ⟨rfl,b1⟩);obtain ⟨W2,du⟩:∃V,V=(w1.alloc (.cells #[.int .i64 X.dir,bs X.name,X.no,.int .i64 X.depth] 50)).alloc (.cells #[.int .i64 X.dir,bs X.name,X.no,.int .i64 X.depth] 50):=⟨_,rfl⟩;obtain ⟨bx,zm⟩:∃b,b=w1.heap.size:=⟨_,rfl⟩;obtain ⟨br,hbr⟩:∃b,b=w1.heap.size+1:=⟨_,rfl⟩;have vM:Has W2 bx (.cells (cM X).toArray 50):=by rw[du,zm];exact (Has.new w1 _).alloc _
 have pS:Has W2 br (.cells (cM X).toArray 50):=by rw[du,hbr];have:=Has.new (w1.alloc (.cells #[.int .i64 X.dir,bs X.name,X.no,.int .i64 X.depth] 50)) (.cells #[.int .i64 X.dir,bs X.name,X.no,.int .i64 X.depth] 50);rw[World.size_alloc]at this;exact this
 have E2:Ext W W2:=by rw[du];exact (b1.alloc _).alloc _
 have aat:W.heap.size<=bx:=by have:=b1.size;omega
 have VT:W.heap.size<=br:=by omega
 have hxr:bx≠br:=by omega
 have Ni:J [bx,br] [] W2:=VS.out [] [] W [bx,br] W2 H0.out (Only.av E2) (fun x hx=>by
   simp only[List.mem_cons,List.not_mem_nil,or_false]at hx;rcases hx with rfl|rfl
   ·exact .inr aat
   ·exact .inr VT) (fun x hx=>by
   simp only[List.mem_cons,List.not_mem_nil,or_false]at hx;rcases hx with rfl|rfl
   ·exact ib.of vM (by decide) (by decide)
   ·exact ib.of pS (by decide) (by decide))
 have TY:dI W2 W.heap.size (.slice (some ⟨br,0,none⟩) 1 1) [X]:=⟨rfl,.inr ⟨br,1,_,rfl,VT,pS,Nat.le_refl _,by decide,rfl,rfl⟩⟩;rw [<-du,<-hbr,<-zm];clear du zm hbr k0 k1 k2 k3 k4 z0 z1 z2 z3 b1 CF0 H0 E2;gi_loopg [7,8] (l.length+1) (fun m ve vt wr=>∃(e2:Int) (t:List ak) (x:ak) (O:List Nat) (pre:List (ak×Int)),ve=.int .i64 e2/\J O pre wr/\bx∈O/\Has wr bx (.cells (cM x).toArray 50)/\dI wr W.heap.size vt t.reverse/\(∀g,vt.ownBlock=some g->g∈O/\g≠bx)/\t.length<=1+pre.length*1000/\(∀y∈t,0<=y.depth/\y.depth<=pre.length) /\
  ((e2=0/\s.dead=false/\∃l1,jB s.t cu cg t l1 b0 e0/\L=pre++told l1 b0 e0/\m=l1.length+1)\/(e2≠0/\L=pre++[(x,e2)])))
 case atStart =>
  refine ⟨e1,[X],X,_,[],rfl,Ni,by simp,vM,TY,fun g hg=>?_,by simp,fun y hy=>?_,?_⟩
  ·injection hg with hg;subst hg;exact⟨by simp,Ne.symm hxr⟩
  ·rw[List.mem_singleton]at hy;subst hy;rw[HXD.out];simp
  ·rcases HT.out with⟨h1,h2⟩|⟨h1,h2,h3,h4⟩
   ·exact .inr ⟨h1,h2⟩
   ·exact .inl ⟨h1,h2,l,h3,h4,rfl⟩
 case round =>
  obtain ⟨e2,t,x,O,pre,rfl,hJ,hbO,hX,hO,hown,pJ,Kz,hrest⟩:=hrel;clear Ni vM pS TY HT HXD;obtain ⟨A,cap,rfl,rI,sI,hat,hA0⟩:=hO.at_;rw [List.length_reverse]at hO rI|-;have x0:=hX.cell 0;have x1:=hX.cell 1;have x2:=hX.cell 2;have x3:=hX.cell 3;have xz:=hX.lt;simp only[gA,gB,gC]at x0 x1 x2 x3
  by_cases he:e2=0
  case neg =>
   have t2:(e2 == 0)=false:=by simpa using he
   have t3:(e2 != 0)=true:=by simpa using he
   have hL:L=pre++[(x,e2)]:=by
    rcases hrest with⟨h1,_⟩|⟨_,h2⟩
    ·exact absurd h1 he
    ·exact h2
   have HL:=zH hL;obtain ⟨fn,tmps,assign,body,hy,hR⟩:=HY.out O pre (x,e2) wr hJ (by rw[hL];exact List.prefix_refl _)
   try dsimp only[Oq]at hy
   clear he hrest hL Kz pJ hown hO hat;gi_wp2;refine hR.mono ?_;rintro e W3 (⟨rfl,Ie,lr⟩|⟨rfl,sK⟩)
   ·gi_wp2
    go_end0;exact ⟨⟨_,rfl⟩,.inl ⟨_,_,HL.out.symm,Ie⟩⟩
   ·gi_wp2
    go_end0;exact ⟨⟨_,rfl⟩,.inr ⟨_,by rw[HL.out];exact List.prefix_refl _,sK⟩⟩
  obtain ⟨_,hd,l1,hD,hL,hm⟩:e2=0/\s.dead=false/\∃l1,jB s.t cu cg t l1 b0 e0/\L=pre++told l1 b0 e0/\gk=l1.length+1:=by
   rcases hrest with h1|⟨h1,_⟩
   ·exact h1
   ·exact absurd he h1
  subst he;clear hrest;obtain⟨T,Yw⟩:=aq t.length;rw [<-Yw]at hO rI pJ|-
  cases t with
  | nil =>
   obtain rfl:T=0:=Yw;have hLp:L=pre:=by cases hD;rw[hL,Kw,List.append_nil]
   have HL:=zH hLp;clear hD hL hLp Kz pJ hown hO hat hm x0 x1 x2 x3 xz;gi_wp2;go_end0;exact ⟨⟨_,rfl⟩,.inl ⟨_,by rw[HL.out];exact hJ⟩⟩
  | cons x' t' =>
   obtain⟨T',yw⟩:=aq t'.length;obtain rfl:T=T'+1:=by rw[Yw,yw];rfl
   clear Yw hat x0 x1 x2 x3 xz;rw [List.reverse_cons]at hO;have Si:(t'.reverse++[x']).length=T'+1:=by rw[List.length_append,List.length_reverse,yw];rfl
   rw [<-Si]at hO;have hO0:=hO;obtain ⟨gr,rfl⟩:∃gr,A=some ⟨gr,0,none⟩:=by
    rcases hO.cases with⟨_,h2⟩|⟨gr,_,_,h2,_⟩
    ·simp at h2
    ·injection h2 with h2;exact⟨gr,h2⟩
   have Ot:=hown gr rfl;have hpl:pre.length<=1000:=by
    have:=congrArg List.length hL;rw [List.length_append]at this;have h1:1<=(told l1 b0 e0).length:=by
     cases hD with
     | bad h=>rw[uj h];simp
     | step _ _=>rw[wZ];simp
    omega
   have hdx:=Kz x' (List.mem_cons_self ..);obtain ⟨_,_,cur,hv,VU,KE,_,_,hcell⟩:∃g cap' cur,Value.slice (some ⟨gr,0,none⟩) (t'.reverse++[x']).length cap=.slice (some ⟨g,0,none⟩) (t'.reverse++[x']).length cap'/\W.heap.size<=g/\Has wr g (.cells cur 50)/\(t'.reverse++[x']).length<=cap'/\cap'<=maxLen/\∀k,(h:k<(t'.reverse++[x']).length)->∀j,j<4->wr.cell? ⟨g,k*4+j,none⟩=(cM (t'.reverse++[x'])[k])[j]?:=by
    rcases hO.cases with⟨h1,_⟩|h2
    ·cases h1
    ·exact h2
   injection hv with tN _ hv3;injection tN with tN;injection tN with tN;subst tN;subst hv3;have jQ:∀h,(t'.reverse++[x'])[T']'h=x':=fun h=>by
    rw [List.getElem_append_right (by rw[List.length_reverse,yw];exact Nat.le_refl _)];simp [yw]
   have hq:∀j,j<4->wr.cell? ⟨gr,T'*4+j,none⟩=(cM x')[j]?:=fun j hj=>(hcell T' (by rw[Si];omega) j hj).trans (by rw[jQ])
   have q0:wr.cell? ⟨gr,T'*4,none⟩=some (.int .i64 x'.dir):=hq 0 (by decide);have q1:wr.cell? ⟨gr,T'*4+1,none⟩=some (.string (bs x'.name)):=hq 1 (by decide);have q2:wr.cell? ⟨gr,T'*4+2,none⟩=some (.int .i64 x'.no):=hq 2 (by decide);have q3:wr.cell? ⟨gr,T'*4+3,none⟩=some (.int .i64 x'.depth):=hq 3 (by decide);have qz:=KE.lt;have Rp:T'+1<=cap:=rI;have BM:IntKind.i64.wrap (T':Int)=(T':Int):=IntWalk.i64_in _ (by omega);have Yx:IntKind.i64.wrap ((T':Int)+1-1)=(T':Int):=by rw[IntWalk.i64_in _ (by omega)];omega
   have p0:(0:Int)<=(T':Int):=Int.natCast_nonneg _;have ab8:bx<wr.heap.size:=hX.lt;have GK:∀y∈O,ib wr y:=fun y hy=>((TX.out _ _ _ hJ).2.2 y hy).2
   have KS:Hid (∀w9,Has w9 bx (.cells (cM x').toArray 50)->Only [bx] wr w9->(J O pre w9/\PS w9 B b g s/\w9.cell? ⟨k,0,none⟩=some (.pointer (some ⟨b,0,none⟩))/\w9.cell? ⟨k+1,0,none⟩=some (.int .i64 cu)/\w9.cell? ⟨k+1,1,none⟩=some (.int .i64 cg)/\k<w9.heap.size/\k+1<w9.heap.size /\
     w9.cell? ⟨bx,0,none⟩=some (.int .i64 x'.dir)/\w9.cell? ⟨bx,1,none⟩=some (.string (bs x'.name))/\w9.cell? ⟨bx,2,none⟩=some (.int .i64 x'.no)/\w9.cell? ⟨bx,3,none⟩=some (.int .i64 x'.depth)/\bx<w9.heap.size)):=by
    show ∀w9,_;intro w9 R9 O9;have Ou:=VS.out O pre wr O w9 hJ (O9.mono (by intro y hy;rw[List.mem_singleton]at hy;subst hy;exact hbO)) (fun y hy=>.inl hy) (fun y hy=>(GK y hy).only O9 (fun z hz=>by rw[List.mem_singleton]at hz;subst hz;exact ib.of R9 (by decide) (by decide)));obtain ⟨⟨P9,C9⟩,_⟩:=TX.out _ _ _ Ou;exact ⟨Ou,P9,C9.1.cell 0,C9.2.1.cell 0,C9.2.1.cell 1,C9.1.lt,C9.2.1.lt,R9.cell 0,R9.cell 1,R9.cell 2,R9.cell 3,R9.lt⟩
   have CIx:=zH (fun (j:Nat) (u:World) (hu:PS u B b g s)=>CI.out j u x' hdx.1 (by omega) hu);have oF:=Kx hd cu cg x';obtain ⟨e3,Hj⟩:∃e,e=sa s cu cg x':=⟨_,rfl⟩;obtain ⟨l4,Fu⟩:∃e,e=Dc s cu cg x':=⟨_,rfl⟩;rw [<-Hj,<-Fu]at CIx oF;have VV:=zH oF;have HD:=zH hD;have HL:=zH hL;have HM:=zH hm;have aau:=zH Kz;have Sj:=zH hO0;have ab9:=zH hown;have BP:=zH yw;have PX:=zH hX;clear oF Hj Fu hD hL hm Kz hO hO0 hq hcell jQ Si rI hown yw CI
   by_cases h3:e3=0
   case neg =>
    have t3:(e3 != 0)=true:=by simpa using h3
    have hLb:Hid (L=pre++[(x',e3)]):=by
     show _=_;have hne:gj s.t cu cg x'≠0:=by rw[<-VV.out.1];exact h3
     have vc:=HD.out
     cases vc with
     | bad h=>rw[HL.out,uj h,VV.out.1]
     | step h _=>exact absurd h hne
    clear h3;gi_wp2_with (first|(refine jS rfl _ _ rfl bx x x' rfl rfl PX.out ?_;intro w9 R9 O9;obtain⟨Ou,P9,k0,k1,k2,z0,z1,y0,y1,y2,y3,yz⟩:=KS.out w9 R9 O9)|(gi_at_call 71;refine (CIx.out _ w9 P9).mono ?_;rintro e w4 ⟨v4,rfl,Nt,b4⟩;have u0:w4.cell? ⟨bx,0,none⟩=some (.int .i64 x'.dir):=(b4.cell yz).trans y0;have u1:w4.cell? ⟨bx,1,none⟩=some (.string (bs x'.name)):=(b4.cell yz).trans y1;have u2:w4.cell? ⟨bx,2,none⟩=some (.int .i64 x'.no):=(b4.cell yz).trans y2;have u3:w4.cell? ⟨bx,3,none⟩=some (.int .i64 x'.depth):=(b4.cell yz).trans y3;have uz:bx<w4.heap.size:=(by have:=b4.size;omega);have Yy:=VS.out O pre w9 O w4 Ou (Only.av b4) (fun y hy=>.inl hy) (fun y hy=>((TX.out _ _ _ Ou).2.2 y hy).2.ext b4);obtain⟨fn,tmps,assign,body,hy,hR⟩:=HY.out O pre (x',e3) w4 Yy (by rw[hLb.out];exact List.prefix_refl _);try dsimp only[Oq]at hy));refine hR.mono ?_;rintro e W3 (⟨rfl,Ie,lr⟩|⟨rfl,sK⟩)
    ·gi_wp2
     go_end0;exact ⟨⟨_,rfl⟩,.inl ⟨_,_,hLb.out.symm,Ie⟩⟩
    ·gi_wp2
     go_end0;exact ⟨⟨_,rfl⟩,.inr ⟨_,by rw[hLb.out];exact List.prefix_refl _,sK⟩⟩
   have t3:(e3 != 0)=false:=by simpa using h3
   obtain ⟨l2,hL2⟩:∃l2,l1=x'::l2/\jB s.t cu cg (l4++t') l2 b0 e0:=by
    have h0:gj s.t cu cg x'=0:=by rw[<-VV.out.1];exact h3
    have vc:=HD.out;rw [VV.out.2]
    cases vc with
    | bad h=>exact absurd h0 h
    | step _ hd3=>exact⟨_,rfl,hd3⟩
   have Sk:=zH hL2;have HLb:Hid (L=(pre++[(x',0)])++told l2 b0 e0):=by show _=_;rw[HL.out,hL2.1,wZ,List.append_assoc];rfl
   have Fu:Hid (l4.length<=900/\∀y∈l4,y.depth=x'.depth+1):=by
    show _/\_;rw [VV.out.2];exact ⟨Nat.le_trans (GJ HS.out.eD cu cg x') hc,fun y hy=>AL hy⟩
   have mr:=zH h3;clear h3 hL2;gi_wp2_with (first|(refine jS rfl _ _ rfl bx x x' rfl rfl PX.out ?_;intro w9 R9 O9;obtain⟨Ou,P9,k0,k1,k2,z0,z1,y0,y1,y2,y3,yz⟩:=KS.out w9 R9 O9)|(gi_at_call 71;refine (CIx.out _ w9 P9).mono ?_;rintro e w4 ⟨v4,rfl,Nt,b4⟩;have u0:w4.cell? ⟨bx,0,none⟩=some (.int .i64 x'.dir):=(b4.cell yz).trans y0;have u1:w4.cell? ⟨bx,1,none⟩=some (.string (bs x'.name)):=(b4.cell yz).trans y1;have u2:w4.cell? ⟨bx,2,none⟩=some (.int .i64 x'.no):=(b4.cell yz).trans y2;have u3:w4.cell? ⟨bx,3,none⟩=some (.int .i64 x'.depth):=(b4.cell yz).trans y3;have uz:bx<w4.heap.size:=(by have:=b4.size;omega);have Yy:=VS.out O pre w9 (O++v4.ownBlock.toList) w4 Ou (Only.av b4) (fun y hy=>(List.mem_append.1 hy).imp id (fun hm=>(Nt.lt (Option.mem_toList.1 hm)).1)) (fun y hy=>(List.mem_append.1 hy).elim (fun hm=>((TX.out _ _ _ Ou).2.2 y hm).2.ext b4) (fun hm=>Nt.Ky (Option.mem_toList.1 hm)));obtain⟨fn,tmps,assign,body,hy,hR⟩:=HY.out (O++v4.ownBlock.toList) pre (x',0) w4 Yy (by rw[HLb.out];exact List.prefix_append _ _);try dsimp only[Oq]at hy));refine hR.mono ?_;rintro e W5 (⟨rfl,hJ5,Yz⟩|⟨rfl,aav⟩)
   ·have X4 := R9.ext b4
    have X5:Has W5 bx (.cells (cM x').toArray 50):=(Yz bx (List.mem_append_left _ hbO)).trans X4;have T5:dI W5 W.heap.size (.slice (some ⟨gr,0,none⟩) t'.reverse.length cap) t'.reverse:=
     ((Sj.out.pop.only O9 (fun g hg=>by injection hg with hg;subst hg;simpa using Ot.2)).ext b4).keep (fun g hg=>by injection hg with hg;subst hg;exact Yz _ (List.mem_append_left _ Ot.1))
    have L5:=Nt.keep (fun g hg=>Yz g (List.mem_append_right _ (Option.mem_toList.2 hg)));have VW:∀g,v4.ownBlock=some g->w9.heap.size<=g:=fun g hg=>(Nt.lt hg).1
    have aaw:gr<w9.heap.size:=Nat.lt_of_lt_of_le KE.lt O9.size;obtain⟨O4,KH⟩:=aq (O++v4.ownBlock.toList);have aax:bx∈O4:=by rw[KH];exact List.mem_append_left _ hbO
    have aay:gr∈O4:=by rw[KH];exact List.mem_append_left _ Ot.1
    have aaz:∀g,v4.ownBlock=some g->g∈O4:=fun g hg=>by rw[KH];exact List.mem_append_right _ (Option.mem_toList.2 hg)
    rw [<-KH]at hJ5;obtain ⟨A4,c4,hv4,aaA,aca,_,_⟩:=Nt.at_;obtain⟨n4,MT⟩:=aq l4.length;rw [<-MT]at hv4 aaA;have hl5:=Fu.out;rw [<-MT]at hl5;have YA:=zH MT;have HV4:=zH hv4;have aaB:=zH VW;have Yb:=zH L5;have HT5:=zH T5;have YB:=zH X5;have HJ5:=zH hJ5;have n41:=hl5.1;have wn:IntKind.i64.wrap ((n4:Int)-1)=(n4:Int)-1:=IntWalk.i64_in _ (by omega);have t'l:Hid (t'.reverse.length=T'):=by show _=_;rw[List.length_reverse];exact BP.out.symm
    have p4:(0:Int)<=(n4:Int):=Int.natCast_nonneg _;clear MT VW Nt T5 X5 X4 hJ5 L5 KH hy hR Yy Ou P9 k0 k1 k2 z0 z1 y0 y1 y2 y3 yz u0 u1 u2 u3 uz R9 Yz hl5 q0 q1 q2 q3 qz KS;subst hv4;gi_wp2;gi_loopw [8,10] (fun vt vi YC=>∃(p:Nat) (O2:List Nat),vi=.int .i64 ((p:Int)-1)/\p<=n4/\J O2 (pre++[(x',0)]) YC/\bx∈O2/\(∀g,(Value.slice A4 n4 c4).ownBlock=some g->g∈O2)/\Has YC bx (.cells (cM x').toArray 50)/\dI YC w9.heap.size (.slice A4 n4 c4) l4/\dI YC W.heap.size vt (t'.reverse++(l4.drop p).reverse)/\(∀g,vt.ownBlock=some g->g∈O2/\g≠bx/\(Value.slice A4 n4 c4).ownBlock≠some g)) (fun _ vi _=>(intOf vi+1).toNat)
    case atStart =>
     refine ⟨n4,O4,rfl,Nat.le_refl _,HJ5.out,aax,aaz,YB.out,Yb.out,?_,fun g hg=>?_⟩
     ·rw [show l4.drop n4=[] by rw[YA.out,List.drop_length],List.reverse_nil,List.append_nil]
      have:=HT5.out;rw [t'l.out]at this;exact this
     ·injection hg with hg
      subst hg;exact ⟨aay,Ot.2,fun e=>absurd (aaB.out _ e) (Nat.not_le.2 aaw)⟩
    case round =>
     obtain ⟨p,O2,MU,hp,TZ,Qb,hv6,YD,VX,YE,KI⟩:=hrel;rcases p with _|p
     ·have Di:u10=.int .i64 (-1):=MU
      subst Di;have HJ6:=zH TZ;have T7:=zH YD;have GL:=zH YE;have HW6:=zH KI;clear MU TZ YD VX YE KI hv6;gi_wp2;gi_roundg (l2.length+1)
      case measure=>rw[HM.out,Sk.out.1];simp
      case rel =>
       refine ⟨e3,l4++t',x',O2,pre++[(x',0)],rfl,HJ6.out,Qb,T7.out,?_,fun g hg=>⟨(HW6.out g hg).1,(HW6.out g hg).2.1⟩,?_,fun y hy=>?_,.inl ⟨mr.out,hd,l2,Sk.out.2,HLb.out,rfl⟩⟩
       ·have:=GL.out
        rw [List.drop_zero]at this;rw [List.reverse_append];exact this
       ·have:=YA.out
        have:=BP.out;rw [List.length_append,List.length_append,List.length_singleton];omega
       ·rw [List.length_append,List.length_singleton]
        rcases List.mem_append.1 hy with hm|hm
        ·have:=Fu.out.2 y hm
         omega
        ·have:=aau.out y (List.mem_cons_of_mem _ hm)
         omega
     ·have Di:u10=.int .i64 (p:Int):=by rw[MU];simp
      subst Di;have hpl:p<l4.length:=by have:=YA.out;omega
      obtain ⟨gl,hA4⟩:∃gl,A4=some ⟨gl,0,none⟩:=by
       rcases VX.cases with⟨_,h2⟩|⟨gl,_,_,h2,_⟩
       ·rw[h2]at hpl;simp at hpl
       ·injection h2 with h2;exact⟨gl,h2⟩
      subst hA4;obtain ⟨w_,Gm⟩:(∀j,j<4->wr.cell? ⟨gl,p*4+j,none⟩=(cM l4[p])[j]?)/\gl<wr.heap.size:=by
       rcases VX.cases with⟨h1,_⟩|⟨gl',_,_,h2,_,h3,_,_,h4⟩
       ·cases h1
       ·injection h2 with h2
        injection h2 with h2;injection h2 with h2;subst h2;exact ⟨h4 p hpl,h3.lt⟩
      have Ul:Hid (t'.reverse++(l4.drop p).reverse=(t'.reverse++(l4.drop (p+1)).reverse)++[l4[p]]):=by
       show _=_;rw [List.drop_eq_getElem_cons hpl,List.reverse_cons,List.append_assoc]
      obtain⟨y,QU⟩:=aq (l4[p]);rw [<-QU]at w_ Ul;have q0:wr.cell? ⟨gl,p*4,none⟩=some (.int .i64 y.dir):=w_ 0 (by decide);have q1:wr.cell? ⟨gl,p*4+1,none⟩=some (.string (bs y.name)):=w_ 1 (by decide);have q2:wr.cell? ⟨gl,p*4+2,none⟩=some (.int .i64 y.no):=w_ 2 (by decide);have q3:wr.cell? ⟨gl,p*4+3,none⟩=some (.int .i64 y.depth):=w_ 3 (by decide);have r0:(0:Int)<=(p:Int):=Int.natCast_nonneg _;have r1:(p:Int)<(n4:Int):=by omega
      have r2:IntKind.i64.wrap ((p:Int)-1)=(p:Int)-1:=IntWalk.i64_in _ (by omega);have Hl:(t'.reverse++(l4.drop (p+1)).reverse).length<=2000000:=by
       have:=YA.out;have:=BP.out;rw [List.length_append,List.length_reverse,List.length_reverse,List.length_drop];omega
      have VY:W.heap.size<=wr.heap.size:=(TX.out _ _ _ TZ).2.1;obtain ⟨v',w',hr,Db,hg,Ov⟩:=uf wr YE VY y Hl;have HR:=zH hr;have o6:Only u8.ownBlock.toList wr w':=(Only.gJ _ _ _).then (Only.of_grownBy hg (fun g hv=>Option.mem_toList.2 hv));have hB6:∀y∈O2,ib wr y:=fun y hy=>((TX.out _ _ _ TZ).2.2 y hy).2
      have Sl:∀y∈O2,y<wr.heap.size:=fun y hy=>(hB6 y hy).lt
      obtain⟨O3,MQ⟩:=aq ((O2.filter fun y=>decide (y∉u8.ownBlock.toList))++v'.ownBlock.toList);have Sm:∀y,y∈O3->(y∈O2/\y∉u8.ownBlock.toList)\/v'.ownBlock=some y:=fun y hy=>by
       rw [MQ]at hy;rcases List.mem_append.1 hy with hm|hm
       ·rw[List.mem_filter,decide_eq_true_eq]at hm;exact .inl hm
       ·exact .inr (Option.mem_toList.1 hm)
      have in3:∀y,y∈O2->u8.ownBlock≠some y->y∈O3:=fun y hy hn=>by
       rw [MQ];exact List.mem_append_left _ (List.mem_filter.2 ⟨hy,by rw[decide_eq_true_eq];exact fun hm=>hn (Option.mem_toList.1 hm)⟩)
      have EI:∀g',v'.ownBlock=some g'->(u8.ownBlock=some g')\/g'=wr.heap.size+1:=fun g' hg'=>by
       rcases Ov with e|e
       ·rw[e]at hg';exact .inl hg'
       ·rw[e]at hg';injection hg' with hg';exact .inr hg'.symm
      have hJ7:J O3 (pre++[(x',0)]) w':=VS.out O2 _ wr _ w' TZ (o6.mono (fun y hy=>(KI y (Option.mem_toList.1 hy)).1)) (fun y hy=>by
        rcases Sm y hy with hm|hm
        ·exact .inl hm.1
        ·rcases EI y hm with e|e
         ·exact .inl (KI y e).1
         ·exact .inr (by omega)) (fun y hy=>by
        rcases Sm y hy with hm|hm
        ·exact (hB6 y hm.1).keep (o6.block y (Sl y hm.1) hm.2)
        ·exact Db.Ky hm)
      have hX7:=o6.has YD (fun hm=>(KI bx (Option.mem_toList.1 hm)).2.1 rfl);have Mu:=VX.only o6 (fun g hv hm=>(KI g (Option.mem_toList.1 hm)).2.2 hv);have hw7:∀g',v'.ownBlock=some g'->g'∈O3/\g'≠bx/\(Value.slice (some ⟨gl,0,none⟩) n4 c4).ownBlock≠some g':=fun g' hg'=>by
       refine ⟨by rw[MQ];exact List.mem_append_right _ (Option.mem_toList.2 hg'),?_,?_⟩
       ·rcases EI g' hg' with e|e
        ·exact (KI g' e).2.1
        ·have:=Sl bx Qb;omega
       ·rcases EI g' hg' with e|e
        ·exact (KI g' e).2.2
        ·intro e2
         have e3:some gl=some g':=e2;injection e3 with e3;omega
      have HJ7:=zH hJ7;have VZ:=zH hX7;have U2:=zH Mu;have GM:=zH Db;have HW7:=zH hw7;have HV6:=zH (fun g (hv:(Value.slice (some ⟨gl,0,none⟩) n4 c4).ownBlock=some g)=>in3 g (hv6 g hv) (fun e=>(KI g e).2.2 hv));have EJ:=zH (in3 bx Qb (fun e=>(KI bx e).2.1 rfl));clear MU TZ YD VX YE KI hv6 hr Db hg Ov EI o6 hJ7 hX7 Mu hw7 w_ QU Sl hB6 Sm in3 MQ;gi_wp2_with (gi_at_builtin;refine jD _ rfl _ _ 42 42 rfl _ _ rfl rfl _ _ HR.out ?_);go_roundw
      case rel=>exact⟨p,_,rfl,by omega,HJ7.out,EJ.out,HV6.out,VZ.out,U2.out,by rw[Ul.out];exact GM.out,HW7.out⟩
      case measure=>simp[intOf]
   ·gi_wp2
    refine bodyPost_ret (results_none rfl _ _ _) rfl ?_;exact ⟨⟨_,rfl⟩,.inr ⟨_,by rw[HLb.out];exact List.prefix_append _ _,aav⟩⟩
end
end Go.Proofs.YtblbohcaphcobaaGreatDoor
