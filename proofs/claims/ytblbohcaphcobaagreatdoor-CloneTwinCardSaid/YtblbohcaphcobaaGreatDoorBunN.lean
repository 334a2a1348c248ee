import Derived.Test.YtblbohcaphcobaaGreatDoorBunE
import Derived.Test.YtblbohcaphcobaaGreatDoorBunD
import Derived.Test.YtblbohcaphcobaaGreatDoorBunL
import Derived.Test.YtblbohcaphcobaaGreatDoorBunX
import Derived.Test.YtblbohcaphcobaaGreatDoorBunJ
import Derived.Test.YtblbohcaphcobaaGreatDoorBunB
import Derived.Test.YtblbohcaphcobaaGreatDoorBunM
import Derived.Test.YtblbohcaphcobaaGreatDoorBunK
import Derived.RangeFuncNested
import Derived.RangeFuncBound
import Derived.RangeFuncCalls
import Derived.RangeFuncLeaves
import Derived.RangeFuncBox
import Derived.Maps.AppendAt
import Derived.OwnWalkIn
import Derived.TacticsInMore
import Derived.LoopNIn
import Derived.LoopIn
import Derived.Sort.LoopGhostIn
set_option maxHeartbeats 16000000
set_option maxRecDepth 100000
namespace Go.Proofs.YtblbohcaphcobaaGreatDoor
section
open Go.ChangeShapes Go.WideShapes Go.ChangeAt Go.RowKit
structure LI (S:ac):Prop where
 pS:∀h:0<S.af.length,S.af[0].over=0
 roots:∀k,(h:k<S.af.length)->∃m∈S.nodes,m.no=S.af[k].root/\m.kind=1/\m.dev=(k:Int)+1
 free:∀k,(h:k+1<S.af.length)->∃m∈S.nodes,m.no=S.af[k+1].over/\aE S.af m.dev≠S.af[k+1].over
theorem fG {S:ac} (m:LI S) {no:Int} (hn:0<no):ak S.af no=no\/∃k,∃hk:k+1<S.af.length,S.af[k+1].over=no/\ak S.af no=S.af[k+1].root:=by
 unfold ak;rw [if_pos hn]
 cases hf:S.af.find? (fun d=>d.over == no) with
 | none=>exact .inl rfl
 | some d =>
  right
  have hm:=List.mem_of_find?_eq_some hf;have ho:d.over=no:=by simpa using List.find?_some hf
  obtain ⟨k,hk,e⟩:=List.getElem_of_mem hm
  match k,hk,e with
  | 0,hk,e =>
   have:=m.pS hk;rw [e]at this;omega
  | k+1,hk,e=>exact⟨k,hk,by rw[e];exact ho,by rw[e]⟩
theorem dI.nt {c:Nat} {S:ac} (h:dI c S):LI S:=⟨h.pS,h.fc,fun k hk=>by
 obtain ⟨m,hm,a,_,_,b⟩:=h.kZ k hk;exact ⟨m,hm,a,by rw[<-a];exact b⟩⟩
def nu (S:ac):Prop:=∀m∈S.nodes,∀x∈m.ae,∀q∈S.nodes,q.no=x.2->q.kind=1->q.up=m.no
structure aq where
 dir:Int
 name:List UInt8
 no:Int
 depth:Int
def mB:aq:=⟨0,[],0,0⟩
def ez (S:ac) (cu cg:Int) (x:aq):Int:=
 if aQ S.nodes x.no=false then 5 else if aQ S.nodes x.dir=false then 5
 else if (aa S.nodes x.no).dev≠(aa S.nodes x.dir).dev then 16
 else if (aa S.nodes x.no).kind≠1 then 0 else bf S cu cg x.no 1 4
def ik (x:aq) (y:ax):aq:=⟨x.no,y.1,y.2,x.depth+1⟩
def dB (S:ac) (cu cg:Int) (x:aq):List aq:=
 if ez S cu cg x=0/\(aa S.nodes x.no).kind=1 then (dm S (aa S.nodes x.no).ae).map (ik x) else []
inductive jr (S:ac) (cu cg:Int):List aq->List aq->aq->Int->Prop
 | nil:jr S cu cg [] [] mB 0
 | bad {x:aq} {t:List aq}:ez S cu cg x≠0->jr S cu cg (x::t) [] x (ez S cu cg x)
 | step {x:aq} {t l:List aq} {b:aq} {e:Int}:ez S cu cg x=0->jr S cu cg (dB S cu cg x++t) l b e->jr S cu cg (x::t) (x::l) b e
theorem kS {c:Nat} {S:ac} (h:dI c S) (hl:nu S) {m:ai} (hm:m∈S.nodes) {x:ax} (hx:x∈m.ae) (hk:(aa S.nodes (ak S.af x.2)).kind=1) :
  aJ S (ak S.af x.2)=m.no/\ak S.af x.2≠m.no:=by
 obtain ⟨k1,k2,k3⟩:=h.zB m hm x hx;have hp:=h.pos m hm x hx;rcases fG h.nt (show 0<x.2 by omega) with e|⟨k,hk2,e1,e2⟩
 ·rw [e]at hk|-
  obtain ⟨i1,i2,i3⟩:=bh hk;refine ⟨?_,k1⟩;unfold aJ;rw [if_pos hk,if_neg]
  ·exact hl m hm x hx _ i3 i2 hk
  ·rintro ⟨r,_⟩
   rcases en h.roots (aa S.nodes x.2).dev with⟨e1,_⟩|⟨j,hj,_,_,_,e4,_⟩
   ·rw[e1]at r;omega
   ·exact k2 _ (List.getElem_mem hj) (by rw[<-e4,r])
 ·rw [e2]at hk|-
  obtain ⟨q,hq,q1,q2,q3,q4⟩:=h.kZ k hk2;obtain ⟨y,hy,y1,y2,y3⟩:=h.fc (k+1) hk2;have gq:=(dy h.aC hq).1;have gy:=(dy h.aC hy).1;rw [q1]at gq;rw [y1]at gy;have WD:=hl m hm x hx q hq (by rw[q1,e1]) q2;have NK:aE S.af y.dev=S.af[k+1].root/\(i_ S.af y.dev).over=S.af[k+1].over:=by
   rcases en h.roots y.dev with⟨_,e2⟩|⟨j,hj,e1,e2,e3,e4,_⟩
   ·have:=(h.on y hy).1;rw[e2]at this;cases this
   ·have Q6:j=k+1:=by omega
    subst Q6;exact ⟨e4,by rw[e3]⟩
  refine ⟨?_,?_⟩
  ·unfold aJ
   rw [gy,if_pos y2,if_pos ⟨NK.1,by rw[y3];omega⟩,NK.2,gq];exact WD
  ·intro e
   have SB:y=m:=gJ h.aC hy hm (by rw[y1,e]);have hd:=k3 q hq (by rw[q1,e1]);rw [<-SB,y3]at hd;omega
def Cy (S:ac) (r:Int->Nat) (c:Nat) (no:Int):Nat:=if (aa S.nodes no).kind=1 then (c+2) ^ (S.nodes.length+1-r no) else 1
def XK (S:ac) (r:Int->Nat) (c:Nat) (l:List aq):Nat:=(l.map fun x=>Cy S r c x.no).sum
theorem pg (S:ac) (r:Int->Nat) (c:Nat) (no:Int):0<Cy S r c no:=by
 unfold Cy;split
 ·exact Nat.pow_pos (by omega)
 ·decide
theorem LJ {α:Type} (f:α->Nat) (b:Nat) (l:List α) (h:∀x∈l,f x<=b):(l.map f).sum<=l.length*b:=by
 induction l with
 | nil=>simp
 | cons x l ih =>
  have h1:=ih fun y hy=>h y (List.mem_cons_of_mem _ hy)
  have h2:=h x (List.mem_cons_self ..);rw [List.map_cons,List.sum_cons,List.length_cons,Nat.add_mul];omega
theorem PR {c:Nat} {S:ac} (h:dI c S) (hl:nu S) {r:Int->Nat} (hr:pO S r) (cu cg:Int) (x:aq):XK S r c (dB S cu cg x)<Cy S r c x.no:=by
 unfold dB;split
 ·rename_i hx
  obtain ⟨_,hk⟩:=hx;obtain ⟨i1,i2,i3⟩:=bh hk;have hrx:=hr.top x.no;have hs:=h.small _ i3;unfold XK;rw [List.map_map];have hle:∀y∈dm S (aa S.nodes x.no).ae,((fun x=>Cy S r c x.no)∘ik x) y<=(c+2) ^ (S.nodes.length-r x.no):=by
   intro y hy;unfold dm at hy;rw [List.mem_map]at hy;obtain ⟨z,hz,rfl⟩:=hy;show Cy S r c (ak S.af z.2)<=_;unfold Cy;split
   ·rename_i hk2
    obtain ⟨a1,a2⟩:=kS h hl i3 hz hk2;rw [i2]at a1 a2;have hx1:=(h.aC.2 _ i3).1;rw [i2]at hx1;have h0:ak S.af z.2≠0:=by
     intro e;rw[e]at hk2;have:=(bh hk2).1;rw [h.aC.zero (.inl (by decide))]at this;cases this
    have:=hr.step (ak S.af z.2) h0 (by rw[a1];omega) (by rw[a1];exact Ne.symm a2);rw [a1]at this;exact Nat.pow_le_pow_right (by omega) (by omega)
   ·exact Nat.pow_pos (by omega)
  have h1:=LJ _ _ _ hle;rw [jy]at h1;have h2:Cy S r c x.no=(c+2) ^ (S.nodes.length-r x.no)*(c+2):=by
   unfold Cy;rw [if_pos hk,show S.nodes.length+1-r x.no=(S.nodes.length-r x.no)+1 by omega,Nat.pow_succ]
  rw [h2];have h3:0<(c+2) ^ (S.nodes.length-r x.no):=Nat.pow_pos (by omega)
  generalize (c+2) ^ (S.nodes.length-r x.no)=P at *
  have h4:(aa S.nodes x.no).ae.length*P<=c*P:=Nat.mul_le_mul_right P hs;have h5:P*(c+2)=c*P+2*P:=by rw[Nat.mul_add,Nat.mul_comm P c,Nat.mul_comm P 2]
  refine Nat.lt_of_le_of_lt h1 ?_;omega
 ·exact pg S r c x.no
theorem Ht {c:Nat} {S:ac} (h:dI c S) (hl:nu S) (cu cg:Int) (t:List aq):∃l b e,jr S cu cg t l b e:=by
 obtain ⟨r,hr⟩:=h.AJ;have key : ∀n t,XK S r c t<=n->∃l b e,jr S cu cg t l b e:=by
  intro n
  induction n with
  | zero =>
   intro t ht
   cases t with
   | nil=>exact⟨_,_,_,.nil⟩
   | cons x t =>
    have:=pg S r c x.no;unfold XK at ht;rw [List.map_cons,List.sum_cons]at ht;omega
  | succ n ih =>
   intro t ht
   cases t with
   | nil=>exact⟨_,_,_,.nil⟩
   | cons x t =>
    by_cases he:ez S cu cg x=0
    ·have hw:=PR h hl hr cu cg x
     obtain ⟨l,b,e,hd⟩:=ih (dB S cu cg x++t) (by
      unfold XK at ht hw|-;rw [List.map_cons,List.sum_cons]at ht;rw [List.map_append,List.sum_append];omega)
     exact ⟨_,_,_,.step he hd⟩
    ·exact⟨_,_,_,.bad he⟩
 exact key _ t (Nat.le_refl _)
open Go Go.RowKit
def TM (B:Nat) (R:List Nat) (W:World):Prop:=∀r∈R,B<=r/\∃o:Obj,W.heap[r]?=some o/\o.isCells=false
def il (W:World) (x:Nat):Prop:=∃t,gh W x t/\t≠106/\t≠198
theorem il.lt {W:World} {x:Nat} (h:il W x):x<W.heap.size:=by obtain⟨t,⟨c,f,h⟩,_⟩:=h;exact (Array.getElem?_eq_some_iff.1 h).1
theorem il.keep {W W':World} {x:Nat} (h:il W x) (e:W'.heap[x]?=W.heap[x]?):il W' x:=by obtain⟨t,⟨c,f,h⟩,h2⟩:=h;exact⟨t,⟨c,f,e.trans h⟩,h2⟩
theorem il.only {W W':World} {x:Nat} {L:List Nat} (h:il W x) (o:Only L W W') (hL:∀y∈L,il W' y):il W' x:=by
 by_cases hx:x∈L
 ·exact hL x hx
 ·exact h.keep (o.block x h.lt hx)
theorem il.ext {W W':World} {x:Nat} (h:il W x) (o:Ext W W'):il W' x:=h.keep (Below.block o x h.lt)
theorem il.of {W:World} {x:Nat} {cs:Array Value} {t:TypeId} {fr:Nat×Nat} (h:W.heap[x]?=some (.cells cs t fr)) (h1:t≠106) (h2:t≠198):il W x:=⟨t,⟨cs,fr,h⟩,h1,h2⟩
def Bears {α:Type} (B:Nat) (I:List Nat->List α->World->Prop):Prop:=
 ∀ O pre W O' R W',I O pre W->Only (O++R) W W'->TM B R W->(∀x∈O',x∈O\/W.heap.size<=x)->(∀x∈O',il W' x)->I O' pre W'
def TN {α:Type} (B:Nat) (I:List α->World->Prop):Prop:=∀pre W R W',I pre W->Only R W W'->TM B R W->I pre W'
def mC (O:List Nat) (W W':World):Prop:=∀b∈O,W'.heap[b]?=W.heap[b]?
theorem mC.trans {O:List Nat} {A B C:World} (h:mC O A B) (k:mC O B C):mC O A C:=fun b hb=>(k b hb).trans (h b hb)
theorem Only.Fm {L O:List Nat} {W W':World} (o:Only L W W') (h1:∀b∈O,b<W.heap.size) (h2:∀b∈O,b∉L):mC O W W':=fun b hb=>o.block b (h1 b hb) (h2 b hb)
theorem Only.putObj (W:World) (l:Nat) (o:Obj):Only [l] W (W.putObj l o):=
 ⟨rfl,rfl,rfl,by simp,fun k _ hk=>World.putObj_heap_other (fun e=>hk (by simp[e]))⟩
theorem Only.gS (L:List Nat) (W:World) (o:Obj):Only L W (W.alloc o):=Only.aw ((Ext.refl W).alloc o)
theorem Only.lR {L:List Nat} {B:Nat} {W W':World} (o:Only L W W') (h:∀b∈L,b<B\/∃x:Obj,W.heap[b]?=some x/\x.isCells=true):KeepsFrom B W W':=
 ⟨o.size,fun k x hB hk hx=>by
  refine (o.block k (Array.getElem?_eq_some_iff.1 hk).1 fun hm=>?_).trans hk;rcases h k hm with e|⟨y,hy,hc⟩
  ·omega
  ·rw[hk]at hy;cases hy;rw[hx]at hc;cases hc⟩
section
variable {F:Fence} {n:Nat} {P:Program}
def XL {α:Type} (F:Fence) (n:Nat) (P:Program) (g:Nat) (lb:Array Value) (wC:α->Array Value) (S Sp:List α->Prop) (G:List α->α->Prop) (Ex:List α->World->Prop) (w0:World):Prop:=
 ∀ (l : Nat) (J:List Nat->List α->World->Prop) (Jx:List α->World->Prop) (W:World),w0.heap.size<=W.heap.size ->
  (∀O pre V,J O pre V->Ex pre V/\W.heap.size<=V.heap.size/\∀b∈O,W.heap.size<=b/\il V b) ->
  (∀O pre V O' V',J O pre V->Only O V V'->(∀x∈O',x∈O\/V.heap.size<=x)->(∀x∈O',il V' x)->J O' pre V') ->
  (∀pre V V',Jx pre V->Ext V V'->Jx pre V') ->
  (∀ O pre x V,J O pre V->G pre x->YieldAt F (n-1) P l (wC x) V fun e V' =>
   (e=.returned (.bool true)/\J O (pre++[x]) V'/\mC O V V')\/(e=.returned (.bool false)/\Jx (pre++[x]) V')) ->
  J [] [] W ->
  CallsIn F n P g (#[.func (.yield l) #[] #[]]++lb) W fun e W'=>(∃v,e=.returned v)/\((∃O xs,S xs/\J O xs W')\/(∃pre,Sp pre/\Jx pre W'))
def LK {α:Type} (B:Nat) (I:List Nat->List α->World->Prop) (Ix:Code->List α->World->Prop) (O:List Nat) (xs:List α) (W:World):Exit->Act->World->Prop
 | .normal,_,W'=>KeepsFrom B W W'/\mC O W W'/\I O xs W'
 | .ret,_,W'=>KeepsFrom B W W'/\Ix .ret xs W'
 | .exit id,_,W'=>KeepsFrom B W W'/\Ix (.exit id) xs W'
 | .goto t,_,W'=>KeepsFrom B W W'/\Ix (.goto t) xs W'
 | .panic _,_,_=>False
 | .outgrown,_,_=>False
theorem qg {α:Type} {g:Operand} {ps:Array Tmp} {assign body:Code} {Q:Exit->Act->World->Prop} {a:Act} {w:World}
  (hro:F.round=none) (h1:1<=n) {gf:Nat} {lb:Array Value} (hg:a.eval g=.func (.func gf) #[] lb) (hFg:F.fn gf) (eg:∀args w,(callFunc gf args).run P w=.ok (.enter gf args) w)
  {wC:α->Array Value} {S Sp:List α->Prop} {G:List α->α->Prop} {Ex:List α->World->Prop} {w0:World} (TP:XL F (n-1) P gf lb wC S Sp G Ex w0) (gE:w0.heap.size<=w.heap.size) (Rd:∀x,(wC x).size=ps.size)
  (I:List Nat->List α->World->Prop) (Ix:Code->List α->World->Prop) (hI:Bears w.heap.size I) (hIx:∀c,TN w.heap.size (Ix c)) (Lv:∀O pre V,I O pre V->Ex pre V) (h0:I [] [] w)
  (Ax:α->Act->World->Prop) (hAx:∀x a' V l o o',Ax x a' V->w.heap.size<=l->V.heap[l]?=some o->o.isCells=false->Ax x a' (V.putObj l o'))
  (yY:∀(l:Nat) (O:List Nat) (pre:List α) (x:α) (V:World) (K:Act->World->Prop),I O pre V->G pre x->(∀b∈O,il V b)->(∀a' V',KeepsFrom w.heap.size V V'->mC O V V'->I O pre V'->Ax x a' V'->K a' V') ->
   assign.wpIn (F.inRound l) (n-1-1) P (Exit.then K (fun _ _ _=>False)) {tmps:=(ps.zip (wC x)).foldl (fun t (p,v)=>t.setIfInBounds p v) a.tmps,defers:=[]} V)
  (LL:∀(l:Nat) (O:List Nat) (pre:List α) (x:α) (a':Act) (V:World),I O pre V->Ax x a' V->G pre x->(∀b∈O,il V b)->body.wpIn (F.inRound l) (n-1-1) P (LK w.heap.size I Ix O (pre++[x]) V) a' V)
  (j5:∀(D:Nat) (O:List Nat) (xs:List α) (V:World),w.heap.size<=D->S xs->I O xs V->V.heap[D]?=some (.deferred (some []))->Q .normal {a with defers:={target:=.collected D,args:=#[]}::a.defers} V)
  (XM:∀(D:Nat) (c:Code) (pre:List α) (V:World),w.heap.size<=D->Sp pre->Ix c pre V->V.heap[D]?=some (.deferred (some []))->c.wpIn F n P Q {a with defers:={target:=.collected D,args:=#[]}::a.defers} V) :
  (Code.rangeFunc g ps assign body).wpIn F n P Q a w:=by
 refine wpIn_rangeFunc (fun fn hfn=>?_);rw [hro];obtain⟨D,hD⟩:=ar w.heap.size;obtain ⟨R,hR⟩:∃R:LoopState->Option Code->Loop,R=fun st pe=>{state:=st,pending:=pe,fn,tmps:=a.tmps,params:=ps,assign,body,defers:=w.heap.size}:=⟨_,rfl⟩
 obtain ⟨V,hV⟩:∃V,(w.alloc (.deferred (some []))).alloc (.loop (R .ready none))=V:=⟨_,rfl⟩;have vl:V.heap[D+1]?=some (.loop (R .ready none)):=by
  rw [<-hV,hD];have:=World.alloc_heap_new (w.alloc (.deferred (some []))) (.loop (R .ready none))
  rwa [World.size_alloc]at this
 have vd:V.heap[D]?=some (.deferred (some [])):=by
  rw [<-hV,hD];exact (Below.heap_alloc _ _ _ (by simp)).trans (World.alloc_heap_new w _)
 have vI:I [] [] V:=by
  rw [<-hV];exact hI [] [] w [] [] _ h0 ((Only.gS _ _ _).then (Only.gS _ _ _)) (fun r hr=>by cases hr) (fun x hx=>by cases hx) (fun x hx=>by cases hx)
 have vs:V.heap.size=D+2:=by rw[<-hV,hD];simp
 refine ⟨D+1,[{target:=.collected D,args:=#[]}],V,{target:=.fn (.func gf) lb,args:=#[.func (.yield (D+1)) #[] #[]]},V,gf,#[.func (.yield (D+1)) #[] #[]]++lb,V,?_,?_,?_,?_,fun _=>h1,?_⟩
 ·rw[<-hV,hR,hD];exact run_enterLoop_outer _ _ _ _ _
 ·simp only[resolve,hg]
  simp [go_sem]
 ·intro f' ZX;simp[Target.leads]at ZX;subst ZX;exact hFg
 ·simp[invoke,go_sem,eg]
 ·refine (TP (D+1)
   (fun O pre W=>I O pre W/\W.heap[D+1]?=some (.loop (R .ready none))/\W.heap[D]?=some (.deferred (some []))/\V.heap.size<=W.heap.size/\∀b∈O,V.heap.size<=b/\il W b)
   (fun pre W=>∃c,Ix c pre W/\W.heap[D+1]?=some (.loop (R .done (some c)))/\W.heap[D]?=some (.deferred (some []))) V (by omega)
   (fun O pre W h=>⟨Lv O pre W h.1,h.2.2.2.1,h.2.2.2.2⟩)
   (fun O pre X O' Y h o hO DK=>by
    obtain ⟨h1,h2,h3,h4,h5⟩:=h;have nD:∀k,k<V.heap.size->k∉O:=fun k hk hm=>by have:=(h5 k hm).1;omega
    refine ⟨hI O pre X O' [] Y h1 (by rw[List.append_nil];exact o) (fun r hr=>by cases hr) hO DK,?_,?_,Nat.le_trans h4 o.size,fun b hb=>⟨?_,DK b hb⟩⟩
    ·exact (o.block _ (by omega) (nD _ (by omega))).trans h2
    ·exact (o.block _ (by omega) (nD _ (by omega))).trans h3
    ·rcases hO b hb with e|e
     ·exact (h5 b e).1
     ·omega)
   (fun pre X Y ⟨c,hc,hl,hk⟩ e=>⟨c,hIx c pre X [] Y hc (Only.aw e) (fun r hr=>by cases hr),(Below.block e _ (Array.getElem?_eq_some_iff.1 hl).1).trans hl,(Below.block e _ (Array.getElem?_eq_some_iff.1 hk).1).trans hk⟩)
   ?_ ⟨vI,vl,vd,Nat.le_refl _,fun b hb=>by cases hb⟩).mono ?_
  ·rintro O pre x W ⟨hi,hl,hk,hs,hO⟩ hG
   have hlt:D+1<W.heap.size:=(Array.getElem?_eq_some_iff.1 hl).1;have hy:=run_yield (P:=P) (args:=wC x) hl (by rw[hR];exact Rd x);rw [hR]at hy;refine ⟨fn,_,assign,body,hy,roundIn_of_wpIn hfn (yY _ O pre x W _ hi hG (fun b hb=>(hO b hb).2) ?_)⟩;clear hy;intro a' Wa TQ XO hia XQ;have Ol:=TQ.same _ _ (by omega) hl rfl;have VI:=TQ.same _ _ (by omega) hk rfl;have aaV:D+1<Wa.heap.size:=(Array.getElem?_eq_some_iff.1 Ol).1;have hOa:∀b∈O,il Wa b:=fun b hb=>(hO b hb).2.keep (XO b hb)
   refine ⟨_,run_beginRound Ol (by rw[hR]),?_⟩;obtain ⟨W2,dF⟩:∃W2,W2=Wa.putObj (D+1) (.loop {R .ready none with state:=.busy}):=⟨_,rfl⟩;have rO:W2.heap[D+1]?=some (.loop {R .ready none with state:=.busy}):=by rw[dF];exact World.putObj_heap_same aaV
   have hk2:W2.heap[D]?=some (.deferred (some [])):=by rw[dF];exact (World.putObj_heap_other (by omega)).trans VI
   have hs2:W2.heap.size=Wa.heap.size:=by rw[dF];simp
   have put:∀(O:List Nat) (pre:List α) (X:World) (o o':Obj),I O pre X->X.heap[D+1]?=some o->o.isCells=false->(∀b∈O,V.heap.size<=b/\il X b)->I O pre (X.putObj (D+1) o'):=fun O pre X o o' h1 h2 h3 h4 =>
    hI O pre X O [D+1] _ h1 ((Only.putObj X _ o').mono (fun y hy=>List.mem_append_right _ hy)) (fun r hr=>by rw[List.mem_singleton]at hr;subst hr;exact⟨by omega,o,h2,h3⟩) (fun y hy=>.inl hy) (fun y hy=>(h4 y hy).2.keep (World.putObj_heap_other (by have:=(h4 y hy).1;omega)))
   have pB:I O pre W2:=by rw[dF];exact put O pre Wa _ _ hia Ol rfl (fun b hb=>⟨(hO b hb).1,hOa b hb⟩)
   have LM:∀X o',mC O X (X.putObj (D+1) o'):=fun X o' b hb=>by have:=(hO b hb).1;exact World.putObj_heap_other (by omega)
   rw [<-dF];refine wpIn_mono (LL _ O pre x a' W2 pB (by rw[dF];exact hAx _ _ _ _ _ _ XQ (by omega) Ol rfl) hG (fun b hb=>by rw[dF];exact (hOa b hb).keep (LM _ _ b hb))) ?_;have fin:∀(jump:Option Code) (W3:World),KeepsFrom w.heap.size W2 W3->∃W4,W4=W3.putObj (D+1) (.loop (R (if jump.isNone then .ready else .done) jump)) /\
     (Instr.endRound (D+1) jump).run P W3=.ok (.bool jump.isNone) W4/\W3.heap[D+1]?=some (.loop {R .ready none with state:=.busy}) /\
     W4.heap[D+1]?=some (.loop (R (if jump.isNone then .ready else .done) jump))/\W4.heap[D]?=some (.deferred (some []))/\W2.heap.size<=W3.heap.size/\W4.heap.size=W3.heap.size:=fun jump W3 lF=>by
    have Om:=lF.same _ _ (by omega) rO rfl;have hd3:=lF.same _ _ (by omega) hk2 rfl;have Dt:=run_endRound (P:=P) jump Om;rw [hR]at Dt;refine ⟨_,rfl,?_,Om,World.putObj_heap_same (Array.getElem?_eq_some_iff.1 Om).1,(World.putObj_heap_other (by omega)).trans hd3,lF.size,by simp⟩;rw [hR];exact Dt
   rintro e a3 W3 hp;have leave:∀c,KeepsFrom w.heap.size W2 W3->Ix c (pre++[x]) W3->∃v W4,(Instr.endRound (D+1) (some c)).run P W3=.ok v W4/\v=.bool false/\∃c,Ix c (pre++[x]) W4/\W4.heap[D+1]?=some (.loop (R .done (some c)))/\W4.heap[D]?=some (.deferred (some [])):=fun c lF hi3=>by
    obtain ⟨W4,fN,hr,Om,Gi,I2,_,_⟩:=fin (some c) W3 lF;exact ⟨_,W4,hr,rfl,c,by rw[fN];exact hIx _ _ W3 [D+1] _ hi3 (Only.putObj _ _ _) (fun r hr=>by rw[List.mem_singleton]at hr;subst hr;exact⟨by omega,_,Om,rfl⟩),Gi,I2⟩
   cases e with
   | normal =>
    obtain ⟨lF,XR,hi3⟩:=hp;obtain ⟨W4,fN,hr,Om,Gi,I2,hs3,hs4⟩:=fin none W3 lF;have q1:mC O Wa W2:=by rw[dF];exact LM _ _
    have Oo:∀b∈O,V.heap.size<=b/\il W3 b:=fun b hb=>⟨(hO b hb).1,((hOa b hb).keep (q1 b hb)).keep (XR b hb)⟩
    have q2:mC O W3 W4:=by rw[fN];exact LM _ _
    refine ⟨_,W4,hr,.inl ⟨rfl,⟨by rw[fN];exact put O _ W3 _ _ hi3 Om rfl Oo,Gi,I2,by have:=TQ.size;omega,fun b hb=>⟨(hO b hb).1,(Oo b hb).2.keep (q2 b hb)⟩⟩,?_⟩⟩;exact ((XO.trans q1).trans XR).trans q2
   | ret =>
    obtain ⟨v,W4,hr,hv,hc⟩:=leave .ret hp.1 hp.2;exact ⟨v,W4,hr,.inr ⟨by rw[hv],hc⟩⟩
   | exit id =>
    obtain ⟨v,W4,hr,hv,hc⟩:=leave (.exit id) hp.1 hp.2;exact ⟨v,W4,hr,.inr ⟨by rw[hv],hc⟩⟩
   | goto t =>
    obtain ⟨v,W4,hr,hv,hc⟩:=leave (.goto t) hp.1 hp.2;exact ⟨v,W4,hr,.inr ⟨by rw[hv],hc⟩⟩
   | panic ch=>exact hp.elim
   | outgrown=>exact hp.elim
  ·rintro e W2 ⟨⟨v,rfl⟩,(⟨O,xs,hS,hi,hl,hk,hs,hO⟩|⟨pre,hSp,c,hi,hl,hk⟩)⟩
   ·have hr:=run_endLoop (P:=P) hl (by rw[hR];simp)
    refine ⟨none,_,by rw[hR]at hr;exact hr,?_⟩;rw [hD]at hk|-;refine j5 _ O xs _ (Nat.le_refl _) hS (hI O xs W2 O [D+1] _ hi ((Only.putObj W2 _ _).mono (fun y hy=>List.mem_append_right _ (by rw[hD];exact hy))) (fun r hr=>by rw[List.mem_singleton]at hr;subst hr;exact⟨by omega,_,hl,rfl⟩) (fun y hy=>.inl hy) (fun y hy=>(hO y hy).2.keep (World.putObj_heap_other (by have:=(hO y hy).1;omega)))) ((World.putObj_heap_other (by omega)).trans hk)
   ·have hr:=run_endLoop (P:=P) hl (by rw[hR];simp)
    refine ⟨some c,_,by rw[hR]at hr;exact hr,?_⟩;rw [hD]at hk|-;exact XM _ c pre _ (Nat.le_refl _) hSp (hIx c _ W2 [D+1] _ hi ((Only.putObj W2 _ _).mono (fun y hy=>by rw[hD];exact hy)) (fun r hr=>by rw[List.mem_singleton]at hr;subst hr;exact⟨by omega,_,hl,rfl⟩)) ((World.putObj_heap_other (by omega)).trans hk)
end
end
section
open Go.ChangeShapes Go.WideShapes Go.ChangeAt Go.RowKit
abbrev cR (x:aq):List Value:=[.int .i64 x.dir,.string (bs x.name),.int .i64 x.no,.int .i64 x.depth]
def eF (l:List aq):List Value:=l.flatMap cR
theorem jD (l:List aq):(eF l).length=l.length*4:=by
 unfold eF
 induction l with
 | nil=>rfl
 | cons x l ih=>rw[List.flatMap_cons,List.length_append,ih];simp;omega
theorem lS (a b:List aq):eF (a++b)=eF a++eF b:=by unfold eF;rw[List.flatMap_append]
theorem oR (l:List aq):∀k,(h:k<l.length)->∀j,j<4->(eF l)[k*4+j]?=(cR l[k])[j]?:=by
 induction l with
 | nil=>intro k h;cases h
 | cons x l ih =>
  intro k h j hj;have e:eF (x::l)=cR x++eF l:=rfl;rw [e]
  cases k with
  | zero =>
   simp only[Nat.zero_mul,Nat.zero_add,List.getElem_cons_zero];rw [List.getElem?_append_left (by simpa using hj)]
  | succ k =>
   have:=ih k (by simpa using h) j hj;rw [List.getElem?_append_right (by simp;omega)];simp only[List.length_cons,List.length_nil,List.getElem_cons_succ];rw [show (k+1)*4+j-(0+1+1+1+1)=k*4+j by omega];exact this
theorem rv (x:aq):∀u∈cR x,u.oneCell'=true:=by
 intro u hu;simp only[List.mem_cons,List.not_mem_nil,or_false]at hu;rcases hu with rfl|rfl|rfl|rfl<;>rfl
theorem wD (l:List aq):∀u∈eF l,u.oneCell'=true:=by
 intro u hu;unfold eF at hu;rw [List.mem_flatMap]at hu;obtain ⟨x,_,hx⟩:=hu;exact rv x u hx
theorem LN:(Tryz.prog.info? 50).map (fun i=>(i.zero,i.size,i.bytes))=some (some (.agg #[.int .i64 0,.string ⟨#[]⟩,.int .i64 0,.int .i64 0]),4,40):=by kernel_rfl
theorem ry:(Tryz.prog.info? 50).map (·.size)=some 4:=by kernel_rfl
def dZ (w:World) (base:Nat) (v:Value) (l:List aq):Prop:=w.ownsRow base 50 4 v l.length (eF l)
theorem dZ.nil (w:World) (base:Nat):dZ w base (.slice none 0 0) []:=World.ownsRow_nil _ _ _ _
def PT (w:World) (A:Option Addr) (l:List aq):Prop:=
 l = []\/∃b o,A=some ⟨b,o,none⟩/\b<w.heap.size/\∀k,(h:k<l.length)->∀j,j<4->w.cell? ⟨b,o+k*4+j,none⟩=(cR l[k])[j]?
theorem dZ.cases {w:World} {base:Nat} {v:Value} {l:List aq} (h:dZ w base v l) :
  (v=.slice none 0 0/\l=[])\/∃g cap cur,v=.slice (some ⟨g,0,none⟩) l.length cap/\base<=g/\Has w g (.cells cur 50)/\l.length<=cap/\cap<=maxLen/\∀k,(h:k<l.length)->∀j,j<4->w.cell? ⟨g,k*4+j,none⟩=(cR l[k])[j]?:=by
 rcases h.2 with⟨e,h0⟩|⟨g,cap,cur,rfl,hb,hg,hn,hm,hs,ht⟩
 ·exact .inl ⟨e,List.eq_nil_of_length_eq_zero h0⟩
 ·refine .inr ⟨g,cap,cur,rfl,hb,hg,hn,hm,fun k hk j hj=>?_⟩
  have:=World.ownsRow.cellAt h (k*4+j) (by omega);rw [this];exact oR l k hk j hj
theorem dZ.at_ {w:World} {base:Nat} {v:Value} {l:List aq} (h:dZ w base v l):∃A cap,v=.slice A l.length cap/\l.length<=cap/\cap<=maxLen/\PT w A l/\(A=none->cap=0):=by
 rcases h.cases with⟨rfl,rfl⟩|⟨g,cap,cur,rfl,hb,hg,hn,hm,hc⟩
 ·exact⟨none,0,rfl,Nat.le_refl _,by decide,.inl rfl,fun _=>rfl⟩
 ·exact⟨_,cap,rfl,hn,hm,.inr ⟨g,0,rfl,hg.lt,fun k hk j hj=>by rw[Nat.zero_add];exact hc k hk j hj⟩,fun e=>by cases e⟩
theorem dZ.ext {w w':World} {base:Nat} {v:Value} {l:List aq} (h:dZ w base v l) (k:Ext w w'):dZ w' base v l:=World.ownsRow.kept h k.grownBy (by cases v.ownBlock<;>simp)
theorem dZ.only {w w':World} {base:Nat} {v:Value} {l:List aq} {L:List Nat} (h:dZ w base v l) (o:Only L w w') (hn:∀g,v.ownBlock=some g->g∉L):dZ w' base v l:=av h o hn
theorem dZ.base {w:World} {base base':Nat} {v:Value} {l:List aq} (h:dZ w base v l) (hb:base'<=base):dZ w base' v l:=by
 refine ⟨h.1,?_⟩;rcases h.2 with e|⟨g,cap,cur,hv,hg,rest⟩
 ·exact .inl e
 ·exact .inr ⟨g,cap,cur,hv,by omega,rest⟩
theorem dZ.pop {w:World} {base:Nat} {g cap:Nat} {l:List aq} {x:aq} (h:dZ w base (.slice (some ⟨g,0,none⟩) (l++[x]).length cap) (l++[x])):dZ w base (.slice (some ⟨g,0,none⟩) l.length cap) l:=by
 refine ⟨by rw[jD],?_⟩;rcases h.2 with⟨e,_⟩|⟨g',cap',cur,hv,hb,hg,hn,hm,hs,ht⟩
 ·cases e
 ·injection hv with h1 h2 h3
  injection h1 with h1;injection h1 with h1;subst h1;subst h3;refine .inr ⟨g,cap,cur,rfl,hb,hg,by rw[List.length_append]at hn;omega,hm,hs,?_⟩;have e:cur.toList.take (l.length*4)=(cur.toList.take ((l++[x]).length*4)).take (l.length*4):=by rw[List.take_take];congr 1;rw[List.length_append];omega
  rw [e,ht,lS,List.take_left' (jD l)]
theorem dZ.lt {w:World} {base:Nat} {v:Value} {l:List aq} (h:dZ w base v l) {g:Nat} (hv:v.ownBlock=some g):base<=g/\g<w.heap.size:=World.ownsRow.lt h g hv
theorem Hu (w:World) {base:Nat} {v:Value} {l:List aq} (h:dZ w base v l) (hb:base<=w.heap.size) (l2:List aq) (bb o c2:Nat) (h2:∀k,(h:k<l2.length)->∀j,j<4->w.cell? ⟨bb,o+k*4+j,none⟩=(cR l2[k])[j]?)
  (hl:l.length<=2000000) (rO:l2.length<=1000000) :
  ∃ v' w',(Builtin.append_ #[42,42] 42 #[v,.slice (some ⟨bb,o,none⟩) l2.length c2]).run Tryz.prog w=.ok v' w'/\dZ w' base v' (l++l2)/\w.grownBy w' v.ownBlock/\(v'.ownBlock=v.ownBlock\/v'.ownBlock=some w.heap.size):=by
 obtain ⟨i0,hi,hz0,hz1,hz2⟩:=info_parts LN;obtain ⟨v',w',hr,h3,h4,_,h5⟩:=run_append_own_at (P:=Tryz.prog) (w:=w) base 42 42 50 i0 (.agg #[.int .i64 0,.string ⟨#[]⟩,.int .i64 0,.int .i64 0]) 4 40 Tryz.underlying42 hi hz0 hz1 hz2 rfl (by decide) v l.length _ h ⟨bb,o,none⟩ l2.length c2 (eF l2) (jD l2)
  (by
   intro j u hu;rw [Addr.add_lit];have hj:j<l2.length*4:=by
    rcases Nat.lt_or_ge j (l2.length*4) with h'|h'
    ·exact h'
    ·rw[List.getElem?_eq_none (by rw[jD];exact h')]at hu;cases hu
   have hk:j / 4<l2.length:=by omega
   have e:j=j / 4*4+j % 4:=by omega
   have a:=oR l2 (j / 4) hk (j % 4) (by omega);rw [<-e,hu]at a;have b:=h2 (j / 4) hk (j % 4) (by omega);rw [Nat.add_assoc,<-e]at b;rw [b,<-a])
  (wD l2) (by unfold maxLen;omega) (by omega) hb
 refine ⟨v',w',hr,?_,h4,h5⟩;unfold dZ;rw [lS,List.length_append];exact h3
theorem uK (w:World) {base:Nat} {v:Value} {l:List aq} (h:dZ w base v l) (hb:base<=w.heap.size) (x:aq) (hl:l.length<=2000000) :
  ∃ v' w',(Builtin.append_ #[42,42] 42 #[v,.slice (some ⟨w.heap.size,0,none⟩) 1 1]).run Tryz.prog (w.alloc (.cells (cR x).toArray 50))=.ok v' w'/\dZ w' base v' (l++[x])/\(w.alloc (.cells (cR x).toArray 50)).grownBy w' v.ownBlock/\(v'.ownBlock=v.ownBlock\/v'.ownBlock=some (w.heap.size+1)):=by
 have hN:=Has.new w (.cells (cR x).toArray 50);have E:Ext w (w.alloc (.cells (cR x).toArray 50)):=(Ext.refl _).alloc _;obtain ⟨v',w',hr,h3,h4,h5⟩:=Hu (w.alloc (.cells (cR x).toArray 50)) (h.ext E) (by simp;omega) [x] w.heap.size 0 1
  (fun k hk j hj=>by
   have:k=0:=by simpa using hk
   subst this;rw [show 0+0*4+j=j by omega];have:=hN.cell j;rw [this];simp) hl (by simp)
 exact ⟨v',w',hr,h3,h4,by rw[World.size_alloc]at h5;exact h5⟩
theorem Only.of_grownBy {w w':World} {v:Value} {L:List Nat} (h:w.grownBy w' v.ownBlock) (hL:∀g,v.ownBlock=some g->g∈L):Only L w w':=
 ⟨h.os,h.tape,h.output,h.size,fun k hk hn=>h.block k hk fun e=>hn (hL k e.symm)⟩
theorem Has.Fo {w:World} {b:Nat} {t:TypeId} {x:aq} (y:aq) (h:Has w b (.cells (cR x).toArray t)):Has (w.setCells b 0 (cR y)) b (.cells (cR y).toArray t):=by
 have h0:=Has.setCell h 0 (.int .i64 y.dir);have h1:=Has.setCell h0 1 (.string (bs y.name));have h2:=Has.setCell h1 2 (.int .i64 y.no);have h3:=Has.setCell h2 3 (.int .i64 y.depth);exact h3
theorem qh {ops:Array Oper} {rest:List Oper} {op:Oper} {a:Act} {w:World} {Q:Exit->Act->World->Prop} (hgd:op.guard=none) (x y:Operand) (ho:op.op=.store 50 x y)
  (b:Nat) (d d':aq) (hx:a.eval x=.pointer (some ⟨b,0,none⟩)) (hy:a.eval y=.agg (cR d').toArray) (hb:Has w b (.cells (cR d).toArray 50))
  (h:∀w',Has w' b (.cells (cR d').toArray 50)->Only [b] w w'->wpList Tryz.prog ops Q rest (a.put op.dst undef) w'):wpList Tryz.prog ops Q (op::rest) a w:=by
 refine wpList_store_mid hgd 50 x y ho b 0 (cR d').toArray hx hy hb.there ry (all_oneCell_toArray (cs:=cR d') (rv d')) ?_;exact h _ (hb.Fo d') (cO (cR d') 0 w)
theorem LO {fn:Func} {p t:Tmp} (h:fn.results=#[.cell p 50,.tmp t]) (tmps:Array Value) (w:World) (g:Nat) (d:aq) (v:Value)
  (hp:tmps.getD p undef=.pointer (some ⟨g,0,none⟩)) (hv:tmps.getD t undef=v) (hg:Has w g (.cells (cR d).toArray 50)) :
  (results fn tmps).run Tryz.prog w=.ok (.tuple #[.agg (cR d).toArray,v]) w:=
 ku h tmps w g 50 _ _ v hp hv hg Tryz.underlying50 rfl ry
def sN (s:aA) (cu cg:Int) (x:aq):Int:=dR s (ez s.t cu cg x)
def DL (s:aA) (cu cg:Int) (x:aq):List aq:=nr s (dB s.t cu cg x)
def RH (w:World) (L:List aq) (x:Int) (e:Ending) (w':World):Prop:=∃v,e=.returned (.tuple #[v,.int .i64 x])/\dZ w' w.heap.size v L/\Ext w w'
theorem Hv {S:ac} {cu cg:Int} {x:aq} (h:ez S cu cg x≠0):dB S cu cg x=[]:=by
 unfold dB;rw[if_neg (fun k=>h k.1)]
theorem DM {S:ac} {cu cg:Int} {x:aq} (h:(aa S.nodes x.no).kind≠1):dB S cu cg x=[]:=by
 unfold dB;rw[if_neg (fun k=>h k.2)]
theorem PU {s:aA} {cu cg:Int} {x:aq} (h:sN s cu cg x≠0):DL s cu cg x=[]:=by
 unfold sN dR at h;unfold DL nr;split
 ·rfl
 ·rename_i hd;rw[if_neg hd]at h;exact Hv h
def jh (s:aA) (cu cg dir:Int) (nm:List UInt8):aq:=⟨dir,nm,RG s (lc s.t cu cg dir nm),0⟩
def jV (s:aA) (cu cg dir:Int) (nm:List UInt8):Int:=dR s (iH s.t cu cg dir nm)
section
variable {s:aA} {cu cg:Int} {x:aq}
theorem fk (s:aA) (no:Int):(dR s (cK s.t no)=0/\s.dead=false/\aQ s.t.nodes no=true)\/(dR s (cK s.t no)≠0/\(s.dead=true\/(s.dead=false/\aQ s.t.nodes no=false))):=by
 unfold dR cK
 cases hd:s.dead
 ·rw [if_neg (by decide)]
  cases hi:aQ s.t.nodes no
  ·exact .inr ⟨by decide,.inr ⟨rfl,rfl⟩⟩
  ·exact .inl ⟨rfl,rfl,rfl⟩
 ·rw[if_pos rfl];exact .inr ⟨by decide,.inl rfl⟩
theorem TR (h:dR s (cK s.t x.no)≠0):sN s cu cg x=dR s (cK s.t x.no):=by
 rcases fk s x.no with⟨h1,_⟩|⟨_,hd|⟨hd,hi⟩⟩
 ·exact absurd h1 h
 ·unfold sN dR;rw[if_pos hd,if_pos hd]
 ·unfold sN dR ez cK;rw[hi,if_pos rfl];rfl
theorem TS (h1:dR s (cK s.t x.no)=0) (h:dR s (cK s.t x.dir)≠0):sN s cu cg x=dR s (cK s.t x.dir):=by
 rcases fk s x.no with⟨_,hd,hi⟩|⟨h2,_⟩
 case inr=>exact absurd h1 h2
 rcases fk s x.dir with⟨h2,_⟩|⟨_,tI|⟨_,pB⟩⟩
 ·exact absurd h2 h
 ·rw[hd]at tI;cases tI
 ·unfold sN dR ez cK;rw[hi,pB,if_neg (show ¬true=false by decide),if_pos rfl];rfl
theorem TT (h1:dR s (cK s.t x.no)=0) (h2:dR s (cK s.t x.dir)=0) (h:(wB s (aa s.t.nodes x.no)).dev≠(wB s (aa s.t.nodes x.dir)).dev):sN s cu cg x=16:=by
 rcases fk s x.no with⟨_,hd,hi⟩|⟨k,_⟩
 case inr=>exact absurd h1 k
 rcases fk s x.dir with⟨_,_,pB⟩|⟨k,_⟩
 case inr=>exact absurd h2 k
 unfold wB at h;rw [if_neg (by rw[hd];decide),if_neg (by rw[hd];decide)]at h;unfold sN dR ez;rw [hi,pB,if_neg (by rw[hd];decide),if_neg (by decide),if_neg (by decide),if_pos h]
theorem PV (h1:dR s (cK s.t x.no)=0) (h2:dR s (cK s.t x.dir)=0) (h:(wB s (aa s.t.nodes x.no)).dev=(wB s (aa s.t.nodes x.dir)).dev) (hk:(wB s (aa s.t.nodes x.no)).kind≠1):sN s cu cg x=0/\DL s cu cg x=[]:=by
 rcases fk s x.no with⟨_,hd,hi⟩|⟨k,_⟩
 case inr=>exact absurd h1 k
 rcases fk s x.dir with⟨_,_,pB⟩|⟨k,_⟩
 case inr=>exact absurd h2 k
 unfold wB at h hk;rw [if_neg (by rw[hd];decide)]at h hk;rw [if_neg (by rw[hd];decide)]at h;unfold sN DL dR nr;rw [if_neg (by rw[hd];decide),if_neg (by rw[hd];decide)];refine ⟨?_,DM hk⟩;unfold ez;rw [hi,pB,if_neg (by decide),if_neg (by decide),if_neg (fun k=>k h),if_pos hk]
theorem PX (h1:dR s (cK s.t x.no)=0) (h2:dR s (cK s.t x.dir)=0) (h:(wB s (aa s.t.nodes x.no)).dev=(wB s (aa s.t.nodes x.dir)).dev) (hk:¬(wB s (aa s.t.nodes x.no)).kind≠1) :
  sN s cu cg x=dR s (bf s.t cu cg x.no 1 4)/\(dR s (bf s.t cu cg x.no 1 4)=0->DL s cu cg x=(nr s (dm s.t (aS s.t cu cg x.no 1 4).ae)).map (ik x)):=by
 rcases fk s x.no with⟨_,hd,hi⟩|⟨k,_⟩
 case inr=>exact absurd h1 k
 rcases fk s x.dir with⟨_,_,pB⟩|⟨k,_⟩
 case inr=>exact absurd h2 k
 unfold wB at h hk;rw [if_neg (by rw[hd];decide)]at h hk;rw [if_neg (by rw[hd];decide)]at h;have hE:ez s.t cu cg x=bf s.t cu cg x.no 1 4:=by
  unfold ez;rw [hi,pB,if_neg (by decide),if_neg (by decide),if_neg (fun k=>k h),if_neg hk]
 unfold sN DL dR nr;rw [if_neg (by rw[hd];decide),if_neg (by rw[hd];decide),if_neg (by rw[hd];decide),if_neg (by rw[hd];decide)];refine ⟨hE,fun h0=>?_⟩;unfold dB;rw [if_pos ⟨hE.trans h0,Decidable.not_not.1 hk⟩];unfold aS;rw [if_pos h0]
end
section
variable {c:Nat} {w:World} {B b:Nat} {g:bQ} {s:aA}
theorem PS.first (h:PS w B b g s) (hs:fT c s) (hc:c<=900) (cu cg dir:Int) (nm:List UInt8) :
  Calls Tryz.prog 70 #[.pointer (some ⟨b,0,none⟩),.agg #[cu,cg],.int .i64 dir,bs nm] w (aH w (.tuple #[.agg (cR (jh s cu cg dir nm)).toArray,.int .i64 (jV s cu cg dir nm)])):=by
 obtain ⟨W0,bg⟩:∃W,W=(w.alloc (.cells #[cu,cg] 27)).alloc (.cells #[.int .i64 0,.string ⟨#[]⟩,.int .i64 0,.int .i64 0] 50):=⟨_,rfl⟩;obtain ⟨b5,jP⟩:∃b,b=w.heap.size:=⟨_,rfl⟩;obtain ⟨b8,fZ⟩:∃b,b=w.heap.size+1:=⟨_,rfl⟩;have E0:Ext w W0:=by rw[bg];exact ((Ext.refl _).alloc _).alloc _
 have R0:Has W0 b8 (.cells (cR mB).toArray 50):=by rw[bg,fZ];have:=Has.new (w.alloc (.cells #[cu,cg] 27)) (.cells #[.int .i64 0,.string ⟨#[]⟩,.int .i64 0,.int .i64 0] 50);rw[World.size_alloc]at this;exact this
 have C0:Has W0 b5 (.cells #[cu,cg] 27):=by rw[bg,jP];exact (Has.new w _).alloc _
 have vQ:w.heap.size<=b8:=by omega
 have KL:=zH ((h.ext E0).look hs hc cu cg dir nm);obtain⟨y,hy⟩:=ar (RG s (lc s.t cu cg dir nm));obtain⟨z,hz⟩:=ar (dR s (iH s.t cu cg dir nm));unfold jh jV;rw [<-hy,<-hz]at KL|-;have c0:=C0.cell 0;have c1:=C0.cell 1;have cz:=C0.lt;clear h hs hy hz;go_enter Tryz.func70,Tryz.ntmps70;go_upto_region 1 with fail;rw [show (w.alloc _).alloc _=W0 from bg.symm,<-fZ,<-jP];clear bg jP fZ;go_wp2_with fail;refine KL.out.mono ?_;rintro e w1 ⟨rfl,b1⟩;have R1:=R0.ext b1;have E1:=E0.trans b1;clear c0 c1 cz KL;go_upto_region 3 with fail;obtain ⟨W2,dF⟩:∃W,W=w1.alloc (.cells #[.int .i64 dir,bs nm,.int .i64 y,.int .i64 0] 50):=⟨_,rfl⟩;obtain ⟨b2,hb2⟩:∃b,b=w1.heap.size:=⟨_,rfl⟩;have N2:Has W2 b2 (.cells #[.int .i64 dir,bs nm,.int .i64 y,.int .i64 0] 50):=by rw[dF,hb2];exact Has.new _ _
 have R2:Has W2 b8 (.cells (cR mB).toArray 50):=by rw[dF];exact R1.alloc _
 have E2:Ext w W2:=by rw[dF];exact E1.alloc _
 rw [<-dF,<-hb2];have n0:=N2.cell 0;have n1:=N2.cell 1;have n2:=N2.cell 2;have n3:=N2.cell 3;have nz:=N2.lt;clear dF hb2 R1 E1;go_wp2_with (refine qh rfl _ _ rfl b8 mB ⟨dir,nm,y,0⟩ rfl rfl R2 ?_;intro w9 R9 O9);refine bodyPost_ret (v:=.tuple #[.agg (cR ⟨dir,nm,y,0⟩).toArray,.int .i64 z]) (LO Tryz.results70 _ _ b8 ⟨dir,nm,y,0⟩ _ rfl rfl R9) rfl ?_;exact ⟨rfl,O9.after E2 (by simpa using vQ)⟩
theorem PS.into (h:PS w B b g s) (hs:fT c s) (hc:c<=900) (cu cg:Int) (x:aq) (hx0:0<=x.depth) (hx1:x.depth<=1000000) :
  Calls Tryz.prog 71 #[.pointer (some ⟨b,0,none⟩),.agg #[cu,cg],.agg #[.int .i64 x.dir,bs x.name,x.no,.int .i64 x.depth]] w (RH w (DL s cu cg x) (sN s cu cg x)):=by
 obtain ⟨W0,bg⟩:∃W,W=(w.alloc (.cells #[cu,cg] 27)).alloc (.cells #[.int .i64 x.dir,bs x.name,x.no,.int .i64 x.depth] 50):=⟨_,rfl⟩;obtain ⟨b4,uL⟩:∃b,b=w.heap.size:=⟨_,rfl⟩;obtain ⟨b5,jP⟩:∃b,b=w.heap.size+1:=⟨_,rfl⟩;have E0:Ext w W0:=by rw[bg];exact ((Ext.refl _).alloc _).alloc _
 have X0:Has W0 b5 (.cells #[.int .i64 x.dir,bs x.name,x.no,.int .i64 x.depth] 50):=by rw[bg,jP];have:=Has.new (w.alloc (.cells #[cu,cg] 27)) (.cells #[.int .i64 x.dir,bs x.name,x.no,.int .i64 x.depth] 50);rw[World.size_alloc]at this;exact this
 have C0:Has W0 b4 (.cells #[cu,cg] 27):=by rw[bg,uL];exact (Has.new w _).alloc _
 have h0:=h.ext E0;obtain ⟨e1,qB⟩:∃e,e=dR s (cK s.t x.no):=⟨_,rfl⟩;obtain ⟨e2,sZ⟩:∃e,e=dR s (cK s.t x.dir):=⟨_,rfl⟩;obtain ⟨e3,IX⟩:∃e,e=dR s (bf s.t cu cg x.no 1 4):=⟨_,rfl⟩;obtain ⟨m1,jl⟩:∃m,m=wB s (aa s.t.nodes x.no):=⟨_,rfl⟩;obtain ⟨m2,cL⟩:∃m,m=wB s (aa s.t.nodes x.dir):=⟨_,rfl⟩;obtain⟨L,hL⟩:=ar (nr s (dm s.t (aS s.t cu cg x.no 1 4).ae));have RI:L.length<=1000000:=by
  rw [hL];unfold nr;split
  ·simp
  ·rw[jy];have:=(hs.eE.aS cu cg x.no 1 4).2;omega
 have K1:Hid (∀u,Ext W0 u->Calls Tryz.prog 12 #[.pointer (some ⟨b,0,none⟩),x.no] u (aH u (.tuple #[gD m1,.int .i64 e1]))):=by
  show ∀u,_;intro u hu;rw [jl,qB];exact (h0.ext hu).stat hs x.no
 have K2:Hid (∀u,Ext W0 u->Calls Tryz.prog 12 #[.pointer (some ⟨b,0,none⟩),.int .i64 x.dir] u (aH u (.tuple #[gD m2,.int .i64 e2]))):=by
  show ∀u,_;intro u hu;rw [cL,sZ];exact (h0.ext hu).stat hs x.dir
 have K3:Hid (∀u,Ext W0 u->Calls Tryz.prog 105 #[.pointer (some ⟨b,0,none⟩),.agg #[cu,cg],x.no] u (Ff u L e3)):=by
  show ∀u,_;intro u hu;rw [hL,IX];exact (h0.ext hu).list hs hc cu cg x.no
 have N1:Hid (e1≠0->sN s cu cg x=e1):=fun k=>by rw[qB]at k|-;exact TR k
 have N2:Hid (e1=0->e2≠0->sN s cu cg x=e2):=fun k1 k2=>by rw[qB]at k1;rw[sZ]at k2|-;exact TS k1 k2
 have N3:Hid (e1=0->e2=0->m1.dev≠m2.dev->sN s cu cg x=16):=fun k1 k2 k3=>by rw[qB]at k1;rw[sZ]at k2;rw[jl,cL]at k3;exact TT k1 k2 k3
 have N4:Hid (e1=0->e2=0->m1.dev=m2.dev->m1.kind≠1->sN s cu cg x=0/\DL s cu cg x=[]):=fun k1 k2 k3 k4=>by rw[qB]at k1;rw[sZ]at k2;rw[jl,cL]at k3;rw[jl]at k4;exact PV k1 k2 k3 k4
 have N5:Hid (e1=0->e2=0->m1.dev=m2.dev->¬m1.kind≠1->sN s cu cg x=e3/\(e3=0->DL s cu cg x=L.map (ik x))):=fun k1 k2 k3 k4=>by rw[qB]at k1;rw[sZ]at k2;rw[jl,cL]at k3;rw[jl]at k4;rw[IX,hL];exact PX k1 k2 k3 k4
 have NE:Hid (sN s cu cg x≠0->DL s cu cg x=[]):=fun k=>PU k
 obtain ⟨IE,hIE⟩:∃e,e=sN s cu cg x:=⟨_,rfl⟩;obtain ⟨IL,hIL⟩:∃e,e=DL s cu cg x:=⟨_,rfl⟩;rw [<-hIE]at N1 N2 N3 N4 N5 NE|-;rw [<-hIL]at N4 N5 NE|-;have c0:=C0.cell 0;have c1:=C0.cell 1;have cz:=C0.lt;have x0:=X0.cell 0;have x1:=X0.cell 1;have x2:=X0.cell 2;have x3:=X0.cell 3;have xz:=X0.lt;simp only[gA,gB,gC]at x0 x1 x2 x3;clear h h0 hs qB sZ IX jl cL hL hIE hIL;go_enter Tryz.func71,Tryz.ntmps71;go_upto_region 1 with fail;rw [show (w.alloc _).alloc _=W0 from bg.symm,<-jP,<-uL];clear bg uL jP;unfold gD at K1 K2;go_wp2_with fail;refine (K1.out _ (Ext.refl _)).mono ?_;rintro e w1 ⟨rfl,b1⟩;clear c0 c1 cz x0 x1 x2 x3 xz K1;go_upto_region 2 with fail;obtain ⟨W1,b_⟩:∃W,W=w1.alloc (.cells #[m1.no,m1.dev,m1.kind,m1.mode,m1.uid,m1.gid,m1.ah,.int .i64 m1.data.length,m1.mtime,m1.ctime] 46):=⟨_,rfl⟩;obtain ⟨b8,fZ⟩:∃b,b=w1.heap.size:=⟨_,rfl⟩;have S1:Has W1 b8 (.cells #[m1.no,m1.dev,m1.kind,m1.mode,m1.uid,m1.gid,m1.ah,.int .i64 m1.data.length,m1.mtime,m1.ctime] 46):=by rw[b_,fZ];exact Has.new _ _
 have E1:Ext W0 W1:=by rw[b_];exact b1.alloc _
 rw [<-b_,<-fZ];clear b_ fZ b1;have x0:=(X0.ext E1).cell 0;have xz:=(X0.ext E1).lt;simp only[gA,gB]at x0;go_wp2_with fail;refine (K2.out _ E1).mono ?_;rintro e w2 ⟨rfl,b2⟩;clear x0 xz K2;go_upto_region 3 with fail;obtain ⟨W2,dF⟩:∃W,W=w2.alloc (.cells #[m2.no,m2.dev,m2.kind,m2.mode,m2.uid,m2.gid,m2.ah,.int .i64 m2.data.length,m2.mtime,m2.ctime] 46):=⟨_,rfl⟩;obtain ⟨iU,iW⟩:∃b,b=w2.heap.size:=⟨_,rfl⟩;have S2:Has W2 iU (.cells #[m2.no,m2.dev,m2.kind,m2.mode,m2.uid,m2.gid,m2.ah,.int .i64 m2.data.length,m2.mtime,m2.ctime] 46):=by rw[dF,iW];exact Has.new _ _
 have S1':Has W2 b8 (.cells #[m1.no,m1.dev,m1.kind,m1.mode,m1.uid,m1.gid,m1.ah,.int .i64 m1.data.length,m1.mtime,m1.ctime] 46):=by rw[dF];exact (S1.ext b2).alloc _
 have E2:Ext W0 W2:=by rw[dF];exact (E1.trans b2).alloc _
 rw [<-dF,<-iW];clear dF iW b2 S1 E1
 by_cases k1:e1=0
 case neg =>
  have t1:(e1 != 0)=true:=by simpa using k1
  have HK:=zH k1;have H1:=zH (N1.out k1);clear k1;go_wp2_with fail;go_ret2;have hz:IL=[]:=NE.out (by rw[H1.out];exact HK.out);exact ⟨.slice none 0 0,by rw[H1.out];rfl,by rw[hz];exact dZ.nil _ _,E0.trans E2⟩
 have LB:=zH k1
 by_cases k2:e2=0
 case neg =>
  have t1:(e1 != 0)=false:=by simpa using k1
  have t2:(e2 != 0)=true:=by simpa using k2
  have HK:=zH k2;have H1:=zH (N2.out k1 k2);clear k1 k2;go_wp2_with fail;go_ret2;have hz:IL=[]:=NE.out (by rw[H1.out];exact HK.out);exact ⟨.slice none 0 0,by rw[H1.out];rfl,by rw[hz];exact dZ.nil _ _,E0.trans E2⟩
 have Oq:=zH k2;have t1:(e1 != 0)=false:=by simpa using k1
 have t2:(e2 != 0)=false:=by simpa using k2
 clear k1 k2;have y1:=S1'.cell 1;have y2:=S1'.cell 2;have yz:=S1'.lt;have z1:=S2.cell 1;have zz:=S2.lt
 by_cases k3:m1.dev=m2.dev
 case neg =>
  have t3:(m1.dev != m2.dev)=true:=by simpa using k3
  have H1:=zH (N3.out LB.out Oq.out k3);clear k3;go_wp2_with fail;go_ret2;have hz:IL=[]:=NE.out (by rw[H1.out];decide);exact ⟨.slice none 0 0,by rw[H1.out];rfl,by rw[hz];exact dZ.nil _ _,E0.trans E2⟩
 have t3:(m1.dev != m2.dev)=false:=by simpa using k3
 have Od:=zH k3;clear k3
 by_cases k4:m1.kind=1
 case neg =>
  have t4:(m1.kind != 1)=true:=by simpa using k4
  have H1:=zH (N4.out LB.out Oq.out Od.out k4);clear k4;go_wp2_with fail;go_ret2;exact ⟨.slice none 0 0,by rw[H1.out.1];rfl,by rw[H1.out.2];exact dZ.nil _ _,E0.trans E2⟩
 have t4:(m1.kind != 1)=false:=by simpa using k4
 have H5:=zH (N5.out LB.out Oq.out Od.out (fun k=>k k4));clear k4;have c0:=(C0.ext E2).cell 0;have c1:=(C0.ext E2).cell 1;have cz:=(C0.ext E2).lt;have x2:=(X0.ext E2).cell 2;have xz:=(X0.ext E2).lt;simp only[gA,gB,gC]at x2;go_wp2_with fail;refine (K3.out _ E2).mono ?_;rintro e w3 ⟨A,cap,rfl,⟨hat,_⟩,b3⟩;clear c0 c1 cz x2 xz K3 t1 t2 t3 t4 y1 y2 yz z1 zz
 by_cases k5:e3=0
 case neg =>
  have t5:(e3 != 0)=true:=by simpa using k5
  have HK:=zH k5;clear k5;go_wp2_with fail;go_ret2;have hz:IL=[]:=NE.out (by rw[H5.out.1];exact HK.out);exact ⟨.slice none 0 0,by rw[H5.out.1];rfl,by rw[hz];exact dZ.nil _ _,E0.trans (E2.trans b3)⟩
 have t5:(e3 != 0)=false:=by simpa using k5
 have HZ:=zH k5;have HIL:=zH (H5.out.2 k5);clear k5;obtain⟨n,hn⟩:=ar L.length;rw [<-hn]at RI|-;have HN:=zH hn;have RJ:=zH (E0.trans (E2.trans b3));have X3:=X0.ext (E2.trans b3);have RL:=zH X3;have hsz:w.heap.size<=w3.heap.size:=RJ.out.size;have NT:=zH hat;clear hn hat X3;go_wp2_with fail;go_loopw [13,61] (fun vo vi wr=>∃k:Nat,vi=.int .i64 k/\k<=n/\dZ wr w3.heap.size vo ((L.take k).map (ik x))/\Ext w3 wr) (fun _ vi _=>n-(intOf vi).toNat)
 case atStart=>exact⟨0,rfl,Nat.zero_le _,dZ.nil _ _,Ext.refl _⟩
 case round =>
  obtain ⟨k,rfl,hk,hO,hE⟩:=hrel
  by_cases hlt:(k:Int)<n
  ·have dq:k<L.length:=by have:=HN.out;omega
   obtain ⟨ba,o,rfl,zG,ea,eb⟩:=(NT.out.ext hE).lt0 dq;have lk:Hid ((L.take (k+1)).map (ik x)=(L.take k).map (ik x)++[ik x L[k]]):=by
    show _=_;rw [List.take_succ_eq_append_getElem dq,List.map_append];rfl
   have hlk:((L.take k).map (ik x)).length<=1000000:=by rw[List.length_map,List.length_take];omega
   obtain⟨y,hy⟩:=ar (L[k]);rw [<-hy]at ea eb lk;obtain ⟨yn,yo⟩:=y;have q0:(0:Int)<=(k:Int):=Int.natCast_nonneg _;have w3w:IntKind.i64.wrap ((k:Int)+1)=(k:Int)+1:=IntWalk.i64_in _ (by omega);have wdw:IntKind.i64.wrap (x.depth+1)=x.depth+1:=IntWalk.i64_in _ (by omega);obtain ⟨W5,kL⟩:∃W,W=wr.alloc (.cells #[bs yn,.int .i64 yo] 106):=⟨_,rfl⟩;obtain ⟨m_,q_⟩:∃b,b=wr.heap.size:=⟨_,rfl⟩;have N5':Has W5 m_ (.cells #[bs yn,.int .i64 yo] 106):=by rw[kL,q_];exact Has.new _ _
   have E5:Ext wr W5:=by rw[kL];exact (Ext.refl _).alloc _
   clear hy;go_upto_region 18 with fail;rw [<-kL,<-q_];clear kL q_ ea eb zG;have aaW:w3.heap.size<=W5.heap.size:=by have:=hE.size;have:=E5.size;omega
   obtain ⟨v',w',hr,DK,hg,_⟩:=uK W5 (hO.ext E5) aaW ⟨x.no,yn,yo,x.depth+1⟩ (by omega);have HR:=zH hr;have X5:=RL.out.ext (hE.trans E5);have x2:=X5.cell 2;have x3:=X5.cell 3;have xz:=X5.lt;simp only[gA,gB,gC]at x2 x3;have n0:=N5'.cell 0;have n1:=N5'.cell 1;have nz:=N5'.lt;have HO:=zH DK;have HG:=zH hg;have HOW:=zH hO;have Vw:=zH hE;clear hr DK hg X5 N5' hO hE;go_wp2_with (at_builtin;refine Lib.wpList_append_run _ rfl _ _ 42 42 rfl _ _ rfl rfl _ _ HR.out ?_);go_roundw
   case rel=>exact⟨k+1,by go_num,by omega,by rw[lk.out];exact HO.out,((Vw.out.trans E5).alloc _).grown HG.out (fun g hv=>(HOW.out.lt hv).1)⟩
   case measure=>simp[intOf];omega
  ·have JW:k=L.length:=by have:=HN.out;omega
   have HOW:=zH hO;have Vw:=zH hE;have hf:Hid ((L.take k).map (ik x)=L.map (ik x)):=by show _=_;rw[JW,List.take_length]
   clear hO hE JW;go_wp2_with fail;go_ret2;exact ⟨_,by rw[H5.out.1,HZ.out];rfl,by rw[HIL.out,<-hf.out];exact HOW.out.base hsz,RJ.out.trans Vw.out⟩
end
end
section
structure Kids (S:ac):Prop where
 up:∀m∈S.nodes,∀x∈m.ae,∀q∈S.nodes,q.no=x.2->q.kind=1->q.up=m.no
 once:∀m∈S.nodes,∀x∈m.ae,∀y∈m.ae,∀q∈S.nodes,q.no=x.2->q.kind=1->x.2=y.2->x=y
theorem rA {S T:ac} (h:Kids S) {D N:Int} {nm:List UInt8}
  (hq:∀q∈T.nodes,q.kind=1->(∃q'∈S.nodes,q'.no=q.no/\q'.kind=1/\q'.up=q.up)\/(q.no=N/\q.up=D/\∀m∈S.nodes,∀y∈m.ae,y.2≠N))
  (hm:∀m∈T.nodes,∀x∈m.ae,(∃m'∈S.nodes,m'.no=m.no/\x∈m'.ae)\/(m.no=D/\x=(nm,N)))
  (hN:∀q∈T.nodes,q.no=N->q.kind=1->q.up=D/\∀m∈S.nodes,∀y∈m.ae,y.2≠N)
  (hu:aI S.nodes S.last):Kids T:=by
 have old:∀m'∈S.nodes,∀x∈m'.ae,∀q∈T.nodes,q.no=x.2->q.kind=1->∃q'∈S.nodes,q'.no=x.2/\q'.kind=1/\q'.up=q.up:=by
  intro m' hm' x hx q Gh e hk;rcases hq q Gh hk with⟨q',h1,h2,h3,h4⟩|⟨h1,_,h3⟩
  ·exact⟨q',h1,h2.trans e,h3,h4⟩
  ·exact absurd (e.symm.trans h1) (h3 m' hm' x hx)
 refine ⟨fun m jl x hx q Gh e hk=>?_,fun m jl x hx y hy q Gh e hk VJ=>?_⟩
 ·rcases hm m jl x hx with⟨m',h1,h2,h3⟩|⟨h1,h2⟩
  ·obtain ⟨q',k1,k2,k3,k4⟩:=old m' h1 x h3 q Gh e hk
   rw [<-k4,<-h2];exact h.up m' h1 x h3 q' k1 k2 k3
  ·rw [h1]
   exact (hN q Gh (by rw[e,h2]) hk).1
 ·rcases hm m jl x hx with⟨m',h1,h2,h3⟩|⟨h1,h2⟩
  ·rcases hm m jl y hy with⟨m2,k1,k2,k3⟩|⟨k1,k2⟩
   ·have:m'=m2:=gJ hu h1 k1 (h2.trans k2.symm)
    subst this;obtain ⟨q',j1,j2,j3,j4⟩:=old m' h1 x h3 q Gh e hk;exact h.once m' h1 x h3 y k3 q' j1 j2 j3 VJ
   ·have:=(hN q Gh (by rw[e,VJ,k2]) hk).2 m' h1 x h3
    rw [VJ,k2]at this;exact absurd rfl this
  ·rcases hm m jl y hy with⟨m2,k1,k2,k3⟩|⟨k1,k2⟩
   ·have:=(hN q Gh (by rw[e,h2]) hk).2 m2 k1 y k3
    rw [<-VJ,h2]at this;exact absurd rfl this
   ·rw[h2,k2]
theorem nU {S T:ac} (h:Kids S) (hu:aI S.nodes S.last)
  (hm:∀m∈T.nodes,∃m'∈S.nodes,m'.no=m.no/\(m.kind=1->m'.kind=1/\m'.up=m.up)/\∀x∈m.ae,x∈m'.ae):Kids T:=by
 refine rA (D:=0) (N:=-1) (nm:=[]) h (fun q hq hk=>?_) (fun m jl x hx=>?_) (fun q hq e hk=>?_) hu
 ·obtain ⟨m',h1,h2,h3,_⟩:=hm q hq
  exact .inl ⟨m',h1,h2,(h3 hk).1,(h3 hk).2⟩
 ·obtain ⟨m',h1,h2,_,h4⟩:=hm m jl
  exact .inl ⟨m',h1,h2,h4 x hx⟩
 ·obtain ⟨m',h1,h2,_⟩:=hm q hq
  have:=(hu.2 m' h1).1;omega
theorem rB {S:ac} (h:Kids S) (hu:aI S.nodes S.last) {no:Int} (hi:aQ S.nodes no=true) {n:ai} (bc:n.no=no) (hk:n.kind=(aa S.nodes no).kind) (WD:n.up=(aa S.nodes no).up) (he:∀x∈n.ae,x∈(aa S.nodes no).ae):Kids (aK S n):=by
 refine nU h hu fun m hm=>?_
 rcases aM hm with⟨hm,_⟩|rfl
 ·exact⟨m,hm,rfl,fun hk=>⟨hk,rfl⟩,fun x hx=>hx⟩
 ·exact⟨_,(aj hi).2.2,(aj hi).2.1.trans bc.symm,fun gG=>⟨hk▸gG,WD.symm⟩,he⟩
theorem rC {S:ac} {c:Nat} (hT:dI c S) (h:Kids S) (cu cg now dir:Int) (nm:List UInt8) (n:ai) (hn:n.ae=[]) (hk:n.kind=1->n.up=dir):Kids (aX S cu cg now dir nm n):=by
 unfold aX;split
 case isFalse=>exact h
 rename_i h0;obtain ⟨h1,_,h3⟩:=gx h0;obtain ⟨p1,p2,_⟩:=aR h1;obtain ⟨_,bc,hmem⟩:=aj p1;have mN:(bj S (bA S cu cg now dir n)).nodes=S.nodes++[{bA S cu cg now dir n with no:=S.last+1}]:=by unfold bj;rw[if_pos h3]
 have hg:=jw hT.aC (bA S cu cg now dir n) p1;obtain ⟨N,hN⟩:∃N:ai,N={bA S cu cg now dir n with no:=S.last+1}:=⟨_,rfl⟩;have LP:N.no=S.last+1:=by rw[hN]
 have hNe:N.ae=[]:=by rw[hN];exact hn
 have hNk:N.kind=1->N.up=dir:=by rw[hN];exact hk
 rw [<-hN]at mN;obtain ⟨M,hM⟩:∃M:ai,M=cv (bj S (bA S cu cg now dir n)) dir now (dk (aa S.nodes dir).ae (nm,S.last+1)):=⟨_,rfl⟩;have kU:M.no=dir:=by rw[hM];show (aa (bj S _).nodes dir).no=dir;rw[hg.1];exact bc
 have LQ:M.up=(aa S.nodes dir).up:=by rw[hM];show (aa (bj S _).nodes dir).up=_;rw[hg.1]
 have Fp:M.ae=dk (aa S.nodes dir).ae (nm,S.last+1):=by rw[hM];rfl
 show Kids (aK _ _);rw [<-hM];have mem:∀m∈(aK (bj S (bA S cu cg now dir n)) M).nodes,m∈S.nodes\/m=N\/m=M:=fun m hm=>by
  rcases aM hm with⟨hm,_⟩|rfl
  ·rw [mN]at hm
   rcases List.mem_append.1 hm with hm|hm
   ·exact .inl hm
   ·exact .inr (.inl (List.mem_singleton.1 hm))
  ·exact .inr (.inr rfl)
 have fresh:∀m∈S.nodes,∀y∈m.ae,y.2≠S.last+1:=fun m hm y hy=>by have:=(hT.pos m hm y hy).2;omega
 have hle:∀m∈S.nodes,m.no≠S.last+1:=fun m hm=>by have:=(hT.aC.2 m hm).2;omega
 refine rA (D:=dir) (N:=S.last+1) (nm:=nm) h (fun q hq gG=>?_) (fun m hm x hx=>?_) (fun q hq e gG=>?_) hT.aC
 ·rcases mem q hq with hq|rfl|rfl
  ·exact .inl ⟨q,hq,rfl,gG,rfl⟩
  ·exact .inr ⟨LP,hNk gG,fresh⟩
  ·exact .inl ⟨_,hmem,bc.trans kU.symm,p2,LQ.symm⟩
 ·rcases mem m hm with hm|rfl|rfl
  ·exact .inl ⟨m,hm,rfl,hx⟩
  ·rw[hNe]at hx;cases hx
  ·rw [Fp]at hx
   rcases gX hx with hx|rfl
   ·exact .inl ⟨_,hmem,bc.trans kU.symm,hx⟩
   ·exact .inr ⟨kU,rfl⟩
 ·rcases mem q hq with hq|rfl|rfl
  ·exact absurd e (hle q hq)
  ·exact⟨hNk gG,fresh⟩
  ·exact absurd (e▸kU▸bc:(aa S.nodes dir).no=S.last+1) (hle _ hmem)
theorem uM {S T:ac} {p:Int} (h:Kids S) (k:Kids T):Kids (dM p S T):=by unfold dM;split;exact h;exact k
theorem Hw {S:ac} {c:Nat} (hT:dI c S) (h:Kids S) (cu cg now no dir:Int) (nm:List UInt8):Kids (dW S cu cg now no dir nm):=by
 unfold dW;split
 case isFalse=>exact h
 rename_i h0;obtain ⟨hp,hi,hk,hf,hv,hl⟩:=ii h0;obtain ⟨hid,oL,hc⟩:=aR hp;obtain ⟨_,bc,hmem⟩:=aj hi;obtain ⟨_,lr,jq⟩:=aj hid;have hne:dir≠no:=fun e=>by subst e;exact hk oL
 have e0:(bH S now no).no=no:=bc;obtain ⟨g1,g2⟩:=jH (S:=S) (n:=bH S now no) (no:=dir) (by rw[e0];exact hne);obtain ⟨M,hM⟩:∃M:ai,M=cv (aK S (bH S now no)) dir now (dk (aa S.nodes dir).ae (nm,no)):=⟨_,rfl⟩;have kU:M.no=dir:=by rw[hM];show (aa (aK S _).nodes dir).no=dir;rw[g1];exact lr
 have LQ:M.up=(aa S.nodes dir).up:=by rw[hM];show (aa (aK S _).nodes dir).up=_;rw[g1]
 have Fp:M.ae=dk (aa S.nodes dir).ae (nm,no):=by rw[hM];rfl
 show Kids (aK _ _);rw [<-hM];have mem:∀m∈(aK (aK S (bH S now no)) M).nodes,m∈S.nodes\/m=bH S now no\/m=M:=fun m hm=>by
  rcases aM hm with⟨hm,_⟩|rfl
  ·rcases aM hm with⟨hm,_⟩|rfl
   ·exact .inl hm
   ·exact .inr (.inl rfl)
  ·exact .inr (.inr rfl)
 refine rA (D:=dir) (N:=no) (nm:=nm) h (fun q hq gG=>?_) (fun m hm x hx=>?_) (fun q hq e gG=>?_) hT.aC
 ·rcases mem q hq with hq|rfl|rfl
  ·exact .inl ⟨q,hq,rfl,gG,rfl⟩
  ·exact absurd gG hk
  ·exact .inl ⟨_,jq,lr.trans kU.symm,oL,LQ.symm⟩
 ·rcases mem m hm with hm|rfl|rfl
  ·exact .inl ⟨m,hm,rfl,hx⟩
  ·exact .inl ⟨_,hmem,rfl,hx⟩
  ·rw [Fp]at hx
   rcases gX hx with hx|rfl
   ·exact .inl ⟨_,jq,lr.trans kU.symm,hx⟩
   ·exact .inr ⟨kU,rfl⟩
 ·rcases mem q hq with hq|rfl|rfl
  ·have:=gJ hT.aC hq hmem (by rw[bc];exact e)
   subst this;exact absurd gG hk
  ·exact absurd gG hk
  ·exact absurd (kU.symm.trans e) hne
theorem xC {S:ac} (h:Kids S) (hu:aI S.nodes S.last) {now dir no:Int} {nm:List UInt8} (hi:aQ S.nodes dir=true) (sw:aQ S.nodes no=true):Kids (mA S now (aa S.nodes dir) (aa S.nodes no) nm):=by
 obtain ⟨_,lr,jq⟩:=aj hi;obtain ⟨_,bc,hmem⟩:=aj sw;obtain ⟨M,hM⟩:∃M:ai,M=cv S (aa S.nodes dir).no now (iu (aa S.nodes dir).ae nm):=⟨_,rfl⟩;have kU:M.no=dir:=by rw[hM,lr];exact lr
 have LR:M.kind=(aa S.nodes dir).kind:=by rw[hM,lr];rfl
 have LQ:M.up=(aa S.nodes dir).up:=by rw[hM,lr];rfl
 have Fp:M.ae=iu (aa S.nodes dir).ae nm:=by rw[hM];rfl
 have mem:∀m∈(aK (aK S M) (jI now (aa S.nodes no))).nodes,m∈S.nodes\/m=jI now (aa S.nodes no)\/m=M:=fun m hm=>by
  rcases aM hm with⟨hm,_⟩|rfl
  ·rcases aM hm with⟨hm,_⟩|rfl
   ·exact .inl hm
   ·exact .inr (.inr rfl)
  ·exact .inr (.inl rfl)
 have key:∀m∈(aK (aK S M) (jI now (aa S.nodes no))).nodes,∃m'∈S.nodes,m'.no=m.no/\(m.kind=1->m'.kind=1/\m'.up=m.up)/\∀x∈m.ae,x∈m'.ae:=fun m hm=>by
  rcases mem m hm with hm|rfl|rfl
  ·exact⟨m,hm,rfl,fun hk=>⟨hk,rfl⟩,fun x hx=>hx⟩
  ·exact⟨_,hmem,rfl,fun hk=>⟨hk,rfl⟩,fun x hx=>hx⟩
  ·exact⟨_,jq,lr.trans kU.symm,fun hk=>⟨LR▸hk,LQ.symm⟩,fun x hx=>by rw[Fp]at hx;exact (kE hx).1⟩
 have k2:Kids (aK (aK S M) (jI now (aa S.nodes no))):=nU h hu key;unfold mA cI;rw [<-hM];unfold na;split
 ·unfold kO
  split
  ·exact nU h hu fun m hm=>key m (dU hm).1
  ·exact k2
 ·exact k2
theorem LS {S:ac} {c:Nat} (hT:dI c S) (h:Kids S) (cu cg now:Int) (x:jn) (hx:∀fr a aY b,x≠.rename fr a aY b):Kids (cF S cu cg now x):=by
 cases x with
 | bZ dir nm mode=>exact uM h (rC hT h _ _ _ _ _ _ rfl fun _=>rfl)
 | bB dir nm mode data=>exact uM h (rC hT h _ _ _ _ _ _ rfl fun hk=>by cases hk)
 | symlink dir nm text=>exact uM h (rC hT h _ _ _ _ _ _ rfl fun hk=>by cases hk)
 | link no dir nm=>exact Hw hT h _ _ _ _ _ _
 | unlink dir nm =>
  show Kids (jf S cu cg now dir nm);unfold jf;split
  ·rename_i h0
   unfold nO at h0;split at h0
   ·rename_i h1;exact absurd h0 h1
   ·rename_i h1
    obtain ⟨z1,z2,_,z4,z5⟩:=gz (Decidable.not_not.1 h1);rw [z4,z5];exact xC h hT.aC (aR z1).1 z2
  ·exact h
 | ux dir nm =>
  show Kids (kQ S cu cg now dir nm);unfold kQ;split
  ·rename_i h0
   unfold rc at h0;split at h0
   ·rename_i h1;exact absurd h0 h1
   ·rename_i h1
    obtain ⟨z1,z2,_,z4,z5⟩:=gz (Decidable.not_not.1 h1);rw [z4,z5];exact xC h hT.aC (aR z1).1 z2
  ·exact h
 | rename fr a aY b=>exact absurd rfl (hx fr a aY b)
 | dn no mode =>
  show Kids (d_ S cu now no mode);unfold d_;split
  ·rename_i h0
   unfold eJ at h0;split at h0
   ·rename_i h1;exact absurd h0 h1
   ·rename_i h1
    have hi:=fM (Decidable.not_not.1 h1);exact rB h hT.aC hi (aj hi).2.1 rfl rfl fun x hx=>hx
  ·exact h
 | cU no uid gid =>
  show Kids (ey S cu now no uid gid);unfold ey;split
  ·rename_i h0
   unfold fu at h0;split at h0
   ·rename_i h1;exact absurd h0 h1
   ·rename_i h1
    have hi:=fM (Decidable.not_not.1 h1);exact rB h hT.aC hi (aj hi).2.1 rfl rfl fun x hx=>hx
  ·exact h
 | dp no mt =>
  show Kids (ee S cu now no mt);unfold ee;split
  ·rename_i h0
   unfold fw at h0;split at h0
   ·rename_i h1;exact absurd h0 h1
   ·rename_i h1
    have hi:=fM (Decidable.not_not.1 h1);exact rB h hT.aC hi (aj hi).2.1 rfl rfl fun x hx=>hx
  ·exact h
 | write no data =>
  show Kids (yD S cu cg now no data);unfold yD;split
  ·rename_i h0
   have hi:aQ S.nodes no=true:=by
    unfold GC at h0;split at h0
    ·cases h0
    ·rename_i h1;simpa using h1
   have hf:∀m∈(jp S no data).nodes,∃m'∈S.nodes,m'.no=m.no/\(m.kind=1->m'.kind=1/\m'.up=m.up)/\∀x∈m.ae,x∈m'.ae:=fun m hm=>by
    unfold jp at hm;split at hm
    ·rcases Ar hm with hm|rfl
     ·exact⟨m,hm,rfl,fun hk=>⟨hk,rfl⟩,fun x hx=>hx⟩
     ·exact⟨_,(aj hi).2.2,rfl,fun hk=>⟨hk,rfl⟩,fun x hx=>hx⟩
    ·exact⟨m,hm,rfl,fun hk=>⟨hk,rfl⟩,fun x hx=>hx⟩
   have pB:aQ (jp S no data).nodes no=true:=by
    unfold jp;split
    ·show aQ (bn S.nodes _) no=true;rw[je];exact hi
    ·exact hi
   refine nU h hT.aC fun m hm=>?_
   rcases aM hm with⟨hm,_⟩|rfl
   ·exact hf m hm
   ·obtain ⟨m',h1,h2,h3,h4⟩:=hf _ (aj pB).2.2
    exact ⟨m',h1,h2,h3,h4⟩
  ·exact h
theorem Hx {S:ac} {c:Nat} (hT:dI c S) (h:Kids S) (over b n:Int):Kids (cr S over b n):=by
 have mem:∀m∈(cr S over b n).nodes,m∈S.nodes\/(m.no=S.last+1/\m.ae=[]):=fun m hm=>by
  rcases List.mem_append.1 hm with hm|hm
  ·exact .inl hm
  ·rw [List.mem_singleton]at hm
   subst hm;exact .inr ⟨rfl,rfl⟩
 refine ⟨fun m hm x hx q hq e hk=>?_,fun m hm x hx y hy q hq e hk VJ=>?_⟩
 ·rcases mem m hm with hm|⟨_,h2⟩
  ·have hp:=(hT.pos m hm x hx).2
   rcases mem q hq with hq|⟨h1,_⟩
   ·exact h.up m hm x hx q hq e hk
   ·omega
  ·rw[h2]at hx;cases hx
 ·rcases mem m hm with hm|⟨_,h2⟩
  ·have hp:=(hT.pos m hm x hx).2
   rcases mem q hq with hq|⟨h1,_⟩
   ·exact h.once m hm x hx y hy q hq e hk VJ
   ·omega
  ·rw[h2]at hx;cases hx
theorem DN {S:ac} {c:Nat} (hT:dI c S) (h:Kids S) (a b n:Int):Kids (ct S a b n):=by
 unfold ct;split
 ·exact Hx hT h _ _ _
 ·exact h
theorem DP (b n:Int):Kids (cr cE 0 b n):=by
 have mem:∀m∈(cr cE 0 b n).nodes,m.ae=[]:=fun m hm=>by
  have hm':m∈[bo cE]:=hm;rw [List.mem_singleton]at hm';subst hm';rfl
 exact ⟨fun m hm x hx=>(by rw[mem m hm]at hx;cases hx),fun m hm x hx=>(by rw[mem m hm]at hx;cases hx)⟩
def cG (S:ac):Nat:=(S.nodes.map fun n=>n.ae.length).sum
def im (S:ac) (cu cg:Int) (x:aq):Prop:=ez S cu cg x=0/\(aa S.nodes x.no).kind=1
theorem kH {S:ac} {cu cg:Int} {x:aq} (h:ez S cu cg x=0):aQ S.nodes x.no=true/\aQ S.nodes x.dir=true/\(aa S.nodes x.no).dev=(aa S.nodes x.dir).dev/\((aa S.nodes x.no).kind=1->bf S cu cg x.no 1 4=0):=by
 unfold ez at h;split at h
 ·cases h
 rename_i h1;split at h
 ·cases h
 rename_i h2;split at h
 ·cases h
 rename_i h3;refine ⟨by simpa using h1,by simpa using h2,Decidable.not_not.1 h3,fun hk=>?_⟩;rw [if_neg (fun k=>k hk)]at h;exact h
theorem gO {S:ac} {cu cg:Int} {x:aq} (h:im S cu cg x):dB S cu cg x=(dm S (aa S.nodes x.no).ae).map (ik x):=by unfold im at h;unfold dB;rw[if_pos h]
theorem nV {S:ac} {cu cg:Int} {x:aq} (h:¬im S cu cg x):dB S cu cg x=[]:=by unfold im at h;unfold dB;rw[if_neg h]
theorem uN {c:Nat} {S:ac} (h:dI c S) (k:Kids S) {cu cg:Int} {x y:aq} (hx:im S cu cg x) (hy:y∈dB S cu cg x) (ly:im S cu cg y) :
  (y.name,y.no)∈(aa S.nodes x.no).ae/\(aa S.nodes y.no).up=x.no/\y.no≠x.no/\y.dir=x.no:=by
 rw [gO hx]at hy;rw [List.mem_map]at hy;obtain ⟨z',hz',rfl⟩:=hy;unfold dm at hz';rw [List.mem_map]at hz';obtain ⟨z,hz,rfl⟩:=hz';obtain ⟨ix,nx,mx⟩:=bh hx.2;obtain ⟨i1,i2,i3,_⟩:=kH ly.1;have i3':(aa S.nodes (ak S.af z.2)).dev=(aa S.nodes x.no).dev:=i3;have hk:(aa S.nodes (ak S.af z.2)).kind=1:=ly.2;obtain ⟨k1,k2,k3⟩:=h.zB _ mx z hz;have hp:=h.pos _ mx z hz;rcases fG h.nt (show 0<z.2 by omega) with e|⟨j,hj,e1,e2⟩
 ·show (z.1,ak S.af z.2)∈_/\(aa S.nodes (ak S.af z.2)).up=_/\ak S.af z.2≠_/\x.no=x.no
  rw [e]at hk|-;obtain ⟨j1,j2,j3⟩:=bh hk;refine ⟨hz,?_,by rw[<-nx];exact k1,rfl⟩;rw [<-nx];exact k.up _ mx z hz _ j3 j2 hk
 ·exfalso
  obtain ⟨q,hq,q1,q2,q3,q4⟩:=h.kZ j hj;obtain ⟨r,hr,r1,r2,r3⟩:=h.fc (j+1) hj;have gr:=(dy h.aC hr).1;rw [r1]at gr;rw [e2,gr,r3]at i3';have:=k3 q hq (by rw[q1,e1]);rw [nx]at *;omega
theorem rD (ns:List ai) (f:ai->Nat):∀(E:List Int),E.Nodup->(∀e∈E,∃n∈ns,n.no=e)->ns.Pairwise (fun a b=>a.no<b.no)->(E.map fun e=>f (aa ns e)).sum<=(ns.map f).sum:=by
 induction ns with
 | nil =>
  intro E _ h2 _
  cases E with
  | nil=>simp
  | cons e E=>obtain⟨n,hn,_⟩:=h2 e (List.mem_cons_self ..);cases hn
 | cons a ns ih =>
  intro E h1 h2 h3;rw [List.pairwise_cons]at h3;have hg:∀e,e≠a.no->aa (a::ns) e=aa ns e:=fun e he=>by
   unfold aa eY;rw [List.find?_cons];have:(a.no == e)=false:=by simpa using Ne.symm he
   rw [this]
  have ha:aa (a::ns) a.no=a:=by unfold aa eY;rw[List.find?_cons];simp
  have key:∀E:List Int,E.Nodup->(∀e∈E,∃n∈a::ns,n.no=e)->(E.map fun e=>f (aa (a::ns) e)).sum<=(if a.no∈E then f a else 0)+((E.filter fun e=>decide (e≠a.no)).map fun e=>f (aa ns e)).sum:=by
   intro E
   induction E with
   | nil=>intro _ _;simp
   | cons e E ihE =>
    intro hd hm;rw [List.nodup_cons]at hd;have:=ihE hd.2 fun x hx=>hm x (List.mem_cons_of_mem _ hx)
    rw [List.map_cons,List.sum_cons]
    by_cases he:e=a.no
    ·subst he
     rw [if_neg hd.1]at this;rw [if_pos (List.mem_cons_self ..),List.filter_cons_of_neg (by simp),ha];omega
    ·rw [List.filter_cons_of_pos (by simpa using he),List.map_cons,List.sum_cons,hg e he]
     have hmem:(a.no∈e::E)↔a.no∈E:=by rw[List.mem_cons];exact⟨fun h=>h.resolve_left (Ne.symm he),.inr⟩
     by_cases h4:a.no∈E
     ·rw[if_pos h4]at this;rw[if_pos (hmem.2 h4)];omega
     ·rw[if_neg h4]at this;rw[if_neg (fun k=>h4 (hmem.1 k))];omega
  have k1:=key E h1 h2;have k2:=ih (E.filter fun e=>decide (e≠a.no)) (h1.filter _) (fun e he=>by
   rw [List.mem_filter]at he;obtain ⟨n,hn,e1⟩:=h2 e he.1;rcases List.mem_cons.1 hn with rfl|hn
   ·have:=he.2;simp[e1]at this
   ·exact⟨n,hn,e1⟩) h3.2
  rw [List.map_cons,List.sum_cons];split at k1<;>omega
theorem DQ {c:Nat} {S:ac} (h:dI c S) (k:Kids S) (cu cg:Int) (x0:Int) {t l:List aq} {b:aq} {e:Int} (hd:jr S cu cg t l b e) :
  ∀ (E:List Int) (d:Int->Nat),(∀n∈S.nodes,n.kind=1->n.up≠n.no->d n.up<d n.no)->E.Nodup->(∀y∈E,(aa S.nodes y).kind=1/\d x0<=d y/\(y=x0\/(aa S.nodes y).up∈E)) ->
   (∀y∈t,im S cu cg y->y.no∉E/\d x0<=d y.no/\(y.no=x0\/(aa S.nodes y.no).up∈E))->t.Pairwise (fun a b=>im S cu cg a->im S cu cg b->a.no≠b.no) ->
   l.length+(E.map fun y=>(aa S.nodes y).ae.length).sum<=t.length+cG S:=by
 induction hd with
 | nil =>
  intro E d _ h1 h2 _ _;have:=rD S.nodes (fun n=>n.ae.length) E h1 (fun y hy=>⟨_,(bh (h2 y hy).1).2.2,(bh (h2 y hy).1).2.1⟩) h.aC.1;unfold cG;simp only[List.length_nil];omega
 | bad hx =>
  intro E d _ h1 h2 _ _;have:=rD S.nodes (fun n=>n.ae.length) E h1 (fun y hy=>⟨_,(bh (h2 y hy).1).2.2,(bh (h2 y hy).1).2.1⟩) h.aC.1;unfold cG;simp only[List.length_nil];omega
 | @step x t l b e h0 hd ih =>
  intro E d XS h1 h2 h3 h4;rw [List.pairwise_cons]at h4
  by_cases hx:im S cu cg x
  ·obtain ⟨x1,x2,x3⟩:=h3 x (List.mem_cons_self ..) hx
   have hlen:(dB S cu cg x).length=(aa S.nodes x.no).ae.length:=by rw[gO hx,List.length_map,jy]
   have hch:∀y∈dB S cu cg x,im S cu cg y->y.no∉x.no::E/\d x0<=d y.no/\(y.no=x0\/(aa S.nodes y.no).up∈x.no::E)/\y.no≠x0/\(aa S.nodes y.no).up=x.no:=by
    intro y hy ly;obtain ⟨c1,c2,c3,_⟩:=uN h k hx hy ly;obtain ⟨j1,j2,j3⟩:=bh ly.2;have hlt:=XS _ j3 ly.2 (by rw[c2,j2];exact Ne.symm c3);rw [c2,j2]at hlt;have hne:y.no≠x0:=fun e=>by rw[e]at hlt;omega
    refine ⟨fun hm=>?_,by omega,.inr (by rw[c2];exact List.mem_cons_self ..),hne,c2⟩;rcases List.mem_cons.1 hm with e|hm
    ·exact c3 e
    ·rcases (h2 y.no hm).2.2 with e|e
     ·exact hne e
     ·rw[c2]at e;exact x1 e
   have := ih (x.no::E) d XS (List.nodup_cons.2 ⟨x1,h1⟩)
    (fun y hy=>by
     rcases List.mem_cons.1 hy with rfl|hy
     ·exact⟨hx.2,x2,x3.imp id (List.mem_cons_of_mem _)⟩
     ·obtain ⟨a1,a2,a3⟩:=h2 y hy
      exact ⟨a1,a2,a3.imp id (List.mem_cons_of_mem _)⟩)
    (fun y hy ly=>by
     rcases List.mem_append.1 hy with hy|hy
     ·obtain ⟨a1,a2,a3,_⟩:=hch y hy ly
      exact ⟨a1,a2,a3⟩
     ·obtain ⟨a1,a2,a3⟩:=h3 y (List.mem_cons_of_mem _ hy) ly
      refine ⟨fun hm=>?_,a2,a3.imp id (List.mem_cons_of_mem _)⟩;rcases List.mem_cons.1 hm with e|hm
      ·exact h4.1 y hy hx ly e.symm
      ·exact a1 hm)
    (List.pairwise_append.2 ⟨?_,h4.2,fun a ha b hb la lb e=>?_⟩)
   ·rw [List.map_cons,List.sum_cons,List.length_append,hlen]at this
    simp only[List.length_cons];omega
   ·rw [gO hx,List.pairwise_map]
    have hr:=h.mF _ (bh hx.2).2.2;unfold dm;rw [List.pairwise_map];refine List.Pairwise.imp_of_mem ?_ hr;intro a b ha hb hab la lb e;have ca:=uN h k hx (y:=ik x (a.1,ak S.af a.2)) (by rw[gO hx];exact List.mem_map_of_mem (by unfold dm;exact List.mem_map_of_mem ha)) la;have cb:=uN h k hx (y:=ik x (b.1,ak S.af b.2)) (by rw[gO hx];exact List.mem_map_of_mem (by unfold dm;exact List.mem_map_of_mem hb)) lb;obtain ⟨j1,j2,j3⟩:=bh la.2;have:=k.once _ (bh hx.2).2.2 _ ca.1 _ cb.1 _ j3 j2 la.2 e;have e1:a.1=b.1:=by have:=congrArg Prod.fst this;exact this
    rw [e1,cH]at hab;cases hab
   ·obtain ⟨a1,a2,a3,a4,a5⟩:=hch a ha la
    rcases (h3 b (List.mem_cons_of_mem _ hb) lb).2.2 with e1|e1
    ·exact a4 (e.trans e1)
    ·rw[<-e,a5]at e1;exact x1 e1
  ·have:=ih E d XS h1 h2 (fun y hy ly=>h3 y (List.mem_cons_of_mem _ (by rw[nV hx]at hy;exact hy)) ly) (by rw[nV hx];exact h4.2)
   rw [nV hx]at this;simp only[List.nil_append]at this;simp only[List.length_cons];omega
theorem LU {c:Nat} {S:ac} (h:dI c S) (k:Kids S) (cu cg:Int) (x:aq) {l:List aq} {b:aq} {e:Int} (hd:jr S cu cg [x] l b e):l.length<=1+cG S:=by
 obtain ⟨d,XS⟩:=h.deep;have:=DQ h k cu cg x.no hd [] d XS List.nodup_nil (fun y hy=>by cases hy) (fun y hy _=>by rw[List.mem_singleton]at hy;subst hy;exact⟨by simp,Nat.le_refl _,.inl rfl⟩) (List.pairwise_singleton _ _);simpa using this
open Go.ChangeShapes Go.WideShapes Go.ChangeAt Go.RowKit
theorem jK {F:Fence} {n:Nat} {P:Program} (w:World) {ops:Array Oper} {rest:List Oper} {o:Oper} {a:Act} {Q:Exit->Act->World->Prop} (hg:o.guard=none) (s x:Operand) (t tn:TypeId)
  (hop:o.op=.call {callee:=.builtin .append,args:=#[s,x],argTypes:=#[t,tn]}) (vs vx:Value) (hs:a.eval s=vs) (hx:a.eval x=vx)
  (v':Value) (w':World) (hr:(Builtin.append_ #[t,tn] o.type #[vs,vx]).run P w=.ok v' w') (h:wpListIn F n P ops Q rest (a.put o.dst v') w'):wpListIn F n P ops Q (o::rest) a w:=by
 refine wpListIn_plain hg fun K hK'=>?_
 unfold Oper.wpIn;refine ⟨?_,?_⟩
 ·simp[Oper.about,hop,resolve,Target.leads,Sem.run_pure]
 ·rw [Oper.semAt_plain F _ _ (by rw[hop];intro c hc';cases hc')]
  simp [execOp,hop,resolve,invoke,builtin,hs,hx,hr,Result.andThen];exact hK' _ _ h
theorem j7 {F:Fence} {n:Nat} {ops:Array Oper} {rest:List Oper} {op:Oper} {a:Act} {w:World} {Q:Exit->Act->World->Prop} (hgd:op.guard=none) (x y:Operand) (ho:op.op=.store 50 x y)
  (b:Nat) (d d':aq) (hx:a.eval x=.pointer (some ⟨b,0,none⟩)) (hy:a.eval y=.agg (cR d').toArray) (hb:Has w b (.cells (cR d).toArray 50))
  (h:∀w',Has w' b (.cells (cR d').toArray 50)->Only [b] w w'->wpListIn F n Tryz.prog ops Q rest (a.put op.dst undef) w'):wpListIn F n Tryz.prog ops Q (op::rest) a w:=by
 refine wpListIn_plain hgd fun K hK'=>?_
 unfold Oper.wpIn;refine ⟨?_,?_⟩
 ·simp[Oper.about,ho]
 ·rw [Oper.semAt_plain F _ _ (by rw[ho];intro c hc';cases hc')]
  simp only[execOp,ho,hx,hy,run_storeAt_mid w b 0 50 (cR d').toArray hb.there ry (all_oneCell_toArray (cs:=cR d') (rv d')),Sem.run_bind,Sem.run_pure,Result.andThen_ok];exact hK' _ _ (h _ (hb.Fo d') (cO (cR d') 0 w))
def told (l:List aq) (b:aq) (e:Int):List (aq×Int):=l.map (fun x=>(x,0))++(if e=0 then [] else [(b,e)])
theorem LV:told [] mB 0=[]:=rfl
theorem uO {b:aq} {e:Int} (h:e≠0):told [] b e=[(b,e)]:=by unfold told;rw[if_neg h];rfl
theorem xD (x:aq) (l:List aq) (b:aq) (e:Int):told (x::l) b e=(x,0)::told l b e:=rfl
theorem uP (l:List aq) (b:aq) (e:Int):(told l b e).length<=l.length+1:=by
 unfold told;rw [List.length_append,List.length_map];split<;>simp
def qi (s:aA) (cu cg dir:Int) (nm:List UInt8) (l:List aq) (b:aq) (e:Int):Prop:=
 (jV s cu cg dir nm≠0/\l=[]/\b=jh s cu cg dir nm/\e=jV s cu cg dir nm)\/(jV s cu cg dir nm=0/\s.dead=false/\jr s.t cu cg [jh s cu cg dir nm] l b e)
theorem PY {c:Nat} {s:aA} (h:dI c s.t) (k:Kids s.t) (cu cg dir:Int) (nm:List UInt8):∃l b e,qi s cu cg dir nm l b e/\l.length<=1+cG s.t:=by
 by_cases h0:jV s cu cg dir nm=0
 ·have hd:s.dead=false:=by
   unfold jV dR at h0
   cases hd:s.dead
   ·rfl
   ·rw[if_pos hd]at h0;cases h0
  obtain ⟨l,b,e,hr⟩:=Ht h k.up cu cg [jh s cu cg dir nm];exact ⟨l,b,e,.inr ⟨h0,hd,hr⟩,LU h k cu cg _ hr⟩
 ·exact⟨[],_,_,.inl ⟨h0,rfl,rfl,rfl⟩,Nat.zero_le _⟩
theorem LW {s:aA} (hd:s.dead=false) (cu cg:Int) (x:aq):sN s cu cg x=ez s.t cu cg x/\DL s cu cg x=dB s.t cu cg x:=by
 unfold sN DL dR nr;rw [if_neg (by rw[hd];decide),if_neg (by rw[hd];decide)];exact ⟨rfl,rfl⟩
theorem Hy {c:Nat} {S:ac} (h:dI c S) (cu cg:Int) (x:aq):(dB S cu cg x).length<=c:=by
 unfold dB;split
 ·rw[List.length_map,jy];exact (h.aa x.no).2
 ·exact Nat.zero_le _
theorem BI {S:ac} {cu cg:Int} {x y:aq} (h:y∈dB S cu cg x):y.depth=x.depth+1:=by
 unfold dB at h;split at h
 ·rw [List.mem_map]at h
  obtain ⟨z,_,rfl⟩:=h;rfl
 ·cases h
attribute [local go_sem] Oper.semAt_some
def DS (W:World) (k b:Nat) (cu cg dir:Int) (nm:List UInt8):Prop:=
 Has W k (.cells #[.pointer (some ⟨b,0,none⟩)] 33)/\Has W (k+1) (.cells #[cu,cg] 27)/\Has W (k+2) (.cells #[.int .i64 dir] 3)/\Has W (k+3) (.cells #[bs nm] 9)
abbrev PZ (x:aq×Int):Array Value:=#[.agg #[.int .i64 x.1.dir,bs x.1.name,x.1.no,.int .i64 x.1.depth],.int .i64 x.2]
theorem dZ.keep {w w':World} {base:Nat} {v:Value} {l:List aq} (h:dZ w base v l) (hk:∀g,v.ownBlock=some g->w'.heap[g]?=w.heap[g]?):dZ w' base v l:=by
 refine ⟨h.1,?_⟩;rcases h.2 with e|⟨g,cap,cur,rfl,hb,hg,h1,h2,h3,h4⟩
 ·exact .inl e
 ·exact .inr ⟨g,cap,cur,rfl,hb,(hk g rfl).trans hg,h1,h2,h3,h4⟩
theorem dZ.LX {w:World} {base g:Nat} {v:Value} {l:List aq} (h:dZ w base v l) (hv:v.ownBlock=some g):il w g:=by
 rcases h.2 with⟨rfl,_⟩|⟨g',cap,cur,rfl,hb,hg,_⟩
 ·cases hv
 ·injection hv with hv
  subst hv;exact il.of hg (by decide) (by decide)
theorem BJ {c : Nat} (F:Fence) (hF:F=Fence.wide) (n:Nat) (hn:1<=n) (B b:Nat) (g:bQ) (s:aA) (hs:fT c s) (hc:c<=900) (k:Nat) (cu cg dir:Int) (nm:List UInt8) (l:List aq) (b0:aq) (e0:Int)
  (hT:qi s cu cg dir nm l b0 e0) (hlen:l.length<=1000) (w0:World) :
  XL F n Tryz.prog 69 #[.pointer (some ⟨k,0,none⟩),.pointer (some ⟨k+1,0,none⟩),.pointer (some ⟨k+2,0,none⟩),.pointer (some ⟨k+3,0,none⟩)] PZ (fun xs=>xs=told l b0 e0) (fun pre=>pre <+: told l b0 e0)
   (fun pre x=>pre++[x] <+: told l b0 e0) (fun _ V=>PS V B b g s/\DS V k b cu cg dir nm) w0:=by
 intro lp J Jx W _ hJ1 OP hJx hY h0;have hro:F.round=none:=by rw[hF];rfl
 have hfn:F.fn 69:=by rw[hF];trivial
 have Lb:F.fn 70:=by rw[hF];trivial
 have JA:F.fn 71:=by rw[hF];trivial
 have CF:∀(j:Nat) (u:World),PS u B b g s->CallsIn F j Tryz.prog 70 #[.pointer (some ⟨b,0,none⟩),.agg #[cu,cg],.int .i64 dir,bs nm] u (aH u (.tuple #[.agg #[.int .i64 (jh s cu cg dir nm).dir,.string (bs (jh s cu cg dir nm).name),.int .i64 (jh s cu cg dir nm).no,.int .i64 (jh s cu cg dir nm).depth],.int .i64 (jV s cu cg dir nm)])):=by
  rw [hF];exact fun j u hu=>callsIn_wide.2 (hu.first hs hc cu cg dir nm)
 have CI:Hid (∀(j:Nat) (u:World) (x:aq),0<=x.depth->x.depth<=1000000->PS u B b g s->CallsIn F j Tryz.prog 71 #[.pointer (some ⟨b,0,none⟩),.agg #[cu,cg],.agg #[.int .i64 x.dir,bs x.name,x.no,.int .i64 x.depth]] u (RH u (DL s cu cg x) (sN s cu cg x))):=by
  show ∀_ _ _,_;rw [hF];exact fun j u x h1 h2 hu=>callsIn_wide.2 (hu.into hs hc cu cg x h1 h2)
 obtain⟨L,hL⟩:=ar (told l b0 e0);rw [<-hL]at hY|-;have RI:L.length<=1001:=by rw[hL];have:=uP l b0 e0;omega
 obtain⟨X,hX⟩:=ar (jh s cu cg dir nm);obtain⟨e1,qB⟩:=ar (jV s cu cg dir nm);have hXd:X.depth=0:=by rw[hX];rfl
 have yZ:(e1≠0/\L=[(X,e1)])\/(e1=0/\s.dead=false/\jr s.t cu cg [X] l b0 e0/\L=told l b0 e0):=by
  rw [hX,qB];rcases hT with⟨h1,h2,h3,h4⟩|⟨h1,h2,h3⟩
  ·exact .inl ⟨h1,by rw[hL,h2,h3,h4,uO h1]⟩
  ·exact .inr ⟨h1,h2,h3,hL⟩
 rw [<-hX,<-qB]at CF;have HS:=zH hs;have HT:=zH yZ;have HXD:=zH hXd;have VK:=zH hJ1;have XT:=zH OP;have HJX:=zH hJx;have HY:=zH hY;clear hF hT hlen hX qB hs hL yZ hXd;obtain ⟨⟨hP0,Fq⟩,_,_⟩:=hJ1 _ _ _ h0;have k0:=Fq.1.cell 0;have k1:=Fq.2.1.cell 0;have k2:=Fq.2.1.cell 1;have k3:=Fq.2.2.1.cell 0;have k4:=Fq.2.2.2.cell 0;have z0:=Fq.1.lt;have z1:=Fq.2.1.lt;have z2:=Fq.2.2.1.lt;have z3:=Fq.2.2.2.lt;have CF0:=zH (CF (n-1) W hP0);have H0:=zH h0;clear hJ1 OP hJx hY h0 CF hP0 Fq;refine callsIn_of_wp Tryz.func69 rfl hfn ?_ hro;simp only[Tryz.ntmps69,List.size_toArray,List.length_cons,List.length_nil,Nat.reduceAdd,Nat.reduceSub,Array.replicate_succ,Array.replicate_zero,List.push_toArray,List.append_toArray,List.nil_append,List.cons_append];gi_wp2_with (gi_at_call 70;refine CF0.out.mono ?_;rintro e w1 ⟨rfl,b1⟩);obtain ⟨W2,dF⟩:∃V,V=(w1.alloc (.cells #[.int .i64 X.dir,bs X.name,X.no,.int .i64 X.depth] 50)).alloc (.cells #[.int .i64 X.dir,bs X.name,X.no,.int .i64 X.depth] 50):=⟨_,rfl⟩;obtain ⟨bx,zY⟩:∃b,b=w1.heap.size:=⟨_,rfl⟩;obtain ⟨br,hbr⟩:∃b,b=w1.heap.size+1:=⟨_,rfl⟩;have wE:Has W2 bx (.cells (cR X).toArray 50):=by rw[dF,zY];exact (Has.new w1 _).alloc _
 have qf:Has W2 br (.cells (cR X).toArray 50):=by rw[dF,hbr];have:=Has.new (w1.alloc (.cells #[.int .i64 X.dir,bs X.name,X.no,.int .i64 X.depth] 50)) (.cells #[.int .i64 X.dir,bs X.name,X.no,.int .i64 X.depth] 50);rw[World.size_alloc]at this;exact this
 have E2:Ext W W2:=by rw[dF];exact (b1.alloc _).alloc _
 have aaX:W.heap.size<=bx:=by have:=b1.size;omega
 have XU:W.heap.size<=br:=by omega
 have hxr:bx≠br:=by omega
 have OP:J [bx,br] [] W2:=XT.out [] [] W [bx,br] W2 H0.out (Only.aw E2) (fun x hx=>by
   simp only[List.mem_cons,List.not_mem_nil,or_false]at hx;rcases hx with rfl|rfl
   ·exact .inr aaX
   ·exact .inr XU) (fun x hx=>by
   simp only[List.mem_cons,List.not_mem_nil,or_false]at hx;rcases hx with rfl|rfl
   ·exact il.of wE (by decide) (by decide)
   ·exact il.of qf (by decide) (by decide))
 have VL:dZ W2 W.heap.size (.slice (some ⟨br,0,none⟩) 1 1) [X]:=⟨rfl,.inr ⟨br,1,_,rfl,XU,qf,Nat.le_refl _,by decide,rfl,rfl⟩⟩;rw [<-dF,<-hbr,<-zY];clear dF zY hbr k0 k1 k2 k3 k4 z0 z1 z2 z3 b1 CF0 H0 E2;gi_loopg [7,8] (l.length+1) (fun m ve vt wr=>∃(e2:Int) (t:List aq) (x:aq) (O:List Nat) (pre:List (aq×Int)),ve=.int .i64 e2/\J O pre wr/\bx∈O/\Has wr bx (.cells (cR x).toArray 50)/\dZ wr W.heap.size vt t.reverse/\(∀g,vt.ownBlock=some g->g∈O/\g≠bx)/\t.length<=1+pre.length*1000/\(∀y∈t,0<=y.depth/\y.depth<=pre.length) /\
  ((e2=0/\s.dead=false/\∃l1,jr s.t cu cg t l1 b0 e0/\L=pre++told l1 b0 e0/\m=l1.length+1)\/(e2≠0/\L=pre++[(x,e2)])))
 case atStart =>
  refine ⟨e1,[X],X,_,[],rfl,OP,by simp,wE,VL,fun g hg=>?_,by simp,fun y hy=>?_,?_⟩
  ·injection hg with hg;subst hg;exact⟨by simp,Ne.symm hxr⟩
  ·rw[List.mem_singleton]at hy;subst hy;rw[HXD.out];simp
  ·rcases HT.out with⟨h1,h2⟩|⟨h1,h2,h3,h4⟩
   ·exact .inr ⟨h1,h2⟩
   ·exact .inl ⟨h1,h2,l,h3,h4,rfl⟩
 case round =>
  obtain ⟨e2,t,x,O,pre,rfl,hJ,hbO,hX,hO,hown,pW,LY,hrest⟩:=hrel;clear OP wE qf VL HT HXD;obtain ⟨A,cap,rfl,sb,tD,hat,hA0⟩:=hO.at_;rw [List.length_reverse]at hO sb|-;have x0:=hX.cell 0;have x1:=hX.cell 1;have x2:=hX.cell 2;have x3:=hX.cell 3;have xz:=hX.lt;simp only[gA,gB,gC]at x0 x1 x2 x3
  by_cases he:e2=0
  case neg =>
   have t2:(e2 == 0)=false:=by simpa using he
   have t3:(e2 != 0)=true:=by simpa using he
   have hL:L=pre++[(x,e2)]:=by
    rcases hrest with⟨h1,_⟩|⟨_,h2⟩
    ·exact absurd h1 he
    ·exact h2
   have HL:=zH hL;obtain ⟨fn,tmps,assign,body,hy,hR⟩:=HY.out O pre (x,e2) wr hJ (by rw[hL];exact List.prefix_refl _)
   try dsimp only[PZ]at hy
   clear he hrest hL LY pW hown hO hat;gi_wp2;refine hR.mono ?_;rintro e W3 (⟨rfl,Jq,lF⟩|⟨rfl,tF⟩)
   ·gi_wp2
    go_end0;exact ⟨⟨_,rfl⟩,.inl ⟨_,_,HL.out.symm,Jq⟩⟩
   ·gi_wp2
    go_end0;exact ⟨⟨_,rfl⟩,.inr ⟨_,by rw[HL.out];exact List.prefix_refl _,tF⟩⟩
  obtain ⟨_,hd,l1,hD,hL,hm⟩:e2=0/\s.dead=false/\∃l1,jr s.t cu cg t l1 b0 e0/\L=pre++told l1 b0 e0/\gk=l1.length+1:=by
   rcases hrest with h1|⟨h1,_⟩
   ·exact h1
   ·exact absurd he h1
  subst he;clear hrest;obtain⟨T,hTn⟩:=ar t.length;rw [<-hTn]at hO sb pW|-
  cases t with
  | nil =>
   obtain rfl:T=0:=hTn;have hLp:L=pre:=by cases hD;rw[hL,LV,List.append_nil]
   have HL:=zH hLp;clear hD hL hLp LY pW hown hO hat hm x0 x1 x2 x3 xz;gi_wp2;go_end0;exact ⟨⟨_,rfl⟩,.inl ⟨_,by rw[HL.out];exact hJ⟩⟩
  | cons x' t' =>
   obtain⟨T',yZ⟩:=ar t'.length;obtain rfl:T=T'+1:=by rw[hTn,yZ];rfl
   clear hTn hat x0 x1 x2 x3 xz;rw [List.reverse_cons]at hO;have TU:(t'.reverse++[x']).length=T'+1:=by rw[List.length_append,List.length_reverse,yZ];rfl
   rw [<-TU]at hO;have hO0:=hO;obtain ⟨gr,rfl⟩:∃gr,A=some ⟨gr,0,none⟩:=by
    rcases hO.cases with⟨_,h2⟩|⟨gr,_,_,h2,_⟩
    ·simp at h2
    ·injection h2 with h2;exact⟨gr,h2⟩
   have P6:=hown gr rfl;have hpl:pre.length<=1000:=by
    have:=congrArg List.length hL;rw [List.length_append]at this;have h1:1<=(told l1 b0 e0).length:=by
     cases hD with
     | bad h=>rw[uO h];simp
     | step _ _=>rw[xD];simp
    omega
   have hdx:=LY x' (List.mem_cons_self ..);obtain ⟨_,_,cur,hv,XV,LZ,_,_,hcell⟩:∃g cap' cur,Value.slice (some ⟨gr,0,none⟩) (t'.reverse++[x']).length cap=.slice (some ⟨g,0,none⟩) (t'.reverse++[x']).length cap'/\W.heap.size<=g/\Has wr g (.cells cur 50)/\(t'.reverse++[x']).length<=cap'/\cap'<=maxLen/\∀k,(h:k<(t'.reverse++[x']).length)->∀j,j<4->wr.cell? ⟨g,k*4+j,none⟩=(cR (t'.reverse++[x'])[k])[j]?:=by
    rcases hO.cases with⟨h1,_⟩|h2
    ·cases h1
    ·exact h2
   injection hv with ut _ hv3;injection ut with ut;injection ut with ut;subst ut;subst hv3;have lN:∀h,(t'.reverse++[x'])[T']'h=x':=fun h=>by
    rw [List.getElem_append_right (by rw[List.length_reverse,yZ];exact Nat.le_refl _)];simp [yZ]
   have hq:∀j,j<4->wr.cell? ⟨gr,T'*4+j,none⟩=(cR x')[j]?:=fun j hj=>(hcell T' (by rw[TU];omega) j hj).trans (by rw[lN])
   have q0:wr.cell? ⟨gr,T'*4,none⟩=some (.int .i64 x'.dir):=hq 0 (by decide);have q1:wr.cell? ⟨gr,T'*4+1,none⟩=some (.string (bs x'.name)):=hq 1 (by decide);have q2:wr.cell? ⟨gr,T'*4+2,none⟩=some (.int .i64 x'.no):=hq 2 (by decide);have q3:wr.cell? ⟨gr,T'*4+3,none⟩=some (.int .i64 x'.depth):=hq 3 (by decide);have qz:=LZ.lt;have Ta:T'+1<=cap:=sb;have Du:IntKind.i64.wrap (T':Int)=(T':Int):=IntWalk.i64_in _ (by omega);have VM:IntKind.i64.wrap ((T':Int)+1-1)=(T':Int):=by rw[IntWalk.i64_in _ (by omega)];omega
   have p0:(0:Int)<=(T':Int):=Int.natCast_nonneg _;have acf:bx<wr.heap.size:=hX.lt;have Hz:∀y∈O,il wr y:=fun y hy=>((VK.out _ _ _ hJ).2.2 y hy).2
   have KS:Hid (∀w9,Has w9 bx (.cells (cR x').toArray 50)->Only [bx] wr w9->(J O pre w9/\PS w9 B b g s/\w9.cell? ⟨k,0,none⟩=some (.pointer (some ⟨b,0,none⟩))/\w9.cell? ⟨k+1,0,none⟩=some (.int .i64 cu)/\w9.cell? ⟨k+1,1,none⟩=some (.int .i64 cg)/\k<w9.heap.size/\k+1<w9.heap.size /\
     w9.cell? ⟨bx,0,none⟩=some (.int .i64 x'.dir)/\w9.cell? ⟨bx,1,none⟩=some (.string (bs x'.name))/\w9.cell? ⟨bx,2,none⟩=some (.int .i64 x'.no)/\w9.cell? ⟨bx,3,none⟩=some (.int .i64 x'.depth)/\bx<w9.heap.size)):=by
    show ∀w9,_;intro w9 R9 O9;have P7:=XT.out O pre wr O w9 hJ (O9.mono (by intro y hy;rw[List.mem_singleton]at hy;subst hy;exact hbO)) (fun y hy=>.inl hy) (fun y hy=>(Hz y hy).only O9 (fun z hz=>by rw[List.mem_singleton]at hz;subst hz;exact il.of R9 (by decide) (by decide)));obtain ⟨⟨P9,C9⟩,_⟩:=VK.out _ _ _ P7;exact ⟨P7,P9,C9.1.cell 0,C9.2.1.cell 0,C9.2.1.cell 1,C9.1.lt,C9.2.1.lt,R9.cell 0,R9.cell 1,R9.cell 2,R9.cell 3,R9.lt⟩
   have CIx:=zH (fun (j:Nat) (u:World) (hu:PS u B b g s)=>CI.out j u x' hdx.1 (by omega) hu);have sw:=LW hd cu cg x';obtain ⟨e3,IX⟩:∃e,e=sN s cu cg x':=⟨_,rfl⟩;obtain ⟨l4,Gi⟩:∃e,e=DL s cu cg x':=⟨_,rfl⟩;rw [<-IX,<-Gi]at CIx sw;have XX:=zH sw;have HD:=zH hD;have HL:=zH hL;have HM:=zH hm;have aaY:=zH LY;have TV:=zH hO0;have acg:=zH hown;have Cz:=zH yZ;have Rp:=zH hX;clear sw IX Gi hD hL hm LY hO hO0 hq hcell lN TU sb hown yZ CI
   by_cases h3:e3=0
   case neg =>
    have t3:(e3 != 0)=true:=by simpa using h3
    have hLb:Hid (L=pre++[(x',e3)]):=by
     show _=_;have hne:ez s.t cu cg x'≠0:=by rw[<-XX.out.1];exact h3
     have tI:=HD.out
     cases tI with
     | bad h=>rw[HL.out,uO h,XX.out.1]
     | step h _=>exact absurd h hne
    clear h3;gi_wp2_with (first|(refine j7 rfl _ _ rfl bx x x' rfl rfl Rp.out ?_;intro w9 R9 O9;obtain⟨P7,P9,k0,k1,k2,z0,z1,y0,y1,y2,y3,yz⟩:=KS.out w9 R9 O9)|(gi_at_call 71;refine (CIx.out _ w9 P9).mono ?_;rintro e w4 ⟨v4,rfl,O_,b4⟩;have u0:w4.cell? ⟨bx,0,none⟩=some (.int .i64 x'.dir):=(b4.cell yz).trans y0;have u1:w4.cell? ⟨bx,1,none⟩=some (.string (bs x'.name)):=(b4.cell yz).trans y1;have u2:w4.cell? ⟨bx,2,none⟩=some (.int .i64 x'.no):=(b4.cell yz).trans y2;have u3:w4.cell? ⟨bx,3,none⟩=some (.int .i64 x'.depth):=(b4.cell yz).trans y3;have uz:bx<w4.heap.size:=(by have:=b4.size;omega);have hJ4:=XT.out O pre w9 O w4 P7 (Only.aw b4) (fun y hy=>.inl hy) (fun y hy=>((VK.out _ _ _ P7).2.2 y hy).2.ext b4);obtain⟨fn,tmps,assign,body,hy,hR⟩:=HY.out O pre (x',e3) w4 hJ4 (by rw[hLb.out];exact List.prefix_refl _);try dsimp only[PZ]at hy));refine hR.mono ?_;rintro e W3 (⟨rfl,Jq,lF⟩|⟨rfl,tF⟩)
    ·gi_wp2
     go_end0;exact ⟨⟨_,rfl⟩,.inl ⟨_,_,hLb.out.symm,Jq⟩⟩
    ·gi_wp2
     go_end0;exact ⟨⟨_,rfl⟩,.inr ⟨_,by rw[hLb.out];exact List.prefix_refl _,tF⟩⟩
   have t3:(e3 != 0)=false:=by simpa using h3
   obtain ⟨l2,Po⟩:∃l2,l1=x'::l2/\jr s.t cu cg (l4++t') l2 b0 e0:=by
    have h0:ez s.t cu cg x'=0:=by rw[<-XX.out.1];exact h3
    have tI:=HD.out;rw [XX.out.2]
    cases tI with
    | bad h=>exact absurd h0 h
    | step _ hd3=>exact⟨_,rfl,hd3⟩
   have TW:=zH Po;have HLb:Hid (L=(pre++[(x',0)])++told l2 b0 e0):=by show _=_;rw[HL.out,Po.1,xD,List.append_assoc];rfl
   have Gi:Hid (l4.length<=900/\∀y∈l4,y.depth=x'.depth+1):=by
    show _/\_;rw [XX.out.2];exact ⟨Nat.le_trans (Hy HS.out.eE cu cg x') hc,fun y hy=>BI hy⟩
   have mG:=zH h3;clear h3 Po;gi_wp2_with (first|(refine j7 rfl _ _ rfl bx x x' rfl rfl Rp.out ?_;intro w9 R9 O9;obtain⟨P7,P9,k0,k1,k2,z0,z1,y0,y1,y2,y3,yz⟩:=KS.out w9 R9 O9)|(gi_at_call 71;refine (CIx.out _ w9 P9).mono ?_;rintro e w4 ⟨v4,rfl,O_,b4⟩;have u0:w4.cell? ⟨bx,0,none⟩=some (.int .i64 x'.dir):=(b4.cell yz).trans y0;have u1:w4.cell? ⟨bx,1,none⟩=some (.string (bs x'.name)):=(b4.cell yz).trans y1;have u2:w4.cell? ⟨bx,2,none⟩=some (.int .i64 x'.no):=(b4.cell yz).trans y2;have u3:w4.cell? ⟨bx,3,none⟩=some (.int .i64 x'.depth):=(b4.cell yz).trans y3;have uz:bx<w4.heap.size:=(by have:=b4.size;omega);have hJ4:=XT.out O pre w9 (O++v4.ownBlock.toList) w4 P7 (Only.aw b4) (fun y hy=>(List.mem_append.1 hy).imp id (fun hm=>(O_.lt (Option.mem_toList.1 hm)).1)) (fun y hy=>(List.mem_append.1 hy).elim (fun hm=>((VK.out _ _ _ P7).2.2 y hm).2.ext b4) (fun hm=>O_.LX (Option.mem_toList.1 hm)));obtain⟨fn,tmps,assign,body,hy,hR⟩:=HY.out (O++v4.ownBlock.toList) pre (x',0) w4 hJ4 (by rw[HLb.out];exact List.prefix_append _ _);try dsimp only[PZ]at hy));refine hR.mono ?_;rintro e W5 (⟨rfl,hJ5,hk5⟩|⟨rfl,aaZ⟩)
   ·have X4 := R9.ext b4
    have X5:Has W5 bx (.cells (cR x').toArray 50):=(hk5 bx (List.mem_append_left _ hbO)).trans X4;have T5:dZ W5 W.heap.size (.slice (some ⟨gr,0,none⟩) t'.reverse.length cap) t'.reverse:=
     ((TV.out.pop.only O9 (fun g hg=>by injection hg with hg;subst hg;simpa using P6.2)).ext b4).keep (fun g hg=>by injection hg with hg;subst hg;exact hk5 _ (List.mem_append_left _ P6.1))
    have L5:=O_.keep (fun g hg=>hk5 g (List.mem_append_right _ (Option.mem_toList.2 hg)));have XY:∀g,v4.ownBlock=some g->w9.heap.size<=g:=fun g hg=>(O_.lt hg).1
    have aa0:gr<w9.heap.size:=Nat.lt_of_lt_of_le LZ.lt O9.size;obtain⟨O4,L0⟩:=ar (O++v4.ownBlock.toList);have aa1:bx∈O4:=by rw[L0];exact List.mem_append_left _ hbO
    have aa2:gr∈O4:=by rw[L0];exact List.mem_append_left _ P6.1
    have aa3:∀g,v4.ownBlock=some g->g∈O4:=fun g hg=>by rw[L0];exact List.mem_append_right _ (Option.mem_toList.2 hg)
    rw [<-L0]at hJ5;obtain ⟨A4,c4,hv4,aa4,ach,_,_⟩:=O_.at_;obtain⟨n4,Ot⟩:=ar l4.length;rw [<-Ot]at hv4 aa4;have hl5:=Gi.out;rw [<-Ot]at hl5;have HN4:=zH Ot;have HV4:=zH hv4;have aa5:=zH XY;have ZW:=zH L5;have HT5:=zH T5;have RM:=zH X5;have HJ5:=zH hJ5;have n41:=hl5.1;have wn:IntKind.i64.wrap ((n4:Int)-1)=(n4:Int)-1:=IntWalk.i64_in _ (by omega);have t'l:Hid (t'.reverse.length=T'):=by show _=_;rw[List.length_reverse];exact Cz.out.symm
    have p4:(0:Int)<=(n4:Int):=Int.natCast_nonneg _;clear Ot XY O_ T5 X5 X4 hJ5 L5 L0 hy hR hJ4 P7 P9 k0 k1 k2 z0 z1 y0 y1 y2 y3 yz u0 u1 u2 u3 uz R9 hk5 hl5 q0 q1 q2 q3 qz KS;subst hv4;gi_wp2;gi_loopw [8,10] (fun vt vi wr2=>∃(p:Nat) (O2:List Nat),vi=.int .i64 ((p:Int)-1)/\p<=n4/\J O2 (pre++[(x',0)]) wr2/\bx∈O2/\(∀g,(Value.slice A4 n4 c4).ownBlock=some g->g∈O2)/\Has wr2 bx (.cells (cR x').toArray 50)/\dZ wr2 w9.heap.size (.slice A4 n4 c4) l4/\dZ wr2 W.heap.size vt (t'.reverse++(l4.drop p).reverse)/\(∀g,vt.ownBlock=some g->g∈O2/\g≠bx/\(Value.slice A4 n4 c4).ownBlock≠some g)) (fun _ vi _=>(intOf vi+1).toNat)
    case atStart =>
     refine ⟨n4,O4,rfl,Nat.le_refl _,HJ5.out,aa1,aa3,RM.out,ZW.out,?_,fun g hg=>?_⟩
     ·rw [show l4.drop n4=[] by rw[HN4.out,List.drop_length],List.reverse_nil,List.append_nil]
      have:=HT5.out;rw [t'l.out]at this;exact this
     ·injection hg with hg
      subst hg;exact ⟨aa2,P6.2,fun e=>absurd (aa5.out _ e) (Nat.not_le.2 aa0)⟩
    case round =>
     obtain ⟨p,O2,Ou,hp,VN,Rw,hv6,hX6,XZ,hO6,L3⟩:=hrel;rcases p with _|p
     ·have DT:u10=.int .i64 (-1):=Ou
      subst DT;have HJ6:=zH VN;have zI:=zH hX6;have HJ:=zH hO6;have HW6:=zH L3;clear Ou VN hX6 XZ hO6 L3 hv6;gi_wp2;gi_roundg (l2.length+1)
      case measure=>rw[HM.out,TW.out.1];simp
      case rel =>
       refine ⟨e3,l4++t',x',O2,pre++[(x',0)],rfl,HJ6.out,Rw,zI.out,?_,fun g hg=>⟨(HW6.out g hg).1,(HW6.out g hg).2.1⟩,?_,fun y hy=>?_,.inl ⟨mG.out,hd,l2,TW.out.2,HLb.out,rfl⟩⟩
       ·have:=HJ.out
        rw [List.drop_zero]at this;rw [List.reverse_append];exact this
       ·have:=HN4.out
        have:=Cz.out;rw [List.length_append,List.length_append,List.length_singleton];omega
       ·rw [List.length_append,List.length_singleton]
        rcases List.mem_append.1 hy with hm|hm
        ·have:=Gi.out.2 y hm
         omega
        ·have:=aaY.out y (List.mem_cons_of_mem _ hm)
         omega
     ·have DT:u10=.int .i64 (p:Int):=by rw[Ou];simp
      subst DT;have hpl:p<l4.length:=by have:=HN4.out;omega
      obtain ⟨gl,hA4⟩:∃gl,A4=some ⟨gl,0,none⟩:=by
       rcases XZ.cases with⟨_,h2⟩|⟨gl,_,_,h2,_⟩
       ·rw[h2]at hpl;simp at hpl
       ·injection h2 with h2;exact⟨gl,h2⟩
      subst hA4;obtain ⟨xE,NX⟩:(∀j,j<4->wr.cell? ⟨gl,p*4+j,none⟩=(cR l4[p])[j]?)/\gl<wr.heap.size:=by
       rcases XZ.cases with⟨h1,_⟩|⟨gl',_,_,h2,_,h3,_,_,h4⟩
       ·cases h1
       ·injection h2 with h2
        injection h2 with h2;injection h2 with h2;subst h2;exact ⟨h4 p hpl,h3.lt⟩
      have V7:Hid (t'.reverse++(l4.drop p).reverse=(t'.reverse++(l4.drop (p+1)).reverse)++[l4[p]]):=by
       show _=_;rw [List.drop_eq_getElem_cons hpl,List.reverse_cons,List.append_assoc]
      obtain⟨y,SB⟩:=ar (l4[p]);rw [<-SB]at xE V7;have q0:wr.cell? ⟨gl,p*4,none⟩=some (.int .i64 y.dir):=xE 0 (by decide);have q1:wr.cell? ⟨gl,p*4+1,none⟩=some (.string (bs y.name)):=xE 1 (by decide);have q2:wr.cell? ⟨gl,p*4+2,none⟩=some (.int .i64 y.no):=xE 2 (by decide);have q3:wr.cell? ⟨gl,p*4+3,none⟩=some (.int .i64 y.depth):=xE 3 (by decide);have r0:(0:Int)<=(p:Int):=Int.natCast_nonneg _;have r1:(p:Int)<(n4:Int):=by omega
      have r2:IntKind.i64.wrap ((p:Int)-1)=(p:Int)-1:=IntWalk.i64_in _ (by omega);have IZ:(t'.reverse++(l4.drop (p+1)).reverse).length<=2000000:=by
       have:=HN4.out;have:=Cz.out;rw [List.length_append,List.length_reverse,List.length_reverse,List.length_drop];omega
      have X_:W.heap.size<=wr.heap.size:=(VK.out _ _ _ VN).2.1;obtain ⟨v',w',hr,DK,hg,P_⟩:=uK wr hO6 X_ y IZ;have HR:=zH hr;have o6:Only u8.ownBlock.toList wr w':=(Only.gS _ _ _).then (Only.of_grownBy hg (fun g hv=>Option.mem_toList.2 hv));have hB6:∀y∈O2,il wr y:=fun y hy=>((VK.out _ _ _ VN).2.2 y hy).2
      have TX:∀y∈O2,y<wr.heap.size:=fun y hy=>(hB6 y hy).lt
      obtain⟨O3,Oo⟩:=ar ((O2.filter fun y=>decide (y∉u8.ownBlock.toList))++v'.ownBlock.toList);have TY:∀y,y∈O3->(y∈O2/\y∉u8.ownBlock.toList)\/v'.ownBlock=some y:=fun y hy=>by
       rw [Oo]at hy;rcases List.mem_append.1 hy with hm|hm
       ·rw[List.mem_filter,decide_eq_true_eq]at hm;exact .inl hm
       ·exact .inr (Option.mem_toList.1 hm)
      have in3:∀y,y∈O2->u8.ownBlock≠some y->y∈O3:=fun y hy hn=>by
       rw [Oo];exact List.mem_append_left _ (List.mem_filter.2 ⟨hy,by rw[decide_eq_true_eq];exact fun hm=>hn (Option.mem_toList.1 hm)⟩)
      have Fs:∀g',v'.ownBlock=some g'->(u8.ownBlock=some g')\/g'=wr.heap.size+1:=fun g' hg'=>by
       rcases P_ with e|e
       ·rw[e]at hg';exact .inl hg'
       ·rw[e]at hg';injection hg' with hg';exact .inr hg'.symm
      have hJ7:J O3 (pre++[(x',0)]) w':=XT.out O2 _ wr _ w' VN (o6.mono (fun y hy=>(L3 y (Option.mem_toList.1 hy)).1)) (fun y hy=>by
        rcases TY y hy with hm|hm
        ·exact .inl hm.1
        ·rcases Fs y hm with e|e
         ·exact .inl (L3 y e).1
         ·exact .inr (by omega)) (fun y hy=>by
        rcases TY y hy with hm|hm
        ·exact (hB6 y hm.1).keep (o6.block y (TX y hm.1) hm.2)
        ·exact DK.LX hm)
      have hX7:=o6.has hX6 (fun hm=>(L3 bx (Option.mem_toList.1 hm)).2.1 rfl);have NP:=XZ.only o6 (fun g hv hm=>(L3 g (Option.mem_toList.1 hm)).2.2 hv);have hw7:∀g',v'.ownBlock=some g'->g'∈O3/\g'≠bx/\(Value.slice (some ⟨gl,0,none⟩) n4 c4).ownBlock≠some g':=fun g' hg'=>by
       refine ⟨by rw[Oo];exact List.mem_append_right _ (Option.mem_toList.2 hg'),?_,?_⟩
       ·rcases Fs g' hg' with e|e
        ·exact (L3 g' e).2.1
        ·have:=TX bx Rw;omega
       ·rcases Fs g' hg' with e|e
        ·exact (L3 g' e).2.2
        ·intro e2
         have e3:some gl=some g':=e2;injection e3 with e3;omega
      have HJ7:=zH hJ7;have Ya:=zH hX7;have WP:=zH NP;have H2:=zH DK;have HW7:=zH hw7;have HV6:=zH (fun g (hv:(Value.slice (some ⟨gl,0,none⟩) n4 c4).ownBlock=some g)=>in3 g (hv6 g hv) (fun e=>(L3 g e).2.2 hv));have TZ:=zH (in3 bx Rw (fun e=>(L3 bx e).2.1 rfl));clear Ou VN hX6 XZ hO6 L3 hv6 hr DK hg P_ Fs o6 hJ7 hX7 NP hw7 xE SB TX hB6 TY in3 Oo;gi_wp2_with (gi_at_builtin;refine jK _ rfl _ _ 42 42 rfl _ _ rfl rfl _ _ HR.out ?_);go_roundw
      case rel=>exact⟨p,_,rfl,by omega,HJ7.out,TZ.out,HV6.out,Ya.out,WP.out,by rw[V7.out];exact H2.out,HW7.out⟩
      case measure=>simp[intOf]
   ·gi_wp2
    refine bodyPost_ret (results_none rfl _ _ _) rfl ?_;exact ⟨⟨_,rfl⟩,.inr ⟨_,by rw[HLb.out];exact List.prefix_append _ _,aaZ⟩⟩
end
end Go.Proofs.YtblbohcaphcobaaGreatDoor
