import Derived.Test.YtpibnfdolojpcaaGreatBunE
import Derived.Test.YtpibnfdolojpcaaGreatBunD
import Derived.Test.YtpibnfdolojpcaaGreatBunL
import Derived.Test.YtpibnfdolojpcaaGreatBunX
import Derived.Test.YtpibnfdolojpcaaGreatBunJ
import Derived.Test.YtpibnfdolojpcaaGreatBunB
import Derived.Test.YtpibnfdolojpcaaGreatBunM
import Derived.Test.YtpibnfdolojpcaaGreatBunK
import Derived.RangeFuncNested
import Derived.RangeFuncBound
import Derived.RangeFuncCalls
import Derived.RangeFuncLeaves
import Derived.RangeFuncBox
import Derived.Maps.AppendAt
import Derived.OwnWalkIn
import Derived.TacticsInMore
import Derived.LoopNIn
import Derived.LoopIn
import Derived.Sort.LoopGhostIn
set_option maxHeartbeats 16000000
set_option maxRecDepth 100000
namespace Go.Proofs.YtpibnfdolojpcaaGreat
section
open Go.ChangeShapes Go.WideShapes Go.ChangeAt Go.RowKit
structure Mx (S:ae):Prop where
 qt:∀h:0<S.ah.length,S.ah[0].over=0
 roots:∀k,(h:k<S.ah.length)->∃m∈S.nodes,m.no=S.ah[k].root/\m.kind=1/\m.dev=(k:Int)+1
 free:∀k,(h:k+1<S.ah.length)->∃m∈S.nodes,m.no=S.ah[k+1].over/\aC S.ah m.dev≠S.ah[k+1].over
theorem je {S:ae} (m:Mx S) {no:Int} (hn:0<no):ar S.ah no=no\/∃k,∃hk:k+1<S.ah.length,S.ah[k+1].over=no/\ar S.ah no=S.ah[k+1].root:=by
 unfold ar;rw [if_pos hn]
 cases hf:S.ah.find? (fun d=>d.over == no) with
 | none=>exact .inl rfl
 | some d =>
  right
  have hm:=List.mem_of_find?_eq_some hf;have ho:d.over=no:=by simpa using List.find?_some hf
  obtain ⟨k,hk,e⟩:=List.getElem_of_mem hm
  match k,hk,e with
  | 0,hk,e =>
   have:=m.qt hk;rw [e]at this;omega
  | k+1,hk,e=>exact⟨k,hk,by rw[e];exact ho,by rw[e]⟩
theorem dy.sb {c:Nat} {S:ae} (h:dy c S):Mx S:=⟨h.qt,h.fG,fun k hk=>by
 obtain ⟨m,hm,a,_,_,b⟩:=h.lV k hk;exact ⟨m,hm,a,by rw[<-a];exact b⟩⟩
def pP (S:ae):Prop:=∀m∈S.nodes,∀x∈m.af,∀q∈S.nodes,q.no=x.2->q.kind=1->q.up=m.no
structure aj where
 dir:Int
 name:List UInt8
 no:Int
 depth:Int
def gO:aj:=⟨0,[],0,0⟩
def dQ (S:ae) (cu cg:Int) (x:aj):Int:=
 if aJ S.nodes x.no=false then 5 else if aJ S.nodes x.dir=false then 5
 else if (ac S.nodes x.no).dev≠(ac S.nodes x.dir).dev then 16
 else if (ac S.nodes x.no).kind≠1 then 0 else bt S cu cg x.no 1 4
def dZ (x:aj) (y:ay):aj:=⟨x.no,y.1,y.2,x.depth+1⟩
def ew (S:ae) (cu cg:Int) (x:aj):List aj:=
 if dQ S cu cg x=0/\(ac S.nodes x.no).kind=1 then (bo S (ac S.nodes x.no).af).map (dZ x) else []
inductive fw (S:ae) (cu cg:Int):List aj->List aj->aj->Int->Prop
 | nil:fw S cu cg [] [] gO 0
 | bad {x:aj} {t:List aj}:dQ S cu cg x≠0->fw S cu cg (x::t) [] x (dQ S cu cg x)
 | step {x:aj} {t l:List aj} {b:aj} {e:Int}:dQ S cu cg x=0->fw S cu cg (ew S cu cg x++t) l b e->fw S cu cg (x::t) (x::l) b e
theorem fw.err {S:ae} {cu cg:Int} {t l:List aj} {b:aj} {e:Int} (h:fw S cu cg t l b e):e=0->b=gO:=by
 induction h with
 | nil=>intro _;rfl
 | bad h=>intro k;exact absurd k h
 | step _ _ ih=>exact ih
theorem mJ {c:Nat} {S:ae} (h:dy c S) (hl:pP S) {m:ai} (hm:m∈S.nodes) {x:ay} (hx:x∈m.af) (hk:(ac S.nodes (ar S.ah x.2)).kind=1) :
  aZ S (ar S.ah x.2)=m.no/\ar S.ah x.2≠m.no:=by
 obtain ⟨k1,k2,k3⟩:=h.yJ m hm x hx;have hp:=h.pos m hm x hx;rcases je h.sb (show 0<x.2 by omega) with e|⟨k,hk2,e1,e2⟩
 ·rw [e]at hk|-
  obtain ⟨i1,i2,i3⟩:=aO hk;refine ⟨?_,k1⟩;unfold aZ;rw [if_pos hk,if_neg]
  ·exact hl m hm x hx _ i3 i2 hk
  ·rintro ⟨r,_⟩
   rcases dC h.roots (ac S.nodes x.2).dev with⟨e1,_⟩|⟨j,hj,_,_,_,e4,_⟩
   ·rw[e1]at r;omega
   ·exact k2 _ (List.getElem_mem hj) (by rw[<-e4,r])
 ·rw [e2]at hk|-
  obtain ⟨q,hq,q1,q2,q3,q4⟩:=h.lV k hk2;obtain ⟨y,hy,y1,y2,y3⟩:=h.fG (k+1) hk2;have gq:=(cR h.bc hq).1;have gy:=(cR h.bc hy).1;rw [q1]at gq;rw [y1]at gy;have Xe:=hl m hm x hx q hq (by rw[q1,e1]) q2;have OE:aC S.ah y.dev=S.ah[k+1].root/\(jn S.ah y.dev).over=S.ah[k+1].over:=by
   rcases dC h.roots y.dev with⟨_,e2⟩|⟨j,hj,e1,e2,e3,e4,_⟩
   ·have:=(h.on y hy).1;rw[e2]at this;cases this
   ·have Jv:j=k+1:=by omega
    subst Jv;exact ⟨e4,by rw[e3]⟩
  refine ⟨?_,?_⟩
  ·unfold aZ
   rw [gy,if_pos y2,if_pos ⟨OE.1,by rw[y3];omega⟩,OE.2,gq];exact Xe
  ·intro e
   have Gt:y=m:=ib h.bc hy hm (by rw[y1,e]);have hd:=k3 q hq (by rw[q1,e1]);rw [<-Gt,y3]at hd;omega
def CD (S:ae) (r:Int->Nat) (c:Nat) (no:Int):Nat:=if (ac S.nodes no).kind=1 then (c+2) ^ (S.nodes.length+1-r no) else 1
def Yr (S:ae) (r:Int->Nat) (c:Nat) (l:List aj):Nat:=(l.map fun x=>CD S r c x.no).sum
theorem se (S:ae) (r:Int->Nat) (c:Nat) (no:Int):0<CD S r c no:=by
 unfold CD;split
 ·exact Nat.pow_pos (by omega)
 ·decide
theorem My {α:Type} (f:α->Nat) (b:Nat) (l:List α) (h:∀x∈l,f x<=b):(l.map f).sum<=l.length*b:=by
 induction l with
 | nil=>simp
 | cons x l ih =>
  have h1:=ih fun y hy=>h y (List.mem_cons_of_mem _ hy)
  have h2:=h x (List.mem_cons_self ..);rw [List.map_cons,List.sum_cons,List.length_cons,Nat.add_mul];omega
theorem Qx {c:Nat} {S:ae} (h:dy c S) (hl:pP S) {r:Int->Nat} (hr:ul S r) (cu cg:Int) (x:aj):Yr S r c (ew S cu cg x)<CD S r c x.no:=by
 unfold ew;split
 ·rename_i hx
  obtain ⟨_,hk⟩:=hx;obtain ⟨i1,i2,i3⟩:=aO hk;have hrx:=hr.top x.no;have hs:=h.small _ i3;unfold Yr;rw [List.map_map];have hle:∀y∈bo S (ac S.nodes x.no).af,((fun x=>CD S r c x.no)∘dZ x) y<=(c+2) ^ (S.nodes.length-r x.no):=by
   intro y hy;unfold bo at hy;rw [List.mem_map]at hy;obtain ⟨z,hz,rfl⟩:=hy;show CD S r c (ar S.ah z.2)<=_;unfold CD;split
   ·rename_i hk2
    obtain ⟨a1,a2⟩:=mJ h hl i3 hz hk2;rw [i2]at a1 a2;have sI:=(h.bc.2 _ i3).1;rw [i2]at sI;have h0:ar S.ah z.2≠0:=by
     intro e;rw[e]at hk2;have:=(aO hk2).1;rw [h.bc.zero (.inl (by decide))]at this;cases this
    have:=hr.step (ar S.ah z.2) h0 (by rw[a1];omega) (by rw[a1];exact Ne.symm a2);rw [a1]at this;exact Nat.pow_le_pow_right (by omega) (by omega)
   ·exact Nat.pow_pos (by omega)
  have h1:=My _ _ _ hle;rw [gG]at h1;have h2:CD S r c x.no=(c+2) ^ (S.nodes.length-r x.no)*(c+2):=by
   unfold CD;rw [if_pos hk,show S.nodes.length+1-r x.no=(S.nodes.length-r x.no)+1 by omega,Nat.pow_succ]
  rw [h2];have h3:0<(c+2) ^ (S.nodes.length-r x.no):=Nat.pow_pos (by omega)
  generalize (c+2) ^ (S.nodes.length-r x.no)=P at *
  have h4:(ac S.nodes x.no).af.length*P<=c*P:=Nat.mul_le_mul_right P hs;have h5:P*(c+2)=c*P+2*P:=by rw[Nat.mul_add,Nat.mul_comm P c,Nat.mul_comm P 2]
  refine Nat.lt_of_le_of_lt h1 ?_;omega
 ·exact se S r c x.no
theorem Io {c:Nat} {S:ae} (h:dy c S) (hl:pP S) (cu cg:Int) (t:List aj):∃l b e,fw S cu cg t l b e:=by
 obtain ⟨r,hr⟩:=h.Gw;have key : ∀n t,Yr S r c t<=n->∃l b e,fw S cu cg t l b e:=by
  intro n
  induction n with
  | zero =>
   intro t ht
   cases t with
   | nil=>exact⟨_,_,_,.nil⟩
   | cons x t =>
    have:=se S r c x.no;unfold Yr at ht;rw [List.map_cons,List.sum_cons]at ht;omega
  | succ n ih =>
   intro t ht
   cases t with
   | nil=>exact⟨_,_,_,.nil⟩
   | cons x t =>
    by_cases he:dQ S cu cg x=0
    ·have hw:=Qx h hl hr cu cg x
     obtain ⟨l,b,e,hd⟩:=ih (ew S cu cg x++t) (by
      unfold Yr at ht hw|-;rw [List.map_cons,List.sum_cons]at ht;rw [List.map_append,List.sum_append];omega)
     exact ⟨_,_,_,.step he hd⟩
    ·exact⟨_,_,_,.bad he⟩
 exact key _ t (Nat.le_refl _)
open Go Go.RowKit
def Qy (B:Nat) (R:List Nat) (W:World):Prop:=∀r∈R,B<=r/\∃o:Obj,W.heap[r]?=some o/\o.isCells=false
def fW (W:World) (x:Nat):Prop:=∃t,dO W x t/\t≠153/\t≠216
theorem fW.lt {W:World} {x:Nat} (h:fW W x):x<W.heap.size:=by obtain⟨t,⟨c,f,h⟩,_⟩:=h;exact (Array.getElem?_eq_some_iff.1 h).1
theorem fW.keep {W W':World} {x:Nat} (h:fW W x) (e:W'.heap[x]?=W.heap[x]?):fW W' x:=by obtain⟨t,⟨c,f,h⟩,h2⟩:=h;exact⟨t,⟨c,f,e.trans h⟩,h2⟩
theorem fW.only {W W':World} {x:Nat} {L:List Nat} (h:fW W x) (o:Only L W W') (hL:∀y∈L,fW W' y):fW W' x:=by
 by_cases hx:x∈L
 ·exact hL x hx
 ·exact h.keep (o.block x h.lt hx)
theorem fW.ext {W W':World} {x:Nat} (h:fW W x) (o:Ext W W'):fW W' x:=h.keep (Below.block o x h.lt)
theorem fW.of {W:World} {x:Nat} {cs:Array Value} {t:TypeId} {fr:Nat×Nat} (h:W.heap[x]?=some (.cells cs t fr)) (h1:t≠153) (h2:t≠216):fW W x:=⟨t,⟨cs,fr,h⟩,h1,h2⟩
def Mz {α:Type} (B:Nat) (I:List Nat->List α->World->Prop):Prop:=
 ∀ O pre W O' R W',I O pre W->Only (O++R) W W'->Qy B R W->(∀x∈O',x∈O\/W.heap.size<=x)->(∀x∈O',fW W' x)->I O' pre W'
def MA {α:Type} (B:Nat) (I:List α->World->Prop):Prop:=∀pre W R W',I pre W->Only R W W'->Qy B R W->I pre W'
def ol (O:List Nat) (W W':World):Prop:=∀b∈O,W'.heap[b]?=W.heap[b]?
theorem ol.trans {O:List Nat} {A B C:World} (h:ol O A B) (k:ol O B C):ol O A C:=fun b hb=>(k b hb).trans (h b hb)
theorem Only.FK {L O:List Nat} {W W':World} (o:Only L W W') (h1:∀b∈O,b<W.heap.size) (h2:∀b∈O,b∉L):ol O W W':=fun b hb=>o.block b (h1 b hb) (h2 b hb)
theorem Only.putObj (W:World) (l:Nat) (o:Obj):Only [l] W (W.putObj l o):=
 ⟨rfl,rfl,rfl,by simp,fun k _ hk=>World.putObj_heap_other (fun e=>hk (by simp[e]))⟩
theorem Only.jw (L:List Nat) (W:World) (o:Obj):Only L W (W.alloc o):=Only.ax ((Ext.refl W).alloc o)
theorem Only.l7 {L:List Nat} {B:Nat} {W W':World} (o:Only L W W') (h:∀b∈L,b<B\/∃x:Obj,W.heap[b]?=some x/\x.isCells=true):KeepsFrom B W W':=
 ⟨o.size,fun k x hB hk hx=>by
  refine (o.block k (Array.getElem?_eq_some_iff.1 hk).1 fun hm=>?_).trans hk;rcases h k hm with e|⟨y,hy,hc⟩
  ·omega
  ·rw[hk]at hy;cases hy;rw[hx]at hc;cases hc⟩
section
variable {F:Fence} {n:Nat} {P:Program}
def Uq {α:Type} (F:Fence) (n:Nat) (P:Program) (g:Nat) (lb:Array Value) (Ip:α->Array Value) (S Sp:List α->Prop) (G:List α->α->Prop) (Ex:List α->World->Prop) (w0:World):Prop:=
 ∀ (l : Nat) (J:List Nat->List α->World->Prop) (Jx:List α->World->Prop) (W:World),w0.heap.size<=W.heap.size ->
  (∀O pre V,J O pre V->Ex pre V/\W.heap.size<=V.heap.size/\∀b∈O,W.heap.size<=b/\fW V b) ->
  (∀O pre V O' V',J O pre V->Only O V V'->(∀x∈O',x∈O\/V.heap.size<=x)->(∀x∈O',fW V' x)->J O' pre V') ->
  (∀pre V V',Jx pre V->Ext V V'->Jx pre V') ->
  (∀ O pre x V,J O pre V->G pre x->YieldAt F (n-1) P l (Ip x) V fun e V' =>
   (e=.returned (.bool true)/\J O (pre++[x]) V'/\ol O V V')\/(e=.returned (.bool false)/\Jx (pre++[x]) V')) ->
  J [] [] W ->
  CallsIn F n P g (#[.func (.yield l) #[] #[]]++lb) W fun e W'=>(∃v,e=.returned v)/\((∃O xs,S xs/\J O xs W')\/(∃pre,Sp pre/\Jx pre W'))
def Bv {α:Type} (B:Nat) (I:List Nat->List α->World->Prop) (Ix:Code->List α->World->Prop) (O:List Nat) (xs:List α) (W:World):Exit->Act->World->Prop
 | .normal,_,W'=>KeepsFrom B W W'/\ol O W W'/\I O xs W'
 | .ret,_,W'=>KeepsFrom B W W'/\Ix .ret xs W'
 | .exit id,_,W'=>KeepsFrom B W W'/\Ix (.exit id) xs W'
 | .goto t,_,W'=>KeepsFrom B W W'/\Ix (.goto t) xs W'
 | .panic _,_,_=>False
 | .outgrown,_,_=>False
theorem qH {α:Type} {g:Operand} {ps:Array Tmp} {assign body:Code} {Q:Exit->Act->World->Prop} {a:Act} {w:World}
  (hro:F.round=none) (h1:1<=n) {gf:Nat} {lb:Array Value} (hg:a.eval g=.func (.func gf) #[] lb) (hFg:F.fn gf) (eg:∀args w,(callFunc gf args).run P w=.ok (.enter gf args) w)
  {Ip:α->Array Value} {S Sp:List α->Prop} {G:List α->α->Prop} {Ex:List α->World->Prop} {w0:World} (aa8:Uq F (n-1) P gf lb Ip S Sp G Ex w0) (ez:w0.heap.size<=w.heap.size) (VR:∀x,(Ip x).size=ps.size)
  (I:List Nat->List α->World->Prop) (Ix:Code->List α->World->Prop) (hI:Mz w.heap.size I) (hIx:∀c,MA w.heap.size (Ix c)) (LK:∀O pre V,I O pre V->Ex pre V) (h0:I [] [] w)
  (Ax:α->Act->World->Prop) (hAx:∀x a' V l o o',Ax x a' V->w.heap.size<=l->V.heap[l]?=some o->o.isCells=false->Ax x a' (V.putObj l o'))
  (Qz:∀(l:Nat) (O:List Nat) (pre:List α) (x:α) (V:World) (K:Act->World->Prop),I O pre V->G pre x->(∀b∈O,fW V b)->(∀a' V',KeepsFrom w.heap.size V V'->ol O V V'->I O pre V'->Ax x a' V'->K a' V') ->
   assign.wpIn (F.inRound l) (n-1-1) P (Exit.then K (fun _ _ _=>False)) {tmps:=(ps.zip (Ip x)).foldl (fun t (p,v)=>t.setIfInBounds p v) a.tmps,defers:=[]} V)
  (Yt:∀(l:Nat) (O:List Nat) (pre:List α) (x:α) (a':Act) (V:World),I O pre V->Ax x a' V->G pre x->(∀b∈O,fW V b)->body.wpIn (F.inRound l) (n-1-1) P (Bv w.heap.size I Ix O (pre++[x]) V) a' V)
  (li:∀(D:Nat) (O:List Nat) (xs:List α) (V:World),w.heap.size<=D->S xs->I O xs V->V.heap[D]?=some (.deferred (some []))->Q .normal {a with defers:={target:=.collected D,args:=#[]}::a.defers} V)
  (Yu:∀(D:Nat) (c:Code) (pre:List α) (V:World),w.heap.size<=D->Sp pre->Ix c pre V->V.heap[D]?=some (.deferred (some []))->c.wpIn F n P Q {a with defers:={target:=.collected D,args:=#[]}::a.defers} V) :
  (Code.rangeFunc g ps assign body).wpIn F n P Q a w:=by
 refine wpIn_rangeFunc (fun fn hfn=>?_);rw [hro];obtain⟨D,hD⟩:=zE w.heap.size;obtain ⟨R,hR⟩:∃R:LoopState->Option Code->Loop,R=fun st pe=>{state:=st,pending:=pe,fn,tmps:=a.tmps,params:=ps,assign,body,defers:=w.heap.size}:=⟨_,rfl⟩
 obtain ⟨V,hV⟩:∃V,(w.alloc (.deferred (some []))).alloc (.loop (R .ready none))=V:=⟨_,rfl⟩;have vl:V.heap[D+1]?=some (.loop (R .ready none)):=by
  rw [<-hV,hD];have:=World.alloc_heap_new (w.alloc (.deferred (some []))) (.loop (R .ready none))
  rwa [World.size_alloc]at this
 have vd:V.heap[D]?=some (.deferred (some [])):=by
  rw [<-hV,hD];exact (Below.heap_alloc _ _ _ (by simp)).trans (World.alloc_heap_new w _)
 have vI:I [] [] V:=by
  rw [<-hV];exact hI [] [] w [] [] _ h0 ((Only.jw _ _ _).then (Only.jw _ _ _)) (fun r hr=>by cases hr) (fun x hx=>by cases hx) (fun x hx=>by cases hx)
 have vs:V.heap.size=D+2:=by rw[<-hV,hD];simp
 refine ⟨D+1,[{target:=.collected D,args:=#[]}],V,{target:=.fn (.func gf) lb,args:=#[.func (.yield (D+1)) #[] #[]]},V,gf,#[.func (.yield (D+1)) #[] #[]]++lb,V,?_,?_,?_,?_,fun _=>h1,?_⟩
 ·rw[<-hV,hR,hD];exact run_enterLoop_outer _ _ _ _ _
 ·simp only[resolve,hg]
  simp [go_sem]
 ·intro f' Kk;simp[Target.leads]at Kk;subst Kk;exact hFg
 ·simp[invoke,go_sem,eg]
 ·refine (aa8 (D+1)
   (fun O pre W=>I O pre W/\W.heap[D+1]?=some (.loop (R .ready none))/\W.heap[D]?=some (.deferred (some []))/\V.heap.size<=W.heap.size/\∀b∈O,V.heap.size<=b/\fW W b)
   (fun pre W=>∃c,Ix c pre W/\W.heap[D+1]?=some (.loop (R .done (some c)))/\W.heap[D]?=some (.deferred (some []))) V (by omega)
   (fun O pre W h=>⟨LK O pre W h.1,h.2.2.2.1,h.2.2.2.2⟩)
   (fun O pre X O' Y h o hO CE=>by
    obtain ⟨h1,h2,h3,h4,h5⟩:=h;have nD:∀k,k<V.heap.size->k∉O:=fun k hk hm=>by have:=(h5 k hm).1;omega
    refine ⟨hI O pre X O' [] Y h1 (by rw[List.append_nil];exact o) (fun r hr=>by cases hr) hO CE,?_,?_,Nat.le_trans h4 o.size,fun b hb=>⟨?_,CE b hb⟩⟩
    ·exact (o.block _ (by omega) (nD _ (by omega))).trans h2
    ·exact (o.block _ (by omega) (nD _ (by omega))).trans h3
    ·rcases hO b hb with e|e
     ·exact (h5 b e).1
     ·omega)
   (fun pre X Y ⟨c,hc,hl,hk⟩ e=>⟨c,hIx c pre X [] Y hc (Only.ax e) (fun r hr=>by cases hr),(Below.block e _ (Array.getElem?_eq_some_iff.1 hl).1).trans hl,(Below.block e _ (Array.getElem?_eq_some_iff.1 hk).1).trans hk⟩)
   ?_ ⟨vI,vl,vd,Nat.le_refl _,fun b hb=>by cases hb⟩).mono ?_
  ·rintro O pre x W ⟨hi,hl,hk,hs,hO⟩ hG
   have hlt:D+1<W.heap.size:=(Array.getElem?_eq_some_iff.1 hl).1;have hy:=run_yield (P:=P) (args:=Ip x) hl (by rw[hR];exact VR x);rw [hR]at hy;refine ⟨fn,_,assign,body,hy,roundIn_of_wpIn hfn (Qz _ O pre x W _ hi hG (fun b hb=>(hO b hb).2) ?_)⟩;clear hy;intro a' Wa Ur Yv hia Yw;have hla:=Ur.same _ _ (by omega) hl rfl;have hka:=Ur.same _ _ (by omega) hk rfl;have aa9:D+1<Wa.heap.size:=(Array.getElem?_eq_some_iff.1 hla).1;have hOa:∀b∈O,fW Wa b:=fun b hb=>(hO b hb).2.keep (Yv b hb)
   refine ⟨_,run_beginRound hla (by rw[hR]),?_⟩;obtain ⟨W2,cQ⟩:∃W2,W2=Wa.putObj (D+1) (.loop {R .ready none with state:=.busy}):=⟨_,rfl⟩;have rh:W2.heap[D+1]?=some (.loop {R .ready none with state:=.busy}):=by rw[cQ];exact World.putObj_heap_same aa9
   have hk2:W2.heap[D]?=some (.deferred (some [])):=by rw[cQ];exact (World.putObj_heap_other (by omega)).trans hka
   have pX:W2.heap.size=Wa.heap.size:=by rw[cQ];simp
   have put:∀(O:List Nat) (pre:List α) (X:World) (o o':Obj),I O pre X->X.heap[D+1]?=some o->o.isCells=false->(∀b∈O,V.heap.size<=b/\fW X b)->I O pre (X.putObj (D+1) o'):=fun O pre X o o' h1 h2 h3 h4 =>
    hI O pre X O [D+1] _ h1 ((Only.putObj X _ o').mono (fun y hy=>List.mem_append_right _ hy)) (fun r hr=>by rw[List.mem_singleton]at hr;subst hr;exact⟨by omega,o,h2,h3⟩) (fun y hy=>.inl hy) (fun y hy=>(h4 y hy).2.keep (World.putObj_heap_other (by have:=(h4 y hy).1;omega)))
   have po:I O pre W2:=by rw[cQ];exact put O pre Wa _ _ hia hla rfl (fun b hb=>⟨(hO b hb).1,hOa b hb⟩)
   have MB:∀X o',ol O X (X.putObj (D+1) o'):=fun X o' b hb=>by have:=(hO b hb).1;exact World.putObj_heap_other (by omega)
   rw [<-cQ];refine wpIn_mono (Yt _ O pre x a' W2 po (by rw[cQ];exact hAx _ _ _ _ _ _ Yw (by omega) hla rfl) hG (fun b hb=>by rw[cQ];exact (hOa b hb).keep (MB _ _ b hb))) ?_;have fin:∀(jump:Option Code) (W3:World),KeepsFrom w.heap.size W2 W3->∃W4,W4=W3.putObj (D+1) (.loop (R (if jump.isNone then .ready else .done) jump)) /\
     (Instr.endRound (D+1) jump).run P W3=.ok (.bool jump.isNone) W4/\W3.heap[D+1]?=some (.loop {R .ready none with state:=.busy}) /\
     W4.heap[D+1]?=some (.loop (R (if jump.isNone then .ready else .done) jump))/\W4.heap[D]?=some (.deferred (some []))/\W2.heap.size<=W3.heap.size/\W4.heap.size=W3.heap.size:=fun jump W3 mq=>by
    have OZ:=mq.same _ _ (by omega) rh rfl;have hd3:=mq.same _ _ (by omega) hk2 rfl;have LX:=run_endRound (P:=P) jump OZ;rw [hR]at LX;refine ⟨_,rfl,?_,OZ,World.putObj_heap_same (Array.getElem?_eq_some_iff.1 OZ).1,(World.putObj_heap_other (by omega)).trans hd3,mq.size,by simp⟩;rw [hR];exact LX
   rintro e a3 W3 hp;have leave:∀c,KeepsFrom w.heap.size W2 W3->Ix c (pre++[x]) W3->∃v W4,(Instr.endRound (D+1) (some c)).run P W3=.ok v W4/\v=.bool false/\∃c,Ix c (pre++[x]) W4/\W4.heap[D+1]?=some (.loop (R .done (some c)))/\W4.heap[D]?=some (.deferred (some [])):=fun c mq hi3=>by
    obtain ⟨W4,ij,hr,OZ,sO,OQ,_,_⟩:=fin (some c) W3 mq;exact ⟨_,W4,hr,rfl,c,by rw[ij];exact hIx _ _ W3 [D+1] _ hi3 (Only.putObj _ _ _) (fun r hr=>by rw[List.mem_singleton]at hr;subst hr;exact⟨by omega,_,OZ,rfl⟩),sO,OQ⟩
   cases e with
   | normal =>
    obtain ⟨mq,Yx,hi3⟩:=hp;obtain ⟨W4,ij,hr,OZ,sO,OQ,hs3,hs4⟩:=fin none W3 mq;have q1:ol O Wa W2:=by rw[cQ];exact MB _ _
    have wF:∀b∈O,V.heap.size<=b/\fW W3 b:=fun b hb=>⟨(hO b hb).1,((hOa b hb).keep (q1 b hb)).keep (Yx b hb)⟩
    have q2:ol O W3 W4:=by rw[ij];exact MB _ _
    refine ⟨_,W4,hr,.inl ⟨rfl,⟨by rw[ij];exact put O _ W3 _ _ hi3 OZ rfl wF,sO,OQ,by have:=Ur.size;omega,fun b hb=>⟨(hO b hb).1,(wF b hb).2.keep (q2 b hb)⟩⟩,?_⟩⟩;exact ((Yv.trans q1).trans Yx).trans q2
   | ret =>
    obtain ⟨v,W4,hr,hv,hc⟩:=leave .ret hp.1 hp.2;exact ⟨v,W4,hr,.inr ⟨by rw[hv],hc⟩⟩
   | exit id =>
    obtain ⟨v,W4,hr,hv,hc⟩:=leave (.exit id) hp.1 hp.2;exact ⟨v,W4,hr,.inr ⟨by rw[hv],hc⟩⟩
   | goto t =>
    obtain ⟨v,W4,hr,hv,hc⟩:=leave (.goto t) hp.1 hp.2;exact ⟨v,W4,hr,.inr ⟨by rw[hv],hc⟩⟩
   | panic ch=>exact hp.elim
   | outgrown=>exact hp.elim
  ·rintro e W2 ⟨⟨v,rfl⟩,(⟨O,xs,hS,hi,hl,hk,hs,hO⟩|⟨pre,hSp,c,hi,hl,hk⟩)⟩
   ·have hr:=run_endLoop (P:=P) hl (by rw[hR];simp)
    refine ⟨none,_,by rw[hR]at hr;exact hr,?_⟩;rw [hD]at hk|-;refine li _ O xs _ (Nat.le_refl _) hS (hI O xs W2 O [D+1] _ hi ((Only.putObj W2 _ _).mono (fun y hy=>List.mem_append_right _ (by rw[hD];exact hy))) (fun r hr=>by rw[List.mem_singleton]at hr;subst hr;exact⟨by omega,_,hl,rfl⟩) (fun y hy=>.inl hy) (fun y hy=>(hO y hy).2.keep (World.putObj_heap_other (by have:=(hO y hy).1;omega)))) ((World.putObj_heap_other (by omega)).trans hk)
   ·have hr:=run_endLoop (P:=P) hl (by rw[hR];simp)
    refine ⟨some c,_,by rw[hR]at hr;exact hr,?_⟩;rw [hD]at hk|-;exact Yu _ c pre _ (Nat.le_refl _) hSp (hIx c _ W2 [D+1] _ hi ((Only.putObj W2 _ _).mono (fun y hy=>by rw[hD];exact hy)) (fun r hr=>by rw[List.mem_singleton]at hr;subst hr;exact⟨by omega,_,hl,rfl⟩)) ((World.putObj_heap_other (by omega)).trans hk)
end
end
section
open Go.ChangeShapes Go.WideShapes Go.ChangeAt Go.RowKit
abbrev aR (x:aj):List Value:=[.int .i64 x.dir,.string (bs x.name),.int .i64 x.no,.int .i64 x.depth]
def eI (l:List aj):List Value:=l.flatMap aR
theorem jW (l:List aj):(eI l).length=l.length*4:=by
 unfold eI
 induction l with
 | nil=>rfl
 | cons x l ih=>rw[List.flatMap_cons,List.length_append,ih];simp;omega
theorem l8 (a b:List aj):eI (a++b)=eI a++eI b:=by unfold eI;rw[List.flatMap_append]
theorem pB (l:List aj):∀k,(h:k<l.length)->∀j,j<4->(eI l)[k*4+j]?=(aR l[k])[j]?:=by
 induction l with
 | nil=>intro k h;cases h
 | cons x l ih =>
  intro k h j hj;have e:eI (x::l)=aR x++eI l:=rfl;rw [e]
  cases k with
  | zero =>
   simp only[Nat.zero_mul,Nat.zero_add,List.getElem_cons_zero];rw [List.getElem?_append_left (by simpa using hj)]
  | succ k =>
   have:=ih k (by simpa using h) j hj;rw [List.getElem?_append_right (by simp;omega)];simp only[List.length_cons,List.length_nil,List.getElem_cons_succ];rw [show (k+1)*4+j-(0+1+1+1+1)=k*4+j by omega];exact this
theorem l9 (x:aj):∀u∈aR x,u.oneCell'=true:=by
 intro u hu;simp only[List.mem_cons,List.not_mem_nil,or_false]at hu;rcases hu with rfl|rfl|rfl|rfl<;>rfl
theorem wG (l:List aj):∀u∈eI l,u.oneCell'=true:=by
 intro u hu;unfold eI at hu;rw [List.mem_flatMap]at hu;obtain ⟨x,_,hx⟩:=hu;exact l9 x u hx
theorem MC:(Tryz.prog.info? 41).map (fun i=>(i.zero,i.size,i.bytes))=some (some (.agg #[.int .i64 0,.string ⟨#[]⟩,.int .i64 0,.int .i64 0]),4,40):=by kernel_rfl
theorem l_:(Tryz.prog.info? 41).map (·.size)=some 4:=by kernel_rfl
def dw (w:World) (base:Nat) (v:Value) (l:List aj):Prop:=w.ownsRow base 41 4 v l.length (eI l)
theorem dw.nil (w:World) (base:Nat):dw w base (.slice none 0 0) []:=World.ownsRow_nil _ _ _ _
def iO (w:World) (A:Option Addr) (l:List aj):Prop:=
 l = []\/∃b o,A=some ⟨b,o,none⟩/\b<w.heap.size/\∀k,(h:k<l.length)->∀j,j<4->w.cell? ⟨b,o+k*4+j,none⟩=(aR l[k])[j]?
theorem iO.ext {w w':World} {A:Option Addr} {l:List aj} (h:iO w A l) (k:Ext w w'):iO w' A l:=by
 rcases h with h|⟨b,o,hA,hb,hc⟩
 ·exact .inl h
 ·exact .inr ⟨b,o,hA,by have:=k.size;omega,fun i hi j hj=>(k.cell hb).trans (hc i hi j hj)⟩
theorem dw.cases {w:World} {base:Nat} {v:Value} {l:List aj} (h:dw w base v l) :
  (v=.slice none 0 0/\l=[])\/∃g cap cur,v=.slice (some ⟨g,0,none⟩) l.length cap/\base<=g/\Has w g (.cells cur 41)/\l.length<=cap/\cap<=maxLen/\∀k,(h:k<l.length)->∀j,j<4->w.cell? ⟨g,k*4+j,none⟩=(aR l[k])[j]?:=by
 rcases h.2 with⟨e,h0⟩|⟨g,cap,cur,rfl,hb,hg,hn,hm,hs,ht⟩
 ·exact .inl ⟨e,List.eq_nil_of_length_eq_zero h0⟩
 ·refine .inr ⟨g,cap,cur,rfl,hb,hg,hn,hm,fun k hk j hj=>?_⟩
  have:=World.ownsRow.cellAt h (k*4+j) (by omega);rw [this];exact pB l k hk j hj
theorem dw.at_ {w:World} {base:Nat} {v:Value} {l:List aj} (h:dw w base v l):∃A cap,v=.slice A l.length cap/\l.length<=cap/\cap<=maxLen/\iO w A l/\(A=none->cap=0):=by
 rcases h.cases with⟨rfl,rfl⟩|⟨g,cap,cur,rfl,hb,hg,hn,hm,hc⟩
 ·exact⟨none,0,rfl,Nat.le_refl _,by decide,.inl rfl,fun _=>rfl⟩
 ·exact⟨_,cap,rfl,hn,hm,.inr ⟨g,0,rfl,hg.lt,fun k hk j hj=>by rw[Nat.zero_add];exact hc k hk j hj⟩,fun e=>by cases e⟩
theorem dw.ext {w w':World} {base:Nat} {v:Value} {l:List aj} (h:dw w base v l) (k:Ext w w'):dw w' base v l:=World.ownsRow.kept h k.grownBy (by cases v.ownBlock<;>simp)
theorem dw.only {w w':World} {base:Nat} {v:Value} {l:List aj} {L:List Nat} (h:dw w base v l) (o:Only L w w') (hn:∀g,v.ownBlock=some g->g∉L):dw w' base v l:=au h o hn
theorem dw.base {w:World} {base base':Nat} {v:Value} {l:List aj} (h:dw w base v l) (hb:base'<=base):dw w base' v l:=by
 refine ⟨h.1,?_⟩;rcases h.2 with e|⟨g,cap,cur,hv,hg,rest⟩
 ·exact .inl e
 ·exact .inr ⟨g,cap,cur,hv,by omega,rest⟩
theorem dw.pop {w:World} {base:Nat} {g cap:Nat} {l:List aj} {x:aj} (h:dw w base (.slice (some ⟨g,0,none⟩) (l++[x]).length cap) (l++[x])):dw w base (.slice (some ⟨g,0,none⟩) l.length cap) l:=by
 refine ⟨by rw[jW],?_⟩;rcases h.2 with⟨e,_⟩|⟨g',cap',cur,hv,hb,hg,hn,hm,hs,ht⟩
 ·cases e
 ·injection hv with h1 h2 h3
  injection h1 with h1;injection h1 with h1;subst h1;subst h3;refine .inr ⟨g,cap,cur,rfl,hb,hg,by rw[List.length_append]at hn;omega,hm,hs,?_⟩;have e:cur.toList.take (l.length*4)=(cur.toList.take ((l++[x]).length*4)).take (l.length*4):=by rw[List.take_take];congr 1;rw[List.length_append];omega
  rw [e,ht,l8,List.take_left' (jW l)]
theorem dw.lt {w:World} {base:Nat} {v:Value} {l:List aj} (h:dw w base v l) {g:Nat} (hv:v.ownBlock=some g):base<=g/\g<w.heap.size:=World.ownsRow.lt h g hv
theorem xJ (w:World) {base:Nat} {v:Value} {l:List aj} (h:dw w base v l) (hb:base<=w.heap.size) (l2:List aj) (bb o c2:Nat) (h2:∀k,(h:k<l2.length)->∀j,j<4->w.cell? ⟨bb,o+k*4+j,none⟩=(aR l2[k])[j]?)
  (hl:l.length<=2000000) (rh:l2.length<=1000000) :
  ∃ v' w',(Builtin.append_ #[39,39] 39 #[v,.slice (some ⟨bb,o,none⟩) l2.length c2]).run Tryz.prog w=.ok v' w'/\dw w' base v' (l++l2)/\w.grownBy w' v.ownBlock/\(v'.ownBlock=v.ownBlock\/v'.ownBlock=some w.heap.size):=by
 obtain ⟨i0,hi,hz0,hz1,hz2⟩:=info_parts MC;obtain ⟨v',w',hr,h3,h4,_,h5⟩:=run_append_own_at (P:=Tryz.prog) (w:=w) base 39 39 41 i0 (.agg #[.int .i64 0,.string ⟨#[]⟩,.int .i64 0,.int .i64 0]) 4 40 Tryz.underlying39 hi hz0 hz1 hz2 rfl (by decide) v l.length _ h ⟨bb,o,none⟩ l2.length c2 (eI l2) (jW l2)
  (by
   intro j u hu;rw [Addr.add_lit];have hj:j<l2.length*4:=by
    rcases Nat.lt_or_ge j (l2.length*4) with h'|h'
    ·exact h'
    ·rw[List.getElem?_eq_none (by rw[jW];exact h')]at hu;cases hu
   have hk:j / 4<l2.length:=by omega
   have e:j=j / 4*4+j % 4:=by omega
   have a:=pB l2 (j / 4) hk (j % 4) (by omega);rw [<-e,hu]at a;have b:=h2 (j / 4) hk (j % 4) (by omega);rw [Nat.add_assoc,<-e]at b;rw [b,<-a])
  (wG l2) (by unfold maxLen;omega) (by omega) hb
 refine ⟨v',w',hr,?_,h4,h5⟩;unfold dw;rw [l8,List.length_append];exact h3
theorem qI (w:World) {base:Nat} {v:Value} {l:List aj} (h:dw w base v l) (hb:base<=w.heap.size) (x:aj) (hl:l.length<=2000000) :
  ∃ v' w',(Builtin.append_ #[39,39] 39 #[v,.slice (some ⟨w.heap.size,0,none⟩) 1 1]).run Tryz.prog (w.alloc (.cells (aR x).toArray 41))=.ok v' w'/\dw w' base v' (l++[x])/\(w.alloc (.cells (aR x).toArray 41)).grownBy w' v.ownBlock/\(v'.ownBlock=v.ownBlock\/v'.ownBlock=some (w.heap.size+1)):=by
 have hN:=Has.new w (.cells (aR x).toArray 41);have E:Ext w (w.alloc (.cells (aR x).toArray 41)):=(Ext.refl _).alloc _;obtain ⟨v',w',hr,h3,h4,h5⟩:=xJ (w.alloc (.cells (aR x).toArray 41)) (h.ext E) (by simp;omega) [x] w.heap.size 0 1
  (fun k hk j hj=>by
   have:k=0:=by simpa using hk
   subst this;rw [show 0+0*4+j=j by omega];have:=hN.cell j;rw [this];simp) hl (by simp)
 exact ⟨v',w',hr,h3,h4,by rw[World.size_alloc]at h5;exact h5⟩
theorem Only.of_grownBy {w w':World} {v:Value} {L:List Nat} (h:w.grownBy w' v.ownBlock) (hL:∀g,v.ownBlock=some g->g∈L):Only L w w':=
 ⟨h.os,h.tape,h.output,h.size,fun k hk hn=>h.block k hk fun e=>hn (hL k e.symm)⟩
theorem Has.tQ {w:World} {b:Nat} {t:TypeId} {x:aj} (y:aj) (h:Has w b (.cells (aR x).toArray t)):Has (w.setCells b 0 (aR y)) b (.cells (aR y).toArray t):=by
 have h0:=Has.setCell h 0 (.int .i64 y.dir);have h1:=Has.setCell h0 1 (.string (bs y.name));have h2:=Has.setCell h1 2 (.int .i64 y.no);have h3:=Has.setCell h2 3 (.int .i64 y.depth);exact h3
theorem ln {ops:Array Oper} {rest:List Oper} {op:Oper} {a:Act} {w:World} {Q:Exit->Act->World->Prop} (hgd:op.guard=none) (x y:Operand) (ho:op.op=.store 41 x y)
  (b:Nat) (d d':aj) (hx:a.eval x=.pointer (some ⟨b,0,none⟩)) (hy:a.eval y=.agg (aR d').toArray) (hb:Has w b (.cells (aR d).toArray 41))
  (h:∀w',Has w' b (.cells (aR d').toArray 41)->Only [b] w w'->wpList Tryz.prog ops Q rest (a.put op.dst undef) w'):wpList Tryz.prog ops Q (op::rest) a w:=by
 refine wpList_store_mid hgd 41 x y ho b 0 (aR d').toArray hx hy hb.there l_ (all_oneCell_toArray (cs:=aR d') (l9 d')) ?_;exact h _ (hb.tQ d') (bH (aR d') 0 w)
theorem MD {fn:Func} {p t:Tmp} (h:fn.results=#[.cell p 41,.tmp t]) (tmps:Array Value) (w:World) (g:Nat) (d:aj) (v:Value)
  (hp:tmps.getD p undef=.pointer (some ⟨g,0,none⟩)) (hv:tmps.getD t undef=v) (hg:Has w g (.cells (aR d).toArray 41)) :
  (results fn tmps).run Tryz.prog w=.ok (.tuple #[.agg (aR d).toArray,v]) w:=
 kJ h tmps w g 41 _ _ v hp hv hg Tryz.underlying41 rfl l_
def jP (s:av) (cu cg:Int) (x:aj):Int:=fk s (dQ s.t cu cg x)
def nr (s:av) (cu cg:Int) (x:aj):List aj:=sa s (ew s.t cu cg x)
def FL (w:World) (L:List aj) (x:Int) (e:Ending) (w':World):Prop:=∃v,e=.returned (.tuple #[v,.int .i64 x])/\dw w' w.heap.size v L/\Ext w w'
theorem Iq {S:ae} {cu cg:Int} {x:aj} (h:dQ S cu cg x≠0):ew S cu cg x=[]:=by
 unfold ew;rw[if_neg (fun k=>h k.1)]
theorem mK {S:ae} {cu cg:Int} {x:aj} (h:(ac S.nodes x.no).kind≠1):ew S cu cg x=[]:=by
 unfold ew;rw[if_neg (fun k=>h k.2)]
theorem FM {s:av} {cu cg:Int} {x:aj} (h:jP s cu cg x≠0):nr s cu cg x=[]:=by
 unfold jP fk at h;unfold nr sa;split
 ·rfl
 ·rename_i hd;rw[if_neg hd]at h;exact Iq h
def cO (s:av) (cu cg dir:Int) (nm:List UInt8):aj:=⟨dir,nm,zK s (ep s.t cu cg dir nm),0⟩
def dp (s:av) (cu cg dir:Int) (nm:List UInt8):Int:=fk s (du s.t cu cg dir nm)
section
variable {s:av} {cu cg:Int} {x:aj}
theorem d_ (s:av) (no:Int):(fk s (cT s.t no)=0/\s.dead=false/\aJ s.t.nodes no=true)\/(fk s (cT s.t no)≠0/\(s.dead=true\/(s.dead=false/\aJ s.t.nodes no=false))):=by
 unfold fk cT
 cases hd:s.dead
 ·rw [if_neg (by decide)]
  cases hi:aJ s.t.nodes no
  ·exact .inr ⟨by decide,.inr ⟨rfl,rfl⟩⟩
  ·exact .inl ⟨rfl,rfl,rfl⟩
 ·rw[if_pos rfl];exact .inr ⟨by decide,.inl rfl⟩
theorem ME (h:fk s (cT s.t x.no)≠0):jP s cu cg x=fk s (cT s.t x.no):=by
 rcases d_ s x.no with⟨h1,_⟩|⟨_,hd|⟨hd,hi⟩⟩
 ·exact absurd h1 h
 ·unfold jP fk;rw[if_pos hd,if_pos hd]
 ·unfold jP fk dQ cT;rw[hi,if_pos rfl];rfl
theorem MF (h1:fk s (cT s.t x.no)=0) (h:fk s (cT s.t x.dir)≠0):jP s cu cg x=fk s (cT s.t x.dir):=by
 rcases d_ s x.no with⟨_,hd,hi⟩|⟨h2,_⟩
 case inr=>exact absurd h1 h2
 rcases d_ s x.dir with⟨h2,_⟩|⟨_,tk|⟨_,po⟩⟩
 ·exact absurd h2 h
 ·rw[hd]at tk;cases tk
 ·unfold jP fk dQ cT;rw[hi,po,if_neg (show ¬true=false by decide),if_pos rfl];rfl
theorem MG (h1:fk s (cT s.t x.no)=0) (h2:fk s (cT s.t x.dir)=0) (h:(q_ s (ac s.t.nodes x.no)).dev≠(q_ s (ac s.t.nodes x.dir)).dev):jP s cu cg x=16:=by
 rcases d_ s x.no with⟨_,hd,hi⟩|⟨k,_⟩
 case inr=>exact absurd h1 k
 rcases d_ s x.dir with⟨_,_,po⟩|⟨k,_⟩
 case inr=>exact absurd h2 k
 unfold q_ at h;rw [if_neg (by rw[hd];decide),if_neg (by rw[hd];decide)]at h;unfold jP fk dQ;rw [hi,po,if_neg (by rw[hd];decide),if_neg (by decide),if_neg (by decide),if_pos h]
theorem FO (h1:fk s (cT s.t x.no)=0) (h2:fk s (cT s.t x.dir)=0) (h:(q_ s (ac s.t.nodes x.no)).dev=(q_ s (ac s.t.nodes x.dir)).dev) (hk:(q_ s (ac s.t.nodes x.no)).kind≠1):jP s cu cg x=0/\nr s cu cg x=[]:=by
 rcases d_ s x.no with⟨_,hd,hi⟩|⟨k,_⟩
 case inr=>exact absurd h1 k
 rcases d_ s x.dir with⟨_,_,po⟩|⟨k,_⟩
 case inr=>exact absurd h2 k
 unfold q_ at h hk;rw [if_neg (by rw[hd];decide)]at h hk;rw [if_neg (by rw[hd];decide)]at h;unfold jP nr fk sa;rw [if_neg (by rw[hd];decide),if_neg (by rw[hd];decide)];refine ⟨?_,mK hk⟩;unfold dQ;rw [hi,po,if_neg (by decide),if_neg (by decide),if_neg (fun k=>k h),if_pos hk]
theorem FP (h1:fk s (cT s.t x.no)=0) (h2:fk s (cT s.t x.dir)=0) (h:(q_ s (ac s.t.nodes x.no)).dev=(q_ s (ac s.t.nodes x.dir)).dev) (hk:¬(q_ s (ac s.t.nodes x.no)).kind≠1) :
  jP s cu cg x=fk s (bt s.t cu cg x.no 1 4)/\(fk s (bt s.t cu cg x.no 1 4)=0->nr s cu cg x=(sa s (bo s.t (bf s.t cu cg x.no 1 4).af)).map (dZ x)):=by
 rcases d_ s x.no with⟨_,hd,hi⟩|⟨k,_⟩
 case inr=>exact absurd h1 k
 rcases d_ s x.dir with⟨_,_,po⟩|⟨k,_⟩
 case inr=>exact absurd h2 k
 unfold q_ at h hk;rw [if_neg (by rw[hd];decide)]at h hk;rw [if_neg (by rw[hd];decide)]at h;have hE:dQ s.t cu cg x=bt s.t cu cg x.no 1 4:=by
  unfold dQ;rw [hi,po,if_neg (by decide),if_neg (by decide),if_neg (fun k=>k h),if_neg hk]
 unfold jP nr fk sa;rw [if_neg (by rw[hd];decide),if_neg (by rw[hd];decide),if_neg (by rw[hd];decide),if_neg (by rw[hd];decide)];refine ⟨hE,fun h0=>?_⟩;unfold ew;rw [if_pos ⟨hE.trans h0,Decidable.not_not.1 hk⟩];unfold bf;rw [if_pos h0]
end
section
variable {c:Nat} {w:World} {B b:Nat} {g:bG} {s:av}
theorem PS.first (h:PS w B b g s) (hs:eH c s) (hc:c<=900) (cu cg dir:Int) (nm:List UInt8) :
  Calls Tryz.prog 87 #[.pointer (some ⟨b,0,none⟩),.agg #[cu,cg],.int .i64 dir,bs nm] w (aI w (.tuple #[.agg (aR (cO s cu cg dir nm)).toArray,.int .i64 (dp s cu cg dir nm)])):=by
 obtain ⟨W0,aH⟩:∃W,W=(w.alloc (.cells #[cu,cg] 27)).alloc (.cells #[.int .i64 0,.string ⟨#[]⟩,.int .i64 0,.int .i64 0] 41):=⟨_,rfl⟩;obtain ⟨b5,gQ⟩:∃b,b=w.heap.size:=⟨_,rfl⟩;obtain ⟨b8,fM⟩:∃b,b=w.heap.size+1:=⟨_,rfl⟩;have E0:Ext w W0:=by rw[aH];exact ((Ext.refl _).alloc _).alloc _
 have R0:Has W0 b8 (.cells (aR gO).toArray 41):=by rw[aH,fM];have:=Has.new (w.alloc (.cells #[cu,cg] 27)) (.cells #[.int .i64 0,.string ⟨#[]⟩,.int .i64 0,.int .i64 0] 41);rw[World.size_alloc]at this;exact this
 have C0:Has W0 b5 (.cells #[cu,cg] 27):=by rw[aH,gQ];exact (Has.new w _).alloc _
 have o7:w.heap.size<=b8:=by omega
 have KL:=zH ((h.ext E0).look hs hc cu cg dir nm);obtain⟨y,hy⟩:=zE (zK s (ep s.t cu cg dir nm));obtain⟨z,hz⟩:=zE (fk s (du s.t cu cg dir nm));unfold cO dp;rw [<-hy,<-hz]at KL|-;have c0:=C0.cell 0;have c1:=C0.cell 1;have cz:=C0.lt;clear h hs hy hz;go_enter Tryz.func87,Tryz.ntmps87;go_upto_region 1 with fail;rw [show (w.alloc _).alloc _=W0 from aH.symm,<-fM,<-gQ];clear aH gQ fM;go_wp2_with fail;refine KL.out.mono ?_;rintro e w1 ⟨rfl,b1⟩;have R1:=R0.ext b1;have E1:=E0.trans b1;clear c0 c1 cz KL;go_upto_region 3 with fail;obtain ⟨W2,cQ⟩:∃W,W=w1.alloc (.cells #[.int .i64 dir,bs nm,.int .i64 y,.int .i64 0] 41):=⟨_,rfl⟩;obtain ⟨b2,hb2⟩:∃b,b=w1.heap.size:=⟨_,rfl⟩;have N2:Has W2 b2 (.cells #[.int .i64 dir,bs nm,.int .i64 y,.int .i64 0] 41):=by rw[cQ,hb2];exact Has.new _ _
 have R2:Has W2 b8 (.cells (aR gO).toArray 41):=by rw[cQ];exact R1.alloc _
 have E2:Ext w W2:=by rw[cQ];exact E1.alloc _
 rw [<-cQ,<-hb2];have n0:=N2.cell 0;have n1:=N2.cell 1;have n2:=N2.cell 2;have n3:=N2.cell 3;have nz:=N2.lt;clear cQ hb2 R1 E1;go_wp2_with (refine ln rfl _ _ rfl b8 gO ⟨dir,nm,y,0⟩ rfl rfl R2 ?_;intro w9 R9 O9);refine bodyPost_ret (v:=.tuple #[.agg (aR ⟨dir,nm,y,0⟩).toArray,.int .i64 z]) (MD Tryz.results87 _ _ b8 ⟨dir,nm,y,0⟩ _ rfl rfl R9) rfl ?_;exact ⟨rfl,O9.after E2 (by simpa using o7)⟩
theorem PS.into (h:PS w B b g s) (hs:eH c s) (hc:c<=900) (cu cg:Int) (x:aj) (aV:0<=x.depth) (sI:x.depth<=1000000) :
  Calls Tryz.prog 88 #[.pointer (some ⟨b,0,none⟩),.agg #[cu,cg],.agg #[.int .i64 x.dir,bs x.name,x.no,.int .i64 x.depth]] w (FL w (nr s cu cg x) (jP s cu cg x)):=by
 obtain ⟨W0,aH⟩:∃W,W=(w.alloc (.cells #[cu,cg] 27)).alloc (.cells #[.int .i64 x.dir,bs x.name,x.no,.int .i64 x.depth] 41):=⟨_,rfl⟩;obtain ⟨b4,oq⟩:∃b,b=w.heap.size:=⟨_,rfl⟩;obtain ⟨b5,gQ⟩:∃b,b=w.heap.size+1:=⟨_,rfl⟩;have E0:Ext w W0:=by rw[aH];exact ((Ext.refl _).alloc _).alloc _
 have X0:Has W0 b5 (.cells #[.int .i64 x.dir,bs x.name,x.no,.int .i64 x.depth] 41):=by rw[aH,gQ];have:=Has.new (w.alloc (.cells #[cu,cg] 27)) (.cells #[.int .i64 x.dir,bs x.name,x.no,.int .i64 x.depth] 41);rw[World.size_alloc]at this;exact this
 have C0:Has W0 b4 (.cells #[cu,cg] 27):=by rw[aH,oq];exact (Has.new w _).alloc _
 have h0:=h.ext E0;obtain ⟨e1,lF⟩:∃e,e=fk s (cT s.t x.no):=⟨_,rfl⟩;obtain ⟨e2,mi⟩:∃e,e=fk s (cT s.t x.dir):=⟨_,rfl⟩;obtain ⟨e3,pY⟩:∃e,e=fk s (bt s.t cu cg x.no 1 4):=⟨_,rfl⟩;obtain ⟨m1,fX⟩:∃m,m=q_ s (ac s.t.nodes x.no):=⟨_,rfl⟩;obtain ⟨m2,bU⟩:∃m,m=q_ s (ac s.t.nodes x.dir):=⟨_,rfl⟩;obtain⟨L,hL⟩:=zE (sa s (bo s.t (bf s.t cu cg x.no 1 4).af));have Us:L.length<=1000000:=by
  rw [hL];unfold sa;split
  ·simp
  ·rw[gG];have:=(hs.fE.bf cu cg x.no 1 4).2;omega
 have K1:Hid (∀u,Ext W0 u->Calls Tryz.prog 45 #[.pointer (some ⟨b,0,none⟩),x.no] u (aI u (.tuple #[gU m1,.int .i64 e1]))):=by
  show ∀u,_;intro u hu;rw [fX,lF];exact (h0.ext hu).stat hs x.no
 have K2:Hid (∀u,Ext W0 u->Calls Tryz.prog 45 #[.pointer (some ⟨b,0,none⟩),.int .i64 x.dir] u (aI u (.tuple #[gU m2,.int .i64 e2]))):=by
  show ∀u,_;intro u hu;rw [bU,mi];exact (h0.ext hu).stat hs x.dir
 have K3:Hid (∀u,Ext W0 u->Calls Tryz.prog 102 #[.pointer (some ⟨b,0,none⟩),.agg #[cu,cg],x.no] u (qC u L e3)):=by
  show ∀u,_;intro u hu;rw [hL,pY];exact (h0.ext hu).list hs hc cu cg x.no
 have N1:Hid (e1≠0->jP s cu cg x=e1):=fun k=>by rw[lF]at k|-;exact ME k
 have N2:Hid (e1=0->e2≠0->jP s cu cg x=e2):=fun k1 k2=>by rw[lF]at k1;rw[mi]at k2|-;exact MF k1 k2
 have N3:Hid (e1=0->e2=0->m1.dev≠m2.dev->jP s cu cg x=16):=fun k1 k2 k3=>by rw[lF]at k1;rw[mi]at k2;rw[fX,bU]at k3;exact MG k1 k2 k3
 have N4:Hid (e1=0->e2=0->m1.dev=m2.dev->m1.kind≠1->jP s cu cg x=0/\nr s cu cg x=[]):=fun k1 k2 k3 k4=>by rw[lF]at k1;rw[mi]at k2;rw[fX,bU]at k3;rw[fX]at k4;exact FO k1 k2 k3 k4
 have N5:Hid (e1=0->e2=0->m1.dev=m2.dev->¬m1.kind≠1->jP s cu cg x=e3/\(e3=0->nr s cu cg x=L.map (dZ x))):=fun k1 k2 k3 k4=>by rw[lF]at k1;rw[mi]at k2;rw[fX,bU]at k3;rw[fX]at k4;rw[pY,hL];exact FP k1 k2 k3 k4
 have NE:Hid (jP s cu cg x≠0->nr s cu cg x=[]):=fun k=>FM k
 obtain ⟨IE,Yy⟩:∃e,e=jP s cu cg x:=⟨_,rfl⟩;obtain ⟨IL,Yz⟩:∃e,e=nr s cu cg x:=⟨_,rfl⟩;rw [<-Yy]at N1 N2 N3 N4 N5 NE|-;rw [<-Yz]at N4 N5 NE|-;have c0:=C0.cell 0;have c1:=C0.cell 1;have cz:=C0.lt;have x0:=X0.cell 0;have x1:=X0.cell 1;have x2:=X0.cell 2;have x3:=X0.cell 3;have xz:=X0.lt;simp only[gA,gB,gC]at x0 x1 x2 x3;clear h h0 hs lF mi pY fX bU hL Yy Yz;go_enter Tryz.func88,Tryz.ntmps88;go_upto_region 1 with fail;rw [show (w.alloc _).alloc _=W0 from aH.symm,<-gQ,<-oq];clear aH oq gQ;unfold gU at K1 K2;go_wp2_with fail;refine (K1.out _ (Ext.refl _)).mono ?_;rintro e w1 ⟨rfl,b1⟩;clear c0 c1 cz x0 x1 x2 x3 xz K1;go_upto_region 2 with fail;obtain ⟨W1,bL⟩:∃W,W=w1.alloc (.cells #[m1.no,m1.dev,m1.kind,m1.mode,m1.uid,m1.gid,m1.ag,.int .i64 m1.data.length,m1.mtime,m1.ctime] 95):=⟨_,rfl⟩;obtain ⟨b8,fM⟩:∃b,b=w1.heap.size:=⟨_,rfl⟩;have S1:Has W1 b8 (.cells #[m1.no,m1.dev,m1.kind,m1.mode,m1.uid,m1.gid,m1.ag,.int .i64 m1.data.length,m1.mtime,m1.ctime] 95):=by rw[bL,fM];exact Has.new _ _
 have E1:Ext W0 W1:=by rw[bL];exact b1.alloc _
 rw [<-bL,<-fM];clear bL fM b1;have x0:=(X0.ext E1).cell 0;have xz:=(X0.ext E1).lt;simp only[gA,gB]at x0;go_wp2_with fail;refine (K2.out _ E1).mono ?_;rintro e w2 ⟨rfl,b2⟩;clear x0 xz K2;go_upto_region 3 with fail;obtain ⟨W2,cQ⟩:∃W,W=w2.alloc (.cells #[m2.no,m2.dev,m2.kind,m2.mode,m2.uid,m2.gid,m2.ag,.int .i64 m2.data.length,m2.mtime,m2.ctime] 95):=⟨_,rfl⟩;obtain ⟨CC,mL⟩:∃b,b=w2.heap.size:=⟨_,rfl⟩;have S2:Has W2 CC (.cells #[m2.no,m2.dev,m2.kind,m2.mode,m2.uid,m2.gid,m2.ag,.int .i64 m2.data.length,m2.mtime,m2.ctime] 95):=by rw[cQ,mL];exact Has.new _ _
 have Ut:Has W2 b8 (.cells #[m1.no,m1.dev,m1.kind,m1.mode,m1.uid,m1.gid,m1.ag,.int .i64 m1.data.length,m1.mtime,m1.ctime] 95):=by rw[cQ];exact (S1.ext b2).alloc _
 have E2:Ext W0 W2:=by rw[cQ];exact (E1.trans b2).alloc _
 rw [<-cQ,<-mL];clear cQ mL b2 S1 E1
 by_cases k1:e1=0
 case neg =>
  have t1:(e1 != 0)=true:=by simpa using k1
  have HK:=zH k1;have H1:=zH (N1.out k1);clear k1;go_wp2_with fail;go_ret2;have hz:IL=[]:=NE.out (by rw[H1.out];exact HK.out);exact ⟨.slice none 0 0,by rw[H1.out];rfl,by rw[hz];exact dw.nil _ _,E0.trans E2⟩
 have JH:=zH k1
 by_cases k2:e2=0
 case neg =>
  have t1:(e1 != 0)=false:=by simpa using k1
  have t2:(e2 != 0)=true:=by simpa using k2
  have HK:=zH k2;have H1:=zH (N2.out k1 k2);clear k1 k2;go_wp2_with fail;go_ret2;have hz:IL=[]:=NE.out (by rw[H1.out];exact HK.out);exact ⟨.slice none 0 0,by rw[H1.out];rfl,by rw[hz];exact dw.nil _ _,E0.trans E2⟩
 have Uu:=zH k2;have t1:(e1 != 0)=false:=by simpa using k1
 have t2:(e2 != 0)=false:=by simpa using k2
 clear k1 k2;have y1:=Ut.cell 1;have y2:=Ut.cell 2;have yz:=Ut.lt;have z1:=S2.cell 1;have zz:=S2.lt
 by_cases k3:m1.dev=m2.dev
 case neg =>
  have t3:(m1.dev != m2.dev)=true:=by simpa using k3
  have H1:=zH (N3.out JH.out Uu.out k3);clear k3;go_wp2_with fail;go_ret2;have hz:IL=[]:=NE.out (by rw[H1.out];decide);exact ⟨.slice none 0 0,by rw[H1.out];rfl,by rw[hz];exact dw.nil _ _,E0.trans E2⟩
 have t3:(m1.dev != m2.dev)=false:=by simpa using k3
 have Ii:=zH k3;clear k3
 by_cases k4:m1.kind=1
 case neg =>
  have t4:(m1.kind != 1)=true:=by simpa using k4
  have H1:=zH (N4.out JH.out Uu.out Ii.out k4);clear k4;go_wp2_with fail;go_ret2;exact ⟨.slice none 0 0,by rw[H1.out.1];rfl,by rw[H1.out.2];exact dw.nil _ _,E0.trans E2⟩
 have t4:(m1.kind != 1)=false:=by simpa using k4
 have H5:=zH (N5.out JH.out Uu.out Ii.out (fun k=>k k4));clear k4;have c0:=(C0.ext E2).cell 0;have c1:=(C0.ext E2).cell 1;have cz:=(C0.ext E2).lt;have x2:=(X0.ext E2).cell 2;have xz:=(X0.ext E2).lt;simp only[gA,gB,gC]at x2;go_wp2_with fail;refine (K3.out _ E2).mono ?_;rintro e w3 ⟨A,cap,rfl,⟨hat,_⟩,b3⟩;clear c0 c1 cz x2 xz K3 t1 t2 t3 t4 y1 y2 yz z1 zz
 by_cases k5:e3=0
 case neg =>
  have t5:(e3 != 0)=true:=by simpa using k5
  have HK:=zH k5;clear k5;go_wp2_with fail;go_ret2;have hz:IL=[]:=NE.out (by rw[H5.out.1];exact HK.out);exact ⟨.slice none 0 0,by rw[H5.out.1];rfl,by rw[hz];exact dw.nil _ _,E0.trans (E2.trans b3)⟩
 have t5:(e3 != 0)=false:=by simpa using k5
 have HZ:=zH k5;have HIL:=zH (H5.out.2 k5);clear k5;obtain⟨n,hn⟩:=zE L.length;rw [<-hn]at Us|-;have HN:=zH hn;have QA:=zH (E0.trans (E2.trans b3));have X3:=X0.ext (E2.trans b3);have MH:=zH X3;have hsz:w.heap.size<=w3.heap.size:=QA.out.size;have JE:=zH hat;clear hn hat X3;go_wp2_with fail;go_loopw [13,61] (fun vo vi wr=>∃k:Nat,vi=.int .i64 k/\k<=n/\dw wr w3.heap.size vo ((L.take k).map (dZ x))/\Ext w3 wr) (fun _ vi _=>n-(intOf vi).toNat)
 case atStart=>exact⟨0,rfl,Nat.zero_le _,dw.nil _ _,Ext.refl _⟩
 case round =>
  obtain ⟨k,rfl,hk,hO,hE⟩:=hrel
  by_cases hlt:(k:Int)<n
  ·have dI:k<L.length:=by have:=HN.out;omega
   obtain ⟨ba,o,rfl,wH,ea,eb⟩:=(JE.out.ext hE).XL dI;have ng:Hid ((L.take (k+1)).map (dZ x)=(L.take k).map (dZ x)++[dZ x L[k]]):=by
    show _=_;rw [List.take_succ_eq_append_getElem dI,List.map_append];rfl
   have hlk:((L.take k).map (dZ x)).length<=1000000:=by rw[List.length_map,List.length_take];omega
   obtain⟨y,hy⟩:=zE (L[k]);rw [<-hy]at ea eb ng;obtain ⟨yn,yo⟩:=y;have q0:(0:Int)<=(k:Int):=Int.natCast_nonneg _;have w3w:IntKind.i64.wrap ((k:Int)+1)=(k:Int)+1:=IntWalk.i64_in _ (by omega);have wdw:IntKind.i64.wrap (x.depth+1)=x.depth+1:=IntWalk.i64_in _ (by omega);obtain ⟨W5,jJ⟩:∃W,W=wr.alloc (.cells #[bs yn,.int .i64 yo] 153):=⟨_,rfl⟩;obtain ⟨nV,rW⟩:∃b,b=wr.heap.size:=⟨_,rfl⟩;have N5':Has W5 nV (.cells #[bs yn,.int .i64 yo] 153):=by rw[jJ,rW];exact Has.new _ _
   have E5:Ext wr W5:=by rw[jJ];exact (Ext.refl _).alloc _
   clear hy;go_upto_region 18 with fail;rw [<-jJ,<-rW];clear jJ rW ea eb wH;have Uv:w3.heap.size<=W5.heap.size:=by have:=hE.size;have:=E5.size;omega
   obtain ⟨v',w',hr,CE,hg,_⟩:=qI W5 (hO.ext E5) Uv ⟨x.no,yn,yo,x.depth+1⟩ (by omega);have HR:=zH hr;have X5:=MH.out.ext (hE.trans E5);have x2:=X5.cell 2;have x3:=X5.cell 3;have xz:=X5.lt;simp only[gA,gB,gC]at x2 x3;have n0:=N5'.cell 0;have n1:=N5'.cell 1;have nz:=N5'.lt;have HO:=zH CE;have HG:=zH hg;have HOW:=zH hO;have xx:=zH hE;clear hr CE hg X5 N5' hO hE;go_wp2_with (at_builtin;refine Lib.wpList_append_run _ rfl _ _ 39 39 rfl _ _ rfl rfl _ _ HR.out ?_);go_roundw
   case rel=>exact⟨k+1,by go_num,by omega,by rw[ng.out];exact HO.out,((xx.out.trans E5).alloc _).grown HG.out (fun g hv=>(HOW.out.lt hv).1)⟩
   case measure=>simp[intOf];omega
  ·have Ah:k=L.length:=by have:=HN.out;omega
   have HOW:=zH hO;have xx:=zH hE;have hf:Hid ((L.take k).map (dZ x)=L.map (dZ x)):=by show _=_;rw[Ah,List.take_length]
   clear hO hE Ah;go_wp2_with fail;go_ret2;exact ⟨_,by rw[H5.out.1,HZ.out];rfl,by rw[HIL.out,<-hf.out];exact HOW.out.base hsz,QA.out.trans xx.out⟩
end
end
section
structure Kids (S:ae):Prop where
 up:∀m∈S.nodes,∀x∈m.af,∀q∈S.nodes,q.no=x.2->q.kind=1->q.up=m.no
 once:∀m∈S.nodes,∀x∈m.af,∀y∈m.af,∀q∈S.nodes,q.no=x.2->q.kind=1->x.2=y.2->x=y
theorem sf {S T:ae} (h:Kids S) {D N:Int} {nm:List UInt8}
  (hq:∀q∈T.nodes,q.kind=1->(∃q'∈S.nodes,q'.no=q.no/\q'.kind=1/\q'.up=q.up)\/(q.no=N/\q.up=D/\∀m∈S.nodes,∀y∈m.af,y.2≠N))
  (hm:∀m∈T.nodes,∀x∈m.af,(∃m'∈S.nodes,m'.no=m.no/\x∈m'.af)\/(m.no=D/\x=(nm,N)))
  (hN:∀q∈T.nodes,q.no=N->q.kind=1->q.up=D/\∀m∈S.nodes,∀y∈m.af,y.2≠N)
  (hu:aD S.nodes S.last):Kids T:=by
 have old:∀m'∈S.nodes,∀x∈m'.af,∀q∈T.nodes,q.no=x.2->q.kind=1->∃q'∈S.nodes,q'.no=x.2/\q'.kind=1/\q'.up=q.up:=by
  intro m' hm' x hx q PJ e hk;rcases hq q PJ hk with⟨q',h1,h2,h3,h4⟩|⟨h1,_,h3⟩
  ·exact⟨q',h1,h2.trans e,h3,h4⟩
  ·exact absurd (e.symm.trans h1) (h3 m' hm' x hx)
 refine ⟨fun m fX x hx q PJ e hk=>?_,fun m fX x hx y hy q PJ e hk Wg=>?_⟩
 ·rcases hm m fX x hx with⟨m',h1,h2,h3⟩|⟨h1,h2⟩
  ·obtain ⟨q',k1,k2,k3,k4⟩:=old m' h1 x h3 q PJ e hk
   rw [<-k4,<-h2];exact h.up m' h1 x h3 q' k1 k2 k3
  ·rw [h1]
   exact (hN q PJ (by rw[e,h2]) hk).1
 ·rcases hm m fX x hx with⟨m',h1,h2,h3⟩|⟨h1,h2⟩
  ·rcases hm m fX y hy with⟨m2,k1,k2,k3⟩|⟨k1,k2⟩
   ·have:m'=m2:=ib hu h1 k1 (h2.trans k2.symm)
    subst this;obtain ⟨q',j1,j2,j3,j4⟩:=old m' h1 x h3 q PJ e hk;exact h.once m' h1 x h3 y k3 q' j1 j2 j3 Wg
   ·have:=(hN q PJ (by rw[e,Wg,k2]) hk).2 m' h1 x h3
    rw [Wg,k2]at this;exact absurd rfl this
  ·rcases hm m fX y hy with⟨m2,k1,k2,k3⟩|⟨k1,k2⟩
   ·have:=(hN q PJ (by rw[e,h2]) hk).2 m2 k1 y k3
    rw [<-Wg,h2]at this;exact absurd rfl this
   ·rw[h2,k2]
theorem oM {S T:ae} (h:Kids S) (hu:aD S.nodes S.last)
  (hm:∀m∈T.nodes,∃m'∈S.nodes,m'.no=m.no/\(m.kind=1->m'.kind=1/\m'.up=m.up)/\∀x∈m.af,x∈m'.af):Kids T:=by
 refine sf (D:=0) (N:=-1) (nm:=[]) h (fun q hq hk=>?_) (fun m fX x hx=>?_) (fun q hq e hk=>?_) hu
 ·obtain ⟨m',h1,h2,h3,_⟩:=hm q hq
  exact .inl ⟨m',h1,h2,(h3 hk).1,(h3 hk).2⟩
 ·obtain ⟨m',h1,h2,_,h4⟩:=hm m fX
  exact .inl ⟨m',h1,h2,h4 x hx⟩
 ·obtain ⟨m',h1,h2,_⟩:=hm q hq
  have:=(hu.2 m' h1).1;omega
theorem sg {S:ae} (h:Kids S) (hu:aD S.nodes S.last) {no:Int} (hi:aJ S.nodes no=true) {n:ai} (aW:n.no=no) (hk:n.kind=(ac S.nodes no).kind) (Xe:n.up=(ac S.nodes no).up) (he:∀x∈n.af,x∈(ac S.nodes no).af):Kids (aE S n):=by
 refine oM h hu fun m hm=>?_
 rcases aQ hm with⟨hm,_⟩|rfl
 ·exact⟨m,hm,rfl,fun hk=>⟨hk,rfl⟩,fun x hx=>hx⟩
 ·exact⟨_,(ak hi).2.2,(ak hi).2.1.trans aW.symm,fun jK=>⟨hk▸jK,Xe.symm⟩,he⟩
theorem sj {S:ae} {c:Nat} (hT:dy c S) (h:Kids S) (cu cg now dir:Int) (nm:List UInt8) (n:ai) (hn:n.af=[]) (hk:n.kind=1->n.up=dir):Kids (bV S cu cg now dir nm n):=by
 unfold bV;split
 case isFalse=>exact h
 rename_i h0;obtain ⟨h1,_,h3⟩:=jN h0;obtain ⟨p1,p2,_⟩:=aT h1;obtain ⟨_,aW,hmem⟩:=ak p1;have nk:(bB S (bZ S cu cg now dir n)).nodes=S.nodes++[{bZ S cu cg now dir n with no:=S.last+1}]:=by unfold bB;rw[if_pos h3]
 have hg:=kL hT.bc (bZ S cu cg now dir n) p1;obtain ⟨N,hN⟩:∃N:ai,N={bZ S cu cg now dir n with no:=S.last+1}:=⟨_,rfl⟩;have MI:N.no=S.last+1:=by rw[hN]
 have hNe:N.af=[]:=by rw[hN];exact hn
 have hNk:N.kind=1->N.up=dir:=by rw[hN];exact hk
 rw [<-hN]at nk;obtain ⟨M,hM⟩:∃M:ai,M=eL (bB S (bZ S cu cg now dir n)) dir now (en (ac S.nodes dir).af (nm,S.last+1)):=⟨_,rfl⟩;have j7:M.no=dir:=by rw[hM];show (ac (bB S _).nodes dir).no=dir;rw[hg.1];exact aW
 have MJ:M.up=(ac S.nodes dir).up:=by rw[hM];show (ac (bB S _).nodes dir).up=_;rw[hg.1]
 have CG:M.af=en (ac S.nodes dir).af (nm,S.last+1):=by rw[hM];rfl
 show Kids (aE _ _);rw [<-hM];have mem:∀m∈(aE (bB S (bZ S cu cg now dir n)) M).nodes,m∈S.nodes\/m=N\/m=M:=fun m hm=>by
  rcases aQ hm with⟨hm,_⟩|rfl
  ·rw [nk]at hm
   rcases List.mem_append.1 hm with hm|hm
   ·exact .inl hm
   ·exact .inr (.inl (List.mem_singleton.1 hm))
  ·exact .inr (.inr rfl)
 have fresh:∀m∈S.nodes,∀y∈m.af,y.2≠S.last+1:=fun m hm y hy=>by have:=(hT.pos m hm y hy).2;omega
 have hle:∀m∈S.nodes,m.no≠S.last+1:=fun m hm=>by have:=(hT.bc.2 m hm).2;omega
 refine sf (D:=dir) (N:=S.last+1) (nm:=nm) h (fun q hq jK=>?_) (fun m hm x hx=>?_) (fun q hq e jK=>?_) hT.bc
 ·rcases mem q hq with hq|rfl|rfl
  ·exact .inl ⟨q,hq,rfl,jK,rfl⟩
  ·exact .inr ⟨MI,hNk jK,fresh⟩
  ·exact .inl ⟨_,hmem,aW.trans j7.symm,p2,MJ.symm⟩
 ·rcases mem m hm with hm|rfl|rfl
  ·exact .inl ⟨m,hm,rfl,hx⟩
  ·rw[hNe]at hx;cases hx
  ·rw [CG]at hx
   rcases iG hx with hx|rfl
   ·exact .inl ⟨_,hmem,aW.trans j7.symm,hx⟩
   ·exact .inr ⟨j7,rfl⟩
 ·rcases mem q hq with hq|rfl|rfl
  ·exact absurd e (hle q hq)
  ·exact⟨hNk jK,fresh⟩
  ·exact absurd (e▸j7▸aW:(ac S.nodes dir).no=S.last+1) (hle _ hmem)
theorem vq {S T:ae} {p:Int} (h:Kids S) (k:Kids T):Kids (fc p S T):=by unfold fc;split;exact h;exact k
theorem Ir {S:ae} {c:Nat} (hT:dy c S) (h:Kids S) (cu cg now no dir:Int) (nm:List UInt8):Kids (gM S cu cg now no dir nm):=by
 unfold gM;split
 case isFalse=>exact h
 rename_i h0;obtain ⟨hp,hi,hk,hf,hv,hl⟩:=kT h0;obtain ⟨hid,wo,hc⟩:=aT hp;obtain ⟨_,aW,hmem⟩:=ak hi;obtain ⟨_,jB,il⟩:=ak hid;have hne:dir≠no:=fun e=>by subst e;exact hk wo
 have e0:(dE S now no).no=no:=aW;obtain ⟨g1,g2⟩:=jt (S:=S) (n:=dE S now no) (no:=dir) (by rw[e0];exact hne);obtain ⟨M,hM⟩:∃M:ai,M=eL (aE S (dE S now no)) dir now (en (ac S.nodes dir).af (nm,no)):=⟨_,rfl⟩;have j7:M.no=dir:=by rw[hM];show (ac (aE S _).nodes dir).no=dir;rw[g1];exact jB
 have MJ:M.up=(ac S.nodes dir).up:=by rw[hM];show (ac (aE S _).nodes dir).up=_;rw[g1]
 have CG:M.af=en (ac S.nodes dir).af (nm,no):=by rw[hM];rfl
 show Kids (aE _ _);rw [<-hM];have mem:∀m∈(aE (aE S (dE S now no)) M).nodes,m∈S.nodes\/m=dE S now no\/m=M:=fun m hm=>by
  rcases aQ hm with⟨hm,_⟩|rfl
  ·rcases aQ hm with⟨hm,_⟩|rfl
   ·exact .inl hm
   ·exact .inr (.inl rfl)
  ·exact .inr (.inr rfl)
 refine sf (D:=dir) (N:=no) (nm:=nm) h (fun q hq jK=>?_) (fun m hm x hx=>?_) (fun q hq e jK=>?_) hT.bc
 ·rcases mem q hq with hq|rfl|rfl
  ·exact .inl ⟨q,hq,rfl,jK,rfl⟩
  ·exact absurd jK hk
  ·exact .inl ⟨_,il,jB.trans j7.symm,wo,MJ.symm⟩
 ·rcases mem m hm with hm|rfl|rfl
  ·exact .inl ⟨m,hm,rfl,hx⟩
  ·exact .inl ⟨_,hmem,rfl,hx⟩
  ·rw [CG]at hx
   rcases iG hx with hx|rfl
   ·exact .inl ⟨_,il,jB.trans j7.symm,hx⟩
   ·exact .inr ⟨j7,rfl⟩
 ·rcases mem q hq with hq|rfl|rfl
  ·have:=ib hT.bc hq hmem (by rw[aW];exact e)
   subst this;exact absurd jK hk
  ·exact absurd jK hk
  ·exact absurd (j7.symm.trans e) hne
theorem xK {S:ae} (h:Kids S) (hu:aD S.nodes S.last) {now dir no:Int} {nm:List UInt8} (hi:aJ S.nodes dir=true) (kC:aJ S.nodes no=true):Kids (eN S now (ac S.nodes dir) (ac S.nodes no) nm):=by
 obtain ⟨_,jB,il⟩:=ak hi;obtain ⟨_,aW,hmem⟩:=ak kC;obtain ⟨M,hM⟩:∃M:ai,M=eL S (ac S.nodes dir).no now (cX (ac S.nodes dir).af nm):=⟨_,rfl⟩;have j7:M.no=dir:=by rw[hM,jB];exact jB
 have hMk:M.kind=(ac S.nodes dir).kind:=by rw[hM,jB];rfl
 have MJ:M.up=(ac S.nodes dir).up:=by rw[hM,jB];rfl
 have CG:M.af=cX (ac S.nodes dir).af nm:=by rw[hM];rfl
 have mem:∀m∈(aE (aE S M) (fu now (ac S.nodes no))).nodes,m∈S.nodes\/m=fu now (ac S.nodes no)\/m=M:=fun m hm=>by
  rcases aQ hm with⟨hm,_⟩|rfl
  ·rcases aQ hm with⟨hm,_⟩|rfl
   ·exact .inl hm
   ·exact .inr (.inr rfl)
  ·exact .inr (.inl rfl)
 have key:∀m∈(aE (aE S M) (fu now (ac S.nodes no))).nodes,∃m'∈S.nodes,m'.no=m.no/\(m.kind=1->m'.kind=1/\m'.up=m.up)/\∀x∈m.af,x∈m'.af:=fun m hm=>by
  rcases mem m hm with hm|rfl|rfl
  ·exact⟨m,hm,rfl,fun hk=>⟨hk,rfl⟩,fun x hx=>hx⟩
  ·exact⟨_,hmem,rfl,fun hk=>⟨hk,rfl⟩,fun x hx=>hx⟩
  ·exact⟨_,il,jB.trans j7.symm,fun hk=>⟨hMk▸hk,MJ.symm⟩,fun x hx=>by rw[CG]at hx;exact (jO hx).1⟩
 have k2:Kids (aE (aE S M) (fu now (ac S.nodes no))):=oM h hu key;unfold eN bR;rw [<-hM];unfold ju;split
 ·unfold gK
  split
  ·exact oM h hu fun m hm=>key m (dJ hm).1
  ·exact k2
 ·exact k2
theorem MK {S:ae} {c:Nat} (hT:dy c S) (h:Kids S) (cu cg now:Int) (x:lG) (hx:∀fr a gN b,x≠.rename fr a gN b):Kids (cM S cu cg now x):=by
 cases x with
 | da dir nm mode=>exact vq h (sj hT h _ _ _ _ _ _ rfl fun _=>rfl)
 | cL dir nm mode data=>exact vq h (sj hT h _ _ _ _ _ _ rfl fun hk=>by cases hk)
 | symlink dir nm text=>exact vq h (sj hT h _ _ _ _ _ _ rfl fun hk=>by cases hk)
 | link no dir nm=>exact Ir hT h _ _ _ _ _ _
 | unlink dir nm =>
  show Kids (eS S cu cg now dir nm);unfold eS;split
  ·rename_i h0
   unfold eR at h0;split at h0
   ·rename_i h1;exact absurd h0 h1
   ·rename_i h1
    obtain ⟨z1,z2,_,z4,z5⟩:=eD (Decidable.not_not.1 h1);rw [z4,z5];exact xK h hT.bc (aT z1).1 z2
  ·exact h
 | lY dir nm =>
  show Kids (gI S cu cg now dir nm);unfold gI;split
  ·rename_i h0
   unfold gi at h0;split at h0
   ·rename_i h1;exact absurd h0 h1
   ·rename_i h1
    obtain ⟨z1,z2,_,z4,z5⟩:=eD (Decidable.not_not.1 h1);rw [z4,z5];exact xK h hT.bc (aT z1).1 z2
  ·exact h
 | rename fr a gN b=>exact absurd rfl (hx fr a gN b)
 | dP no mode =>
  show Kids (eZ S cu now no mode);unfold eZ;split
  ·rename_i h0
   unfold fC at h0;split at h0
   ·rename_i h1;exact absurd h0 h1
   ·rename_i h1
    have hi:=ic (Decidable.not_not.1 h1);exact sg h hT.bc hi (ak hi).2.1 rfl rfl fun x hx=>hx
  ·exact h
 | eu no uid gid =>
  show Kids (fN S cu now no uid gid);unfold fN;split
  ·rename_i h0
   unfold gD at h0;split at h0
   ·rename_i h1;exact absurd h0 h1
   ·rename_i h1
    have hi:=ic (Decidable.not_not.1 h1);exact sg h hT.bc hi (ak hi).2.1 rfl rfl fun x hx=>hx
  ·exact h
 | fP no mt =>
  show Kids (fO S cu now no mt);unfold fO;split
  ·rename_i h0
   unfold gL at h0;split at h0
   ·rename_i h1;exact absurd h0 h1
   ·rename_i h1
    have hi:=ic (Decidable.not_not.1 h1);exact sg h hT.bc hi (ak hi).2.1 rfl rfl fun x hx=>hx
  ·exact h
 | write no data =>
  show Kids (yN S cu cg now no data);unfold yN;split
  ·rename_i h0
   have hi:aJ S.nodes no=true:=by
    unfold GS at h0;split at h0
    ·cases h0
    ·rename_i h1;simpa using h1
   have hf:∀m∈(jH S no data).nodes,∃m'∈S.nodes,m'.no=m.no/\(m.kind=1->m'.kind=1/\m'.up=m.up)/\∀x∈m.af,x∈m'.af:=fun m hm=>by
    unfold jH at hm;split at hm
    ·rcases ql hm with hm|rfl
     ·exact⟨m,hm,rfl,fun hk=>⟨hk,rfl⟩,fun x hx=>hx⟩
     ·exact⟨_,(ak hi).2.2,rfl,fun hk=>⟨hk,rfl⟩,fun x hx=>hx⟩
    ·exact⟨m,hm,rfl,fun hk=>⟨hk,rfl⟩,fun x hx=>hx⟩
   have po:aJ (jH S no data).nodes no=true:=by
    unfold jH;split
    ·show aJ (bQ S.nodes _) no=true;rw[iL];exact hi
    ·exact hi
   refine oM h hT.bc fun m hm=>?_
   rcases aQ hm with⟨hm,_⟩|rfl
   ·exact hf m hm
   ·obtain ⟨m',h1,h2,h3,h4⟩:=hf _ (ak po).2.2
    exact ⟨m',h1,h2,h3,h4⟩
  ·exact h
theorem Iu {S:ae} {c:Nat} (hT:dy c S) (h:Kids S) (over b n:Int):Kids (cq S over b n):=by
 have mem:∀m∈(cq S over b n).nodes,m∈S.nodes\/(m.no=S.last+1/\m.af=[]):=fun m hm=>by
  rcases List.mem_append.1 hm with hm|hm
  ·exact .inl hm
  ·rw [List.mem_singleton]at hm
   subst hm;exact .inr ⟨rfl,rfl⟩
 refine ⟨fun m hm x hx q hq e hk=>?_,fun m hm x hx y hy q hq e hk Wg=>?_⟩
 ·rcases mem m hm with hm|⟨_,h2⟩
  ·have hp:=(hT.pos m hm x hx).2
   rcases mem q hq with hq|⟨h1,_⟩
   ·exact h.up m hm x hx q hq e hk
   ·omega
  ·rw[h2]at hx;cases hx
 ·rcases mem m hm with hm|⟨_,h2⟩
  ·have hp:=(hT.pos m hm x hx).2
   rcases mem q hq with hq|⟨h1,_⟩
   ·exact h.once m hm x hx y hy q hq e hk Wg
   ·omega
  ·rw[h2]at hx;cases hx
theorem DL {S:ae} {c:Nat} (hT:dy c S) (h:Kids S) (a b n:Int):Kids (cH S a b n):=by
 unfold cH;split
 ·exact Iu hT h _ _ _
 ·exact h
theorem DM (b n:Int):Kids (cq cJ 0 b n):=by
 have mem:∀m∈(cq cJ 0 b n).nodes,m.af=[]:=fun m hm=>by
  have hm':m∈[bn cJ]:=hm;rw [List.mem_singleton]at hm';subst hm';rfl
 exact ⟨fun m hm x hx=>(by rw[mem m hm]at hx;cases hx),fun m hm x hx=>(by rw[mem m hm]at hx;cases hx)⟩
def aY (S:ae):Nat:=(S.nodes.map fun n=>n.af.length).sum
def kX (S:ae) (cu cg:Int) (x:aj):Prop:=dQ S cu cg x=0/\(ac S.nodes x.no).kind=1
theorem sk {S:ae} {cu cg:Int} {x:aj} (h:dQ S cu cg x=0):aJ S.nodes x.no=true/\aJ S.nodes x.dir=true/\(ac S.nodes x.no).dev=(ac S.nodes x.dir).dev/\((ac S.nodes x.no).kind=1->bt S cu cg x.no 1 4=0):=by
 unfold dQ at h;split at h
 ·cases h
 rename_i h1;split at h
 ·cases h
 rename_i h2;split at h
 ·cases h
 rename_i h3;refine ⟨by simpa using h1,by simpa using h2,Decidable.not_not.1 h3,fun hk=>?_⟩;rw [if_neg (fun k=>k hk)]at h;exact h
theorem fS {S:ae} {cu cg:Int} {x:aj} (h:kX S cu cg x):ew S cu cg x=(bo S (ac S.nodes x.no).af).map (dZ x):=by unfold kX at h;unfold ew;rw[if_pos h]
theorem sm {S:ae} {cu cg:Int} {x:aj} (h:¬kX S cu cg x):ew S cu cg x=[]:=by unfold kX at h;unfold ew;rw[if_neg h]
theorem vr {c:Nat} {S:ae} (h:dy c S) (k:Kids S) {cu cg:Int} {x y:aj} (hx:kX S cu cg x) (hy:y∈ew S cu cg x) (ly:kX S cu cg y) :
  (y.name,y.no)∈(ac S.nodes x.no).af/\(ac S.nodes y.no).up=x.no/\y.no≠x.no/\y.dir=x.no:=by
 rw [fS hx]at hy;rw [List.mem_map]at hy;obtain ⟨z',hz',rfl⟩:=hy;unfold bo at hz';rw [List.mem_map]at hz';obtain ⟨z,hz,rfl⟩:=hz';obtain ⟨ix,nx,mx⟩:=aO hx.2;obtain ⟨i1,i2,i3,_⟩:=sk ly.1;have i3':(ac S.nodes (ar S.ah z.2)).dev=(ac S.nodes x.no).dev:=i3;have hk:(ac S.nodes (ar S.ah z.2)).kind=1:=ly.2;obtain ⟨k1,k2,k3⟩:=h.yJ _ mx z hz;have hp:=h.pos _ mx z hz;rcases je h.sb (show 0<z.2 by omega) with e|⟨j,hj,e1,e2⟩
 ·show (z.1,ar S.ah z.2)∈_/\(ac S.nodes (ar S.ah z.2)).up=_/\ar S.ah z.2≠_/\x.no=x.no
  rw [e]at hk|-;obtain ⟨j1,j2,j3⟩:=aO hk;refine ⟨hz,?_,by rw[<-nx];exact k1,rfl⟩;rw [<-nx];exact k.up _ mx z hz _ j3 j2 hk
 ·exfalso
  obtain ⟨q,hq,q1,q2,q3,q4⟩:=h.lV j hj;obtain ⟨r,hr,r1,r2,r3⟩:=h.fG (j+1) hj;have gr:=(cR h.bc hr).1;rw [r1]at gr;rw [e2,gr,r3]at i3';have:=k3 q hq (by rw[q1,e1]);rw [nx]at *;omega
theorem sn (ns:List ai) (f:ai->Nat):∀(E:List Int),E.Nodup->(∀e∈E,∃n∈ns,n.no=e)->ns.Pairwise (fun a b=>a.no<b.no)->(E.map fun e=>f (ac ns e)).sum<=(ns.map f).sum:=by
 induction ns with
 | nil =>
  intro E _ h2 _
  cases E with
  | nil=>simp
  | cons e E=>obtain⟨n,hn,_⟩:=h2 e (List.mem_cons_self ..);cases hn
 | cons a ns ih =>
  intro E h1 h2 h3;rw [List.pairwise_cons]at h3;have hg:∀e,e≠a.no->ac (a::ns) e=ac ns e:=fun e he=>by
   unfold ac eF;rw [List.find?_cons];have:(a.no == e)=false:=by simpa using Ne.symm he
   rw [this]
  have ha:ac (a::ns) a.no=a:=by unfold ac eF;rw[List.find?_cons];simp
  have key:∀E:List Int,E.Nodup->(∀e∈E,∃n∈a::ns,n.no=e)->(E.map fun e=>f (ac (a::ns) e)).sum<=(if a.no∈E then f a else 0)+((E.filter fun e=>decide (e≠a.no)).map fun e=>f (ac ns e)).sum:=by
   intro E
   induction E with
   | nil=>intro _ _;simp
   | cons e E ihE =>
    intro hd hm;rw [List.nodup_cons]at hd;have:=ihE hd.2 fun x hx=>hm x (List.mem_cons_of_mem _ hx)
    rw [List.map_cons,List.sum_cons]
    by_cases he:e=a.no
    ·subst he
     rw [if_neg hd.1]at this;rw [if_pos (List.mem_cons_self ..),List.filter_cons_of_neg (by simp),ha];omega
    ·rw [List.filter_cons_of_pos (by simpa using he),List.map_cons,List.sum_cons,hg e he]
     have hmem:(a.no∈e::E)↔a.no∈E:=by rw[List.mem_cons];exact⟨fun h=>h.resolve_left (Ne.symm he),.inr⟩
     by_cases h4:a.no∈E
     ·rw[if_pos h4]at this;rw[if_pos (hmem.2 h4)];omega
     ·rw[if_neg h4]at this;rw[if_neg (fun k=>h4 (hmem.1 k))];omega
  have k1:=key E h1 h2;have k2:=ih (E.filter fun e=>decide (e≠a.no)) (h1.filter _) (fun e he=>by
   rw [List.mem_filter]at he;obtain ⟨n,hn,e1⟩:=h2 e he.1;rcases List.mem_cons.1 hn with rfl|hn
   ·have:=he.2;simp[e1]at this
   ·exact⟨n,hn,e1⟩) h3.2
  rw [List.map_cons,List.sum_cons];split at k1<;>omega
theorem DN {c:Nat} {S:ae} (h:dy c S) (k:Kids S) (cu cg:Int) (x0:Int) {t l:List aj} {b:aj} {e:Int} (hd:fw S cu cg t l b e) :
  ∀ (E:List Int) (d:Int->Nat),(∀n∈S.nodes,n.kind=1->n.up≠n.no->d n.up<d n.no)->E.Nodup->(∀y∈E,(ac S.nodes y).kind=1/\d x0<=d y/\(y=x0\/(ac S.nodes y).up∈E)) ->
   (∀y∈t,kX S cu cg y->y.no∉E/\d x0<=d y.no/\(y.no=x0\/(ac S.nodes y.no).up∈E))->t.Pairwise (fun a b=>kX S cu cg a->kX S cu cg b->a.no≠b.no) ->
   l.length+(E.map fun y=>(ac S.nodes y).af.length).sum<=t.length+aY S:=by
 induction hd with
 | nil =>
  intro E d _ h1 h2 _ _;have:=sn S.nodes (fun n=>n.af.length) E h1 (fun y hy=>⟨_,(aO (h2 y hy).1).2.2,(aO (h2 y hy).1).2.1⟩) h.bc.1;unfold aY;simp only[List.length_nil];omega
 | bad hx =>
  intro E d _ h1 h2 _ _;have:=sn S.nodes (fun n=>n.af.length) E h1 (fun y hy=>⟨_,(aO (h2 y hy).1).2.2,(aO (h2 y hy).1).2.1⟩) h.bc.1;unfold aY;simp only[List.length_nil];omega
 | @step x t l b e h0 hd ih =>
  intro E d Uw h1 h2 h3 h4;rw [List.pairwise_cons]at h4
  by_cases hx:kX S cu cg x
  ·obtain ⟨x1,x2,x3⟩:=h3 x (List.mem_cons_self ..) hx
   have hlen:(ew S cu cg x).length=(ac S.nodes x.no).af.length:=by rw[fS hx,List.length_map,gG]
   have hch:∀y∈ew S cu cg x,kX S cu cg y->y.no∉x.no::E/\d x0<=d y.no/\(y.no=x0\/(ac S.nodes y.no).up∈x.no::E)/\y.no≠x0/\(ac S.nodes y.no).up=x.no:=by
    intro y hy ly;obtain ⟨c1,c2,c3,_⟩:=vr h k hx hy ly;obtain ⟨j1,j2,j3⟩:=aO ly.2;have hlt:=Uw _ j3 ly.2 (by rw[c2,j2];exact Ne.symm c3);rw [c2,j2]at hlt;have hne:y.no≠x0:=fun e=>by rw[e]at hlt;omega
    refine ⟨fun hm=>?_,by omega,.inr (by rw[c2];exact List.mem_cons_self ..),hne,c2⟩;rcases List.mem_cons.1 hm with e|hm
    ·exact c3 e
    ·rcases (h2 y.no hm).2.2 with e|e
     ·exact hne e
     ·rw[c2]at e;exact x1 e
   have := ih (x.no::E) d Uw (List.nodup_cons.2 ⟨x1,h1⟩)
    (fun y hy=>by
     rcases List.mem_cons.1 hy with rfl|hy
     ·exact⟨hx.2,x2,x3.imp id (List.mem_cons_of_mem _)⟩
     ·obtain ⟨a1,a2,a3⟩:=h2 y hy
      exact ⟨a1,a2,a3.imp id (List.mem_cons_of_mem _)⟩)
    (fun y hy ly=>by
     rcases List.mem_append.1 hy with hy|hy
     ·obtain ⟨a1,a2,a3,_⟩:=hch y hy ly
      exact ⟨a1,a2,a3⟩
     ·obtain ⟨a1,a2,a3⟩:=h3 y (List.mem_cons_of_mem _ hy) ly
      refine ⟨fun hm=>?_,a2,a3.imp id (List.mem_cons_of_mem _)⟩;rcases List.mem_cons.1 hm with e|hm
      ·exact h4.1 y hy hx ly e.symm
      ·exact a1 hm)
    (List.pairwise_append.2 ⟨?_,h4.2,fun a ha b hb la lb e=>?_⟩)
   ·rw [List.map_cons,List.sum_cons,List.length_append,hlen]at this
    simp only[List.length_cons];omega
   ·rw [fS hx,List.pairwise_map]
    have hr:=h.lP _ (aO hx.2).2.2;unfold bo;rw [List.pairwise_map];refine List.Pairwise.imp_of_mem ?_ hr;intro a b ha hb hab la lb e;have ca:=vr h k hx (y:=dZ x (a.1,ar S.ah a.2)) (by rw[fS hx];exact List.mem_map_of_mem (by unfold bo;exact List.mem_map_of_mem ha)) la;have cb:=vr h k hx (y:=dZ x (b.1,ar S.ah b.2)) (by rw[fS hx];exact List.mem_map_of_mem (by unfold bo;exact List.mem_map_of_mem hb)) lb;obtain ⟨j1,j2,j3⟩:=aO la.2;have:=k.once _ (aO hx.2).2.2 _ ca.1 _ cb.1 _ j3 j2 la.2 e;have e1:a.1=b.1:=by have:=congrArg Prod.fst this;exact this
    rw [e1,cA]at hab;cases hab
   ·obtain ⟨a1,a2,a3,a4,a5⟩:=hch a ha la
    rcases (h3 b (List.mem_cons_of_mem _ hb) lb).2.2 with e1|e1
    ·exact a4 (e.trans e1)
    ·rw[<-e,a5]at e1;exact x1 e1
  ·have:=ih E d Uw h1 h2 (fun y hy ly=>h3 y (List.mem_cons_of_mem _ (by rw[sm hx]at hy;exact hy)) ly) (by rw[sm hx];exact h4.2)
   rw [sm hx]at this;simp only[List.nil_append]at this;simp only[List.length_cons];omega
theorem ML {c:Nat} {S:ae} (h:dy c S) (k:Kids S) (cu cg:Int) (x:aj) {l:List aj} {b:aj} {e:Int} (hd:fw S cu cg [x] l b e):l.length<=1+aY S:=by
 obtain ⟨d,Uw⟩:=h.deep;have:=DN h k cu cg x.no hd [] d Uw List.nodup_nil (fun y hy=>by cases hy) (fun y hy _=>by rw[List.mem_singleton]at hy;subst hy;exact⟨by simp,Nat.le_refl _,.inl rfl⟩) (List.pairwise_singleton _ _);simpa using this
open Go.ChangeShapes Go.WideShapes Go.ChangeAt Go.RowKit
theorem j8 {F:Fence} {n:Nat} {P:Program} (w:World) {ops:Array Oper} {rest:List Oper} {o:Oper} {a:Act} {Q:Exit->Act->World->Prop} (hg:o.guard=none) (s x:Operand) (t tn:TypeId)
  (hop:o.op=.call {callee:=.builtin .append,args:=#[s,x],argTypes:=#[t,tn]}) (vs vx:Value) (hs:a.eval s=vs) (hx:a.eval x=vx)
  (v':Value) (w':World) (hr:(Builtin.append_ #[t,tn] o.type #[vs,vx]).run P w=.ok v' w') (h:wpListIn F n P ops Q rest (a.put o.dst v') w'):wpListIn F n P ops Q (o::rest) a w:=by
 refine wpListIn_plain hg fun K hK'=>?_
 unfold Oper.wpIn;refine ⟨?_,?_⟩
 ·simp[Oper.about,hop,resolve,Target.leads,Sem.run_pure]
 ·rw [Oper.semAt_plain F _ _ (by rw[hop];intro c hc';cases hc')]
  simp [execOp,hop,resolve,invoke,builtin,hs,hx,hr,Result.andThen];exact hK' _ _ h
theorem fH {F:Fence} {n:Nat} {ops:Array Oper} {rest:List Oper} {op:Oper} {a:Act} {w:World} {Q:Exit->Act->World->Prop} (hgd:op.guard=none) (x y:Operand) (ho:op.op=.store 41 x y)
  (b:Nat) (d d':aj) (hx:a.eval x=.pointer (some ⟨b,0,none⟩)) (hy:a.eval y=.agg (aR d').toArray) (hb:Has w b (.cells (aR d).toArray 41))
  (h:∀w',Has w' b (.cells (aR d').toArray 41)->Only [b] w w'->wpListIn F n Tryz.prog ops Q rest (a.put op.dst undef) w'):wpListIn F n Tryz.prog ops Q (op::rest) a w:=by
 refine wpListIn_plain hgd fun K hK'=>?_
 unfold Oper.wpIn;refine ⟨?_,?_⟩
 ·simp[Oper.about,ho]
 ·rw [Oper.semAt_plain F _ _ (by rw[ho];intro c hc';cases hc')]
  simp only[execOp,ho,hx,hy,run_storeAt_mid w b 0 41 (aR d').toArray hb.there l_ (all_oneCell_toArray (cs:=aR d') (l9 d')),Sem.run_bind,Sem.run_pure,Result.andThen_ok];exact hK' _ _ (h _ (hb.tQ d') (bH (aR d') 0 w))
def told (l:List aj) (b:aj) (e:Int):List (aj×Int):=l.map (fun x=>(x,0))++(if e=0 then [] else [(b,e)])
theorem MM:told [] gO 0=[]:=rfl
theorem vu {b:aj} {e:Int} (h:e≠0):told [] b e=[(b,e)]:=by unfold told;rw[if_neg h];rfl
theorem xL (x:aj) (l:List aj) (b:aj) (e:Int):told (x::l) b e=(x,0)::told l b e:=rfl
theorem Bw (l:List aj) (b:aj) (e:Int):(told l b e).length<=l.length+1:=by
 unfold told;rw [List.length_append,List.length_map];split<;>simp
def vv (s:av) (cu cg dir:Int) (nm:List UInt8) (l:List aj) (b:aj) (e:Int):Prop:=
 (dp s cu cg dir nm≠0/\l=[]/\b=cO s cu cg dir nm/\e=dp s cu cg dir nm)\/(dp s cu cg dir nm=0/\s.dead=false/\fw s.t cu cg [cO s cu cg dir nm] l b e)
theorem QB {c:Nat} {s:av} (h:dy c s.t) (k:Kids s.t) (cu cg dir:Int) (nm:List UInt8):∃l b e,vv s cu cg dir nm l b e/\l.length<=1+aY s.t:=by
 by_cases h0:dp s cu cg dir nm=0
 ·have hd:s.dead=false:=by
   unfold dp fk at h0
   cases hd:s.dead
   ·rfl
   ·rw[if_pos hd]at h0;cases h0
  obtain ⟨l,b,e,hr⟩:=Io h k.up cu cg [cO s cu cg dir nm];exact ⟨l,b,e,.inr ⟨h0,hd,hr⟩,ML h k cu cg _ hr⟩
 ·exact⟨[],_,_,.inl ⟨h0,rfl,rfl,rfl⟩,Nat.zero_le _⟩
theorem Bz {s:av} (hd:s.dead=false) (cu cg:Int) (x:aj):jP s cu cg x=dQ s.t cu cg x/\nr s cu cg x=ew s.t cu cg x:=by
 unfold jP nr fk sa;rw [if_neg (by rw[hd];decide),if_neg (by rw[hd];decide)];exact ⟨rfl,rfl⟩
theorem xM {c:Nat} {S:ae} (h:dy c S) (cu cg:Int) (x:aj):(ew S cu cg x).length<=c:=by
 unfold ew;split
 ·rw[List.length_map,gG];exact (h.ac x.no).2
 ·exact Nat.zero_le _
theorem sZ {S:ae} {cu cg:Int} {x y:aj} (h:y∈ew S cu cg x):y.depth=x.depth+1:=by
 unfold ew at h;split at h
 ·rw [List.mem_map]at h
  obtain ⟨z,_,rfl⟩:=h;rfl
 ·cases h
attribute [local go_sem] Oper.semAt_some
def zg (W:World) (k b:Nat) (cu cg dir:Int) (nm:List UInt8):Prop:=
 Has W k (.cells #[.pointer (some ⟨b,0,none⟩)] 33)/\Has W (k+1) (.cells #[cu,cg] 27)/\Has W (k+2) (.cells #[.int .i64 dir] 3)/\Has W (k+3) (.cells #[bs nm] 9)
abbrev DP (x:aj×Int):Array Value:=#[.agg #[.int .i64 x.1.dir,bs x.1.name,x.1.no,.int .i64 x.1.depth],.int .i64 x.2]
theorem dw.keep {w w':World} {base:Nat} {v:Value} {l:List aj} (h:dw w base v l) (hk:∀g,v.ownBlock=some g->w'.heap[g]?=w.heap[g]?):dw w' base v l:=by
 refine ⟨h.1,?_⟩;rcases h.2 with e|⟨g,cap,cur,rfl,hb,hg,h1,h2,h3,h4⟩
 ·exact .inl e
 ·exact .inr ⟨g,cap,cur,rfl,hb,(hk g rfl).trans hg,h1,h2,h3,h4⟩
theorem dw.Iv {w:World} {base g:Nat} {v:Value} {l:List aj} (h:dw w base v l) (hv:v.ownBlock=some g):fW w g:=by
 rcases h.2 with⟨rfl,_⟩|⟨g',cap,cur,rfl,hb,hg,_⟩
 ·cases hv
 ·injection hv with hv
  subst hv;exact fW.of hg (by decide) (by decide)
theorem MN {c : Nat} (F:Fence) (hF:F=Fence.wide) (n:Nat) (hn:1<=n) (B b:Nat) (g:bG) (s:av) (hs:eH c s) (hc:c<=900) (k:Nat) (cu cg dir:Int) (nm:List UInt8) (l:List aj) (b0:aj) (e0:Int)
  (hT:vv s cu cg dir nm l b0 e0) (hlen:l.length<=1000) (w0:World) :
  Uq F n Tryz.prog 86 #[.pointer (some ⟨k,0,none⟩),.pointer (some ⟨k+1,0,none⟩),.pointer (some ⟨k+2,0,none⟩),.pointer (some ⟨k+3,0,none⟩)] DP (fun xs=>xs=told l b0 e0) (fun pre=>pre <+: told l b0 e0)
   (fun pre x=>pre++[x] <+: told l b0 e0) (fun _ V=>PS V B b g s/\zg V k b cu cg dir nm) w0:=by
 intro lp J Jx W _ Ux Cw YA hY h0;have hro:F.round=none:=by rw[hF];rfl
 have hfn:F.fn 86:=by rw[hF];trivial
 have JA:F.fn 87:=by rw[hF];trivial
 have Pv:F.fn 88:=by rw[hF];trivial
 have CF:∀(j:Nat) (u:World),PS u B b g s->CallsIn F j Tryz.prog 87 #[.pointer (some ⟨b,0,none⟩),.agg #[cu,cg],.int .i64 dir,bs nm] u (aI u (.tuple #[.agg #[.int .i64 (cO s cu cg dir nm).dir,.string (bs (cO s cu cg dir nm).name),.int .i64 (cO s cu cg dir nm).no,.int .i64 (cO s cu cg dir nm).depth],.int .i64 (dp s cu cg dir nm)])):=by
  rw [hF];exact fun j u hu=>callsIn_wide.2 (hu.first hs hc cu cg dir nm)
 have CI:Hid (∀(j:Nat) (u:World) (x:aj),0<=x.depth->x.depth<=1000000->PS u B b g s->CallsIn F j Tryz.prog 88 #[.pointer (some ⟨b,0,none⟩),.agg #[cu,cg],.agg #[.int .i64 x.dir,bs x.name,x.no,.int .i64 x.depth]] u (FL u (nr s cu cg x) (jP s cu cg x))):=by
  show ∀_ _ _,_;rw [hF];exact fun j u x h1 h2 hu=>callsIn_wide.2 (hu.into hs hc cu cg x h1 h2)
 obtain⟨L,hL⟩:=zE (told l b0 e0);rw [<-hL]at hY|-;have Us:L.length<=1001:=by rw[hL];have:=Bw l b0 e0;omega
 obtain⟨X,hX⟩:=zE (cO s cu cg dir nm);obtain⟨e1,lF⟩:=zE (dp s cu cg dir nm);have DQ:X.depth=0:=by rw[hX];rfl
 have zh:(e1≠0/\L=[(X,e1)])\/(e1=0/\s.dead=false/\fw s.t cu cg [X] l b0 e0/\L=told l b0 e0):=by
  rw [hX,lF];rcases hT with⟨h1,h2,h3,h4⟩|⟨h1,h2,h3⟩
  ·exact .inl ⟨h1,by rw[hL,h2,h3,h4,vu h1]⟩
  ·exact .inr ⟨h1,h2,h3,hL⟩
 rw [<-hX,<-lF]at CF;have HS:=zH hs;have HT:=zH zh;have MO:=zH DQ;have BA:=zH Ux;have Iw:=zH Cw;have HJX:=zH YA;have HY:=zH hY;clear hF hT hlen hX lF hs hL zh DQ;obtain ⟨⟨YB,wI⟩,_,_⟩:=Ux _ _ _ h0;have k0:=wI.1.cell 0;have k1:=wI.2.1.cell 0;have k2:=wI.2.1.cell 1;have k3:=wI.2.2.1.cell 0;have k4:=wI.2.2.2.cell 0;have z0:=wI.1.lt;have z1:=wI.2.1.lt;have z2:=wI.2.2.1.lt;have z3:=wI.2.2.2.lt;have YC:=zH (CF (n-1) W YB);have H0:=zH h0;clear Ux Cw YA hY h0 CF YB wI;refine callsIn_of_wp Tryz.func86 rfl hfn ?_ hro;simp only[Tryz.ntmps86,List.size_toArray,List.length_cons,List.length_nil,Nat.reduceAdd,Nat.reduceSub,Array.replicate_succ,Array.replicate_zero,List.push_toArray,List.append_toArray,List.nil_append,List.cons_append];gi_wp2_with (gi_at_call 87;refine YC.out.mono ?_;rintro e w1 ⟨rfl,b1⟩);obtain ⟨W2,cQ⟩:∃V,V=(w1.alloc (.cells #[.int .i64 X.dir,bs X.name,X.no,.int .i64 X.depth] 41)).alloc (.cells #[.int .i64 X.dir,bs X.name,X.no,.int .i64 X.depth] 41):=⟨_,rfl⟩;obtain ⟨bx,tg⟩:∃b,b=w1.heap.size:=⟨_,rfl⟩;obtain ⟨br,DR⟩:∃b,b=w1.heap.size+1:=⟨_,rfl⟩;have ra:Has W2 bx (.cells (aR X).toArray 41):=by rw[cQ,tg];exact (Has.new w1 _).alloc _
 have sX:Has W2 br (.cells (aR X).toArray 41):=by rw[cQ,DR];have:=Has.new (w1.alloc (.cells #[.int .i64 X.dir,bs X.name,X.no,.int .i64 X.depth] 41)) (.cells #[.int .i64 X.dir,bs X.name,X.no,.int .i64 X.depth] 41);rw[World.size_alloc]at this;exact this
 have E2:Ext W W2:=by rw[cQ];exact (b1.alloc _).alloc _
 have YD:W.heap.size<=bx:=by have:=b1.size;omega
 have MP:W.heap.size<=br:=by omega
 have hxr:bx≠br:=by omega
 have Cw:J [bx,br] [] W2:=Iw.out [] [] W [bx,br] W2 H0.out (Only.ax E2) (fun x hx=>by
   simp only[List.mem_cons,List.not_mem_nil,or_false]at hx;rcases hx with rfl|rfl
   ·exact .inr YD
   ·exact .inr MP) (fun x hx=>by
   simp only[List.mem_cons,List.not_mem_nil,or_false]at hx;rcases hx with rfl|rfl
   ·exact fW.of ra (by decide) (by decide)
   ·exact fW.of sX (by decide) (by decide))
 have hO2:dw W2 W.heap.size (.slice (some ⟨br,0,none⟩) 1 1) [X]:=⟨rfl,.inr ⟨br,1,_,rfl,MP,sX,Nat.le_refl _,by decide,rfl,rfl⟩⟩;rw [<-cQ,<-DR,<-tg];clear cQ tg DR k0 k1 k2 k3 k4 z0 z1 z2 z3 b1 YC H0 E2;gi_loopg [7,8] (l.length+1) (fun m ve vt wr=>∃(e2:Int) (t:List aj) (x:aj) (O:List Nat) (pre:List (aj×Int)),ve=.int .i64 e2/\J O pre wr/\bx∈O/\Has wr bx (.cells (aR x).toArray 41)/\dw wr W.heap.size vt t.reverse/\(∀g,vt.ownBlock=some g->g∈O/\g≠bx)/\t.length<=1+pre.length*1000/\(∀y∈t,0<=y.depth/\y.depth<=pre.length) /\
  ((e2=0/\s.dead=false/\∃l1,fw s.t cu cg t l1 b0 e0/\L=pre++told l1 b0 e0/\m=l1.length+1)\/(e2≠0/\L=pre++[(x,e2)])))
 case atStart =>
  refine ⟨e1,[X],X,_,[],rfl,Cw,by simp,ra,hO2,fun g hg=>?_,by simp,fun y hy=>?_,?_⟩
  ·injection hg with hg;subst hg;exact⟨by simp,Ne.symm hxr⟩
  ·rw[List.mem_singleton]at hy;subst hy;rw[MO.out];simp
  ·rcases HT.out with⟨h1,h2⟩|⟨h1,h2,h3,h4⟩
   ·exact .inr ⟨h1,h2⟩
   ·exact .inl ⟨h1,h2,l,h3,h4,rfl⟩
 case round =>
  obtain ⟨e2,t,x,O,pre,rfl,hJ,JK,hX,hO,hown,rQ,oW,hrest⟩:=hrel;clear Cw ra sX hO2 HT MO;obtain ⟨A,cap,rfl,s3,pd,hat,hA0⟩:=hO.at_;rw [List.length_reverse]at hO s3|-;have x0:=hX.cell 0;have x1:=hX.cell 1;have x2:=hX.cell 2;have x3:=hX.cell 3;have xz:=hX.lt;simp only[gA,gB,gC]at x0 x1 x2 x3
  by_cases he:e2=0
  case neg =>
   have t2:(e2 == 0)=false:=by simpa using he
   have t3:(e2 != 0)=true:=by simpa using he
   have hL:L=pre++[(x,e2)]:=by
    rcases hrest with⟨h1,_⟩|⟨_,h2⟩
    ·exact absurd h1 he
    ·exact h2
   have HL:=zH hL;obtain ⟨fn,tmps,assign,body,hy,hR⟩:=HY.out O pre (x,e2) wr hJ (by rw[hL];exact List.prefix_refl _)
   try dsimp only[DP]at hy
   clear he hrest hL oW rQ hown hO hat;gi_wp2;refine hR.mono ?_;rintro e W3 (⟨rfl,Cx,mq⟩|⟨rfl,tV⟩)
   ·gi_wp2
    go_end0;exact ⟨⟨_,rfl⟩,.inl ⟨_,_,HL.out.symm,Cx⟩⟩
   ·gi_wp2
    go_end0;exact ⟨⟨_,rfl⟩,.inr ⟨_,by rw[HL.out];exact List.prefix_refl _,tV⟩⟩
  obtain ⟨_,hd,l1,hD,hL,hm⟩:e2=0/\s.dead=false/\∃l1,fw s.t cu cg t l1 b0 e0/\L=pre++told l1 b0 e0/\gk=l1.length+1:=by
   rcases hrest with h1|⟨h1,_⟩
   ·exact h1
   ·exact absurd he h1
  subst he;clear hrest;obtain⟨T,hTn⟩:=zE t.length;rw [<-hTn]at hO s3 rQ|-
  cases t with
  | nil =>
   obtain rfl:T=0:=hTn;have YE:L=pre:=by cases hD;rw[hL,MM,List.append_nil]
   have HL:=zH YE;clear hD hL YE oW rQ hown hO hat hm x0 x1 x2 x3 xz;gi_wp2;go_end0;exact ⟨⟨_,rfl⟩,.inl ⟨_,by rw[HL.out];exact hJ⟩⟩
  | cons x' t' =>
   obtain⟨T',zh⟩:=zE t'.length;obtain rfl:T=T'+1:=by rw[hTn,zh];rfl
   clear hTn hat x0 x1 x2 x3 xz;rw [List.reverse_cons]at hO;have Iy:(t'.reverse++[x']).length=T'+1:=by rw[List.length_append,List.length_reverse,zh];rfl
   rw [<-Iy]at hO;have hO0:=hO;obtain ⟨gr,rfl⟩:∃gr,A=some ⟨gr,0,none⟩:=by
    rcases hO.cases with⟨_,h2⟩|⟨gr,_,_,h2,_⟩
    ·simp at h2
    ·injection h2 with h2;exact⟨gr,h2⟩
   have QC:=hown gr rfl;have hpl:pre.length<=1000:=by
    have:=congrArg List.length hL;rw [List.length_append]at this;have h1:1<=(told l1 b0 e0).length:=by
     cases hD with
     | bad h=>rw[vu h];simp
     | step _ _=>rw[xL];simp
    omega
   have Iz:=oW x' (List.mem_cons_self ..);obtain ⟨_,_,cur,hv,aba,MQ,_,_,hcell⟩:∃g cap' cur,Value.slice (some ⟨gr,0,none⟩) (t'.reverse++[x']).length cap=.slice (some ⟨g,0,none⟩) (t'.reverse++[x']).length cap'/\W.heap.size<=g/\Has wr g (.cells cur 41)/\(t'.reverse++[x']).length<=cap'/\cap'<=maxLen/\∀k,(h:k<(t'.reverse++[x']).length)->∀j,j<4->wr.cell? ⟨g,k*4+j,none⟩=(aR (t'.reverse++[x'])[k])[j]?:=by
    rcases hO.cases with⟨h1,_⟩|h2
    ·cases h1
    ·exact h2
   injection hv with AW _ hv3;injection AW with AW;injection AW with AW;subst AW;subst hv3;have jq:∀h,(t'.reverse++[x'])[T']'h=x':=fun h=>by
    rw [List.getElem_append_right (by rw[List.length_reverse,zh];exact Nat.le_refl _)];simp [zh]
   have hq:∀j,j<4->wr.cell? ⟨gr,T'*4+j,none⟩=(aR x')[j]?:=fun j hj=>(hcell T' (by rw[Iy];omega) j hj).trans (by rw[jq])
   have q0:wr.cell? ⟨gr,T'*4,none⟩=some (.int .i64 x'.dir):=hq 0 (by decide);have q1:wr.cell? ⟨gr,T'*4+1,none⟩=some (.string (bs x'.name)):=hq 1 (by decide);have q2:wr.cell? ⟨gr,T'*4+2,none⟩=some (.int .i64 x'.no):=hq 2 (by decide);have q3:wr.cell? ⟨gr,T'*4+3,none⟩=some (.int .i64 x'.depth):=hq 3 (by decide);have qz:=MQ.lt;have Qa:T'+1<=cap:=s3;have AY:IntKind.i64.wrap (T':Int)=(T':Int):=IntWalk.i64_in _ (by omega);have Wh:IntKind.i64.wrap ((T':Int)+1-1)=(T':Int):=by rw[IntWalk.i64_in _ (by omega)];omega
   have p0:(0:Int)<=(T':Int):=Int.natCast_nonneg _;have acB:bx<wr.heap.size:=hX.lt;have DS:∀y∈O,fW wr y:=fun y hy=>((BA.out _ _ _ hJ).2.2 y hy).2
   have KS:Hid (∀w9,Has w9 bx (.cells (aR x').toArray 41)->Only [bx] wr w9->(J O pre w9/\PS w9 B b g s/\w9.cell? ⟨k,0,none⟩=some (.pointer (some ⟨b,0,none⟩))/\w9.cell? ⟨k+1,0,none⟩=some (.int .i64 cu)/\w9.cell? ⟨k+1,1,none⟩=some (.int .i64 cg)/\k<w9.heap.size/\k+1<w9.heap.size /\
     w9.cell? ⟨bx,0,none⟩=some (.int .i64 x'.dir)/\w9.cell? ⟨bx,1,none⟩=some (.string (bs x'.name))/\w9.cell? ⟨bx,2,none⟩=some (.int .i64 x'.no)/\w9.cell? ⟨bx,3,none⟩=some (.int .i64 x'.depth)/\bx<w9.heap.size)):=by
    show ∀w9,_;intro w9 R9 O9;have JL:=Iw.out O pre wr O w9 hJ (O9.mono (by intro y hy;rw[List.mem_singleton]at hy;subst hy;exact JK)) (fun y hy=>.inl hy) (fun y hy=>(DS y hy).only O9 (fun z hz=>by rw[List.mem_singleton]at hz;subst hz;exact fW.of R9 (by decide) (by decide)));obtain ⟨⟨P9,C9⟩,_⟩:=BA.out _ _ _ JL;exact ⟨JL,P9,C9.1.cell 0,C9.2.1.cell 0,C9.2.1.cell 1,C9.1.lt,C9.2.1.lt,R9.cell 0,R9.cell 1,R9.cell 2,R9.cell 3,R9.lt⟩
   have CIx:=zH (fun (j:Nat) (u:World) (hu:PS u B b g s)=>CI.out j u x' Iz.1 (by omega) hu);have kC:=Bz hd cu cg x';obtain ⟨e3,pY⟩:∃e,e=jP s cu cg x':=⟨_,rfl⟩;obtain ⟨l4,sO⟩:∃e,e=nr s cu cg x':=⟨_,rfl⟩;rw [<-pY,<-sO]at CIx kC;have Fw:=zH kC;have HD:=zH hD;have HL:=zH hL;have HM:=zH hm;have Uy:=zH oW;have O_:=zH hO0;have abb:=zH hown;have QD:=zH zh;have JB:=zH hX;clear kC pY sO hD hL hm oW hO hO0 hq hcell jq Iy s3 hown zh CI
   by_cases h3:e3=0
   case neg =>
    have t3:(e3 != 0)=true:=by simpa using h3
    have hLb:Hid (L=pre++[(x',e3)]):=by
     show _=_;have hne:dQ s.t cu cg x'≠0:=by rw[<-Fw.out.1];exact h3
     have tk:=HD.out
     cases tk with
     | bad h=>rw[HL.out,vu h,Fw.out.1]
     | step h _=>exact absurd h hne
    clear h3;gi_wp2_with (first|(refine fH rfl _ _ rfl bx x x' rfl rfl JB.out ?_;intro w9 R9 O9;obtain⟨JL,P9,k0,k1,k2,z0,z1,y0,y1,y2,y3,yz⟩:=KS.out w9 R9 O9)|(gi_at_call 88;refine (CIx.out _ w9 P9).mono ?_;rintro e w4 ⟨v4,rfl,yA,b4⟩;have u0:w4.cell? ⟨bx,0,none⟩=some (.int .i64 x'.dir):=(b4.cell yz).trans y0;have u1:w4.cell? ⟨bx,1,none⟩=some (.string (bs x'.name)):=(b4.cell yz).trans y1;have u2:w4.cell? ⟨bx,2,none⟩=some (.int .i64 x'.no):=(b4.cell yz).trans y2;have u3:w4.cell? ⟨bx,3,none⟩=some (.int .i64 x'.depth):=(b4.cell yz).trans y3;have uz:bx<w4.heap.size:=(by have:=b4.size;omega);have hJ4:=Iw.out O pre w9 O w4 JL (Only.ax b4) (fun y hy=>.inl hy) (fun y hy=>((BA.out _ _ _ JL).2.2 y hy).2.ext b4);obtain⟨fn,tmps,assign,body,hy,hR⟩:=HY.out O pre (x',e3) w4 hJ4 (by rw[hLb.out];exact List.prefix_refl _);try dsimp only[DP]at hy));refine hR.mono ?_;rintro e W3 (⟨rfl,Cx,mq⟩|⟨rfl,tV⟩)
    ·gi_wp2
     go_end0;exact ⟨⟨_,rfl⟩,.inl ⟨_,_,hLb.out.symm,Cx⟩⟩
    ·gi_wp2
     go_end0;exact ⟨⟨_,rfl⟩,.inr ⟨_,by rw[hLb.out];exact List.prefix_refl _,tV⟩⟩
   have t3:(e3 != 0)=false:=by simpa using h3
   obtain ⟨l2,Jz⟩:∃l2,l1=x'::l2/\fw s.t cu cg (l4++t') l2 b0 e0:=by
    have h0:dQ s.t cu cg x'=0:=by rw[<-Fw.out.1];exact h3
    have tk:=HD.out;rw [Fw.out.2]
    cases tk with
    | bad h=>exact absurd h0 h
    | step _ hd3=>exact⟨_,rfl,hd3⟩
   have PZ:=zH Jz;have HLb:Hid (L=(pre++[(x',0)])++told l2 b0 e0):=by show _=_;rw[HL.out,Jz.1,xL,List.append_assoc];rfl
   have sO:Hid (l4.length<=900/\∀y∈l4,y.depth=x'.depth+1):=by
    show _/\_;rw [Fw.out.2];exact ⟨Nat.le_trans (xM HS.out.fE cu cg x') hc,fun y hy=>sZ hy⟩
   have tL:=zH h3;clear h3 Jz;gi_wp2_with (first|(refine fH rfl _ _ rfl bx x x' rfl rfl JB.out ?_;intro w9 R9 O9;obtain⟨JL,P9,k0,k1,k2,z0,z1,y0,y1,y2,y3,yz⟩:=KS.out w9 R9 O9)|(gi_at_call 88;refine (CIx.out _ w9 P9).mono ?_;rintro e w4 ⟨v4,rfl,yA,b4⟩;have u0:w4.cell? ⟨bx,0,none⟩=some (.int .i64 x'.dir):=(b4.cell yz).trans y0;have u1:w4.cell? ⟨bx,1,none⟩=some (.string (bs x'.name)):=(b4.cell yz).trans y1;have u2:w4.cell? ⟨bx,2,none⟩=some (.int .i64 x'.no):=(b4.cell yz).trans y2;have u3:w4.cell? ⟨bx,3,none⟩=some (.int .i64 x'.depth):=(b4.cell yz).trans y3;have uz:bx<w4.heap.size:=(by have:=b4.size;omega);have hJ4:=Iw.out O pre w9 (O++v4.ownBlock.toList) w4 JL (Only.ax b4) (fun y hy=>(List.mem_append.1 hy).imp id (fun hm=>(yA.lt (Option.mem_toList.1 hm)).1)) (fun y hy=>(List.mem_append.1 hy).elim (fun hm=>((BA.out _ _ _ JL).2.2 y hm).2.ext b4) (fun hm=>yA.Iv (Option.mem_toList.1 hm)));obtain⟨fn,tmps,assign,body,hy,hR⟩:=HY.out (O++v4.ownBlock.toList) pre (x',0) w4 hJ4 (by rw[HLb.out];exact List.prefix_append _ _);try dsimp only[DP]at hy));refine hR.mono ?_;rintro e W5 (⟨rfl,Uz,QE⟩|⟨rfl,UA⟩)
   ·have X4 := R9.ext b4
    have X5:Has W5 bx (.cells (aR x').toArray 41):=(QE bx (List.mem_append_left _ JK)).trans X4;have T5:dw W5 W.heap.size (.slice (some ⟨gr,0,none⟩) t'.reverse.length cap) t'.reverse:=
     ((O_.out.pop.only O9 (fun g hg=>by injection hg with hg;subst hg;simpa using QC.2)).ext b4).keep (fun g hg=>by injection hg with hg;subst hg;exact QE _ (List.mem_append_left _ QC.1))
    have L5:=yA.keep (fun g hg=>QE g (List.mem_append_right _ (Option.mem_toList.2 hg)));have YF:∀g,v4.ownBlock=some g->w9.heap.size<=g:=fun g hg=>(yA.lt hg).1
    have abc:gr<w9.heap.size:=Nat.lt_of_lt_of_le MQ.lt O9.size;obtain⟨O4,MR⟩:=zE (O++v4.ownBlock.toList);have abd:bx∈O4:=by rw[MR];exact List.mem_append_left _ JK
    have abe:gr∈O4:=by rw[MR];exact List.mem_append_left _ QC.1
    have abf:∀g,v4.ownBlock=some g->g∈O4:=fun g hg=>by rw[MR];exact List.mem_append_right _ (Option.mem_toList.2 hg)
    rw [<-MR]at Uz;obtain ⟨A4,c4,Wi,YG,acC,_,_⟩:=yA.at_;obtain⟨n4,CH⟩:=zE l4.length;rw [<-CH]at Wi YG;have hl5:=sO.out;rw [<-CH]at hl5;have MS:=zH CH;have HV4:=zH Wi;have abg:=zH YF;have VN:=zH L5;have HT5:=zH T5;have JM:=zH X5;have HJ5:=zH Uz;have n41:=hl5.1;have wn:IntKind.i64.wrap ((n4:Int)-1)=(n4:Int)-1:=IntWalk.i64_in _ (by omega);have t'l:Hid (t'.reverse.length=T'):=by show _=_;rw[List.length_reverse];exact QD.out.symm
    have p4:(0:Int)<=(n4:Int):=Int.natCast_nonneg _;clear CH YF yA T5 X5 X4 Uz L5 MR hy hR hJ4 JL P9 k0 k1 k2 z0 z1 y0 y1 y2 y3 yz u0 u1 u2 u3 uz R9 QE hl5 q0 q1 q2 q3 qz KS;subst Wi;gi_wp2;gi_loopw [8,10] (fun vt vi JN=>∃(p:Nat) (O2:List Nat),vi=.int .i64 ((p:Int)-1)/\p<=n4/\J O2 (pre++[(x',0)]) JN/\bx∈O2/\(∀g,(Value.slice A4 n4 c4).ownBlock=some g->g∈O2)/\Has JN bx (.cells (aR x').toArray 41)/\dw JN w9.heap.size (.slice A4 n4 c4) l4/\dw JN W.heap.size vt (t'.reverse++(l4.drop p).reverse)/\(∀g,vt.ownBlock=some g->g∈O2/\g≠bx/\(Value.slice A4 n4 c4).ownBlock≠some g)) (fun _ vi _=>(intOf vi+1).toNat)
    case atStart =>
     refine ⟨n4,O4,rfl,Nat.le_refl _,HJ5.out,abd,abf,JM.out,VN.out,?_,fun g hg=>?_⟩
     ·rw [show l4.drop n4=[] by rw[MS.out,List.drop_length],List.reverse_nil,List.append_nil]
      have:=HT5.out;rw [t'l.out]at this;exact this
     ·injection hg with hg
      subst hg;exact ⟨abe,QC.2,fun e=>absurd (abg.out _ e) (Nat.not_le.2 abc)⟩
    case round =>
     obtain ⟨p,O2,DT,hp,Wj,Ib,UB,hX6,YH,JO,MT⟩:=hrel;rcases p with _|p
     ·have vA:u10=.int .i64 (-1):=DT
      subst vA;have HJ6:=zH Wj;have UC:=zH hX6;have Wk:=zH JO;have HW6:=zH MT;clear DT Wj hX6 YH JO MT UB;gi_wp2;gi_roundg (l2.length+1)
      case measure=>rw[HM.out,PZ.out.1];simp
      case rel =>
       refine ⟨e3,l4++t',x',O2,pre++[(x',0)],rfl,HJ6.out,Ib,UC.out,?_,fun g hg=>⟨(HW6.out g hg).1,(HW6.out g hg).2.1⟩,?_,fun y hy=>?_,.inl ⟨tL.out,hd,l2,PZ.out.2,HLb.out,rfl⟩⟩
       ·have:=Wk.out
        rw [List.drop_zero]at this;rw [List.reverse_append];exact this
       ·have:=MS.out
        have:=QD.out;rw [List.length_append,List.length_append,List.length_singleton];omega
       ·rw [List.length_append,List.length_singleton]
        rcases List.mem_append.1 hy with hm|hm
        ·have:=sO.out.2 y hm
         omega
        ·have:=Uy.out y (List.mem_cons_of_mem _ hm)
         omega
     ·have vA:u10=.int .i64 (p:Int):=by rw[DT];simp
      subst vA;have hpl:p<l4.length:=by have:=MS.out;omega
      obtain ⟨gl,hA4⟩:∃gl,A4=some ⟨gl,0,none⟩:=by
       rcases YH.cases with⟨_,h2⟩|⟨gl,_,_,h2,_⟩
       ·rw[h2]at hpl;simp at hpl
       ·injection h2 with h2;exact⟨gl,h2⟩
      subst hA4;obtain ⟨xN,TX⟩:(∀j,j<4->wr.cell? ⟨gl,p*4+j,none⟩=(aR l4[p])[j]?)/\gl<wr.heap.size:=by
       rcases YH.cases with⟨h1,_⟩|⟨gl',_,_,h2,_,h3,_,_,h4⟩
       ·cases h1
       ·injection h2 with h2
        injection h2 with h2;injection h2 with h2;subst h2;exact ⟨h4 p hpl,h3.lt⟩
      have ET:Hid (t'.reverse++(l4.drop p).reverse=(t'.reverse++(l4.drop (p+1)).reverse)++[l4[p]]):=by
       show _=_;rw [List.drop_eq_getElem_cons hpl,List.reverse_cons,List.append_assoc]
      obtain⟨y,Gt⟩:=zE (l4[p]);rw [<-Gt]at xN ET;have q0:wr.cell? ⟨gl,p*4,none⟩=some (.int .i64 y.dir):=xN 0 (by decide);have q1:wr.cell? ⟨gl,p*4+1,none⟩=some (.string (bs y.name)):=xN 1 (by decide);have q2:wr.cell? ⟨gl,p*4+2,none⟩=some (.int .i64 y.no):=xN 2 (by decide);have q3:wr.cell? ⟨gl,p*4+3,none⟩=some (.int .i64 y.depth):=xN 3 (by decide);have r0:(0:Int)<=(p:Int):=Int.natCast_nonneg _;have r1:(p:Int)<(n4:Int):=by omega
      have r2:IntKind.i64.wrap ((p:Int)-1)=(p:Int)-1:=IntWalk.i64_in _ (by omega);have Qc:(t'.reverse++(l4.drop (p+1)).reverse).length<=2000000:=by
       have:=MS.out;have:=QD.out;rw [List.length_append,List.length_reverse,List.length_reverse,List.length_drop];omega
      have YI:W.heap.size<=wr.heap.size:=(BA.out _ _ _ Wj).2.1;obtain ⟨v',w',hr,CE,hg,BB⟩:=qI wr JO YI y Qc;have HR:=zH hr;have o6:Only u8.ownBlock.toList wr w':=(Only.jw _ _ _).then (Only.of_grownBy hg (fun g hv=>Option.mem_toList.2 hv));have hB6:∀y∈O2,fW wr y:=fun y hy=>((BA.out _ _ _ Wj).2.2 y hy).2
      have UD:∀y∈O2,y<wr.heap.size:=fun y hy=>(hB6 y hy).lt
      obtain⟨O3,wF⟩:=zE ((O2.filter fun y=>decide (y∉u8.ownBlock.toList))++v'.ownBlock.toList);have UE:∀y,y∈O3->(y∈O2/\y∉u8.ownBlock.toList)\/v'.ownBlock=some y:=fun y hy=>by
       rw [wF]at hy;rcases List.mem_append.1 hy with hm|hm
       ·rw[List.mem_filter,decide_eq_true_eq]at hm;exact .inl hm
       ·exact .inr (Option.mem_toList.1 hm)
      have UF:∀y,y∈O2->u8.ownBlock≠some y->y∈O3:=fun y hy hn=>by
       rw [wF];exact List.mem_append_left _ (List.mem_filter.2 ⟨hy,by rw[decide_eq_true_eq];exact fun hm=>hn (Option.mem_toList.1 hm)⟩)
      have FQ:∀g',v'.ownBlock=some g'->(u8.ownBlock=some g')\/g'=wr.heap.size+1:=fun g' hg'=>by
       rcases BB with e|e
       ·rw[e]at hg';exact .inl hg'
       ·rw[e]at hg';injection hg' with hg';exact .inr hg'.symm
      have hJ7:J O3 (pre++[(x',0)]) w':=Iw.out O2 _ wr _ w' Wj (o6.mono (fun y hy=>(MT y (Option.mem_toList.1 hy)).1)) (fun y hy=>by
        rcases UE y hy with hm|hm
        ·exact .inl hm.1
        ·rcases FQ y hm with e|e
         ·exact .inl (MT y e).1
         ·exact .inr (by omega)) (fun y hy=>by
        rcases UE y hy with hm|hm
        ·exact (hB6 y hm.1).keep (o6.block y (UD y hm.1) hm.2)
        ·exact CE.Iv hm)
      have hX7:=o6.has hX6 (fun hm=>(MT bx (Option.mem_toList.1 hm)).2.1 rfl);have OI:=YH.only o6 (fun g hv hm=>(MT g (Option.mem_toList.1 hm)).2.2 hv);have Xx:∀g',v'.ownBlock=some g'->g'∈O3/\g'≠bx/\(Value.slice (some ⟨gl,0,none⟩) n4 c4).ownBlock≠some g':=fun g' hg'=>by
       refine ⟨by rw[wF];exact List.mem_append_right _ (Option.mem_toList.2 hg'),?_,?_⟩
       ·rcases FQ g' hg' with e|e
        ·exact (MT g' e).2.1
        ·have:=UD bx Ib;omega
       ·rcases FQ g' hg' with e|e
        ·exact (MT g' e).2.2
        ·intro e2
         have e3:some gl=some g':=e2;injection e3 with e3;omega
      have HJ7:=zH hJ7;have HX7:=zH hX7;have Xo:=zH OI;have UG:=zH CE;have HW7:=zH Xx;have HV6:=zH (fun g (hv:(Value.slice (some ⟨gl,0,none⟩) n4 c4).ownBlock=some g)=>UF g (UB g hv) (fun e=>(MT g e).2.2 hv));have HB7:=zH (UF bx Ib (fun e=>(MT bx e).2.1 rfl));clear DT Wj hX6 YH JO MT UB hr CE hg BB FQ o6 hJ7 hX7 OI Xx xN Gt UD hB6 UE UF wF;gi_wp2_with (gi_at_builtin;refine j8 _ rfl _ _ 39 39 rfl _ _ rfl rfl _ _ HR.out ?_);go_roundw
      case rel=>exact⟨p,_,rfl,by omega,HJ7.out,HB7.out,HV6.out,HX7.out,Xo.out,by rw[ET.out];exact UG.out,HW7.out⟩
      case measure=>simp[intOf]
   ·gi_wp2
    refine bodyPost_ret (results_none rfl _ _ _) rfl ?_;exact ⟨⟨_,rfl⟩,.inr ⟨_,by rw[HLb.out];exact List.prefix_append _ _,UA⟩⟩
end
end Go.Proofs.YtpibnfdolojpcaaGreat
