import Derived.Test.YtpibnfdolojpcaaGreatBunN
import Derived.Sort.CutIn
set_option maxHeartbeats 16000000
set_option maxRecDepth 100000
namespace Go.Proofs.YtpibnfdolojpcaaGreat
section
open Go.ChangeShapes Go.WideShapes Go.ChangeAt Go.RowKit
attribute [local go_sem] Oper.semAt_some
theorem IA {l:List aj} {b:aj} {e:Int} (h:∀y∈told l b e,y.2=0):e=0/\(told l b e).map (·.1)=l:=by
 have he:e=0:=by
  by_cases he:e=0
  ·exact he
  ·exact h (b,e) (by unfold told;rw[if_neg he];simp)
 refine ⟨he,?_⟩;unfold told;rw [if_pos he,List.append_nil,List.map_map];exact List.map_id _
theorem IB {l:List aj} {b:aj} {e:Int} {pre:List (aj×Int)} {y:aj×Int} (h:pre++[y] <+: told l b e) (hy:y.2≠0):y=(b,e)/\e≠0/\pre=l.map fun x=>(x,0):=by
 by_cases he:e=0
 ·exfalso
  obtain ⟨t,ht⟩:=h;have hm:y∈told l b e:=by rw[<-ht];simp
  unfold told at hm;rw [if_pos he,List.append_nil,List.mem_map]at hm;obtain ⟨x,_,rfl⟩:=hm;exact hy rfl
 ·unfold told at h
  rw [if_neg he]at h;rcases List.prefix_concat_iff.1 h with h1|h1
  ·have:=List.append_inj' h1 rfl
   refine ⟨?_,he,this.1⟩;have h2:=this.2;injection h2
  ·exfalso
   obtain ⟨t,ht⟩:=h1;have hm:y∈l.map fun x=>(x,(0:Int)):=by rw[<-ht];simp
   rw [List.mem_map]at hm;obtain ⟨x,_,rfl⟩:=hm;exact hy rfl
theorem QF (F:Fence) (n:Nat) (hf:F.fn 41) (hro:F.round=none) (b:Nat) (cu cg dir:Int) (nm:List UInt8) (w:World) :
  CallsIn F n Tryz.prog 41 #[.pointer (some ⟨b,0,none⟩),.agg #[cu,cg],.int .i64 dir,bs nm] w fun e w' =>
   e = .returned (.func (.func 86) #[] #[.pointer (some ⟨w.heap.size,0,none⟩),.pointer (some ⟨w.heap.size+1,0,none⟩),.pointer (some ⟨w.heap.size+2,0,none⟩),.pointer (some ⟨w.heap.size+3,0,none⟩)])/\zg w' w.heap.size b cu cg dir nm/\Ext w w'/\w'.heap.size=w.heap.size+4:=by
 refine callsIn_of_wp Tryz.func41 rfl hf ?_ hro;simp only[Tryz.ntmps41,List.size_toArray,List.length_cons,List.length_nil,Nat.reduceAdd,Nat.reduceSub,Array.replicate_succ,Array.replicate_zero,List.push_toArray,List.append_toArray,List.nil_append,List.cons_append];gi_wp2;go_ret;have h1:=Has.new w (.cells #[.pointer (some ⟨b,0,none⟩)] 33);have h2:=Has.new (w.alloc (.cells #[.pointer (some ⟨b,0,none⟩)] 33)) (.cells #[cu,cg] 27);have h3:=Has.new ((w.alloc (.cells #[.pointer (some ⟨b,0,none⟩)] 33)).alloc (.cells #[cu,cg] 27)) (.cells #[.int .i64 dir] 3);have h4:=Has.new (((w.alloc (.cells #[.pointer (some ⟨b,0,none⟩)] 33)).alloc (.cells #[cu,cg] 27)).alloc (.cells #[.int .i64 dir] 3)) (.cells #[bs nm] 9);simp only[World.size_alloc]at h2 h3 h4;exact ⟨rfl,⟨((h1.alloc _).alloc _).alloc _,(h2.alloc _).alloc _,h3.alloc _,h4⟩,((((Ext.refl w).alloc _).alloc _).alloc _).alloc _,by simp⟩
theorem zg.only {V V':World} {k b:Nat} {cu cg dir:Int} {nm:List UInt8} {L:List Nat} (h:zg V k b cu cg dir nm) (o:Only L V V') (hL:∀x∈L,x<k\/k+3<x):zg V' k b cu cg dir nm:=by
 obtain ⟨h1,h2,h3,h4⟩:=h;exact ⟨o.has h1 fun hm=>by have:=hL _ hm;omega,o.has h2 fun hm=>by have:=hL _ hm;omega,o.has h3 fun hm=>by have:=hL _ hm;omega,o.has h4 fun hm=>by have:=hL _ hm;omega⟩
end
section
open Go.ChangeShapes Go.WideShapes Go.ChangeAt Go.RowKit
abbrev ou:=aj×Value
abbrev IC (x:ou):List Value:=[.int .i64 x.1.dir,.string (bs x.1.name),.int .i64 x.1.no,.int .i64 x.1.depth,x.2]
def iP (l:List ou):List Value:=l.flatMap IC
theorem jf (l:List ou):(iP l).length=l.length*5:=by
 unfold iP
 induction l with
 | nil=>rfl
 | cons x l ih=>rw[List.flatMap_cons,List.length_append,ih];simp;omega
theorem jx (a b:List ou):iP (a++b)=iP a++iP b:=by unfold iP;rw[List.flatMap_append]
theorem BC (l:List ou):∀k,(h:k<l.length)->∀j,j<5->(iP l)[k*5+j]?=(IC l[k])[j]?:=by
 induction l with
 | nil=>intro k h;cases h
 | cons x l ih =>
  intro k h j hj;have e:iP (x::l)=IC x++iP l:=rfl;rw [e]
  cases k with
  | zero =>
   simp only[Nat.zero_mul,Nat.zero_add,List.getElem_cons_zero];rw [List.getElem?_append_left (by simpa using hj)]
  | succ k =>
   have:=ih k (by simpa using h) j hj;rw [List.getElem?_append_right (by simp;omega)];simp only[List.length_cons,List.length_nil,List.getElem_cons_succ];rw [show (k+1)*5+j-(0+1+1+1+1+1)=k*5+j by omega];exact this
theorem QG:(Tryz.prog.info? 144).map (fun i=>(i.zero,i.size,i.bytes))=some (some (.agg #[.int .i64 0,.string ⟨#[]⟩,.int .i64 0,.int .i64 0,.slice none 0 0]),5,64):=by kernel_rfl
def jC (w:World) (base:Nat) (v:Value) (l:List ou):Prop:=w.ownsRow base 144 5 v l.length (iP l)
theorem jC.cases {w:World} {base:Nat} {v:Value} {l:List ou} (h:jC w base v l) :
  (v=.slice none 0 0/\l=[])\/∃g cap cur,v=.slice (some ⟨g,0,none⟩) l.length cap/\base<=g/\Has w g (.cells cur 144)/\l.length<=cap/\cap<=maxLen/\∀k,(h:k<l.length)->∀j,j<5->w.cell? ⟨g,k*5+j,none⟩=(IC l[k])[j]?:=by
 rcases h.2 with⟨e,h0⟩|⟨g,cap,cur,rfl,hb,hg,hn,hm,hs,ht⟩
 ·exact .inl ⟨e,List.eq_nil_of_length_eq_zero h0⟩
 ·refine .inr ⟨g,cap,cur,rfl,hb,hg,hn,hm,fun k hk j hj=>?_⟩
  have:=World.ownsRow.cellAt h (k*5+j) (by omega);rw [this];exact BC l k hk j hj
theorem jC.ext {w w':World} {base:Nat} {v:Value} {l:List ou} (h:jC w base v l) (k:Ext w w'):jC w' base v l:=World.ownsRow.kept h k.grownBy (by cases v.ownBlock<;>simp)
theorem jC.only {w w':World} {base:Nat} {v:Value} {l:List ou} {L:List Nat} (h:jC w base v l) (o:Only L w w') (hn:∀g,v.ownBlock=some g->g∉L):jC w' base v l:=au h o hn
theorem jC.keep {w w':World} {base:Nat} {v:Value} {l:List ou} (h:jC w base v l) (hk:∀g,v.ownBlock=some g->w'.heap[g]?=w.heap[g]?):jC w' base v l:=by
 refine ⟨h.1,?_⟩;rcases h.2 with e|⟨g,cap,cur,rfl,hb,hg,h1,h2,h3,h4⟩
 ·exact .inl e
 ·exact .inr ⟨g,cap,cur,rfl,hb,(hk g rfl).trans hg,h1,h2,h3,h4⟩
theorem jC.tag {w:World} {base g:Nat} {v:Value} {l:List ou} (h:jC w base v l) (hv:v.ownBlock=some g):dO w g 144:=by
 rcases h.2 with⟨rfl,_⟩|⟨g',cap,cur,rfl,hb,hg,_⟩
 ·cases hv
 ·injection hv with hv
  subst hv;exact ⟨_,_,hg⟩
theorem jC.Iv {w:World} {base g:Nat} {v:Value} {l:List ou} (h:jC w base v l) (hv:v.ownBlock=some g):fW w g:=⟨_,h.tag hv,by decide,by decide⟩
theorem jC.pop {w:World} {base:Nat} {g cap:Nat} {l:List ou} {x:ou} (h:jC w base (.slice (some ⟨g,0,none⟩) (l++[x]).length cap) (l++[x])):jC w base (.slice (some ⟨g,0,none⟩) l.length cap) l:=by
 refine ⟨by rw[jf],?_⟩;rcases h.2 with⟨e,_⟩|⟨g',cap',cur,hv,hb,hg,hn,hm,hs,ht⟩
 ·cases e
 ·injection hv with h1 h2 h3
  injection h1 with h1;injection h1 with h1;subst h1;subst h3;refine .inr ⟨g,cap,cur,rfl,hb,hg,by rw[List.length_append]at hn;omega,hm,hs,?_⟩;have e:cur.toList.take (l.length*5)=(cur.toList.take ((l++[x]).length*5)).take (l.length*5):=by rw[List.take_take];congr 1;rw[List.length_append];omega
  rw [e,ht,jx,List.take_left' (jf l)]
theorem jC.QH {w:World} {base:Nat} {g cap:Nat} {l:List ou} {x:aj} {v0:Value} (v:Value) (h:jC w base (.slice (some ⟨g,0,none⟩) (l++[(x,v0)]).length cap) (l++[(x,v0)])) :
  jC (w.setCell ⟨g,l.length*5+4,none⟩ v) base (.slice (some ⟨g,0,none⟩) (l++[(x,v)]).length cap) (l++[(x,v)]):=by
 refine ⟨by rw[jf],?_⟩;rcases h.2 with⟨e,_⟩|⟨g',cap',cur,hv,hb,hg,hn,hm,hs,ht⟩
 ·cases e
 ·injection hv with h1 h2 h3
  injection h1 with h1;injection h1 with h1;subst h1;subst h3;have hl:(l++[(x,v0)]).length=l.length+1:=by simp
  have hl':(l++[(x,v)]).length=l.length+1:=by simp
  have Hg:Has w g (.cells cur 144):=hg;have hlt:l.length*5+4<cur.size:=by
   have:=congrArg List.length ht;rw [jf,List.length_take,hl,Array.length_toList]at this;omega
  refine .inr ⟨g,cap,cur.setIfInBounds (l.length*5+4) v,rfl,hb,?_,by rw[hl'] ;rw[hl]at hn;exact hn,hm,?_,?_⟩
  ·exact Has.setCell Hg _ v
  ·rw[Array.size_setIfInBounds];exact hs
  ·rw [hl']
   rw [hl]at ht;have e5:(l.length+1)*5=l.length*5+5:=by omega
   rw [e5]at ht|-;rw [Array.toList_setIfInBounds,List.take_set];rw [ht,jx,jx,List.set_append_right _ _ (by rw[jf];omega),jf];rw [show l.length*5+4-l.length*5=4 by omega];rfl
theorem QI (w:World) {base:Nat} {v:Value} {l:List ou} (h:jC w base v l) (hb:base<=w.heap.size) (x:ou) (hx:x.2.oneCell'=true) (hl:l.length<=2000000) :
  ∃ v' w',(Builtin.append_ #[145,145] 145 #[v,.slice (some ⟨w.heap.size,0,none⟩) 1 1]).run Tryz.prog (w.alloc (.cells (IC x).toArray 144))=.ok v' w'/\jC w' base v' (l++[x])/\(w.alloc (.cells (IC x).toArray 144)).grownBy w' v.ownBlock/\(v'.ownBlock=v.ownBlock\/v'.ownBlock=some (w.heap.size+1)):=by
 have hN:=Has.new w (.cells (IC x).toArray 144);have E:Ext w (w.alloc (.cells (IC x).toArray 144)):=(Ext.refl _).alloc _;obtain ⟨i0,hi,hz0,hz1,hz2⟩:=info_parts QG;obtain ⟨v',w',hr,h3,h4,_,h5⟩:=run_append_own_at (P:=Tryz.prog) (w:=w.alloc (.cells (IC x).toArray 144)) base 145 145 144 i0 (.agg #[.int .i64 0,.string ⟨#[]⟩,.int .i64 0,.int .i64 0,.slice none 0 0]) 5 64 Tryz.underlying145 hi hz0 hz1 hz2 rfl (by decide) v l.length _ (h.ext E) ⟨w.heap.size,0,none⟩ 1 1 (IC x) rfl
  (by
   intro j u hu;rw [Addr.add_lit,Nat.zero_add];rw [hN.cell j];simpa using hu)
  (by
   intro u hu;simp only[List.mem_cons,List.not_mem_nil,or_false]at hu;rcases hu with rfl|rfl|rfl|rfl|rfl
   all_goals first|rfl|exact hx) (by unfold maxLen;omega) (by omega) (by simp;omega)
 refine ⟨v',w',hr,?_,h4,by rw[World.size_alloc]at h5;exact h5⟩;unfold jC;rw [jx,List.length_append];have e:iP [x]=IC x:=by unfold iP;simp
 rw [e];exact h3
def eO (w:World) (O:List Nat) (bx:Nat) (v:Value) (l:List aj):Prop:=
 ∃ A cap,v=.slice A l.length cap/\l.length<=cap/\cap<=maxLen/\((A=none/\l=[])\/∃g o,A=some ⟨g,o,none⟩/\g∈O/\g≠bx/\dO w g 41/\∀k,(h:k<l.length)->∀j,j<4->w.cell? ⟨g,o+k*4+j,none⟩=(aR l[k])[j]?)
theorem eO.of {w:World} {O:List Nat} {bx base:Nat} {v:Value} {l:List aj} (h:dw w base v l) (hO:∀g,v.ownBlock=some g->g∈O/\g≠bx):eO w O bx v l:=by
 rcases h.cases with⟨rfl,rfl⟩|⟨g,cap,cur,rfl,hb,hg,hn,hm,hc⟩
 ·exact⟨none,0,rfl,Nat.le_refl _,by decide,.inl ⟨rfl,rfl⟩⟩
 ·exact⟨_,cap,rfl,hn,hm,.inr ⟨g,0,rfl,(hO g rfl).1,(hO g rfl).2,⟨_,_,hg⟩,fun k hk j hj=>by rw[Nat.zero_add];exact hc k hk j hj⟩⟩
theorem jg {w w':World} {g:Nat} (h:w'.heap[g]?=w.heap[g]?) (o:Nat):w'.cell? ⟨g,o,none⟩=w.cell? ⟨g,o,none⟩:=by
 simp only[World.cell?,h]
theorem eO.keep {w w':World} {O O':List Nat} {bx:Nat} {v:Value} {l:List aj} (h:eO w O bx v l) (hk:∀g∈O,g≠bx->dO w g 41->g∈O'/\w'.heap[g]?=w.heap[g]?):eO w' O' bx v l:=by
 obtain ⟨A,cap,rfl,h1,h2,h3⟩:=h;refine ⟨A,cap,rfl,h1,h2,?_⟩;rcases h3 with h3|⟨g,o,rfl,h4,h5,h6,h7⟩
 ·exact .inl h3
 ·obtain ⟨k1,k2⟩:=hk g h4 h5 h6
  refine .inr ⟨g,o,rfl,k1,h5,?_,fun k hk j hj=>(jg k2 _).trans (h7 k hk j hj)⟩;obtain ⟨c,f,h⟩:=h6;exact ⟨c,f,k2.trans h⟩
theorem eO.tail {w:World} {O:List Nat} {bx:Nat} {v:Value} {y:aj} {l:List aj} (h:eO w O bx v (y::l)) :
  ∃ g o cap,v=.slice (some ⟨g,o,none⟩) (l.length+1) cap/\l.length+1<=cap/\g<w.heap.size/\g∈O/\g≠bx/\dO w g 41/\w.cell? ⟨g,o,none⟩=some (.int .i64 y.dir)/\w.cell? ⟨g,o+1,none⟩=some (.string (bs y.name))/\w.cell? ⟨g,o+2,none⟩=some (.int .i64 y.no)/\w.cell? ⟨g,o+3,none⟩=some (.int .i64 y.depth) /\
   eO w O bx (.slice (if cap=1 then some ⟨g,o,none⟩ else some ⟨g,o+4,none⟩) l.length (cap-1)) l:=by
 obtain ⟨A,cap,rfl,h1,h2,h3⟩:=h;rcases h3 with⟨_,h3⟩|⟨g,o,rfl,h4,h5,h6,h7⟩
 ·cases h3
 ·have h0:0<(y::l).length:=by simp
  have hl:(y::l).length=l.length+1:=rfl;rw [hl]at h1;have hlt:g<w.heap.size:=by obtain⟨c,f,h⟩:=h6;exact (Array.getElem?_eq_some_iff.1 h).1
  refine ⟨g,o,cap,rfl,h1,hlt,h4,h5,h6,?_,?_,?_,?_,_,cap-1,rfl,by omega,by omega,?_⟩
  ·have:=h7 0 h0 0 (by decide);simpa using this
  ·have:=h7 0 h0 1 (by decide);simpa using this
  ·have:=h7 0 h0 2 (by decide);simpa using this
  ·have:=h7 0 h0 3 (by decide);simpa using this
  ·by_cases hc:cap=1
   ·rw [if_pos hc]
    have:l=[]:=List.eq_nil_of_length_eq_zero (by omega);subst this;exact .inr ⟨g,o,rfl,h4,h5,h6,fun k hk=>by cases hk⟩
   ·rw [if_neg hc]
    refine .inr ⟨g,o+4,rfl,h4,h5,h6,fun k hk j hj=>?_⟩;have:=h7 (k+1) (by simpa using hk) j hj;rw [show o+(k+1)*4+j=o+4+k*4+j by omega]at this;simpa using this
attribute [local go_sem] Oper.semAt_some
inductive DU (st:List (aj×Int)->av) (go:List (aj×Int)->Prop) (cu cg:Int):List (aj×Int)->List (aj×List aj)->Nat->List (aj×Int)->Prop where
 | nil (pre):DU st go cu cg pre [] 0 []
 | take {pre x way m L}:(go (pre++[(x,0)])->DU st go cu cg (pre++[(x,0)]) way m L)->DU st go cu cg pre ((x,[])::way) (m+1) ((x,0)::L)
 | push {pre x y left way m L}:jP (st pre) cu cg y=0->DU st go cu cg pre ((y,nr (st pre) cu cg y)::(x,left)::way) m L->DU st go cu cg pre ((x,y::left)::way) (m+1) L
 | bad {pre x y left way m}:jP (st pre) cu cg y≠0->DU st go cu cg pre ((x,y::left)::way) (m+1) [(y,jP (st pre) cu cg y)]
def UpT (st:List (aj×Int)->av) (go:List (aj×Int)->Prop) (cu cg dir:Int) (nm:List UInt8) (M:Nat) (L:List (aj×Int)):Prop:=
 (dp (st []) cu cg dir nm≠0/\L=[(cO (st []) cu cg dir nm,dp (st []) cu cg dir nm)]) \/
 (dp (st []) cu cg dir nm=0/\jP (st []) cu cg (cO (st []) cu cg dir nm)≠0/\L=[(cO (st []) cu cg dir nm,jP (st []) cu cg (cO (st []) cu cg dir nm))]) \/
 (dp (st []) cu cg dir nm=0/\jP (st []) cu cg (cO (st []) cu cg dir nm)=0/\DU st go cu cg [] [(cO (st []) cu cg dir nm,nr (st []) cu cg (cO (st []) cu cg dir nm))] M L)
theorem zi {c:Nat} {s:av} (h:eH c s) (cu cg:Int) (x:aj):(nr s cu cg x).length<=c:=by
 unfold nr sa;split
 ·exact Nat.zero_le _
 ·exact xM h.fE cu cg x
theorem su {s:av} {cu cg:Int} {x y:aj} (h:y∈nr s cu cg x):y.depth=x.depth+1:=by
 unfold nr sa at h;split at h
 ·cases h
 ·exact sZ h
theorem UH {c : Nat} (F:Fence) (hF:F=Fence.wide) (n:Nat) (hn:1<=n) (b:Nat) (st:List (aj×Int)->av) (go:List (aj×Int)->Prop) (k:Nat) (cu cg dir:Int) (nm:List UInt8) (M:Nat) (L:List (aj×Int))
  (hs:∀pre,pre <+: L->eH c (st pre)) (hc:c<=900) (hT:UpT st go cu cg dir nm M L) (hM:M<=100000) (w0:World) :
  Uq F n Tryz.prog 89 #[.pointer (some ⟨k,0,none⟩),.pointer (some ⟨k+1,0,none⟩),.pointer (some ⟨k+2,0,none⟩),.pointer (some ⟨k+3,0,none⟩)] DP (fun xs=>xs=L) (fun pre=>pre <+: L)
   (fun pre x=>pre++[x] <+: L) (fun pre V=>go pre/\(∃B g,PS V B b g (st pre))/\zg V k b cu cg dir nm) w0:=by
 intro lp J Jx W _ Ux Cw YA hY h0;have hro:F.round=none:=by rw[hF];rfl
 have hfn:F.fn 89:=by rw[hF];trivial
 have JA:F.fn 87:=by rw[hF];trivial
 have Pv:F.fn 88:=by rw[hF];trivial
 obtain⟨X,hX⟩:=zE (cO (st []) cu cg dir nm);obtain⟨e1,lF⟩:=zE (dp (st []) cu cg dir nm);have CF:∀(j:Nat) (u:World),(∃B g,PS u B b g (st []))->CallsIn F j Tryz.prog 87 #[.pointer (some ⟨b,0,none⟩),.agg #[cu,cg],.int .i64 dir,bs nm] u (aI u (.tuple #[.agg #[.int .i64 X.dir,bs X.name,X.no,.int .i64 X.depth],.int .i64 e1])):=by
  rw [hF,hX,lF];exact fun j u ⟨B,g,hu⟩=>callsIn_wide.2 (hu.first (hs [] List.nil_prefix) hc cu cg dir nm)
 have CI:Hid (∀(pre:List (aj×Int)),pre <+: L->∀(j:Nat) (u:World) (x:aj),0<=x.depth->x.depth<=1000000->(∃B g,PS u B b g (st pre))->CallsIn F j Tryz.prog 88 #[.pointer (some ⟨b,0,none⟩),.agg #[cu,cg],.agg #[.int .i64 x.dir,bs x.name,x.no,.int .i64 x.depth]] u (FL u (nr (st pre) cu cg x) (jP (st pre) cu cg x))):=by
  show ∀_ _ _ _ _,_;rw [hF];exact fun pre hp j u x h1 h2 ⟨B,g,hu⟩=>callsIn_wide.2 (hu.into (hs pre hp) hc cu cg x h1 h2)
 have DQ:X.depth=0:=by rw[hX];rfl
 unfold UpT at hT;rw [<-hX,<-lF]at hT;have HT:=zH hT;have HS:=zH hs;have MO:=zH DQ;have BA:=zH Ux;have Iw:=zH Cw;have HJX:=zH YA;have HY:=zH hY;clear hF hT hX lF hs DQ;obtain ⟨⟨_,YB,wI⟩,_,_⟩:=Ux _ _ _ h0;have k0:=wI.1.cell 0;have k1:=wI.2.1.cell 0;have k2:=wI.2.1.cell 1;have k3:=wI.2.2.1.cell 0;have k4:=wI.2.2.2.cell 0;have z0:=wI.1.lt;have z1:=wI.2.1.lt;have z2:=wI.2.2.1.lt;have z3:=wI.2.2.2.lt;have YC:=zH (CF (n-1) W YB);have H0:=zH h0;have hJ0:=h0;clear Ux Cw YA hY h0 CF YB;refine callsIn_of_wp Tryz.func89 rfl hfn ?_ hro;simp only[Tryz.ntmps89,List.size_toArray,List.length_cons,List.length_nil,Nat.reduceAdd,Nat.reduceSub,Array.replicate_succ,Array.replicate_zero,List.push_toArray,List.append_toArray,List.nil_append,List.cons_append];refine kv ?_;gi_upto_if 20 with (gi_at_call 87;refine YC.out.mono ?_;rintro e w1 ⟨rfl,b1⟩);obtain ⟨W2,cQ⟩:∃V,V=w1.alloc (.cells #[.int .i64 X.dir,bs X.name,X.no,.int .i64 X.depth] 41):=⟨_,rfl⟩;obtain ⟨bx,tg⟩:∃b,b=w1.heap.size:=⟨_,rfl⟩;have ra:Has W2 bx (.cells (aR X).toArray 41):=by rw[cQ,tg];exact Has.new w1 _
 have E2:Ext W W2:=by rw[cQ];exact b1.alloc _
 have YD:W.heap.size<=bx:=by have:=b1.size;omega
 have Cw:J [bx] [] W2:=Iw.out [] [] W [bx] W2 H0.out (Only.ax E2) (fun x hx=>by
   rw [List.mem_singleton]at hx;exact .inr (by omega)) (fun x hx=>by
   rw [List.mem_singleton]at hx;subst hx;exact fW.of ra (by decide) (by decide))
 rw [<-cQ,<-tg];clear cQ tg k0 k1 k2 k3 k4 z0 z1 z2 z3 b1 YC H0 E2 wI hJ0;gi_cut [7,8] from 19 (fun ve vl wc=>∃(e2:Int) (l2:List aj) (O:List Nat),ve=.int .i64 e2/\J O [] wc/\bx∈O/\Has wc bx (.cells (aR X).toArray 41)/\eO wc O bx vl l2/\l2.length<=900/\(∀z∈l2,z.depth=1) /\
  ((e2=0/\DU st go cu cg [] [(X,l2)] M L)\/(e2≠0/\L=[(X,e2)])))
 case first =>
  by_cases h1:e1=0
  ·subst h1
   obtain ⟨⟨_,P2,C2⟩,_⟩:=BA.out _ _ _ Cw;have k0:=C2.1.cell 0;have k1:=C2.2.1.cell 0;have k2:=C2.2.1.cell 1;have z0:=C2.1.lt;have z1:=C2.2.1.lt;have x0:=ra.cell 0;have x1:=ra.cell 1;have x2:=ra.cell 2;have x3:=ra.cell 3;have xz:=ra.lt;simp only[gA,gB,gC]at x0 x1 x2 x3;have CI0:=zH (CI.out [] List.nil_prefix (n-1) W2 X (by rw[MO.out];decide) (by rw[MO.out];decide) P2);have HJ:=zH Cw;have HX:=zH ra;clear Cw ra P2 C2 CI;gi_wp2_with (gi_at_call 88;refine CI0.out.mono ?_;rintro e w3 ⟨v3,rfl,wF,b3⟩);have X3:=HX.out.ext b3;have Cx:J ([bx]++v3.ownBlock.toList) [] w3:=Iw.out [bx] [] W2 _ w3 HJ.out (Only.ax b3) (fun y hy=>(List.mem_append.1 hy).imp id (fun hm=>(wF.lt (Option.mem_toList.1 hm)).1)) (fun y hy=>(List.mem_append.1 hy).elim (fun hm=>((BA.out _ _ _ HJ.out).2.2 y hm).2.ext b3) (fun hm=>wF.Iv (Option.mem_toList.1 hm)));gi_meet
   case rel =>
    refine ⟨_,_,_,rfl,Cx,by simp,X3,eO.of wF (fun g hg=>⟨List.mem_append_right _ (Option.mem_toList.2 hg),fun e=>?_⟩),Nat.le_trans (zi (HS.out [] List.nil_prefix) cu cg X) hc,fun z hz=>by rw[su hz,MO.out];rfl,?_⟩
    ·have:=(wF.lt hg).1
     have:=HX.out.lt;omega
    ·rcases HT.out with⟨h,_⟩|⟨_,h,h2⟩|⟨_,h,h2⟩
     ·exact absurd rfl h
     ·exact .inr ⟨h,h2⟩
     ·exact .inl ⟨h,h2⟩
  ·have t1:(e1 == 0)=false:=by simpa using h1
   have HX:=zH ra;have H1:=zH h1;clear ra CI h1;gi_wp2;gi_meet
   case rel =>
    refine ⟨_,[],[bx],rfl,Cw,by simp,HX.out,⟨none,0,rfl,Nat.le_refl _,by decide,.inl ⟨rfl,rfl⟩⟩,by simp,fun z hz=>(by cases hz),.inr ⟨H1.out,?_⟩⟩;rcases HT.out with⟨_,h⟩|⟨h,_⟩|⟨h,_⟩
    ·exact h
    ·exact absurd h H1.out
    ·exact absurd h H1.out
 case rest =>
  obtain ⟨e2,l2,O,rfl,hJ,JK,hX,hL,rh,YJ,hrest⟩:=hcut;clear Cw ra;have x0:=hX.cell 0;have x1:=hX.cell 1;have x2:=hX.cell 2;have x3:=hX.cell 3;have xz:=hX.lt;simp only[gA,gB,gC]at x0 x1 x2 x3;have HL:=zH hL;obtain ⟨A,cap,rfl,_⟩:=hL;have HR:=zH hrest;have JB:=zH hX;obtain⟨n2,tj⟩:=zE l2.length;rw [<-tj];rw [<-tj]at HL;have HD:=zH YJ;clear hrest hX tj YJ;gi_wp2;refine wpIn_label ?_;obtain ⟨W3,cj⟩:∃V,V=wc.alloc (.cells #[.int .i64 X.dir,bs X.name,X.no,.int .i64 X.depth,.slice A n2 cap] 144):=⟨_,rfl⟩;obtain ⟨br,DR⟩:∃b,b=wc.heap.size:=⟨_,rfl⟩;have E3:Ext wc W3:=by rw[cj];exact (Ext.refl _).alloc _
  have HR3:Has W3 br (.cells (IC (X,.slice A n2 cap)).toArray 144):=by rw[cj,DR];exact Has.new wc _
  have MP:W.heap.size<=br:=by have:=(BA.out _ _ _ hJ).2.1;omega
  have acD:br≠bx:=by omega
  have Cx:J (br::O) [] W3:=Iw.out O [] wc (br::O) W3 hJ (Only.ax E3) (fun x hx=>by
    rcases List.mem_cons.1 hx with rfl|hx
    ·exact .inr (by omega)
    ·exact .inl hx) (fun x hx=>by
    rcases List.mem_cons.1 hx with rfl|hx
    ·exact fW.of HR3 (by decide) (by decide)
    ·exact ((BA.out _ _ _ hJ).2.2 x hx).2.ext E3)
  have MH:=JB.out.ext E3;have wF:jC W3 W.heap.size (.slice (some ⟨br,0,none⟩) 1 1) [(X,.slice A n2 cap)]:=⟨rfl,.inr ⟨br,1,_,rfl,MP,HR3,Nat.le_refl _,by decide,rfl,rfl⟩⟩;have hL3:eO W3 (br::O) bx (.slice A n2 cap) l2:=HL.out.keep (fun g hg _ ht=>⟨List.mem_cons_of_mem _ hg,by obtain⟨_,_,h⟩:=ht;exact Below.block E3 g (Array.getElem?_eq_some_iff.1 h).1⟩);rw [<-cj,<-DR];have zI:=zH hL3;clear cj DR hJ HL JB E3 x0 x1 x2 x3 xz hL3;gi_wp2;gi_loopg [7,9] M (fun m ve vt wr=>∃(e2:Int) (fs:List (aj×Value×List aj)) (x:aj) (O:List Nat) (pre:List (aj×Int)),ve=.int .i64 e2/\J O pre wr/\bx∈O/\Has wr bx (.cells (aR x).toArray 41)/\jC wr W.heap.size vt (fs.map fun f=>(f.1,f.2.1)).reverse/\(∀g,vt.ownBlock=some g->g∈O)/\(∀f∈fs,eO wr O bx f.2.1 f.2.2) /\
   ((e2=0/\m<=M/\fs.length<=1+(M-m)/\(∀f∈fs,∀z∈f.2.2,0<=z.depth/\z.depth<=1+((M-m:Nat):Int))/\∃L1,DU st go cu cg pre (fs.map fun f=>(f.1,f.2.2)) m L1/\L=pre++L1)\/(e2≠0/\L=pre++[(x,e2)])))
  case atStart =>
   refine ⟨e2,[(X,.slice A n2 cap,l2)],X,_,[],rfl,Cx,List.mem_cons_of_mem _ JK,MH,wF,fun g hg=>by injection hg with hg;subst hg;exact List.mem_cons_self ..,fun f hf=>?_,?_⟩
   ·rw[List.mem_singleton]at hf;subst hf;exact zI.out
   ·rcases HR.out with⟨h1,h2⟩|⟨h1,h2⟩
    ·refine .inl ⟨h1,Nat.le_refl _,by simp,fun f hf z hz=>?_,L,h2,rfl⟩
     rw [List.mem_singleton]at hf;subst hf;have:=HD.out z hz;omega
    ·exact .inr ⟨h1,h2⟩
  case round =>
   clear Cx MH HR3 wF zI HR HD JK;obtain ⟨e3,fs,x,O1,pre,rfl,hJ,JK,hX,hO,hown,BD,hrest⟩:=hrel;obtain⟨fr,zB⟩:=zE ((fs.map fun f=>(f.1,f.2.1)).reverse);rw [<-zB]at hO;have yj:fr.length=fs.length:=by rw[zB,List.length_reverse,List.length_map]
   have x0:=hX.cell 0;have x1:=hX.cell 1;have x2:=hX.cell 2;have x3:=hX.cell 3;have xz:=hX.lt;simp only[gA,gB,gC]at x0 x1 x2 x3
   by_cases he:e3=0
   case neg =>
    have t2:(e3 == 0)=false:=by simpa using he
    have t3:(e3 != 0)=true:=by simpa using he
    have QJ:L=pre++[(x,e3)]:=by
     rcases hrest with⟨h1,_⟩|⟨_,h2⟩
     ·exact absurd h1 he
     ·exact h2
    have HL:=zH QJ;obtain ⟨fn,tmps,assign,body,hy,hR⟩:=HY.out O1 pre (x,e3) wr hJ (by rw[QJ];exact List.prefix_refl _)
    try dsimp only[DP]at hy
    obtain ⟨A9,c9,Wl⟩:∃A9 c9,u9=.slice A9 fr.length c9:=by
     rcases hO.cases with⟨rfl,h⟩|⟨g,cap,_,rfl,_⟩
     ·exact⟨_,_,by rw[h];rfl⟩
     ·exact⟨_,_,rfl⟩
    obtain⟨n9,hn9⟩:=zE fr.length;rw [<-hn9]at Wl;clear he hrest QJ hown hO BD yj zB hn9;subst Wl;gi_wp2;refine hR.mono ?_;rintro e W3 (⟨rfl,Cx,mq⟩|⟨rfl,tV⟩)
    ·gi_wp2
     simp only[Exit.noGoto];go_end0;exact ⟨⟨_,rfl⟩,.inl ⟨_,_,HL.out.symm,Cx⟩⟩
    ·gi_wp2
     simp only[Exit.noGoto];go_end0;exact ⟨⟨_,rfl⟩,.inr ⟨_,by rw[HL.out];exact List.prefix_refl _,tV⟩⟩
   obtain ⟨_,hmM,QK,oW,L1,hD,QJ⟩:e3=0/\gk<=M/\fs.length<=1+(M-gk)/\(∀f∈fs,∀z∈f.2.2,0<=z.depth/\z.depth<=1+((M-gk:Nat):Int))/\∃L1,DU st go cu cg pre (fs.map fun f=>(f.1,f.2.2)) gk L1/\L=pre++L1:=by
    rcases hrest with h1|⟨h1,_⟩
    ·exact h1
    ·exact absurd he h1
   subst he;clear hrest;rcases fs with _|⟨⟨x',v,left⟩,MU⟩
   ·have YE:L=pre:=by cases hD;rw[QJ,List.append_nil]
    have HL:=zH YE;obtain rfl:fr=[]:=List.eq_nil_of_length_eq_zero yj;obtain ⟨A9,c9,Wl⟩:∃A9 c9,u9=.slice A9 0 c9:=by
     rcases hO.cases with⟨rfl,h⟩|⟨g,cap,_,rfl,_⟩
     ·exact⟨_,_,rfl⟩
     ·exact⟨_,_,rfl⟩
    clear hD QJ YE oW hown hO BD x0 x1 x2 x3 xz zB yj QK;subst Wl;gi_wp2;go_end0;exact ⟨⟨_,rfl⟩,.inl ⟨_,by rw[HL.out];exact hJ⟩⟩
   have iy:pre <+: L:=by rw[QJ];exact List.prefix_append _ _
   obtain⟨fr',QL⟩:=zE ((MU.map fun f=>(f.1,f.2.1)).reverse);obtain⟨UI,MW⟩:=zE (MU.map fun f=>(f.1,f.2.2))
   have vZ:DU st go cu cg pre ((x',left)::UI) gk L1:=by rw[MW];exact hD
   have Yb:fr=fr'++[(x',v)]:=by rw[zB,QL,List.map_cons,List.reverse_cons]
   rw [Yb]at hO;obtain⟨T,hT⟩:=zE fr'.length;have hTf:T=MU.length:=by rw[hT,QL,List.length_reverse,List.length_map]
   have Iy:(fr'++[(x',v)]).length=T+1:=by rw[List.length_append,hT];rfl
   obtain ⟨gw,cw,cur,rfl,acE,VJ,acF,acG,hcell⟩:∃g cap cur,u9=.slice (some ⟨g,0,none⟩) (T+1) cap/\W.heap.size<=g/\Has wr g (.cells cur 144)/\T+1<=cap/\cap<=maxLen/\∀j,j<5->wr.cell? ⟨g,T*5+j,none⟩=(IC (x',v))[j]?:=by
    rcases hO.cases with⟨_,h2⟩|⟨g,cap,cur,h1,h2,h3,h4,h5,h6⟩
    ·simp at h2
    ·rw [Iy]at h1 h4
     refine ⟨g,cap,cur,h1,h2,h3,h4,h5,fun j hj=>?_⟩;have:=h6 T (by rw[Iy];omega) j hj;rw [List.getElem_append_right (by rw[hT];exact Nat.le_refl _)]at this;simpa [hT]using this
   have MX:gw∈O1:=hown gw rfl;have BF:gw≠bx:=fun e=>by
    subst e;have h1:wr.heap[gw]?=_:=VJ;have h2:wr.heap[gw]?=_:=hX;rw [h1]at h2;cases h2
   have q0:wr.cell? ⟨gw,T*5,none⟩=some (.int .i64 x'.dir):=hcell 0 (by decide);have q1:wr.cell? ⟨gw,T*5+1,none⟩=some (.string (bs x'.name)):=hcell 1 (by decide);have q2:wr.cell? ⟨gw,T*5+2,none⟩=some (.int .i64 x'.no):=hcell 2 (by decide);have q3:wr.cell? ⟨gw,T*5+3,none⟩=some (.int .i64 x'.depth):=hcell 3 (by decide);have q4:wr.cell? ⟨gw,T*5+4,none⟩=some v:=hcell 4 (by decide);have qz:=VJ.lt;have hTM:T<=M:=by rw[hTf];have:=QK;simp at this;omega
   have AY:IntKind.i64.wrap (T:Int)=(T:Int):=IntWalk.i64_in _ (by omega);have Wh:IntKind.i64.wrap ((T:Int)+1-1)=(T:Int):=by rw[IntWalk.i64_in _ (by omega)];omega
   have p0:(0:Int)<=(T:Int):=Int.natCast_nonneg _;have DS:∀y∈O1,fW wr y:=fun y hy=>((BA.out _ _ _ hJ).2.2 y hy).2
   have hlv:eO wr O1 bx v left:=BD _ (List.mem_cons_self ..);have hlf:∀f∈MU,eO wr O1 bx f.2.1 f.2.2:=fun f hf=>BD _ (List.mem_cons_of_mem _ hf)
   have lr:∀z∈left,0<=z.depth/\z.depth<=1+((M-gk:Nat):Int):=oW _ (List.mem_cons_self ..);have hdf:∀f∈MU,∀z∈f.2.2,0<=z.depth/\z.depth<=1+((M-gk:Nat):Int):=fun f hf=>oW _ (List.mem_cons_of_mem _ hf)
   have Su:MU.length<=M-gk:=by simp at QK;omega
   have HLV:=zH hlv;have HLF:=zH hlf;have Ij:=zH lr;have HDF:=zH hdf;have HFS:=zH Su;have HU:=zH vZ;have uF:=zH QJ;have O_:=zH hO;have HGW:=zH VJ;have JB:=zH hX;have Sv:=zH QL;have HW1:=zH MW;have HT1:=zH hT;have HTf:=zH hTf;have Wm:=zH DS;have HLR:=zH Iy;have abb:=zH hown;have YK:=zH iy;clear BD oW hD vZ zB yj Yb hlv hlf lr hdf QK Su QJ hO VJ hX QL MW hT hTf DS Iy hcell hown iy x0 x1 x2 x3;rcases left with _|⟨y,l'⟩
   ·
    obtain ⟨A5,c5,rfl,_⟩:=HLV.out;obtain ⟨m',L2,hm',Jz,hU⟩:∃m' L2,gk=m'+1/\L1=(x',0)::L2/\(go (pre++[(x',0)])->DU st go cu cg (pre++[(x',0)]) UI m' L2):=by
     have h:=HU.out
     cases h with
     | take h=>exact⟨_,_,rfl,rfl,h⟩
    subst hm' Jz;have HUU:=zH hU;have KS:Hid (∀w9,Has w9 bx (.cells (aR x').toArray 41)->Only [bx] wr w9->(J O1 pre w9/\w9.cell? ⟨bx,0,none⟩=some (.int .i64 x'.dir)/\w9.cell? ⟨bx,1,none⟩=some (.string (bs x'.name))/\w9.cell? ⟨bx,2,none⟩=some (.int .i64 x'.no)/\w9.cell? ⟨bx,3,none⟩=some (.int .i64 x'.depth)/\bx<w9.heap.size)):=by
     show ∀_,_;intro w9 R9 O9;exact ⟨Iw.out O1 pre wr O1 w9 hJ (O9.mono (by simpa using JK)) (fun y hy=>.inl hy) (fun y hy=>(Wm.out y hy).only O9 (fun z hz=>by rw[List.mem_singleton]at hz;subst hz;exact fW.of R9 (by decide) (by decide))),R9.cell 0,R9.cell 1,R9.cell 2,R9.cell 3,R9.lt⟩
    clear hU;simp only[List.length_nil]at q4;have YL:Hid (pre++[(x',0)] <+: L):=by show _ <+: _;rw[uF.out];exact⟨L2,by simp⟩
    gi_wp2_with (refine fH rfl _ _ rfl bx x x' rfl rfl JB.out ?_;intro w9 R9 O9;obtain⟨JL,y0,y1,y2,y3,yz⟩:=KS.out w9 R9 O9;obtain⟨fn,tmps,assign,body,hy,hR⟩:=HY.out O1 pre (x',0) w9 JL YL.out;try dsimp only[DP]at hy);refine hR.mono ?_;rintro e W5 (⟨rfl,Uz,QE⟩|⟨rfl,UA⟩)
    ·have X5:Has W5 bx (.cells (aR x').toArray 41):=(QE bx JK).trans R9
     have F5:jC W5 W.heap.size (.slice (some ⟨gw,0,none⟩) T cw) fr':=by
      have h:=O_.out;rw [<-HLR.out]at h;have h2:=h.pop;rw [<-HT1.out]at h2;exact (h2.only O9 (fun g hg=>by injection hg with hg;subst hg;simpa using BF)).keep (fun g hg=>by injection hg with hg;subst hg;exact QE _ MX)
     have L5:∀f∈MU,eO W5 O1 bx f.2.1 f.2.2:=fun f hf=>(HLF.out f hf).keep (fun g hg hn _=>⟨hg,(QE g hg).trans (O9.block g (Wm.out g hg).lt (by simpa using hn))⟩)
     have JM:=zH X5;have HF5:=zH F5;have VN:=zH L5;have HJ5:=zH Uz;have U5:=zH (HUU.out (BA.out _ _ _ Uz).1.1);clear X5 F5 L5 Uz JL R9 QE hy hR y0 y1 y2 y3 yz q0 q1 q2 q3 q4 qz hJ;gi_wp2;gi_roundg m'
     case measure=>exact Nat.lt_succ_self _
     case rel =>
      refine ⟨0,MU,x',O1,pre++[(x',0)],rfl,HJ5.out,JK,JM.out,by rw[<-Sv.out];exact HF5.out,fun g hg=>by injection hg with hg;subst hg;exact MX,VN.out,.inl ⟨rfl,by omega,by have:=HFS.out;omega,fun f hf z hz=>?_,L2,by rw[<-HW1.out];exact U5.out,by rw[uF.out,List.append_assoc];rfl⟩⟩;have:=HDF.out f hf z hz;omega
    ·gi_wp2
     simp only[Exit.noGoto];refine bodyPost_ret (results_none rfl _ _ _) rfl ?_;exact ⟨⟨_,rfl⟩,.inr ⟨_,YL.out,UA⟩⟩
   ·
    obtain ⟨gl,o,cl,rfl,hcl,TX,acH,acI,acJ,r0,r1,r2,r3,MY⟩:=HLV.out.tail;obtain⟨nl,lM⟩:=zE l'.length;rw [<-lM]at MY hcl q4;obtain⟨e9,he9⟩:=zE (jP (st pre) cu cg y);obtain⟨l4,sO⟩:=zE (nr (st pre) cu cg y);obtain ⟨m',hm',hU⟩:∃m',gk=m'+1/\((e9=0/\DU st go cu cg pre ((y,l4)::(x',l')::UI) m' L1)\/(e9≠0/\L1=[(y,e9)])):=by
     have h:=HU.out;rw [he9,sO]
     cases h with
     | push h1 h2=>exact⟨_,rfl,.inl ⟨h1,h2⟩⟩
     | bad h1=>exact⟨_,rfl,.inr ⟨h1,rfl⟩⟩
    subst hm';have HUU:=zH hU;have Gt:=Ij.out y (List.mem_cons_self ..);have CIy:=zH (fun (j:Nat) (u:World) (hu:∃B g,PS u B b g (st pre))=>CI.out pre YK.out j u y Gt.1 (by omega) hu);rw [<-he9,<-sO]at CIy;have abh:l4.length<=900:=by rw[sO];exact Nat.le_trans (zi (HS.out pre YK.out) cu cg y) hc
    have UJ:Hid (∀z∈l4,z.depth=y.depth+1):=by show ∀_∈_,_;rw[sO];exact fun z hz=>su hz
    have KS:Hid (∀w9,Has w9 bx (.cells (aR y).toArray 41)->Only [bx] wr w9->(w9.cell? ⟨gw,T*5+4,none⟩=some (.slice (some ⟨gl,o,none⟩) (nl+1) cl)/\w9.frozen? ⟨gw,T*5+4,none⟩=(decide (0<=T*5+4)&&decide (T*5+4<0))/\gw<w9.heap.size)):=by
     show ∀_,_;intro w9 R9 O9;have h9:Has w9 gw (.cells cur 144):=O9.has HGW.out (by simpa using BF);exact ⟨(jg (O9.block gw HGW.out.lt (by simpa using BF)) _).trans q4,h9.free _,h9.lt⟩
    have acK:1<=cl:=by omega
    have TC:=zH MY;have P_:=zH hcl;have H49:=zH (And.intro he9 sO);have HJ:=zH hJ;have YM:=zH lM;clear hU lM he9 sO MY hJ CI;gi_upto_region 10 with (refine fH rfl _ _ rfl bx x y rfl rfl JB.out ?_;intro w9 R9 O9;obtain⟨y4,f4,yz4⟩:=KS.out w9 R9 O9);obtain ⟨vt,hvt⟩:∃vt:Value,vt=.slice (if cl=1 then some ⟨gl,o,none⟩ else some ⟨gl,o+4,none⟩) nl (cl-1):=⟨_,rfl⟩;rw [<-hvt];have YN:=TC.out;rw [<-hvt]at YN;have acL:vt.oneCell'=true:=by rw[hvt];rfl
    obtain ⟨pO,ID⟩:∃V,V=w9.setCell ⟨gw,T*5+4,none⟩ vt:=⟨_,rfl⟩;rw [<-ID];have Sw:Only [bx,gw] wr pO:=by rw[ID];exact (O9.mono (by simp)).then ((Only.setCell w9 gw _ _).mono (by simp))
    have Sy:Has pO bx (.cells (aR y).toArray 41):=by rw[ID];exact (Only.setCell w9 gw _ _).has R9 (by simpa using Ne.symm BF)
    have G10:dO pO gw 144:=by rw[ID];exact⟨_,_,Has.setCell (O9.has HGW.out (by simpa using BF)) _ _⟩
    have YO:J O1 pre pO:=Iw.out O1 pre wr O1 pO HJ.out (Sw.mono (fun z hz=>by
      simp only[List.mem_cons,List.not_mem_nil,or_false]at hz;rcases hz with rfl|rfl
      ·exact JK
      ·exact MX)) (fun y hy=>.inl hy) (fun y hy=>(Wm.out y hy).only Sw (fun z hz=>by
      simp only[List.mem_cons,List.not_mem_nil,or_false]at hz;rcases hz with rfl|rfl
      ·exact fW.of Sy (by decide) (by decide)
      ·exact⟨_,G10,by decide,by decide⟩))
    have F10:jC pO W.heap.size (.slice (some ⟨gw,0,none⟩) (T+1) cw) (fr'++[(x',vt)]):=by
     have h:=O_.out;rw [<-HLR.out]at h;have h2:=(h.only O9 (fun g hg=>by injection hg with hg;subst hg;simpa using BF)).QH vt;have e:(fr'++[(x',vt)]).length=T+1:=by rw[List.length_append,HT1.out];rfl
     rw [e,<-HT1.out,<-ID]at h2;exact h2
    have K10:∀g∈O1,g≠bx->dO wr g 41->g∈O1/\pO.heap[g]?=wr.heap[g]?:=fun g hg hn ht=>⟨hg,Sw.block g (Wm.out g hg).lt (by
     intro hm;simp only[List.mem_cons,List.not_mem_nil,or_false]at hm;rcases hm with rfl|rfl
     ·exact hn rfl
     ·obtain ⟨c1,f1,h1⟩:=ht
      have h2:=HGW.out;unfold Has at h2;rw [h1]at h2
      cases h2)⟩
    have T10:eO pO O1 bx vt l':=YN.keep K10;have L10:∀f∈MU,eO pO O1 bx f.2.1 f.2.2:=fun f hf=>(HLF.out f hf).keep K10
    have Sz:∀y∈O1,fW pO y:=fun y hy=>((BA.out _ _ _ YO).2.2 y hy).2
    have S10:W.heap.size<=pO.heap.size:=(BA.out _ _ _ YO).2.1;obtain ⟨⟨_,MZ,Wn⟩,_⟩:=BA.out _ _ _ YO;have k0:=Wn.1.cell 0;have k1:=Wn.2.1.cell 0;have k2:=Wn.2.1.cell 1;have z0:=Wn.1.lt;have z1:=Wn.2.1.lt;have y0:=Sy.cell 0;have y1:=Sy.cell 1;have y2:=Sy.cell 2;have y3:=Sy.cell 3;have yz:=Sy.lt;simp only[gA,gB,gC]at y0 y1 y2 y3;have YP:=zH (fun j=>CIy.out j pO MZ);have abj:=zH YO;have abk:=zH F10;have abl:=zH T10;have abm:=zH L10;have BG:=zH Sy;have abn:=zH G10;have qJ:=zH Sz;clear hvt ID Sw Sy G10 YO F10 K10 T10 L10 MZ Wn YN y4 f4 yz4 R9 O9 q0 q1 q2 q3 q4 qz r0 r1 r2 r3 CIy Sz TC;gi_upto_region 11 with (gi_at_call 88;refine (YP.out _).mono ?_;rintro e w4 ⟨v4,rfl,yA,b4⟩);obtain ⟨A4,c4,rfl,hc4,_⟩:=yA.at_;have FR:=zH yA;obtain⟨n4,CH⟩:=zE l4.length;rw [<-CH]at hc4 FR|-;have R4:=BG.out.ext b4;have y0:=R4.cell 0;have y1:=R4.cell 1;have y2:=R4.cell 2;have y3:=R4.cell 3;have yz:=R4.lt;simp only[gA,gB,gC]at y0 y1 y2 y3;have hlen:(fr'++[(x',vt)]).length=T+1:=by rw[List.length_append,HT1.out];rfl
    obtain ⟨v6,w6,hr,JO,Wo,BB⟩:=QI w4 (abk.out.ext b4) (by have:=b4.size;omega) (y,.slice A4 n4 c4) rfl (by omega);have HR6:=zH hr;have o6:Only [gw] w4 w6:=(Only.jw _ _ _).then (Only.of_grownBy Wo (fun g hv=>by injection hv with hv;subst hv;simp));have J4:J (O1++(Value.slice A4 n4 c4).ownBlock.toList) pre w4:=Iw.out O1 pre pO _ w4 abj.out (Only.ax b4) (fun y hy=>(List.mem_append.1 hy).imp id (fun hm=>(FR.out.lt (Option.mem_toList.1 hm)).1)) (fun y hy=>(List.mem_append.1 hy).elim (fun hm=>(qJ.out y hm).ext b4) (fun hm=>FR.out.Iv (Option.mem_toList.1 hm)));have B4:∀z∈O1++(Value.slice A4 n4 c4).ownBlock.toList,fW w4 z:=fun z hz=>((BA.out _ _ _ J4).2.2 z hz).2
    have G4:dO w4 gw 144:=by
     obtain ⟨c1,f1,h1⟩:=abn.out;exact ⟨c1,f1,(Below.block b4 gw (Array.getElem?_eq_some_iff.1 h1).1).trans h1⟩
    obtain⟨O3,wF⟩:=zE (((O1++(Value.slice A4 n4 c4).ownBlock.toList).filter fun z=>decide (z≠gw))++v6.ownBlock.toList);have UF:∀z,z∈O1++(Value.slice A4 n4 c4).ownBlock.toList->z≠gw->z∈O3:=fun z hz hn=>by
     rw [wF];exact List.mem_append_left _ (List.mem_filter.2 ⟨hz,by simpa using hn⟩)
    have K4:∀g∈O1++(Value.slice A4 n4 c4).ownBlock.toList,g≠bx->dO w4 g 41->g∈O3/\w6.heap[g]?=w4.heap[g]?:=fun g hg hn ht=>by
     have hne:g≠gw:=fun e=>by
      subst e;obtain ⟨c1,f1,h1⟩:=ht;obtain ⟨c2,f2,h2⟩:=G4;rw [h1]at h2;cases h2
     exact ⟨UF g hg hne,o6.block g (B4 g hg).lt (by simpa using hne)⟩
    have J6 : J O3 pre w6:=Iw.out _ pre w4 O3 w6 J4 (o6.mono (fun z hz=>by rw[List.mem_singleton]at hz;subst hz;exact List.mem_append_left _ MX)) (fun z hz=>by
      rw [wF]at hz;rcases List.mem_append.1 hz with hm|hm
      ·exact .inl (List.mem_filter.1 hm).1
      ·rcases BB with e|e
       ·rw [e]at hm
        have bU:=Option.mem_toList.1 hm;injection bU with bU;subst bU;exact .inl (List.mem_append_left _ MX)
       ·rw [e]at hm
        have bU:=Option.mem_toList.1 hm;injection bU with bU;exact .inr (by omega)) (fun z hz=>by
      rw [wF]at hz;rcases List.mem_append.1 hz with hm|hm
      ·have h:=List.mem_filter.1 hm
       exact (B4 z h.1).keep (o6.block z (B4 z h.1).lt (by simpa using h.2))
      ·exact JO.Iv (Option.mem_toList.1 hm))
    have M0:∀v l,eO pO O1 bx v l->eO w6 O3 bx v l:=fun v l h=>h.keep (fun g hg hn ht=>by
     have e4:w4.heap[g]?=pO.heap[g]?:=Below.block b4 g (qJ.out g hg).lt;obtain ⟨c1,f1,h1⟩:=ht;obtain ⟨k1,k2⟩:=K4 g (List.mem_append_left _ hg) hn ⟨c1,f1,e4.trans h1⟩;exact ⟨k1,k2.trans e4⟩)
    have T6:eO w6 O3 bx vt l':=M0 _ _ abl.out;have L6:∀f∈MU,eO w6 O3 bx f.2.1 f.2.2:=fun f hf=>M0 _ _ (abm.out f hf)
    have N6:eO w6 O3 bx (.slice A4 n4 c4) l4:=(eO.of FR.out (O:=O1++(Value.slice A4 n4 c4).ownBlock.toList) (bx:=bx) (fun g hg=>⟨List.mem_append_right _ (Option.mem_toList.2 hg),fun e=>by have:=(FR.out.lt hg).1;have:=BG.out.lt;omega⟩)).keep K4;have X6:Has w6 bx (.cells (aR y).toArray 41):=o6.has R4 (by simpa using Ne.symm BF);have Ib:bx∈O3:=UF bx (List.mem_append_left _ JK) (Ne.symm BF);have YQ:∀g,v6.ownBlock=some g->g∈O3:=fun g hg=>by rw[wF];exact List.mem_append_right _ (Option.mem_toList.2 hg)
    have HJ6:=zH J6;have HT6:=zH T6;have HL6:=zH L6;have HN6:=zH N6;have UC:=zH X6;have Wk:=zH JO;have HW6:=zH YQ;clear CH yA R4 hr JO Wo BB o6 J4 B4 G4 wF UF K4 J6 M0 T6 L6 N6 X6 YQ hlen FR k0 k1 k2 z0 z1 YP;gi_wp2_with (gi_at_builtin;refine j8 _ rfl _ _ 145 145 rfl _ _ rfl rfl _ _ HR6.out ?_);gi_roundg m'
    case measure=>exact Nat.lt_succ_self _
    case rel =>
     refine ⟨e9,(y,.slice A4 n4 c4,l4)::(x',vt,l')::MU,y,O3,pre,rfl,HJ6.out,Ib,UC.out,?_,HW6.out,fun f hf=>?_,?_⟩
     ·have:=Wk.out
      rw [Sv.out]at this;simpa using this
     ·rcases List.mem_cons.1 hf with rfl|hf
      ·exact HN6.out
      ·rcases List.mem_cons.1 hf with rfl|hf
       ·exact HT6.out
       ·exact HL6.out f hf
     ·rcases HUU.out with⟨h1,h2⟩|⟨h1,h2⟩
      ·refine .inl ⟨h1,by omega,?_,fun f hf z hz=>?_,L1,by rw[<-YM.out]at *;simpa [HW1.out]using h2,uF.out⟩
       ·have:=HFS.out
        simp only[List.length_cons];omega
       ·rcases List.mem_cons.1 hf with rfl|hf
        ·have:=UJ.out z hz
         omega
        ·rcases List.mem_cons.1 hf with rfl|hf
         ·have:=Ij.out z (List.mem_cons_of_mem _ hz)
          omega
         ·have:=HDF.out f hf z hz
          omega
      ·exact .inr ⟨h1,by rw[uF.out,h2]⟩
end
end Go.Proofs.YtpibnfdolojpcaaGreat
