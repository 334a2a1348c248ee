import Derived.Test.YtpibnfdolojpcaaGreatBunN
import Derived.Sort.CutIn
set_option maxHeartbeats 16000000
set_option maxRecDepth 100000
namespace Go.Proofs.YtpibnfdolojpcaaGreat
open Go.Proofs.Tryz
open Go.ChangeShapes Go.WideShapes Go.ChangeAt Go.RowKit
variable {w w':World} {v:Value} {base g bx:Nat} {l:List au} {O:List Nat}
section
attribute [local go_sem] ol
theorem Qd {b:au} {e:Int} (h:∀y∈told l b e,y.2=0):e=0/\(told l b e).map (·.1)=l:=by
 have he:e=0:=by
  by_cases he:e=0
  ·exact he
  ·exact h (b,e) (by unfold told;rw[ac he];simp)
 refine⟨he,?_⟩;unfold told;rw[af he,iR,vW];exact DS _
theorem Qe {b:au} {e:Int} {pre:List (au×Int)} {y:au×Int} (h:pre++[y] <+: told l b e) (hy:y.2≠0):y=(b,e)/\e≠0/\pre=l.map fun x=>(x,0):=by
 by_cases he:e=0
 ·exfalso
  obtain⟨t,ht⟩:=h;have hm:y∈told l b e:=by rw[<-ht];simp
  unfold told at hm;rw[af he,iR,fH]at hm;obtain⟨x,_,rfl⟩:=hm;exact hy rfl
 ·unfold told at h
  rw[ac he]at h;rcases JF.1 h with h1|h1
  ·have:=JG h1 rfl
   refine⟨?_,he,this.1⟩;have h2:=this.2;injection h2
  ·exfalso
   obtain⟨t,ht⟩:=h1;have hm:y∈l.map fun x=>(x,(0:Int)):=by rw[<-ht];simp
   rw[fH]at hm;obtain⟨x,_,rfl⟩:=hm;exact hy rfl
theorem Yg (F:Fence) (n:Nat) (hf:F.fn 41) (hro:F.round=none) (b:Nat) (cu cg dir:Int) (nm:List UInt8) (w:World) :
  CallsIn F n prog 41 #[((),b),.agg #[cu,cg],dir,bs nm] w fun e w' =>
   e = .returned (.func (.func 86) #[] #[((),w.heap.size),.pointer (some ⟨w.heap.size+1,0,none⟩),.pointer (some ⟨w.heap.size+2,0,none⟩),.pointer (some ⟨w.heap.size+3,0,none⟩)])/\Fs w' w.heap.size b cu cg dir nm/\Ext w w'/\w'.heap.size=w.heap.size+4:=by
 refine uq func41 rfl hf ?_ hro;simp only[ntmps41,lA,bk,gj,Nat.reduceAdd,Nat.reduceSub,o_,pd,pg,ph,jG,oo];gi_wp2;go_ret;have h1:=Has.new w (.cells #[((),b)] 33);have h2:=Has.new (w.alloc (.cells #[((),b)] 33)) (.cells #[cu,cg] 27);have h3:=Has.new ((w.alloc (.cells #[((),b)] 33)).alloc (.cells #[cu,cg] 27)) (.cells #[dir] 3);have h4:=Has.new (((w.alloc (.cells #[((),b)] 33)).alloc (.cells #[cu,cg] 27)).alloc (.cells #[dir] 3)) (.cells #[bs nm] 9);simp only[bi]at h2 h3 h4;exact⟨rfl,⟨((h1.alloc _).alloc _).alloc _,(h2.alloc _).alloc _,h3.alloc _,h4⟩,((((Ext.refl w).alloc _).alloc _).alloc _).alloc _,by simp⟩
theorem Fs.only {V V':World} {k b:Nat} {cu cg dir:Int} {nm:List UInt8} {L:List Nat} (h:Fs V k b cu cg dir nm) (o:Only L V V') (hL:∀x∈L,x<k\/k+3<x):Fs V' k b cu cg dir nm:=by
 obtain⟨h1,h2,h3,h4⟩:=h;exact⟨o.has h1 fun hm=>by have:=hL _ hm;omega,o.has h2 fun hm=>by have:=hL _ hm;omega,o.has h3 fun hm=>by have:=hL _ hm;omega,o.has h4 fun hm=>by have:=hL _ hm;omega⟩
end
section
abbrev rY:=au×Value
abbrev Qf (x:rY):List Value:=[.int .i64 x.1.dir,.string (bs x.1.name),.int .i64 x.1.no,.int .i64 x.1.depth,x.2]
def ki (l:List rY):List Value:=l.flatMap Qf
theorem kN (l:List rY):(ki l).length=l.length*5:=by
 unfold ki
 induction l with
 | nil=>rfl
 | cons x l ih=>rw[yZ,aZ,ih];simp;omega
theorem li (a b:List rY):ki (a++b)=ki a++ki b:=by unfold ki;rw[y_]
theorem Ij (l:List rY):∀k,(h:k<l.length)->∀j,j<5->(ki l)[k*5+j]?=(Qf l[k])[j]?:=by
 induction l with
 | nil=>intro k h;cases h
 | cons x l ih =>
  intro k h j hj;have e:ki (x::l)=Qf x++ki l:=rfl;rw[e]
  cases k with
  | zero =>
   simp only[zl,eY,zm];rw[vY (by simpa using hj)]
  | succ k =>
   have:=ih k (by simpa using h) j hj;rw[vZ (by simp;omega)];simp only[bk,gj,zn];rw[show (k+1)*5+j-(0+1+1+1+1+1)=k*5+j by omega];exact this
theorem Yh:(prog.info? 144).map (fun i=>(i.zero,i.size,i.bytes))=some (some (.agg #[(),.string ⟨#[]⟩,(),(),.slice none 0 0]),5,64):=by kernel_rfl
def lu (w:World) (base:Nat) (v:Value) (l:List rY):Prop:=w.ownsRow base 144 5 v l.length (ki l)
theorem lu.cases {l:List rY} (h:lu w base v l) :
  (v=.slice none 0 0/\l=[])\/∃g cap cur,v=.slice (some ⟨g,0,none⟩) l.length cap/\base<=g/\Has w g (.cells cur 144)/\l.length<=cap/\cap<=maxLen/\∀k,(h:k<l.length)->∀j,j<5->w.cell? ⟨g,k*5+j,none⟩=(Qf l[k])[j]?:=by
 rcases h.2 with⟨e,h0⟩|⟨g,cap,cur,rfl,hb,hg,hn,hm,hs,ht⟩
 ·exact .inl ⟨e,qD h0⟩
 ·refine .inr ⟨g,cap,cur,rfl,hb,hg,hn,hm,fun k hk j hj=>?_⟩
  have:=DU h (k*5+j) (by omega);rw[this];exact Ij l k hk j hj
theorem lu.ext {l:List rY} (h:lu w base v l) (k:Ext w w'):lu w' base v l:=qF h k.grownBy (by cases v.ownBlock<;>simp)
theorem lu.only {l:List rY} {L:List Nat} (h:lu w base v l) (o:Only L w w') (hn:∀g,v.ownBlock=some g->g∉L):lu w' base v l:=av h o hn
theorem lu.keep {l:List rY} (h:lu w base v l) (hk:∀g,v.ownBlock=some g->w'.heap[g]?=w.heap[g]?):lu w' base v l:=by
 refine⟨h.1,?_⟩;rcases h.2 with e|⟨g,cap,cur,rfl,hb,hg,h1,h2,h3,h4⟩
 ·exact .inl e
 ·exact .inr ⟨g,cap,cur,rfl,hb,(hk g rfl).trans hg,h1,h2,h3,h4⟩
theorem lu.tag {l:List rY} (h:lu w base v l) (hv:v.ownBlock=some g):e7 w g 144:=by
 rcases h.2 with⟨rfl,_⟩|⟨g',cap,cur,rfl,hb,hg,_⟩
 ·cases hv
 ·injection hv with hv
  subst hv;exact⟨_,_,hg⟩
theorem lu.Qa {l:List rY} (h:lu w base v l) (hv:v.ownBlock=some g):iF w g:=⟨_,h.tag hv,by decide,by decide⟩
theorem lu.pop {cap:Nat} {l:List rY} {x:rY} (h:lu w base (.slice (some g) (l++[x]).length cap) (l++[x])):lu w base (.slice (some g) l.length cap) l:=by
 refine⟨by rw[kN],?_⟩;rcases h.2 with⟨e,_⟩|⟨g',cap',cur,hv,hb,hg,hn,hm,hs,ht⟩
 ·cases e
 ·injection hv with h1 h2 h3
  injection h1 with h1;injection h1 with h1;subst h1;subst h3;refine .inr ⟨g,cap,cur,rfl,hb,hg,by rw[aZ]at hn;omega,hm,hs,?_⟩;have e:cur.toList.take (l.length*5)=(cur.toList.take ((l++[x]).length*5)).take (l.length*5):=by rw[FY];congr 1;rw[aZ];omega
  rw[e,ht,li,JB (kN l)]
theorem lu.Yi {w:World} {base:Nat} {g cap:Nat} {l:List rY} {x:au} {v0:Value} (v:Value) (h:lu w base (.slice (some g) (l++[(x,v0)]).length cap) (l++[(x,v0)])) :
  lu (w.setCell (g,l.length*5+4) v) base (.slice (some g) (l++[(x,v)]).length cap) (l++[(x,v)]):=by
 refine⟨by rw[kN],?_⟩;rcases h.2 with⟨e,_⟩|⟨g',cap',cur,hv,hb,hg,hn,hm,hs,ht⟩
 ·cases e
 ·injection hv with h1 h2 h3
  injection h1 with h1;injection h1 with h1;subst h1;subst h3;have hl:(l++[(x,v0)]).length=l.length+1:=by simp
  have hl':(l++[(x,v)]).length=l.length+1:=by simp
  have Pu:Has w g (.cells cur 144):=hg;have hlt:l.length*5+4<cur.size:=by
   have:=nu List.length ht;rw[kN,iG,hl,xG]at this;omega
  refine .inr ⟨g,cap,cur.setIfInBounds (l.length*5+4) v,rfl,hb,?_,by rw[hl'] ;rw[hl]at hn;exact hn,hm,?_,?_⟩
  ·exact Has.setCell Pu _ v
  ·rw[Array.size_setIfInBounds];exact hs
  ·rw [hl']
   rw[hl]at ht;have e5:(l.length+1)*5=l.length*5+5:=by omega
   rw[e5]at ht|-;rw[Array.toList_setIfInBounds,List.take_set];rw[ht,li,li,we _ _ (by rw[kN];omega),kN];rw[show l.length*5+4-l.length*5=4 by omega];rfl
theorem Yj (w:World) {l:List rY} (h:lu w base v l) (hb:base<=w.heap.size) (x:rY) (hx:x.2.oneCell'=true) (hl:l.length<=2000000) :
  ∃ v' w',(Builtin.append_ #[145,145] 145 #[v,.slice (some w.heap.size) 1 1]).run prog (w.alloc (.cells (Qf x).toArray 144))=.ok v' w'/\lu w' base v' (l++[x])/\(w.alloc (.cells (Qf x).toArray 144)).grownBy w' v.ownBlock/\(v'.ownBlock=v.ownBlock\/v'.ownBlock=some (w.heap.size+1)):=by
 have hN:=Has.new w (.cells (Qf x).toArray 144);have E:Ext w (w.alloc (.cells (Qf x).toArray 144)):=(Ext.refl _).alloc _;obtain⟨i0,hi,hz0,hz1,hz2⟩:=jj Yh;obtain⟨v',w',hr,h3,h4,_,h5⟩:=JC (P:=prog) (w:=w.alloc (.cells (Qf x).toArray 144)) base 145 145 144 i0 (.agg #[(),.string ⟨#[]⟩,(),(),.slice none 0 0]) 5 64 underlying145 hi hz0 hz1 hz2 rfl (by decide) v l.length _ (h.ext E) ⟨w.heap.size,0,none⟩ 1 1 (Qf x) rfl
  (by
   intro j u hu;rw[kU,eY];rw[hN.cell j];simpa using hu)
  (by
   intro u hu;simp only[aR,bg,bh]at hu;rcases hu with rfl|rfl|rfl|rfl|rfl
   all_goals first|rfl|exact hx) (by unfold maxLen;omega) (by omega) (by simp;omega)
 refine⟨v',w',hr,?_,h4,by rw[bi]at h5;exact h5⟩;unfold lu;rw[li,aZ];have e:ki [x]=Qf x:=by unfold ki;simp
 rw[e];exact h3
def fX (w:World) (O:List Nat) (bx:Nat) (v:Value) (l:List au):Prop:=
 ∃ A cap,v=.slice A l.length cap/\l.length<=cap/\cap<=maxLen/\((A=none/\l=[])\/∃g o,A=some ⟨g,o,none⟩/\g∈O/\g≠bx/\e7 w g 41/\∀k,(h:k<l.length)->∀j,j<4->w.cell? ⟨g,o+k*4+j,none⟩=(bt l[k])[j]?)
theorem fX.of (h:eO w base v l) (hO:∀g,v.ownBlock=some g->g∈O/\g≠bx):fX w O bx v l:=by
 rcases h.cases with⟨rfl,rfl⟩|⟨g,cap,cur,rfl,hb,hg,hn,hm,hc⟩
 ·exact⟨none,0,rfl,aE _,by decide,.inl ⟨rfl,rfl⟩⟩
 ·exact⟨_,cap,rfl,hn,hm,.inr ⟨g,0,rfl,(hO g rfl).1,(hO g rfl).2,⟨_,_,hg⟩,fun k hk j hj=>by rw[eY];exact hc k hk j hj⟩⟩
theorem jE (h:w'.heap[g]?=w.heap[g]?) (o:Nat):w'.cell? (g,o)=w.cell? (g,o):=by
 simp only[World.cell?,h]
theorem fX.keep {O':List Nat} (h:fX w O bx v l) (hk:∀g∈O,g≠bx->e7 w g 41->g∈O'/\w'.heap[g]?=w.heap[g]?):fX w' O' bx v l:=by
 obtain⟨A,cap,rfl,h1,h2,h3⟩:=h;refine⟨A,cap,rfl,h1,h2,?_⟩;rcases h3 with h3|⟨g,o,rfl,h4,h5,h6,h7⟩
 ·exact .inl h3
 ·obtain ⟨k1,k2⟩:=hk g h4 h5 h6
  refine .inr ⟨g,o,rfl,k1,h5,?_,fun k hk j hj=>(jE k2 _).trans (h7 k hk j hj)⟩;obtain⟨c,f,h⟩:=h6;exact⟨c,f,k2.trans h⟩
theorem fX.tail {y:au} (h:fX w O bx v (y::l)) :
  ∃ g o cap,v=.slice (some ⟨g,o,none⟩) (l.length+1) cap/\l.length+1<=cap/\g<w.heap.size/\g∈O/\g≠bx/\e7 w g 41/\w.cell? ⟨g,o,none⟩=some (.int .i64 y.dir)/\w.cell? ⟨g,o+1,none⟩=some (.string (bs y.name))/\w.cell? ⟨g,o+2,none⟩=some (.int .i64 y.no)/\w.cell? ⟨g,o+3,none⟩=some (.int .i64 y.depth) /\
   fX w O bx (.slice (if cap=1 then some ⟨g,o,none⟩ else some ⟨g,o+4,none⟩) l.length (cap-1)) l:=by
 obtain⟨A,cap,rfl,h1,h2,h3⟩:=h;rcases h3 with⟨_,h3⟩|⟨g,o,rfl,h4,h5,h6,h7⟩
 ·cases h3
 ·have h0:0<(y::l).length:=by simp
  have hl:(y::l).length=l.length+1:=rfl;rw[hl]at h1;have hlt:g<w.heap.size:=by obtain⟨c,f,h⟩:=h6;exact (jM.1 h).1
  refine⟨g,o,cap,rfl,h1,hlt,h4,h5,h6,?_,?_,?_,?_,_,cap-1,rfl,by omega,by omega,?_⟩
  ·have:=h7 0 h0 0 (by decide);simpa using this
  ·have:=h7 0 h0 1 (by decide);simpa using this
  ·have:=h7 0 h0 2 (by decide);simpa using this
  ·have:=h7 0 h0 3 (by decide);simpa using this
  ·by_cases hc:cap=1
   ·rw [af hc]
    have:l=[]:=qD (by omega);subst this;exact .inr ⟨g,o,rfl,h4,h5,h6,fun k hk=>by cases hk⟩
   ·rw [ac hc]
    refine .inr ⟨g,o+4,rfl,h4,h5,h6,fun k hk j hj=>?_⟩;have:=h7 (k+1) (by simpa using hk) j hj;rw[show o+(k+1)*4+j=o+4+k*4+j by omega]at this;simpa using this
attribute [local go_sem] ol
inductive Lt (st:List (au×Int)->aH) (go:List (au×Int)->Prop) (cu cg:Int):List (au×Int)->List (au×List au)->Nat->List (au×Int)->Prop where
 | nil (pre):Lt st go cu cg pre [] 0 []
 | take {pre x way m L}:(go (pre++[(x,0)])->Lt st go cu cg (pre++[(x,0)]) way m L)->Lt st go cu cg pre ((x,[])::way) (m+1) ((x,0)::L)
 | push {pre x y left way m L}:ln (st pre) cu cg y=0->Lt st go cu cg pre ((y,oY (st pre) cu cg y)::(x,left)::way) m L->Lt st go cu cg pre ((x,y::left)::way) (m+1) L
 | bad {pre x y left way m}:ln (st pre) cu cg y≠0->Lt st go cu cg pre ((x,y::left)::way) (m+1) [(y,ln (st pre) cu cg y)]
def UpT (st:List (au×Int)->aH) (go:List (au×Int)->Prop) (cu cg dir:Int) (nm:List UInt8) (M:Nat) (L:List (au×Int)):Prop:=
 (dw (st []) cu cg dir nm≠0/\L=[(du (st []) cu cg dir nm,dw (st []) cu cg dir nm)]) \/
 (dw (st []) cu cg dir nm=0/\ln (st []) cu cg (du (st []) cu cg dir nm)≠0/\L=[(du (st []) cu cg dir nm,ln (st []) cu cg (du (st []) cu cg dir nm))]) \/
 (dw (st []) cu cg dir nm=0/\ln (st []) cu cg (du (st []) cu cg dir nm)=0/\Lt st go cu cg [] [(du (st []) cu cg dir nm,oY (st []) cu cg (du (st []) cu cg dir nm))] M L)
theorem yR {c:Nat} {s:aH} (h:d_ c s) (cu cg:Int) (x:au):(oY s cu cg x).length<=c:=by
 unfold oY tV;split
 ·exact bC _
 ·exact Dz h.fN cu cg x
theorem sG {s:aH} {cu cg:Int} {x y:au} (h:y∈oY s cu cg x):y.depth=x.depth+1:=by
 unfold oY tV at h;split at h
 ·cases h
 ·exact yb h
theorem abc {c:Nat} (F:Fence) (hF:F=Fence.wide) (n:Nat) (hn:1<=n) (b:Nat) (st:List (au×Int)->aH) (go:List (au×Int)->Prop) (k:Nat) (cu cg dir:Int) (nm:List UInt8) (M:Nat) (L:List (au×Int))
  (hs:∀pre,pre <+: L->d_ c (st pre)) (hc:c<=900) (hT:UpT st go cu cg dir nm M L) (hM:M<=100000) (w0:World) :
  aa5 F n prog 89 #[((),k),.pointer (some ⟨k+1,0,none⟩),.pointer (some ⟨k+2,0,none⟩),.pointer (some ⟨k+3,0,none⟩)] Ln (fun xs=>xs=L) (fun pre=>pre <+: L)
   (fun pre x=>pre++[x] <+: L) (fun pre V=>go pre/\(∃B g,PS V B b g (st pre))/\Fs V k b cu cg dir nm) w0:=by
 intro lp J Jx W _ hJ1 Jc hJx hY h0;have hro:F.round=none:=by rw[hF];rfl
 have hfn:F.fn 89:=by rw[hF];trivial
 have Rk:F.fn 87:=by rw[hF];trivial
 have JS:F.fn 88:=by rw[hF];trivial
 obtain⟨X,hX⟩:=ai (du (st []) cu cg dir nm);obtain⟨e1,m_⟩:=ai (dw (st []) cu cg dir nm);have CF:∀(j:Nat) (u:World),(∃B g,PS u B b g (st []))->CallsIn F j prog 87 #[((),b),.agg #[cu,cg],dir,bs nm] u (aO u (.tuple #[.agg #[X.dir,bs X.name,X.no,X.depth],e1])):=by
  rw[hF,hX,m_];exact fun j u ⟨B,g,hu⟩=>km.2 (hu.first (hs [] JH) hc cu cg dir nm)
 have CI:Hid (∀(pre:List (au×Int)),pre <+: L->∀(j:Nat) (u:World) (x:au),0<=x.depth->x.depth<=1000000->(∃B g,PS u B b g (st pre))->CallsIn F j prog 88 #[((),b),.agg #[cu,cg],.agg #[x.dir,bs x.name,x.no,x.depth]] u (Ng u (oY (st pre) cu cg x) (ln (st pre) cu cg x))):=by
  show ∀_ _ _ _ _,_;rw[hF];exact fun pre hp j u x h1 h2 ⟨B,g,hu⟩=>km.2 (hu.into (hs pre hp) hc cu cg x h1 h2)
 have Ig:X.depth=0:=by rw[hX];rfl
 unfold UpT at hT;rw[<-hX,<-m_]at hT;have HT:=zH hT;have HS:=zH hs;have UF:=zH Ig;have Ih:=zH hJ1;have Qb:=zH Jc;have HJX:=zH hJx;have HY:=zH hY;clear hF hT hX m_ hs Ig;obtain⟨⟨_,hP0,Cp⟩,_,_⟩:=hJ1 _ _ _ h0;have k0:=Cp.1.cell 0;have k1:=Cp.2.1.cell 0;have k2:=Cp.2.1.cell 1;have k3:=Cp.2.2.1.cell 0;have k4:=Cp.2.2.2.cell 0;have z0:=Cp.1.lt;have z1:=Cp.2.1.lt;have z2:=Cp.2.2.1.lt;have z3:=Cp.2.2.2.lt;have CF0:=zH (CF (n-1) W hP0);have H0:=zH h0;have hJ0:=h0;clear hJ1 Jc hJx hY h0 CF hP0;refine uq func89 rfl hfn ?_ hro;simp only[ntmps89,lA,bk,gj,Nat.reduceAdd,Nat.reduceSub,o_,pd,pg,ph,jG,oo];refine mI ?_;gi_upto_if 20 with (gi_at_call 87;refine CF0.o.mono ?_;rintro e w1 ⟨rfl,b1⟩);obtain⟨W2,dp⟩:=ai (w1.alloc (.cells #[X.dir,bs X.name,X.no,X.depth] 41));obtain⟨bx,vT⟩:=ai w1.heap.size;have ui:Has W2 bx (.cells (bt X).toArray 41):=by rw[dp,vT];exact Has.new w1 _
 have E2:Ext W W2:=by rw[dp];exact b1.alloc _
 have acP:W.heap.size<=bx:=by have:=b1.size;omega
 have Jc:J [bx] [] W2:=Qb.o [] [] W [bx] W2 H0.o (Only.az E2) (fun x hx=>by
   rw[ax]at hx;exact .inr (by omega)) (fun x hx=>by
   rw[ax]at hx;subst hx;exact iF.of ui (by decide) (by decide))
 rw [<-dp,<-vT];clear dp vT k0 k1 k2 k3 k4 z0 z1 z2 z3 b1 CF0 H0 E2 Cp hJ0;gi_cut [7,8] from 19 (fun ve vl wc=>∃(e2:Int) (l2:List au) (O:List Nat),ve=.int .i64 e2/\J O [] wc/\bx∈O/\Has wc bx (.cells (bt X).toArray 41)/\fX wc O bx vl l2/\l2.length<=900/\(∀z∈l2,z.depth=1) /\
  ((e2=0/\Lt st go cu cg [] [(X,l2)] M L)\/(e2≠0/\L=[(X,e2)])))
 case first =>
  by_cases h1:e1=0
  ·subst h1
   obtain⟨⟨_,P2,C2⟩,_⟩:=Ih.o _ _ _ Jc;have k0:=C2.1.cell 0;have k1:=C2.2.1.cell 0;have k2:=C2.2.1.cell 1;have z0:=C2.1.lt;have z1:=C2.2.1.lt;have x0:=aA ui 0 rfl;have x1:=aA ui 1 rfl;have x2:=aA ui 2 rfl;have x3:=aA ui 3 rfl;have xz:=ui.lt;have CI0:=zH (CI.o [] JH (n-1) W2 X (by rw[UF.o];decide) (by rw[UF.o];decide) P2);have HJ:=zH Jc;have HX:=zH ui;clear Jc ui P2 C2 CI;gi_wp2_with (gi_at_call 88;refine CI0.o.mono ?_;rintro e w3 ⟨v3,rfl,Cn,b3⟩);have X3:=HX.o.ext b3;have Jd:J ([bx]++v3.ownBlock.toList) [] w3:=Qb.o [bx] [] W2 _ w3 HJ.o (Only.az b3) (fun y hy=>(dn.1 hy).imp id (fun hm=>(Cn.lt (cR.1 hm)).1)) (fun y hy=>(dn.1 hy).elim (fun hm=>((Ih.o _ _ _ HJ.o).2.2 y hm).2.ext b3) (fun hm=>Cn.Qa (cR.1 hm)));gi_meet
   case rel =>
    refine⟨_,_,_,rfl,Jd,by simp,X3,fX.of Cn (fun g hg=>⟨jO _ (cR.2 hg),fun e=>?_⟩),nk (yR (HS.o [] JH) cu cg X) hc,fun z hz=>by rw[sG hz,UF.o];rfl,?_⟩
    ·have:=(Cn.lt hg).1
     have:=HX.o.lt;omega
    ·rcases HT.o with⟨h,_⟩|⟨_,h,h2⟩|⟨_,h,h2⟩
     ·exact absurd rfl h
     ·exact .inr ⟨h,h2⟩
     ·exact .inl ⟨h,h2⟩
  ·have t1:(e1 == 0)=false:=by simpa using h1
   have HX:=zH ui;have H1:=zH h1;clear ui CI h1;gi_wp2;gi_meet
   case rel =>
    refine⟨_,[],[bx],rfl,Jc,by simp,HX.o,⟨none,0,rfl,aE _,by decide,.inl ⟨rfl,rfl⟩⟩,by simp,fun z hz=>(by cases hz),.inr ⟨H1.o,?_⟩⟩;rcases HT.o with⟨_,h⟩|⟨h,_⟩|⟨h,_⟩
    ·exact h
    ·exact absurd h H1.o
    ·exact absurd h H1.o
 case rest =>
  obtain⟨e2,l2,O,rfl,hJ,Rq,hX,hL,xH,acT,hrest⟩:=hcut;clear Jc ui;have x0:=aA hX 0 rfl;have x1:=aA hX 1 rfl;have x2:=aA hX 2 rfl;have x3:=aA hX 3 rfl;have xz:=hX.lt;have HL:=zH hL;obtain⟨A,cap,rfl,_⟩:=hL;have HR:=zH hrest;have FL:=zH hX;obtain⟨n2,ug⟩:=ai l2.length;rw[<-ug];rw[<-ug]at HL;have HD:=zH acT;clear hrest hX ug acT;gi_wp2;refine wpIn_label ?_;obtain⟨W3,cJ⟩:=ai (wc.alloc (.cells #[X.dir,bs X.name,X.no,X.depth,.slice A n2 cap] 144));obtain⟨br,Lo⟩:=ai wc.heap.size;have E3:Ext wc W3:=by rw[cJ];exact (Ext.refl _).alloc _
  have HR3:Has W3 br (.cells (Qf (X,.slice A n2 cap)).toArray 144):=by rw[cJ,Lo];exact Has.new wc _
  have UG:W.heap.size<=br:=by have:=(Ih.o _ _ _ hJ).2.1;omega
  have afX:br≠bx:=by omega
  have Jd:J (br::O) [] W3:=Qb.o O [] wc (br::O) W3 hJ (Only.az E3) (fun x hx=>by
    rcases aR.1 hx with rfl|hx
    ·exact .inr (by omega)
    ·exact .inl hx) (fun x hx=>by
    rcases aR.1 hx with rfl|hx
    ·exact iF.of HR3 (by decide) (by decide)
    ·exact ((Ih.o _ _ _ hJ).2.2 x hx).2.ext E3)
  have Uz:=FL.o.ext E3;have Cn:lu W3 W.heap.size (.slice (some br) 1 1) [(X,.slice A n2 cap)]:=⟨rfl,.inr ⟨br,1,_,rfl,UG,HR3,aE _,by decide,rfl,rfl⟩⟩;have hL3:fX W3 (br::O) bx (.slice A n2 cap) l2:=HL.o.keep (fun g hg _ ht=>⟨cf _ hg,by obtain⟨_,_,h⟩:=ht;exact yX E3 g (jM.1 h).1⟩);rw[<-cJ,<-Lo];have FQ:=zH hL3;clear cJ Lo hJ HL FL E3 x0 x1 x2 x3 xz hL3;gi_wp2;gi_loopg [7,9] M (fun m ve vt wr=>∃(e2:Int) (fs:List (au×Value×List au)) (x:au) (O:List Nat) (pre:List (au×Int)),ve=.int .i64 e2/\J O pre wr/\bx∈O/\Has wr bx (.cells (bt x).toArray 41)/\lu wr W.heap.size vt (fs.map fun f=>(f.1,f.2.1)).reverse/\(∀g,vt.ownBlock=some g->g∈O)/\(∀f∈fs,fX wr O bx f.2.1 f.2.2) /\
   ((e2=0/\m<=M/\fs.length<=1+(M-m)/\(∀f∈fs,∀z∈f.2.2,0<=z.depth/\z.depth<=1+((M-m:Nat):Int))/\∃L1,Lt st go cu cg pre (fs.map fun f=>(f.1,f.2.2)) m L1/\L=pre++L1)\/(e2≠0/\L=pre++[(x,e2)])))
  case atStart =>
   refine⟨e2,[(X,.slice A n2 cap,l2)],X,_,[],rfl,Jd,cf _ Rq,Uz,Cn,fun g hg=>by injection hg with hg;subst hg;exact bY ..,fun f hf=>?_,?_⟩
   ·rw[ax]at hf;subst hf;exact FQ.o
   ·rcases HR.o with⟨h1,h2⟩|⟨h1,h2⟩
    ·refine .inl ⟨h1,aE _,by simp,fun f hf z hz=>?_,L,h2,rfl⟩
     rw[ax]at hf;subst hf;have:=HD.o z hz;omega
    ·exact .inr ⟨h1,h2⟩
  case round =>
   clear Jd Uz HR3 Cn FQ HR HD Rq;obtain⟨e3,fs,x,O1,pre,rfl,hJ,Rq,hX,hO,hown,Ik,hrest⟩:=hrel;obtain⟨fr,FM⟩:=ai ((fs.map fun f=>(f.1,f.2.1)).reverse);rw[<-FM]at hO;have BU:fr.length=fs.length:=by rw[FM,kV,jP]
   have x0:=aA hX 0 rfl;have x1:=aA hX 1 rfl;have x2:=aA hX 2 rfl;have x3:=aA hX 3 rfl;have xz:=hX.lt
   by_cases he:e3=0
   case neg =>
    have t2:(e3 == 0)=false:=by simpa using he
    have t3:(e3 != 0)=true:=by simpa using he
    have Yk:L=pre++[(x,e3)]:=by
     rcases hrest with⟨h1,_⟩|⟨_,h2⟩
     ·exact absurd h1 he
     ·exact h2
    have HL:=zH Yk;obtain⟨fn,tmps,assign,body,hy,hR⟩:=HY.o O1 pre (x,e3) wr hJ (by rw[Yk];exact wu _)
    try dsimp only[Ln]at hy
    obtain ⟨A9,c9,hv9⟩:∃A9 c9,u9=.slice A9 fr.length c9:=by
     rcases hO.cases with⟨rfl,h⟩|⟨g,cap,_,rfl,_⟩
     ·exact⟨_,_,by rw[h];rfl⟩
     ·exact⟨_,_,rfl⟩
    obtain⟨n9,hn9⟩:=ai fr.length;rw[<-hn9]at hv9;clear he hrest Yk hown hO Ik BU FM hn9;subst hv9;gi_wp2;refine hR.mono ?_;rintro e W3 (⟨rfl,Jd,qg⟩|⟨rfl,zO⟩)
    ·gi_wp2
     simp only[Exit.noGoto];go_end0;exact⟨⟨_,rfl⟩,.inl ⟨_,_,HL.o.symm,Jd⟩⟩
    ·gi_wp2
     simp only[Exit.noGoto];go_end0;exact⟨⟨_,rfl⟩,.inr ⟨_,by rw[HL.o];exact wu _,zO⟩⟩
   obtain ⟨_,hmM,Yl,sS,L1,hD,Yk⟩:e3=0/\gk<=M/\fs.length<=1+(M-gk)/\(∀f∈fs,∀z∈f.2.2,0<=z.depth/\z.depth<=1+((M-gk:Nat):Int))/\∃L1,Lt st go cu cg pre (fs.map fun f=>(f.1,f.2.2)) gk L1/\L=pre++L1:=by
    rcases hrest with h1|⟨h1,_⟩
    ·exact h1
    ·exact absurd he h1
   subst he;clear hrest;rcases fs with _|⟨⟨x',v,left⟩,UK⟩
   ·have hLp:L=pre:=by cases hD;rw[Yk,iR]
    have HL:=zH hLp;obtain rfl:fr=[]:=qD BU;obtain⟨A9,c9,hv9⟩:∃A9 c9,u9=.slice A9 0 c9:=by
     rcases hO.cases with⟨rfl,h⟩|⟨g,cap,_,rfl,_⟩
     ·exact⟨_,_,rfl⟩
     ·exact⟨_,_,rfl⟩
    clear hD Yk hLp sS hown hO Ik x0 x1 x2 x3 xz FM BU Yl;subst hv9;gi_wp2;go_end0;exact⟨⟨_,rfl⟩,.inl ⟨_,by rw[HL.o];exact hJ⟩⟩
   have jT:pre <+: L:=by rw[Yk];exact JE _ _
   obtain⟨fr',Ym⟩:=ai ((UK.map fun f=>(f.1,f.2.1)).reverse);obtain⟨abd,UL⟩:=ai (UK.map fun f=>(f.1,f.2.2))
   have ym:Lt st go cu cg pre ((x',left)::abd) gk L1:=by rw[UL];exact hD
   have Wo:fr=fr'++[(x',v)]:=by rw[FM,Ym,dM,p_]
   rw[Wo]at hO;obtain⟨T,hT⟩:=ai fr'.length;have hTf:T=UK.length:=by rw[hT,Ym,kV,jP]
   have Qc:(fr'++[(x',v)]).length=T+1:=by rw[aZ,hT];rfl
   obtain ⟨gw,cw,cur,rfl,afY,hgw,afZ,af0,hcell⟩:∃g cap cur,u9=.slice (some ⟨g,0,none⟩) (T+1) cap/\W.heap.size<=g/\Has wr g (.cells cur 144)/\T+1<=cap/\cap<=maxLen/\∀j,j<5->wr.cell? ⟨g,T*5+j,none⟩=(Qf (x',v))[j]?:=by
    rcases hO.cases with⟨_,h2⟩|⟨g,cap,cur,h1,h2,h3,h4,h5,h6⟩
    ·simp at h2
    ·rw [Qc]at h1 h4
     refine⟨g,cap,cur,h1,h2,h3,h4,h5,fun j hj=>?_⟩;have:=h6 T (by rw[Qc];omega) j hj;rw[Cw (by rw[hT];exact aE _)]at this;simpa [hT]using this
   have UM:gw∈O1:=hown gw rfl;have Il:gw≠bx:=fun e=>by
    subst e;have h1:wr.heap[gw]?=_:=hgw;have h2:wr.heap[gw]?=_:=hX;rw[h1]at h2;cases h2
   have q0:wr.cell? (gw,T*5)=some (.int .i64 x'.dir):=hcell 0 (by decide);have q1:wr.cell? (gw,T*5+1)=some (.string (bs x'.name)):=hcell 1 (by decide);have q2:wr.cell? (gw,T*5+2)=some (.int .i64 x'.no):=hcell 2 (by decide);have q3:wr.cell? (gw,T*5+3)=some (.int .i64 x'.depth):=hcell 3 (by decide);have q4:wr.cell? (gw,T*5+4)=some v:=hcell 4 (by decide);have qz:=hgw.lt;have hTM:T<=M:=by rw[hTf];have:=Yl;simp at this;omega
   have BS:IntKind.i64.wrap (T:Int)=(T:Int):=cB _ (by omega);have w2w:IntKind.i64.wrap ((T:Int)+1-1)=(T:Int):=by rw[cB _ (by omega)];omega
   have p0:(0:Int)<=(T:Int):=cO _;have Lp:∀y∈O1,iF wr y:=fun y hy=>((Ih.o _ _ _ hJ).2.2 y hy).2
   have hlv:fX wr O1 bx v left:=Ik _ (bY ..);have hlf:∀f∈UK,fX wr O1 bx f.2.1 f.2.2:=fun f hf=>Ik _ (cf _ hf)
   have mP:∀z∈left,0<=z.depth/\z.depth<=1+((M-gk:Nat):Int):=sS _ (bY ..);have hdf:∀f∈UK,∀z∈f.2.2,0<=z.depth/\z.depth<=1+((M-gk:Nat):Int):=fun f hf=>sS _ (cf _ hf)
   have ZP:UK.length<=M-gk:=by simp at Yl;omega
   have HLV:=zH hlv;have HLF:=zH hlf;have J7:=zH mP;have HDF:=zH hdf;have HFS:=zH ZP;have HU:=zH ym;have yt:=zH Yk;have Wv:=zH hO;have HGW:=zH hgw;have FL:=zH hX;have ZQ:=zH Ym;have HW1:=zH UL;have HT1:=zH hT;have HTf:=zH hTf;have HOB:=zH Lp;have HLR:=zH Qc;have Xq:=zH hown;have acU:=zH jT;clear Ik sS hD ym FM BU Wo hlv hlf mP hdf Yl ZP Yk hO hgw hX Ym UL hT hTf Lp Qc hcell hown jT x0 x1 x2 x3;rcases left with _|⟨y,l'⟩
   ·
    obtain ⟨A5,c5,rfl,_⟩:=HLV.o;obtain⟨m',L2,hm',J2,hU⟩:∃m' L2,gk=m'+1/\L1=(x',0)::L2/\(go (pre++[(x',0)])->Lt st go cu cg (pre++[(x',0)]) abd m' L2):=by
     have h:=HU.o
     cases h with
     | take h=>exact⟨_,_,rfl,rfl,h⟩
    subst hm' J2;have HUU:=zH hU;have KS:Hid (∀w9,Has w9 bx (.cells (bt x').toArray 41)->Only [bx] wr w9->(J O1 pre w9/\w9.cell? (bx,0)=some (.int .i64 x'.dir)/\w9.cell? (bx,1)=some (.string (bs x'.name))/\w9.cell? (bx,2)=some (.int .i64 x'.no)/\w9.cell? (bx,3)=some (.int .i64 x'.depth)/\bx<w9.heap.size)):=by
     show ∀_,_;intro w9 R9 O9;exact⟨Qb.o O1 pre wr O1 w9 hJ (O9.mono (by simpa using Rq)) (fun y hy=>.inl hy) (fun y hy=>(HOB.o y hy).only O9 (fun z hz=>by rw[ax]at hz;subst hz;exact iF.of R9 (by decide) (by decide))),R9.cell 0,R9.cell 1,R9.cell 2,R9.cell 3,R9.lt⟩
    clear hU;simp only[gj]at q4;have acV:Hid (pre++[(x',0)] <+: L):=by show _ <+: _;rw[yt.o];exact⟨L2,by simp⟩
    gi_wp2_with (refine ij rfl _ _ rfl bx x x' rfl rfl FL.o ?_;intro w9 R9 O9;obtain⟨Rs,y0,y1,y2,y3,yz⟩:=KS.o w9 R9 O9;obtain⟨fn,tmps,assign,body,hy,hR⟩:=HY.o O1 pre (x',0) w9 Rs acV.o;try dsimp only[Ln]at hy);refine hR.mono ?_;rintro e W5 (⟨rfl,hJ5,Ye⟩|⟨rfl,aa9⟩)
    ·have X5:Has W5 bx (.cells (bt x').toArray 41):=(Ye bx Rq).trans R9
     have F5:lu W5 W.heap.size (.slice (some gw) T cw) fr':=by
      have h:=Wv.o;rw[<-HLR.o]at h;have h2:=h.pop;rw[<-HT1.o]at h2;exact (h2.only O9 (fun g hg=>by injection hg with hg;subst hg;simpa using Il)).keep (fun g hg=>by injection hg with hg;subst hg;exact Ye _ UM)
     have L5:∀f∈UK,fX W5 O1 bx f.2.1 f.2.2:=fun f hf=>(HLF.o f hf).keep (fun g hg hn _=>⟨hg,(Ye g hg).trans (O9.block g (HOB.o g hg).lt (by simpa using hn))⟩)
     have HX5:=zH X5;have HF5:=zH F5;have HL5:=zH L5;have HJ5:=zH hJ5;have U5:=zH (HUU.o (Ih.o _ _ _ hJ5).1.1);clear X5 F5 L5 hJ5 Rs R9 Ye hy hR y0 y1 y2 y3 yz q0 q1 q2 q3 q4 qz hJ;gi_wp2;gi_roundg m'
     case measure=>exact Nat.lt_succ_self _
     case rel =>
      refine⟨0,UK,x',O1,pre++[(x',0)],rfl,HJ5.o,Rq,HX5.o,by rw[<-ZQ.o];exact HF5.o,fun g hg=>by injection hg with hg;subst hg;exact UM,HL5.o,.inl ⟨rfl,by omega,by have:=HFS.o;omega,fun f hf z hz=>?_,L2,by rw[<-HW1.o];exact U5.o,by rw[yt.o,l6];rfl⟩⟩;have:=HDF.o f hf z hz;omega
    ·gi_wp2
     simp only[Exit.noGoto];refine aT (FZ rfl _ _ _) rfl ?_;exact⟨⟨_,rfl⟩,.inr ⟨_,acV.o,aa9⟩⟩
   ·
    obtain ⟨gl,o,cl,rfl,hcl,hgl,af1,af2,af3,r0,r1,r2,r3,UN⟩:=HLV.o.tail;obtain⟨nl,nE⟩:=ai l'.length;rw[<-nE]at UN hcl q4;obtain⟨e9,he9⟩:=ai (ln (st pre) cu cg y);obtain⟨l4,xO⟩:=ai (oY (st pre) cu cg y);obtain⟨m',hm',hU⟩:∃m',gk=m'+1/\((e9=0/\Lt st go cu cg pre ((y,l4)::(x',l')::abd) m' L1)\/(e9≠0/\L1=[(y,e9)])):=by
     have h:=HU.o;rw[he9,xO]
     cases h with
     | push h1 h2=>exact⟨_,rfl,.inl ⟨h1,h2⟩⟩
     | bad h1=>exact⟨_,rfl,.inr ⟨h1,rfl⟩⟩
    subst hm';have HUU:=zH hU;have NY:=J7.o y (bY ..);have CIy:=zH (fun (j:Nat) (u:World) (hu:∃B g,PS u B b g (st pre))=>CI.o pre acU.o j u y NY.1 (by omega) hu);rw[<-he9,<-xO]at CIy;have aeM:l4.length<=900:=by rw[xO];exact nk (yR (HS.o pre acU.o) cu cg y) hc
    have abe:Hid (∀z∈l4,z.depth=y.depth+1):=by show ∀_∈_,_;rw[xO];exact fun z hz=>sG hz
    have KS:Hid (∀w9,Has w9 bx (.cells (bt y).toArray 41)->Only [bx] wr w9->(w9.cell? (gw,T*5+4)=some (.slice (some ⟨gl,o,none⟩) (nl+1) cl)/\w9.frozen? (gw,T*5+4)=(decide (0<=T*5+4)&&decide (T*5+4<0))/\gw<w9.heap.size)):=by
     show ∀_,_;intro w9 R9 O9;have h9:Has w9 gw (.cells cur 144):=O9.has HGW.o (by simpa using Il);exact⟨(jE (O9.block gw HGW.o.lt (by simpa using Il)) _).trans q4,h9.free _,h9.lt⟩
    have af4:1<=cl:=by omega
    have Ty:=zH UN;have Jh:=zH hcl;have H49:=zH (And.intro he9 xO);have HJ:=zH hJ;have HNL:=zH nE;clear hU nE he9 xO UN hJ CI;gi_upto_region 10 with (refine ij rfl _ _ rfl bx x y rfl rfl FL.o ?_;intro w9 R9 O9;obtain⟨y4,f4,yz4⟩:=KS.o w9 R9 O9);obtain⟨vt,hvt⟩:∃vt:Value,vt=.slice (if cl=1 then some ⟨gl,o,none⟩ else some ⟨gl,o+4,none⟩) nl (cl-1):=⟨_,rfl⟩;rw[<-hvt];have HT9:=Ty.o;rw[<-hvt]at HT9;have af5:vt.oneCell'=true:=by rw[hvt];rfl
    obtain⟨tg,Qg⟩:=ai (w9.setCell (gw,T*5+4) vt);rw[<-Qg];have O10:Only [bx,gw] wr tg:=by rw[Qg];exact (O9.mono (by simp)).then ((Only.setCell w9 gw _ _).mono (by simp))
    have Nl:Has tg bx (.cells (bt y).toArray 41):=by rw[Qg];exact (Only.setCell w9 gw _ _).has R9 (by simpa using dA Il)
    have G10:e7 tg gw 144:=by rw[Qg];exact⟨_,_,Has.setCell (O9.has HGW.o (by simpa using Il)) _ _⟩
    have J10:J O1 pre tg:=Qb.o O1 pre wr O1 tg HJ.o (O10.mono (fun z hz=>by
      simp only[aR,bg,bh]at hz;rcases hz with rfl|rfl
      ·exact Rq
      ·exact UM)) (fun y hy=>.inl hy) (fun y hy=>(HOB.o y hy).only O10 (fun z hz=>by
      simp only[aR,bg,bh]at hz;rcases hz with rfl|rfl
      ·exact iF.of Nl (by decide) (by decide)
      ·exact⟨_,G10,by decide,by decide⟩))
    have F10:lu tg W.heap.size (.slice (some gw) (T+1) cw) (fr'++[(x',vt)]):=by
     have h:=Wv.o;rw[<-HLR.o]at h;have h2:=(h.only O9 (fun g hg=>by injection hg with hg;subst hg;simpa using Il)).Yi vt;have e:(fr'++[(x',vt)]).length=T+1:=by rw[aZ,HT1.o];rfl
     rw[e,<-HT1.o,<-Qg]at h2;exact h2
    have K10:∀g∈O1,g≠bx->e7 wr g 41->g∈O1/\tg.heap[g]?=wr.heap[g]?:=fun g hg hn ht=>⟨hg,O10.block g (HOB.o g hg).lt (by
     intro hm;simp only[aR,bg,bh]at hm;rcases hm with rfl|rfl
     ·exact hn rfl
     ·obtain ⟨c1,f1,h1⟩:=ht
      have h2:=HGW.o;unfold Has at h2;rw[h1]at h2
      cases h2)⟩
    have T10:fX tg O1 bx vt l':=HT9.keep K10;have L10:∀f∈UK,fX tg O1 bx f.2.1 f.2.2:=fun f hf=>(HLF.o f hf).keep K10
    have ZR:∀y∈O1,iF tg y:=fun y hy=>((Ih.o _ _ _ J10).2.2 y hy).2
    have S10:W.heap.size<=tg.heap.size:=(Ih.o _ _ _ J10).2.1;obtain⟨⟨_,ZS,C10⟩,_⟩:=Ih.o _ _ _ J10;have k0:=C10.1.cell 0;have k1:=C10.2.1.cell 0;have k2:=C10.2.1.cell 1;have z0:=C10.1.lt;have z1:=C10.2.1.lt;have y0:=aA Nl 0 rfl;have y1:=aA Nl 1 rfl;have y2:=aA Nl 2 rfl;have y3:=aA Nl 3 rfl;have yz:=Nl.lt;have acW:=zH (fun j=>CIy.o j tg ZS);have aeN:=zH J10;have aeO:=zH F10;have aeP:=zH T10;have aeQ:=zH L10;have Im:=zH Nl;have aeR:=zH G10;have vE:=zH ZR;clear hvt Qg O10 Nl G10 J10 F10 K10 T10 L10 ZS C10 HT9 y4 f4 yz4 R9 O9 q0 q1 q2 q3 q4 qz r0 r1 r2 r3 CIy ZR Ty;gi_upto_region 11 with (gi_at_call 88;refine (acW.o _).mono ?_;rintro e w4 ⟨v4,rfl,EC,b4⟩);obtain⟨A4,c4,rfl,hc4,_⟩:=EC.at_;have Nn:=zH EC;obtain⟨n4,Jm⟩:=ai l4.length;rw[<-Jm]at hc4 Nn|-;have R4:=Im.o.ext b4;have y0:=aA R4 0 rfl;have y1:=aA R4 1 rfl;have y2:=aA R4 2 rfl;have y3:=aA R4 3 rfl;have yz:=R4.lt;have hlen:(fr'++[(x',vt)]).length=T+1:=by rw[aZ,HT1.o];rfl
    obtain⟨v6,w6,hr,Rv,hg6,Ii⟩:=Yj w4 (aeO.o.ext b4) (by have:=b4.size;omega) (y,.slice A4 n4 c4) rfl (by omega);have HR6:=zH hr;have o6:Only [gw] w4 w6:=(Only.lh _ _ _).then (Only.of_grownBy hg6 (fun g hv=>by injection hv with hv;subst hv;simp));have J4:J (O1++(Value.slice A4 n4 c4).ownBlock.toList) pre w4:=Qb.o O1 pre tg _ w4 aeN.o (Only.az b4) (fun y hy=>(dn.1 hy).imp id (fun hm=>(Nn.o.lt (cR.1 hm)).1)) (fun y hy=>(dn.1 hy).elim (fun hm=>(vE.o y hm).ext b4) (fun hm=>Nn.o.Qa (cR.1 hm)));have B4:∀z∈O1++(Value.slice A4 n4 c4).ownBlock.toList,iF w4 z:=fun z hz=>((Ih.o _ _ _ J4).2.2 z hz).2
    have G4:e7 w4 gw 144:=by
     obtain⟨c1,f1,h1⟩:=aeR.o;exact⟨c1,f1,(yX b4 gw (jM.1 h1).1).trans h1⟩
    obtain⟨O3,Cn⟩:=ai (((O1++(Value.slice A4 n4 c4).ownBlock.toList).filter fun z=>decide (z≠gw))++v6.ownBlock.toList);have in3:∀z,z∈O1++(Value.slice A4 n4 c4).ownBlock.toList->z≠gw->z∈O3:=fun z hz hn=>by
     rw[Cn];exact kj _ (gz.2 ⟨hz,by simpa using hn⟩)
    have K4:∀g∈O1++(Value.slice A4 n4 c4).ownBlock.toList,g≠bx->e7 w4 g 41->g∈O3/\w6.heap[g]?=w4.heap[g]?:=fun g hg hn ht=>by
     have hne:g≠gw:=fun e=>by
      subst e;obtain⟨c1,f1,h1⟩:=ht;obtain⟨c2,f2,h2⟩:=G4;rw[h1]at h2;cases h2
     exact⟨in3 g hg hne,o6.block g (B4 g hg).lt (by simpa using hne)⟩
    have J6 : J O3 pre w6:=Qb.o _ pre w4 O3 w6 J4 (o6.mono (fun z hz=>by rw[ax]at hz;subst hz;exact kj _ UM)) (fun z hz=>by
      rw[Cn]at hz;rcases dn.1 hz with hm|hm
      ·exact .inl (gz.1 hm).1
      ·rcases Ii with e|e
       ·rw [e]at hm
        have cq:=cR.1 hm;injection cq with cq;subst cq;exact .inl (kj _ UM)
       ·rw [e]at hm
        have cq:=cR.1 hm;injection cq with cq;exact .inr (by omega)) (fun z hz=>by
      rw[Cn]at hz;rcases dn.1 hz with hm|hm
      ·have h:=gz.1 hm
       exact (B4 z h.1).keep (o6.block z (B4 z h.1).lt (by simpa using h.2))
      ·exact Rv.Qa (cR.1 hm))
    have UO:∀v l,fX tg O1 bx v l->fX w6 O3 bx v l:=fun v l h=>h.keep (fun g hg hn ht=>by
     have e4:w4.heap[g]?=tg.heap[g]?:=yX b4 g (vE.o g hg).lt;obtain⟨c1,f1,h1⟩:=ht;obtain⟨k1,k2⟩:=K4 g (kj _ hg) hn ⟨c1,f1,e4.trans h1⟩;exact⟨k1,k2.trans e4⟩)
    have T6:fX w6 O3 bx vt l':=UO _ _ aeP.o;have L6:∀f∈UK,fX w6 O3 bx f.2.1 f.2.2:=fun f hf=>UO _ _ (aeQ.o f hf)
    have N6:fX w6 O3 bx (.slice A4 n4 c4) l4:=(fX.of Nn.o (O:=O1++(Value.slice A4 n4 c4).ownBlock.toList) (bx:=bx) (fun g hg=>⟨jO _ (cR.2 hg),fun e=>by have:=(Nn.o.lt hg).1;have:=Im.o.lt;omega⟩)).keep K4;have X6:Has w6 bx (.cells (bt y).toArray 41):=o6.has R4 (by simpa using dA Il);have GL:bx∈O3:=in3 bx (kj _ Rq) (dA Il);have acX:∀g,v6.ownBlock=some g->g∈O3:=fun g hg=>by rw[Cn];exact jO _ (cR.2 hg)
    have HJ6:=zH J6;have HT6:=zH T6;have HL6:=zH L6;have HN6:=zH N6;have HX6:=zH X6;have HO6:=zH Rv;have HW6:=zH acX;clear Jm EC R4 hr Rv hg6 Ii o6 J4 B4 G4 Cn in3 K4 J6 UO T6 L6 N6 X6 acX hlen Nn k0 k1 k2 z0 z1 acW;gi_wp2_with (gi_at_builtin;refine mg _ rfl _ _ 145 145 rfl _ _ rfl rfl _ _ HR6.o ?_);gi_roundg m'
    case measure=>exact Nat.lt_succ_self _
    case rel =>
     refine⟨e9,(y,.slice A4 n4 c4,l4)::(x',vt,l')::UK,y,O3,pre,rfl,HJ6.o,GL,HX6.o,?_,HW6.o,fun f hf=>?_,?_⟩
     ·have:=HO6.o
      rw[ZQ.o]at this;simpa using this
     ·rcases aR.1 hf with rfl|hf
      ·exact HN6.o
      ·rcases aR.1 hf with rfl|hf
       ·exact HT6.o
       ·exact HL6.o f hf
     ·rcases HUU.o with⟨h1,h2⟩|⟨h1,h2⟩
      ·refine .inl ⟨h1,by omega,?_,fun f hf z hz=>?_,L1,by rw[<-HNL.o]at *;simpa [HW1.o]using h2,yt.o⟩
       ·have:=HFS.o
        simp only[bk];omega
       ·rcases aR.1 hf with rfl|hf
        ·have:=abe.o z hz
         omega
        ·rcases aR.1 hf with rfl|hf
         ·have:=J7.o z (cf _ hz)
          omega
         ·have:=HDF.o f hf z hz
          omega
      ·exact .inr ⟨h1,by rw[yt.o,h2]⟩
end
end Go.Proofs.YtpibnfdolojpcaaGreat
