import Derived.Test.YtblbohcaphcobaaGreatDoorBunN
import Derived.Test.YtblbohcaphcobaaGreatDoorBunL
import Derived.Test.YtblbohcaphcobaaGreatDoorBunF
import Derived.Test.YtblbohcaphcobaaGreatDoorBunM
import Derived.Test.YtblbohcaphcobaaGreatDoorBunJ
import Derived.Test.YtblbohcaphcobaaGreatDoorBunI
import Derived.Test.YtblbohcaphcobaaGreatDoorBunK
import Derived.OpenShut
set_option maxHeartbeats 16000000
set_option maxRecDepth 100000
namespace Go.Proofs.YtblbohcaphcobaaGreatDoor
section
open Go.ChangeShapes Go.WideShapes Go.ChangeAt Go.RowKit
structure RowK (α:Type) where
 ts:TypeId
 t : TypeId
 k : Nat
 bytes:Nat
 zero:Value
 enc:α->List Value
 hk:0<k
 under:Tryz.prog.underlying ts=some (.slice t)
 info:(Tryz.prog.info? t).map (fun i=>(i.zero,i.size,i.bytes))=some (some zero,k,bytes)
 zs:zero.cells.size=k
 len:∀x,(enc x).length=k
 one:∀x,∀u∈enc x,u.oneCell'=true
 hb:bytes<=1000
section
variable {α:Type} {R:RowK α}
def RowK.cells (R:RowK α) (l:List α):List Value:=l.flatMap R.enc
theorem RowK.iD (R:RowK α) (l:List α):(R.cells l).length=l.length*R.k:=by
 unfold RowK.cells
 induction l with
 | nil=>simp
 | cons x l ih=>rw[List.flatMap_cons,List.length_append,ih,R.len,List.length_cons,Nat.succ_mul];omega
theorem RowK.gE (R:RowK α) (a b:List α):R.cells (a++b)=R.cells a++R.cells b:=by unfold RowK.cells;rw[List.flatMap_append]
theorem RowK.nB (R:RowK α) (l:List α):∀i,(h:i<l.length)->∀j,j<R.k->(R.cells l)[i*R.k+j]?=(R.enc l[i])[j]?:=by
 induction l with
 | nil=>intro i h;cases h
 | cons x l ih =>
  intro i h j hj;have e:R.cells (x::l)=R.enc x++R.cells l:=rfl;rw [e]
  cases i with
  | zero =>
   simp only[Nat.zero_mul,Nat.zero_add,List.getElem_cons_zero];rw [List.getElem?_append_left (by rw[R.len];exact hj)]
  | succ i =>
   have:=ih i (by simpa using h) j hj;rw [List.getElem?_append_right (by rw[R.len,Nat.succ_mul];omega),R.len];simp only[List.getElem_cons_succ];rw [show (i+1)*R.k+j-R.k=i*R.k+j by rw[Nat.succ_mul];omega];exact this
theorem RowK.GQ (R:RowK α) (l:List α):∀u∈R.cells l,u.oneCell'=true:=by
 intro u hu;unfold RowK.cells at hu;rw [List.mem_flatMap]at hu;obtain ⟨x,_,hx⟩:=hu;exact R.one x u hx
def bZ (R:RowK α) (w:World) (base:Nat) (v:Value) (l:List α):Prop:=w.ownsRow base R.t R.k v l.length (R.cells l)
theorem bZ.nil (R:RowK α) (w:World) (base:Nat):bZ R w base (.slice none 0 0) []:=World.ownsRow_nil _ _ _ _
def eB (R:RowK α) (w:World) (A:Option Addr) (l:List α):Prop:=
 l = []\/∃b o,A=some ⟨b,o,none⟩/\b<w.heap.size/\∀i,(h:i<l.length)->∀j,j<R.k->w.cell? ⟨b,o+i*R.k+j,none⟩=(R.enc l[i])[j]?
theorem eB.ext {w w':World} {A:Option Addr} {l:List α} (h:eB R w A l) (k:Ext w w'):eB R w' A l:=by
 rcases h with h|⟨b,o,hA,hb,hc⟩
 ·exact .inl h
 ·exact .inr ⟨b,o,hA,by have:=k.size;omega,fun i hi j hj=>(k.cell hb).trans (hc i hi j hj)⟩
theorem bZ.cases {w:World} {base:Nat} {v:Value} {l:List α} (h:bZ R w base v l) :
  (v=.slice none 0 0/\l=[])\/∃g cap cur,v=.slice (some ⟨g,0,none⟩) l.length cap/\base<=g/\Has w g (.cells cur R.t)/\l.length<=cap/\cap<=maxLen/\∀i,(h:i<l.length)->∀j,j<R.k->w.cell? ⟨g,i*R.k+j,none⟩=(R.enc l[i])[j]?:=by
 rcases h.2 with⟨e,h0⟩|⟨g,cap,cur,rfl,hb,hg,hn,hm,hs,ht⟩
 ·exact .inl ⟨e,List.eq_nil_of_length_eq_zero h0⟩
 ·refine .inr ⟨g,cap,cur,rfl,hb,hg,hn,hm,fun i hi j hj=>?_⟩
  have hlt:i*R.k+j<l.length*R.k:=by
   have:(i+1)*R.k<=l.length*R.k:=Nat.mul_le_mul_right _ hi;rw [Nat.succ_mul]at this;omega
  have:=World.ownsRow.cellAt h (i*R.k+j) hlt;rw [this];exact R.nB l i hi j hj
theorem bZ.at_ {w:World} {base:Nat} {v:Value} {l:List α} (h:bZ R w base v l):∃A cap,v=.slice A l.length cap/\l.length<=cap/\cap<=maxLen/\eB R w A l/\(A=none->cap=0):=by
 rcases h.cases with⟨rfl,rfl⟩|⟨g,cap,cur,rfl,hb,hg,hn,hm,hc⟩
 ·exact⟨none,0,rfl,Nat.le_refl _,by decide,.inl rfl,fun _=>rfl⟩
 ·exact⟨_,cap,rfl,hn,hm,.inr ⟨g,0,rfl,hg.lt,fun i hi j hj=>by rw[Nat.zero_add];exact hc i hi j hj⟩,fun e=>by cases e⟩
theorem bZ.ext {w w':World} {base:Nat} {v:Value} {l:List α} (h:bZ R w base v l) (k:Ext w w'):bZ R w' base v l:=World.ownsRow.kept h k.grownBy (by cases v.ownBlock<;>simp)
theorem bZ.only {w w':World} {base:Nat} {v:Value} {l:List α} {L:List Nat} (h:bZ R w base v l) (o:Only L w w') (hn:∀g,v.ownBlock=some g->g∉L):bZ R w' base v l:=au h o hn
theorem bZ.lt {w:World} {base:Nat} {v:Value} {l:List α} (h:bZ R w base v l) {g:Nat} (hv:v.ownBlock=some g):base<=g/\g<w.heap.size:=World.ownsRow.lt h g hv
theorem bZ.tag {w:World} {base g:Nat} {v:Value} {l:List α} (h:bZ R w base v l) (hv:v.ownBlock=some g):fS w g R.t:=by
 rcases h.2 with⟨rfl,_⟩|⟨g',cap,cur,rfl,hb,hg,_⟩
 ·cases hv
 ·injection hv with hv
  subst hv;exact ⟨_,_,hg⟩
theorem bZ.pop {w:World} {base:Nat} {g cap:Nat} {l:List α} {x:α} (h:bZ R w base (.slice (some ⟨g,0,none⟩) (l++[x]).length cap) (l++[x])):bZ R w base (.slice (some ⟨g,0,none⟩) l.length cap) l:=by
 refine ⟨R.iD l,?_⟩;rcases h.2 with⟨e,_⟩|⟨g',cap',cur,hv,hb,hg,hn,hm,hs,ht⟩
 ·cases e
 ·injection hv with h1 h2 h3
  injection h1 with h1;injection h1 with h1;subst h1;subst h3;refine .inr ⟨g,cap,cur,rfl,hb,hg,by rw[List.length_append]at hn;omega,hm,hs,?_⟩;have e:cur.toList.take (l.length*R.k)=(cur.toList.take ((l++[x]).length*R.k)).take (l.length*R.k):=by
   rw [List.take_take];congr 1;have:l.length*R.k<=(l++[x]).length*R.k:=Nat.mul_le_mul_right _ (by simp);omega
  rw [e,ht,R.gE,List.take_left' (R.iD l)]
theorem KU (R:RowK α) (w:World) {base:Nat} {v:Value} {l:List α} (h:bZ R w base v l) (hb:base<=w.heap.size) (l2:List α) (bb o c2:Nat) (h2:∀i,(h:i<l2.length)->∀j,j<R.k->w.cell? ⟨bb,o+i*R.k+j,none⟩=(R.enc l2[i])[j]?)
  (hl:l.length<=2000000) (qd:l2.length<=1000000) :
  ∃ v' w',(Builtin.append_ #[R.ts,R.ts] R.ts #[v,.slice (some ⟨bb,o,none⟩) l2.length c2]).run Tryz.prog w=.ok v' w'/\bZ R w' base v' (l++l2)/\w.grownBy w' v.ownBlock/\(v'.ownBlock=v.ownBlock\/v'.ownBlock=some w.heap.size):=by
 obtain ⟨i0,hi,hz0,hz1,hz2⟩:=info_parts R.info;obtain ⟨v',w',hr,h3,h4,_,h5⟩:=run_append_own_at (P:=Tryz.prog) (w:=w) base R.ts R.ts R.t i0 R.zero R.k R.bytes R.under hi hz0 hz1 hz2 R.zs R.hk v l.length _ h ⟨bb,o,none⟩ l2.length c2 (R.cells l2) (R.iD l2)
  (by
   intro j u hu;rw [Addr.add_lit];have hk:=R.hk;have hj:j<l2.length*R.k:=by
    rcases Nat.lt_or_ge j (l2.length*R.k) with h'|h'
    ·exact h'
    ·rw[List.getElem?_eq_none (by rw[R.iD];exact h')]at hu;cases hu
   have hi:j / R.k<l2.length:=Nat.div_lt_of_lt_mul (by rw[Nat.mul_comm];exact hj);have hm:j % R.k<R.k:=Nat.mod_lt _ hk;have e:j / R.k*R.k+j % R.k=j:=by rw[Nat.mul_comm];exact Nat.div_add_mod j R.k
   have a:=R.nB l2 (j / R.k) hi (j % R.k) hm;rw [e,hu]at a;have b:=h2 (j / R.k) hi (j % R.k) hm;rw [Nat.add_assoc,e]at b;rw [b,<-a])
  (R.GQ l2) (by unfold maxLen;omega) (Nat.le_trans (Nat.mul_le_mul (show l.length+l2.length<=3000000 by omega) R.hb) (by omega)) hb
 refine ⟨v',w',hr,?_,h4,h5⟩;unfold bZ;rw [R.gE,List.length_append];exact h3
theorem um (R:RowK α) (w:World) {base:Nat} {v:Value} {l:List α} (h:bZ R w base v l) (hb:base<=w.heap.size) (x:α) (hl:l.length<=2000000) :
  ∃ v' w',(Builtin.append_ #[R.ts,R.ts] R.ts #[v,.slice (some ⟨w.heap.size,0,none⟩) 1 1]).run Tryz.prog (w.alloc (.cells (R.enc x).toArray R.t))=.ok v' w'/\bZ R w' base v' (l++[x])/\(w.alloc (.cells (R.enc x).toArray R.t)).grownBy w' v.ownBlock/\(v'.ownBlock=v.ownBlock\/v'.ownBlock=some (w.heap.size+1)):=by
 have hN:=Has.new w (.cells (R.enc x).toArray R.t);have E:Ext w (w.alloc (.cells (R.enc x).toArray R.t)):=(Ext.refl _).alloc _;obtain ⟨v',w',hr,h3,h4,h5⟩:=KU R (w.alloc (.cells (R.enc x).toArray R.t)) (h.ext E) (by simp;omega) [x] w.heap.size 0 1
  (fun i hi j hj=>by
   have:i=0:=by simpa using hi
   subst this;rw [show 0+0*R.k+j=j by omega];have:=hN.cell j;rw [this];simp) hl (by simp)
 exact ⟨v',w',hr,h3,h4,by rw[World.size_alloc]at h5;exact h5⟩
end
def pW:RowK Int:=⟨123,3,1,8,.int .i64 0,fun x=>[.int .i64 x],by decide,Tryz.underlying123,by kernel_rfl,rfl,fun _=>rfl,fun x u hu=>by rw[List.mem_singleton]at hu;subst hu;rfl,by decide⟩
def Dj:RowK (List UInt8×Int):=⟨56,106,2,24,.agg #[.string ⟨#[]⟩,.int .i64 0],fun x=>[.string (bs x.1),.int .i64 x.2],by decide,Tryz.underlying56,by kernel_rfl,rfl,fun _=>rfl,fun x u hu=>by
 simp only[List.mem_cons,List.not_mem_nil,or_false]at hu;rcases hu with rfl|rfl<;>rfl,by decide⟩
end
section
structure eF where
 path:List UInt8
 b : Int
 n : Int
structure dN where
 path:List UInt8
 kind:Int
 mode:Int
 uid:Int
 gid:Int
 mtime:Int
 data:List UInt8
structure e7 (c:Nat) (S:aa):Prop where
 eD:dC c S
 BN:bg S
 kids:Kids S
 last:S.last<=c+1
theorem e7.mono {c d:Nat} {S:aa} (h:e7 c S) (Eu:c<=d):e7 d S:=⟨fX h.eD Eu,h.BN,h.kids,by have:=h.last;omega⟩
theorem e7.kp {c:Nat} {S:aa} (h:e7 c S) (cu cg now:Int) (x:ia) (hx:∀fr a to_ b,x≠.rename fr a to_ b):e7 (c+1) (cq S cu cg now x):=
 ⟨NX h.eD _ _ _ _ hx,CR h.eD h.BN _ _ _ _ hx,Ku h.eD h.kids _ _ _ _ hx,by have:=JU S cu cg now x;have:=h.last;omega⟩
theorem yx {S:aa} (h:bg S) (a b n:Int):bg (cx S a b n):=by
 unfold cx;split
 ·intro m hm hk
  rcases List.mem_append.1 hm with hm|hm
  ·exact h m hm hk
  ·rw [List.mem_singleton]at hm
   subst hm;exact absurd rfl hk
 ·exact h
theorem e7.jT {c:Nat} {S:aa} (h:e7 c S) (a b n:Int):e7 (c+1) (cx S a b n):=
 ⟨fX (FA h.eD _ _ _) (by omega),yx h.BN _ _ _,De h.eD h.kids _ _ _,by have:=zS (S:=S) a b n;have:=h.last;omega⟩
theorem e7.first {b n:Int} (hl:cj b n=true):e7 0 (b_ cB 0 b n):=
 ⟨FB hl,fun m hm hk=>by
  have hm':m∈[bj cB]:=hm;rw [List.mem_singleton]at hm';subst hm';rfl,Df b n,by show (1:Int)<=_;omega⟩
def mw (S:aa) (m:eF):gI×Int:=dF S 0 0 m.path false
def qV (S:aa) (m:eF):ia:=.bB (mw S m).1.dir (mw S m).1.name 493
def gK (S:aa) (m:eF):aa:=
 if (mw S m).2≠0 then S
 else if (mw S m).1.no=0 then (if fA S 0 0 0 (qV S m)=0 then cx (cq S 0 0 0 (qV S m)) (j_ S 0 0 0 (qV S m)) m.b m.n else cq S 0 0 0 (qV S m))
 else cx S (mw S m).1.no m.b m.n
theorem e7.KX {c:Nat} {S:aa} (h:e7 c S) (m:eF):e7 (c+2) (gK S m):=by
 unfold gK;split
 ·exact h.mono (by omega)
 ·split
  ·have h1:=h.kp 0 0 0 (qV S m) (fun _ _ _ _ e=>by cases e)
   split
   ·exact h1.jT _ _ _
   ·exact h1.mono (by omega)
  ·exact (h.jT _ _ _).mono (by omega)
def my (m:eF):Bool:=m.path == [47]
def dZ (S:aa) (l:List eF):aa:=l.foldl (fun S m=>if my m=true then S else gK S m) S
theorem e7.AU {c:Nat} {S:aa} (h:e7 c S) (l:List eF):e7 (c+2*l.length) (dZ S l):=by
 unfold dZ
 induction l generalizing c S with
 | nil=>exact h
 | cons m l ih =>
  rw [List.foldl_cons];have h1:e7 (c+2) (if my m=true then S else gK S m):=by
   split
   ·exact h.mono (by omega)
   ·exact h.KX m
  exact (ih h1).mono (by rw[List.length_cons];omega)
def ew (S:aa) (it:dN):gI×Int:=dF S 0 0 it.path false
def uo (S:aa) (it:dN):gI×Int:=dF S 0 0 it.data false
def gR (S:aa) (it:dN):Option ia:=
 if (ew S it).2≠0 then none
 else if (ew S it).1.no≠0 then none
 else if it.kind=1 then some (.bB (ew S it).1.dir (ew S it).1.name 493)
 else if it.kind=2 then some (.bc (ew S it).1.dir (ew S it).1.name 420 it.data)
 else if it.kind=3 then some (.symlink (ew S it).1.dir (ew S it).1.name it.data)
 else if it.kind=4 then (if (uo S it).2=0 then some (.link (uo S it).1.no (ew S it).1.dir (ew S it).1.name) else none)
 else none
def jd (S:aa) (it:dN):aa:=match gR S it with|some x=>cq S 0 0 0 x|none=>S
def ie (S:aa) (it:dN):Int:=
 match gR S it with
 | some x=>j_ S 0 0 0 x
 | none=>if (ew S it).2=0/\(ew S it).1.no≠0/\it.kind=1/\(ac S.nodes (ew S it).1.no).kind=1 then (ew S it).1.no else 0
theorem Ox {S:aa} {it:dN} {x:ia} (h:gR S it=some x):∀fr a to_ b,x≠.rename fr a to_ b:=by
 intro fr a to_ b e;subst e;unfold gR at h;split at h
 ·cases h
 split at h
 ·cases h
 split at h
 ·cases h
 split at h
 ·cases h
 split at h
 ·cases h
 split at h
 ·split at h<;>cases h
 ·cases h
theorem e7.GR {c:Nat} {S:aa} (h:e7 c S) (it:dN):e7 (c+1) (jd S it):=by
 unfold jd;split
 ·rename_i x hx;exact h.kp _ _ _ _ (Ox hx)
 ·exact h.mono (by omega)
def fB (S:aa) (no:Int) (it:dN):aa:=if no≠0 then dX (fj S 0 0 no it.uid it.gid) 0 0 no it.mode else S
theorem e7.AV {c:Nat} {S:aa} (h:e7 c S) (no:Int) (it:dN):e7 (c+2) (fB S no it):=by
 unfold fB;split
 ·exact (h.kp 0 0 0 (.cK no it.uid it.gid) (fun _ _ _ _ e=>by cases e)).kp 0 0 0 (.cJ no it.mode) (fun _ _ _ _ e=>by cases e)
 ·exact h.mono (by omega)
def rJ (p:aa×List Int) (it:dN):aa×List Int:=(fB (jd p.1 it) (ie p.1 it) it,p.2++[ie p.1 it])
def dD (p:aa×List Int) (l:List dN):aa×List Int:=l.foldl rJ p
theorem e7.items {c:Nat} (l:List dN) (p:aa×List Int) (h:e7 c p.1):e7 (c+3*l.length) (dD p l).1/\(dD p l).2.length=p.2.length+l.length:=by
 unfold dD
 induction l generalizing c p with
 | nil=>exact⟨h,rfl⟩
 | cons m l ih =>
  rw [List.foldl_cons];have h1:e7 (c+3) (rJ p m).1:=(h.GR m).AV _ _;obtain ⟨k1,k2⟩:=ih _ h1;refine ⟨k1.mono (by rw[List.length_cons];omega),?_⟩;rw [k2];unfold rJ;simp only[List.length_append,List.length_cons,List.length_nil];omega
def mi (S:aa) (x:Int×dN):aa:=if x.1≠0 then ef S 0 0 x.1 x.2.mtime else S
def dS (S:aa) (l:List (Int×dN)):aa:=l.foldl mi S
theorem e7.times {c:Nat} (l:List (Int×dN)) {S:aa} (h:e7 c S):e7 (c+l.length) (dS S l):=by
 unfold dS
 induction l generalizing c S with
 | nil=>exact h
 | cons x l ih =>
  rw [List.foldl_cons];have h1:e7 (c+1) (mi S x):=by
   unfold mi;split
   ·exact h.kp 0 0 0 (.dA x.1 x.2.mtime) (fun _ _ _ _ e=>by cases e)
   ·exact h.mono (by omega)
  exact (ih h1).mono (by rw[List.length_cons];omega)
def eC (l:List eF):Int×Int:=match l.find? (fun m=>my m&&cj m.b m.n) with|some m=>(m.b,m.n)|none=>(65536,65536)
theorem jE (l:List eF):cj (eC l).1 (eC l).2=true:=by
 unfold eC;split
 ·rename_i m hm
  have:=List.find?_some hm;simp only[Bool.and_eq_true]at this;exact this.2
 ·decide
def fM (ms:List eF):aa:=b_ cB 0 (eC ms).1 (eC ms).2
def xc (ms:List eF) (is:List dN):aa×List Int:=dD (dZ (fM ms) ms,[]) is
def fC (ms:List eF) (is:List dN):aa:=dS (xc ms is).1 ((xc ms is).2.zip is)
def sb (ns:List ai):Nat:=(ns.map fun n=>n.af.length).sum
theorem rK (a b:List ai):sb (a++b)=sb a+sb b:=by unfold sb;rw[List.map_append,List.sum_append]
theorem xd {ns:List ai} {n:ai} (h:∀m∈ns,m.no≠n.no):cA ns n=ns:=by
 unfold cA;have:ns.map (fun m=>if m.no == n.no then n else m)=ns.map id:=by
  apply List.map_congr_left;intro m hm;have:=h m hm;rw [if_neg (by simpa using this)];rfl
 rw [this,List.map_id]
theorem KY {ns:List ai} (hp:ns.Pairwise (fun a b=>a.no<b.no)) {n:ai} {d:Nat} (hle:n.af.length<=(ac ns n.no).af.length+d):sb (cA ns n)<=sb ns+d:=by
 induction ns with
 | nil=>exact Nat.zero_le _
 | cons a ns ih =>
  rw [List.pairwise_cons]at hp
  by_cases he:a.no=n.no
  ·have h1:cA ns n=ns:=xd fun m hm=>by have:=hp.1 m hm;omega
   have h2:ac (a::ns) n.no=a:=by unfold ac eX;rw[List.find?_cons];simp[he]
   have h3:cA (a::ns) n=n::cA ns n:=by unfold cA;rw[List.map_cons,if_pos (by simpa using he)]
   rw [h3,h1];rw [h2]at hle;unfold sb;rw [List.map_cons,List.sum_cons,List.map_cons,List.sum_cons];omega
  ·have h2:ac (a::ns) n.no=ac ns n.no:=by
    unfold ac eX;rw [List.find?_cons];have:(a.no == n.no)=false:=by simpa using he
    rw [this]
   have h3:cA (a::ns) n=a::cA ns n:=by unfold cA;rw[List.map_cons,if_neg (by simpa using he)]
   rw [h2]at hle;have:=ih hp.2 hle;rw [h3];unfold sb at this|-;rw [List.map_cons,List.sum_cons,List.map_cons,List.sum_cons];omega
theorem qW (S:aa):bH S=sb S.nodes:=rfl
theorem uq {S:aa} (hu:aD S.nodes S.last) {n:ai} {d:Nat} (hle:n.af.length<=(ac S.nodes n.no).af.length+d):bH (aJ S n)<=bH S+d:=KY hu.1 hle
theorem pX {S:aa} (hu:aD S.nodes S.last) {no:Int} (hi:aK S.nodes no=true) {n:ai} (aU:n.no=(ac S.nodes no).no) (he:n.af=(ac S.nodes no).af):bH (aJ S n)<=bH S:=by
 have h1:n.no=no:=aU.trans (aj hi).2.1;have:=uq (d:=0) hu (n:=n) (by rw[h1,he];omega);omega
theorem lG {S:aa} {c:Nat} (hT:dC c S) (cu cg now dir:Int) (nm:List UInt8) (n:ai) (hn:n.af=[]):bH (aW S cu cg now dir nm n)<=bH S+1:=by
 unfold aW;split
 case isFalse=>omega
 rename_i h0;obtain ⟨h1,_,h3⟩:=eA h0;obtain ⟨p1,p2,_⟩:=aE h1;obtain ⟨_,aU,hmem⟩:=aj p1;have mD:(aQ S (bi S cu cg now dir n)).nodes=S.nodes++[{bi S cu cg now dir n with no:=S.last+1}]:=by unfold aQ;rw[if_pos h3]
 have M9:(aQ S (bi S cu cg now dir n)).last=S.last+1:=by unfold aQ;rw[if_pos h3]
 have hg:=fk hT.aC (bi S cu cg now dir n) p1;have hu:aD (aQ S (bi S cu cg now dir n)).nodes (aQ S (bi S cu cg now dir n)).last:=by rw[mD,M9];exact hT.aC.add _ rfl (by have:=hT.last;omega)
 have e1:bH (aQ S (bi S cu cg now dir n))=bH S:=by
  rw [qW,mD,rK];have:sb [{bi S cu cg now dir n with no:=S.last+1}]=0:=by
   show (([n.af.length]:List Nat)).sum=0;rw [hn];rfl
  rw [this];rfl
 rw [<-e1];refine uq hu ?_;show (dq (ac S.nodes dir).af (nm,S.last+1)).length<=(ac (aQ S (bi S cu cg now dir n)).nodes (ac (aQ S (bi S cu cg now dir n)).nodes dir).no).af.length+1;rw [hg.1,aU,hg.1];exact pu _ _
theorem nC {S T:aa} {p:Int} {k:Nat} (h:bH T<=bH S+k):bH (dR p S T)<=bH S+k:=by unfold dR;split;omega;exact h
theorem AX {S:aa} {c:Nat} (hT:dC c S) (cu cg now no dir:Int) (nm:List UInt8):bH (eW S cu cg now no dir nm)<=bH S+1:=by
 unfold eW;split
 case isFalse=>omega
 rename_i h0;obtain ⟨hp,hi,hk,_⟩:=g_ h0;obtain ⟨hid,qD,_⟩:=aE hp;obtain ⟨_,aU,hmem⟩:=aj hi;obtain ⟨_,lg,jg⟩:=aj hid;have hne:dir≠no:=fun e=>by subst e;exact hk qD
 have e0:(cy S now no).no=no:=aU;obtain ⟨g1,g2⟩:=fZ (S:=S) (n:=cy S now no) (no:=dir) (by rw[e0];exact hne);have a1:bH (aJ S (cy S now no))<=bH S:=pX hT.aC hi rfl rfl;have a2:bH (cI (aJ S (cy S now no)) dir now (dq (ac S.nodes dir).af (nm,no)))<=bH (aJ S (cy S now no))+1:=by
  refine uq (S:=aJ S (cy S now no)) (hT.aC.set _) ?_;show (dq (ac S.nodes dir).af (nm,no)).length<=(ac (aJ S (cy S now no)).nodes (ac (aJ S (cy S now no)).nodes dir).no).af.length+1;rw [g1,lg,g1];exact pu _ _
 omega
theorem AY {S:aa} {c:Nat} (hT:dC c S) (cu now no m:Int):bH (dX S cu now no m)<=bH S:=by
 unfold dX;split
 ·rename_i h0
  unfold eN at h0;split at h0
  ·rename_i h1;exact absurd h0 h1
  ·rename_i h1;exact pX hT.aC (eZ (Decidable.not_not.1 h1)) rfl rfl
 ·omega
theorem KZ {S:aa} {c:Nat} (hT:dC c S) (cu now no u g:Int):bH (fj S cu now no u g)<=bH S:=by
 unfold fj;split
 ·rename_i h0
  unfold fF at h0;split at h0
  ·rename_i h1;exact absurd h0 h1
  ·rename_i h1;exact pX hT.aC (eZ (Decidable.not_not.1 h1)) rfl rfl
 ·omega
theorem AZ {S:aa} {c:Nat} (hT:dC c S) (cu now no t:Int):bH (ef S cu now no t)<=bH S:=by
 unfold ef;split
 ·rename_i h0
  unfold fq at h0;split at h0
  ·rename_i h1;exact absurd h0 h1
  ·rename_i h1;exact pX hT.aC (eZ (Decidable.not_not.1 h1)) rfl rfl
 ·omega
theorem GS (S:aa) (a b n:Int):bH (cx S a b n)<=bH S:=by
 unfold cx;split
 ·rw [qW,qW]
  show sb (S.nodes++[bj S])<=_;rw [rK];have:sb [bj S]=0:=rfl;omega
 ·omega
structure iL (c:Nat) (S:aa):Prop where
 ee:e7 c S
 Dk:bH S<=c
theorem iL.mono {c d:Nat} {S:aa} (h:iL c S) (Eu:c<=d):iL d S:=⟨h.ee.mono Eu,by have:=h.Dk;omega⟩
theorem iL.jT {c:Nat} {S:aa} (h:iL c S) (a b n:Int):iL (c+1) (cx S a b n):=⟨h.ee.jT a b n,by have:=GS S a b n;have:=h.Dk;omega⟩
theorem iL.first {b n:Int} (hl:cj b n=true):iL 0 (b_ cB 0 b n):=⟨.first hl,Nat.le_refl _⟩
theorem iL.dir {c:Nat} {S:aa} (h:iL c S) (cu cg now dir:Int) (nm:List UInt8) (mode:Int):iL (c+1) (cq S cu cg now (.bB dir nm mode)):=
 ⟨h.ee.kp _ _ _ _ (fun _ _ _ _ e=>by cases e),by have:=nC (p:=lX mode) (lG h.ee.eD cu cg now dir nm (dM mode dir) rfl);have:=h.Dk;show bH (dR _ _ _)<=_;omega⟩
theorem iL.file {c:Nat} {S:aa} (h:iL c S) (cu cg now dir:Int) (nm:List UInt8) (mode:Int) (data:List UInt8):iL (c+1) (cq S cu cg now (.bc dir nm mode data)):=
 ⟨h.ee.kp _ _ _ _ (fun _ _ _ _ e=>by cases e),by have:=nC (p:=gH mode data.length) (lG h.ee.eD cu cg now dir nm (ct mode data) rfl);have:=h.Dk;show bH (dR _ _ _)<=_;omega⟩
theorem iL.sym {c:Nat} {S:aa} (h:iL c S) (cu cg now dir:Int) (nm text:List UInt8):iL (c+1) (cq S cu cg now (.symlink dir nm text)):=
 ⟨h.ee.kp _ _ _ _ (fun _ _ _ _ e=>by cases e),by have:=nC (p:=kN text) (lG h.ee.eD cu cg now dir nm (dY text) rfl);have:=h.Dk;show bH (dR _ _ _)<=_;omega⟩
theorem iL.Sq {c:Nat} {S:aa} (h:iL c S) (cu cg now no dir:Int) (nm:List UInt8):iL (c+1) (cq S cu cg now (.link no dir nm)):=
 ⟨h.ee.kp _ _ _ _ (fun _ _ _ _ e=>by cases e),by have:=AX h.ee.eD cu cg now no dir nm;have:=h.Dk;show bH (eW ..)<=_;omega⟩
theorem iL.mode {c:Nat} {S:aa} (h:iL c S) (cu cg now no m:Int):iL (c+1) (cq S cu cg now (.cJ no m)):=
 ⟨h.ee.kp _ _ _ _ (fun _ _ _ _ e=>by cases e),by have:=AY h.ee.eD cu now no m;have:=h.Dk;show bH (dX ..)<=_;omega⟩
theorem iL.aaI {c:Nat} {S:aa} (h:iL c S) (cu cg now no u g:Int):iL (c+1) (cq S cu cg now (.cK no u g)):=
 ⟨h.ee.kp _ _ _ _ (fun _ _ _ _ e=>by cases e),by have:=KZ h.ee.eD cu now no u g;have:=h.Dk;show bH (fj ..)<=_;omega⟩
theorem iL.time {c:Nat} {S:aa} (h:iL c S) (cu cg now no t:Int):iL (c+1) (cq S cu cg now (.dA no t)):=
 ⟨h.ee.kp _ _ _ _ (fun _ _ _ _ e=>by cases e),by have:=AZ h.ee.eD cu now no t;have:=h.Dk;show bH (ef ..)<=_;omega⟩
theorem iL.KX {c:Nat} {S:aa} (h:iL c S) (m:eF):iL (c+2) (gK S m):=by
 unfold gK;split
 ·exact h.mono (by omega)
 ·split
  ·have h1:=h.dir 0 0 0 (mw S m).1.dir (mw S m).1.name 493
   split
   ·exact h1.jT _ _ _
   ·exact h1.mono (by omega)
  ·exact (h.jT _ _ _).mono (by omega)
theorem iL.AU {c:Nat} {S:aa} (h:iL c S) (l:List eF):iL (c+2*l.length) (dZ S l):=by
 unfold dZ
 induction l generalizing c S with
 | nil=>exact h
 | cons m l ih =>
  rw [List.foldl_cons];have h1:iL (c+2) (if my m=true then S else gK S m):=by
   split
   ·exact h.mono (by omega)
   ·exact h.KX m
  exact (ih h1).mono (by rw[List.length_cons];omega)
theorem iL.GR {c:Nat} {S:aa} (h:iL c S) (it:dN):iL (c+1) (jd S it):=by
 unfold jd;split
 ·rename_i x hx
  unfold gR at hx;split at hx
  ·cases hx
  split at hx
  ·cases hx
  split at hx
  ·injection hx with hx;subst hx;exact h.dir ..
  split at hx
  ·injection hx with hx;subst hx;exact h.file ..
  split at hx
  ·injection hx with hx;subst hx;exact h.sym ..
  split at hx
  ·split at hx
   ·injection hx with hx;subst hx;exact h.Sq ..
   ·cases hx
  ·cases hx
 ·exact h.mono (by omega)
theorem iL.AV {c:Nat} {S:aa} (h:iL c S) (no:Int) (it:dN):iL (c+2) (fB S no it):=by
 unfold fB;split
 ·exact (h.aaI 0 0 0 no it.uid it.gid).mode 0 0 0 no it.mode
 ·exact h.mono (by omega)
theorem iL.item {c:Nat} {p:aa×List Int} (h:iL c p.1) (it:dN):iL (c+3) (rJ p it).1:=(h.GR it).AV _ _
theorem iL.items {c:Nat} (l:List dN) (p:aa×List Int) (h:iL c p.1):iL (c+3*l.length) (dD p l).1:=by
 unfold dD
 induction l generalizing c p with
 | nil=>exact h
 | cons m l ih =>
  rw [List.foldl_cons];exact (ih _ (h.item m)).mono (by rw[List.length_cons];omega)
theorem iL.times {c:Nat} (l:List (Int×dN)) {S:aa} (h:iL c S):iL (c+l.length) (dS S l):=by
 unfold dS
 induction l generalizing c S with
 | nil=>exact h
 | cons x l ih =>
  rw [List.foldl_cons];have h1:iL (c+1) (mi S x):=by
   unfold mi;split
   ·exact h.time 0 0 0 x.1 x.2.mtime
   ·exact h.mono (by omega)
  exact (ih h1).mono (by rw[List.length_cons];omega)
theorem xe {ms:List eF} {is:List dN} (h1:ms.length<=10) (h2:is.length<=30):iL 140 (fC ms is):=by
 have a:=(iL.first (jE ms)).AU ms;have b1:=iL.items is (dZ (fM ms) ms,[]) a;have c:=b1.times ((xc ms is).2.zip is);refine c.mono ?_;have:((xc ms is).2.zip is).length<=is.length:=by rw[List.length_zip];omega
 omega
theorem xf {S:aa} {cu cg at_:Int} {p:List UInt8} (h:¬en S cu cg at_ p≠0) (h2:p≠[46,46]):p.length<=255:=by
 have h:=Decidable.not_not.1 h;unfold en at h;split at h
 ·cases h
 split at h
 ·cases h
 split at h
 ·cases h
 ·omega
theorem GU (S:aa) (cu cg:Int) (eE:Bool):∀l h,∀at_ m,(cL S cu cg eE at_ l h m).1.name.length<=255:=by
 refine J7 (fun l h ih=>?_);intro at_ m
 cases l with
 | nil=>rw[pO];exact Nat.zero_le _
 | cons p l =>
  rw [cL];split
  ·exact Nat.zero_le _
  rename_i h1;split
  ·exact ih _ _ (.inr ⟨rfl,by simp⟩) _ _
  rename_i h2;split
  ·split
   ·exact xf h1 h2
   ·exact Nat.zero_le _
  split
  ·split
   ·exact Nat.zero_le _
   ·split
    ·exact Nat.zero_le _
    ·exact ih _ _ (.inl ⟨by omega,by omega⟩) _ _
  split
  ·exact Nat.zero_le _
  split
  ·exact xf h1 h2
  ·exact ih _ _ (.inr ⟨rfl,by simp⟩) _ _
theorem kv (S:aa) (cu cg:Int) (p:List UInt8) (eE:Bool):(dF S cu cg p eE).1.name.length<=255:=by
 unfold dF;split
 ·exact GU ..
 ·exact Nat.zero_le _
open Go.ChangeShapes Go.WideShapes Go.ChangeAt Go.RowKit
def jU (w:World) (B b:Nat) (g:bJ) (c:Nat) (S:aa):Prop:=∃n:Int,0<=n/\n<=c/\PS w B b g ⟨S,0,n,[],false⟩
def mW (w:World) (B b:Nat) (g:bJ) (c:Nat) (S:aa) (w':World):Prop:=∃g',bJ.on g' g w/\jU w' B b g' c S/\Only (b::g.list) w w'
def eU (w:World) (B:Nat) (f:cE) (S:aa):Prop:=RS w B f ⟨S,0,0,[],false⟩
def mz (w:World) (B:Nat) (f:cE) (S:aa) (w':World):Prop:=MA w B f ⟨S,0,0,[],false⟩ w'
theorem yy (S:aa) (n:Int):yi ⟨S,0,n,[],false⟩=0:=rfl
theorem K_ (S:aa) (n:Int) (x:ia):jq ⟨S,0,n,[],false⟩ 0 0 x=⟨cq S 0 0 0 x,0,n+1,[],false⟩:=by
 unfold jq;rw[if_neg (by rw[yy];decide),(nv (yy S n)).2]
theorem La (S:aa) (n:Int) (x:ia):kW ⟨S,0,n,[],false⟩ 0 0 x=fA S 0 0 0 x:=by unfold kW;rw[if_neg (by rw[yy];decide)]
theorem Sr (S:aa) (n:Int) (x:ia):ow ⟨S,0,n,[],false⟩ 0 0 x=j_ S 0 0 0 x:=by unfold ow;rw[if_neg (by rw[yy];decide)]
theorem e7.ig {c:Nat} {S:aa} (k:e7 c S) {n:Int} (h0:0<=n) (h1:n<=c):fJ c ⟨S,0,n,[],false⟩:=⟨k.eD,k.BN,k.last,h0,h1,Nat.zero_le _⟩
section
variable {w:World} {B b:Nat} {g:bJ} {c:Nat} {S:aa}
theorem jU.ext {w':World} (h:jU w B b g c S) (k:Ext w w'):jU w' B b g c S:=by obtain⟨n,h1,h2,h3⟩:=h;exact⟨n,h1,h2,h3.ext k⟩
theorem jU.mono {d:Nat} (h:jU w B b g c S) (k:c<=d):jU w B b g d S:=by obtain⟨n,h1,h2,h3⟩:=h;exact⟨n,h1,by omega,h3⟩
theorem jU.lt (h:jU w B b g c S):∀x∈b::g.list,x<w.heap.size:=by obtain⟨n,h1,h2,h3⟩:=h;exact h3.lt
theorem jU.cR (h:jU w B b g c S):eG w B (b::g.list):=by obtain⟨n,h1,h2,h3⟩:=h;exact h3.cR
theorem jU.only {w':World} {L:List Nat} (h:jU w B b g c S) (o:Only L w w') (ha:eG w B L) (hn:∀x∈b::g.list,x∉L):jU w' B b g c S:=by obtain⟨n,h1,h2,h3⟩:=h;exact⟨n,h1,h2,h3.only o ha hn⟩
theorem jU.sys (h:jU w B b g c S):∃n A cap,Has w b (.cells #[.pointer (some ⟨g.bW,0,none⟩),.int .i64 0,.int .i64 n,.slice A 0 cap,.bool false] 66):=by
 obtain ⟨n,_,_,A,cap,_,h2,_⟩:=h;exact ⟨n,A,cap,h2⟩
theorem jU.off (h:jU w B b g c S) {x:Nat} {cs:Array Value} {t:TypeId} (hx:Has w x (.cells cs t)) (h1:t≠66) (h2:t≠70) (h3:t≠113) (h4:t≠157):x∉b::g.list:=by
 obtain ⟨n,_,_,A,cap,⟨_,⟨_,_,k2,es,cl,k3,_⟩,cd,k4,k5⟩,a2,_⟩:=h;obtain ⟨_,cur,k6⟩:=k5.has;intro hb;simp only[bJ.list,List.mem_cons,List.not_mem_nil,or_false]at hb;unfold eI at a2;unfold Has at *;rcases hb with rfl|rfl|rfl|rfl|rfl
 ·rw[hx]at a2;injection a2 with e;injection e with _ e;exact h1 e
 ·rw[hx]at k4;injection k4 with e;injection e with _ e;exact h2 e
 ·rw[hx]at k2;injection k2 with e;injection e with _ e;exact h3 e
 ·rw[hx]at k3;injection k3 with e;cases e
 ·rw[hx]at k6;injection k6 with e;injection e with _ e;exact h4 e
theorem mW.mono {d:Nat} {T:aa} {w':World} (h:mW w B b g c T w') (k:c<=d):mW w B b g d T w':=by obtain⟨g',h1,h2,h3⟩:=h;exact⟨g',h1,h2.mono k,h3⟩
theorem mW.pre {T:aa} {w1 w':World} (k:Ext w w1) (h:mW w1 B b g c T w'):mW w B b g c T w':=by
 obtain ⟨g',h1,h2,h3⟩:=h;have hs:=k.size;exact ⟨g',⟨h1.1,fun x hx=>(h1.2 x hx).imp id fun e=>by omega⟩,h2,Only.pre k h3⟩
theorem mW.has {T:aa} {w':World} {x:Nat} {o:Obj} (h:mW w B b g c T w') (k:Has w x o) (hx:x∉b::g.list):Has w' x o:=by obtain⟨_,_,_,h3⟩:=h;exact h3.has k hx
theorem mW.refl (h:jU w B b g c S) {w':World} (k:Ext w w'):mW w B b g c S w':=⟨g,bJ.fx _ _,h.ext k,Only.av k⟩
theorem mW.trans {c2:Nat} {T:aa} {w1 w':World} {g1:bJ} (h1:bJ.on g1 g w) (o:Only (b::g.list) w w1) (k:mW w1 B b g1 c2 T w'):mW w B b g c2 T w':=by
 obtain ⟨g2,k1,k2,k3⟩:=k;refine ⟨g2,bJ.pC h1 k1 o.size,k2,o.trans k3 fun x hx=>?_⟩;rcases List.mem_cons.1 hx with rfl|hx
 ·exact .inl (List.mem_cons_self ..)
 ·rcases h1.2 x hx with e|e
  ·exact .inl (List.mem_cons_of_mem _ e)
  ·exact .inr e
theorem mW.after {c2:Nat} {T:aa} {w0 w':World} (h:mW w B b g c2 T w') (k:jU w B b g c S) (hE:Ext w0 w) (hB:w0.heap.size<=B):Ext w0 w':=by
 obtain ⟨_,_,_,h3⟩:=h;exact h3.after hE fun x hx=>by have:=(k.cR x hx).1;omega
theorem Oy {n:Int} (h0:0<=n) (h1:n<=c) {x:ia} {e:Ending} {w':World} (k:JW w B b g ⟨S,0,n,[],false⟩ 0 0 x e w'):e=.returned (.int .i64 (fA S 0 0 0 x))/\mW w B b g (c+1) (cq S 0 0 0 x) w':=by
 obtain ⟨k1,k2,k3⟩:=k;rw [La]at k1;rw [K_]at k2;exact ⟨k1,g,bJ.fx _ _,⟨n+1,by omega,by omega,k2⟩,k3⟩
theorem Ss {n:Int} (h0:0<=n) (h1:n<=c) {x:ia} {e:Ending} {w':World} (k:Mz w B b g ⟨S,0,n,[],false⟩ 0 0 x e w'):e=.returned (.tuple #[.int .i64 (j_ S 0 0 0 x),.int .i64 (fA S 0 0 0 x)])/\mW w B b g (c+1) (cq S 0 0 0 x) w':=by
 obtain ⟨k1,k2,k3⟩:=k;rw [Sr,La]at k1;rw [K_]at k2;exact ⟨k1,g,bJ.fx _ _,⟨n+1,by omega,by omega,k2⟩,k3⟩
abbrev jV:Value:=.agg #[.int .i64 0,.int .i64 0]
theorem jU.find (h:jU w B b g c S) (k:e7 c S) (hc:c<=900) (p:List UInt8) (eE:Bool) (hp:p.length<=1000000) :
  Calls Tryz.prog 79 #[.pointer (some ⟨b,0,none⟩),jV,bs p,.bool eE] w (gQ w (dF S 0 0 p eE)):=by
 obtain ⟨n,h0,h1,h2⟩:=h;exact h2.find (k.ig h0 h1) hc 0 0 p eE hp
theorem jU.stat (h:jU w B b g c S) (k:e7 c S) (no:Int) :
  Calls Tryz.prog 12 #[.pointer (some ⟨b,0,none⟩),.int .i64 no] w (aH w (.tuple #[fG (ac S.nodes no),.int .i64 (cC S no)])):=by
 obtain ⟨n,h0,h1,h2⟩:=h;exact h2.stat (k.ig h0 h1) no
theorem jU.bB (h:jU w B b g c S) (k:e7 c S) (hc:c<=900) (dir:Int) (nm:List UInt8) (mode:Int) :
  Calls Tryz.prog 64 #[.pointer (some ⟨b,0,none⟩),jV,.int .i64 dir,bs nm,.int .i64 mode] w (fun e w'=>e=.returned (.tuple #[.int .i64 (j_ S 0 0 0 (.bB dir nm mode)),.int .i64 (fA S 0 0 0 (.bB dir nm mode))])/\mW w B b g (c+1) (cq S 0 0 0 (.bB dir nm mode)) w'):=by
 obtain ⟨n,h0,h1,h2⟩:=h;exact (h2.bB (k.ig h0 h1) hc rfl 0 0 dir nm mode).mono fun _ _ q=>Ss h0 h1 q
theorem jU.bc (h:jU w B b g c S) (k:e7 c S) (hc:c<=900) (dir:Int) (nm:List UInt8) (mode:Int) (data:List UInt8) (kM:data.length<=1000000000) :
  Calls Tryz.prog 66 #[.pointer (some ⟨b,0,none⟩),jV,.int .i64 dir,bs nm,.int .i64 mode,bs data] w (fun e w'=>e=.returned (.tuple #[.int .i64 (j_ S 0 0 0 (.bc dir nm mode data)),.int .i64 (fA S 0 0 0 (.bc dir nm mode data))])/\mW w B b g (c+1) (cq S 0 0 0 (.bc dir nm mode data)) w'):=by
 obtain ⟨n,h0,h1,h2⟩:=h;exact (h2.bc (k.ig h0 h1) hc rfl 0 0 dir nm mode data kM).mono fun _ _ q=>Ss h0 h1 q
theorem jU.symlink (h:jU w B b g c S) (k:e7 c S) (hc:c<=900) (dir:Int) (nm text:List UInt8) (kM:text.length<=1000000000) :
  Calls Tryz.prog 68 #[.pointer (some ⟨b,0,none⟩),jV,.int .i64 dir,bs nm,bs text] w (fun e w'=>e=.returned (.tuple #[.int .i64 (j_ S 0 0 0 (.symlink dir nm text)),.int .i64 (fA S 0 0 0 (.symlink dir nm text))])/\mW w B b g (c+1) (cq S 0 0 0 (.symlink dir nm text)) w'):=by
 obtain ⟨n,h0,h1,h2⟩:=h;exact (h2.symlink (k.ig h0 h1) hc rfl 0 0 dir nm text kM).mono fun _ _ q=>Ss h0 h1 q
theorem jU.link (h:jU w B b g c S) (k:e7 c S) (hc:c<=900) (no dir:Int) (nm:List UInt8) :
  Calls Tryz.prog 63 #[.pointer (some ⟨b,0,none⟩),jV,.int .i64 no,.int .i64 dir,bs nm] w (fun e w'=>e=.returned (.int .i64 (fA S 0 0 0 (.link no dir nm)))/\mW w B b g (c+1) (cq S 0 0 0 (.link no dir nm)) w'):=by
 obtain ⟨n,h0,h1,h2⟩:=h;exact (h2.link (k.ig h0 h1) hc rfl 0 0 no dir nm).mono fun _ _ q=>Oy h0 h1 q
theorem jU.cJ (h:jU w B b g c S) (k:e7 c S) (hc:c<=900) (no mode:Int) :
  Calls Tryz.prog 48 #[.pointer (some ⟨b,0,none⟩),jV,.int .i64 no,.int .i64 mode] w (fun e w'=>e=.returned (.int .i64 (fA S 0 0 0 (.cJ no mode)))/\mW w B b g (c+1) (cq S 0 0 0 (.cJ no mode)) w'):=by
 obtain ⟨n,h0,h1,h2⟩:=h;exact (h2.cJ (k.ig h0 h1) hc rfl 0 0 no mode).mono fun _ _ q=>Oy h0 h1 q
theorem jU.cK (h:jU w B b g c S) (k:e7 c S) (hc:c<=900) (no uid gid:Int) :
  Calls Tryz.prog 47 #[.pointer (some ⟨b,0,none⟩),jV,.int .i64 no,.int .i64 uid,.int .i64 gid] w (fun e w'=>e=.returned (.int .i64 (fA S 0 0 0 (.cK no uid gid)))/\mW w B b g (c+1) (cq S 0 0 0 (.cK no uid gid)) w'):=by
 obtain ⟨n,h0,h1,h2⟩:=h;exact (h2.cK (k.ig h0 h1) hc rfl 0 0 no uid gid).mono fun _ _ q=>Oy h0 h1 q
theorem jU.dA (h:jU w B b g c S) (k:e7 c S) (hc:c<=900) (no mt:Int) :
  Calls Tryz.prog 49 #[.pointer (some ⟨b,0,none⟩),jV,.int .i64 no,.int .i64 mt] w (fun e w'=>e=.returned (.int .i64 (fA S 0 0 0 (.dA no mt)))/\mW w B b g (c+1) (cq S 0 0 0 (.dA no mt)) w'):=by
 obtain ⟨n,h0,h1,h2⟩:=h;exact (h2.dA (k.ig h0 h1) hc rfl 0 0 no mt).mono fun _ _ q=>Oy h0 h1 q
theorem jU.jT (h:jU w B b g c S) (k:e7 c S) (hc:c<=900) (at_ bl nd:Int) :
  Calls Tryz.prog 80 #[.pointer (some ⟨g.bW,0,none⟩),.int .i64 at_,.int .i64 bl,.int .i64 nd] w (fun e w'=>(∃v,e=.returned v)/\mW w B b g c (cx S at_ bl nd) w'):=by
 obtain ⟨n,h0,h1,h2⟩:=h;have hn:=h2.iy;obtain ⟨A,cap,a1,a2,a3,a4,a5⟩:=h2;refine (Cc B g S at_ bl nd w a1 k.eD.ag k.eD.eight k.eD.aC (by have:=k.eD.last;omega) (by have:=k.last;omega)).mono ?_;rintro e w' ⟨rfl,bD,K,O,hD⟩;refine ⟨⟨_,rfl⟩,⟨g.bW,g.bT,g.bM,bD⟩,⟨rfl,fun x hx=>?_⟩,⟨n,h0,h1,A,cap,K,eI.only a2 O hn,a3.only O a1.cR,a4,a5⟩,O.mono fun y hy=>List.mem_cons_of_mem _ hy⟩;simp only[bJ.list,List.mem_cons,List.not_mem_nil,or_false]at hx|-;rcases hx with rfl|rfl|rfl|rfl
 ·exact .inl (.inl rfl)
 ·exact .inl (.inr (.inl rfl))
 ·exact .inl (.inr (.inr (.inl rfl)))
 ·rcases hD with e|e
  ·exact .inl (.inr (.inr (.inr e)))
  ·exact .inr e
end
section
variable {w:World} {B:Nat} {f:cE} {c:Nat} {S:aa}
theorem eU.ext {w':World} (h:eU w B f S) (k:Ext w w'):eU w' B f S:=RS.ext h k
theorem eU.lt (h:eU w B f S):∀x∈f.list,x<w.heap.size:=RS.lt h
theorem eU.cR (h:eU w B f S):eG w B f.list:=RS.cR h
theorem eU.only {w':World} {L:List Nat} (h:eU w B f S) (o:Only L w w') (ha:eG w B L) (hn:∀x∈f.list,x∉L):eU w' B f S:=RS.only h o ha hn
theorem eU.off (h:eU w B f S) {x:Nat} {cs:Array Value} {t:TypeId} (hx:Has w x (.cells cs t)) (h1:t≠54) (h2:t≠58) (h3:t≠110):x∉f.list:=by
 obtain ⟨A,cap,⟨_,cn,ce,k2,⟨xs,k3,_⟩,k4⟩,_⟩:=h;obtain ⟨_,xI,k5⟩:=bU k3;obtain ⟨_,Fp,k6⟩:=bU k4;intro hb;simp only[cE.list,List.mem_cons,List.not_mem_nil,or_false]at hb;unfold Has at *;rcases hb with rfl|rfl|rfl
 ·rw[hx]at k2;injection k2 with e;injection e with _ e;exact h1 e
 ·rw[hx]at k5;injection k5 with e;injection e with _ e;exact h2 e
 ·rw[hx]at k6;injection k6 with e;injection e with _ e;exact h3 e
theorem mz.pre {T:aa} {w1 w':World} (k:Ext w w1) (h:mz w1 B f T w'):mz w B f T w':=by
 obtain ⟨f',h1,h2,h3⟩:=h;have hs:=k.size;exact ⟨f',h1,Only.pre k h2,⟨h3.1,fun x hx=>(h3.2 x hx).imp id fun e=>by omega⟩⟩
theorem mz.has {T:aa} {w':World} {x:Nat} {o:Obj} (h:mz w B f T w') (k:Has w x o) (hx:x∉f.list):Has w' x o:=by obtain⟨_,_,h3,_⟩:=h;exact h3.has k hx
theorem mz.refl (h:eU w B f S) {w':World} (k:Ext w w'):mz w B f S w':=⟨f,h.ext k,Only.av k,cE.fx _ _⟩
theorem mz.trans {T:aa} {w1 w':World} {f1:cE} (h1:cE.on f1 f w) (o:Only f.list w w1) (k:mz w1 B f1 T w'):mz w B f T w':=by
 obtain ⟨f2,k1,k3,k2⟩:=k;refine ⟨f2,k1,o.trans k3 fun x hx=>?_,cE.pC h1 k2 o.size⟩;rcases h1.2 x hx with e|e
 ·exact .inl e
 ·exact .inr e
theorem eU.find (h:eU w B f S) (k:e7 c S) (hc:c<=900) (p:List UInt8) (eE:Bool) (hp:p.length<=1000000) :
  Calls Tryz.prog 30 #[.pointer (some ⟨f.bF,0,none⟩),jV,bs p,.bool eE] w (gQ w (dF S 0 0 p eE)):=by
 obtain ⟨X,F⟩:=RS.TM h;exact mU B f S X 0 0 p eE w F k.eD (by omega) (by have:=k.last;omega) hp
theorem eU.get (h:eU w B f S) (k:e7 c S) (hc:c<=900) (no:Int) :
  Calls Tryz.prog 14 #[.pointer (some ⟨f.bF,0,none⟩),.int .i64 no] w (Ns w B S.nodes no):=by
 obtain ⟨X,F⟩:=RS.TM h;exact fc B f S X no w F (by have:=k.eD.count;have:=k.last;omega) k.eD.aC
theorem eU.bB (h:eU w B f S) (k:e7 c S) (hc:c<=900) (dir:Int) (nm:List UInt8) (mode:Int) (gP:nm.length<=1000000) :
  Calls Tryz.prog 87 #[.pointer (some ⟨f.bF,0,none⟩),jV,.int .i64 dir,bs nm,.int .i64 mode] w (fun e w'=>e=.returned (.tuple #[.int .i64 (j_ S 0 0 0 (.bB dir nm mode)),.int .i64 (fA S 0 0 0 (.bB dir nm mode))])/\mz w B f (cq S 0 0 0 (.bB dir nm mode)) w'):=
 RS.bB h (k.ig (Int.le_refl _) (by omega)) hc 0 0 dir nm mode gP
theorem eU.bc (h:eU w B f S) (k:e7 c S) (hc:c<=900) (dir:Int) (nm:List UInt8) (mode:Int) (data:List UInt8) (gP:nm.length<=1000000) (kM:data.length<=1000000000) :
  Calls Tryz.prog 89 #[.pointer (some ⟨f.bF,0,none⟩),jV,.int .i64 dir,bs nm,.int .i64 mode,bs data] w (fun e w'=>e=.returned (.tuple #[.int .i64 (j_ S 0 0 0 (.bc dir nm mode data)),.int .i64 (fA S 0 0 0 (.bc dir nm mode data))])/\mz w B f (cq S 0 0 0 (.bc dir nm mode data)) w'):=
 RS.bc h (k.ig (Int.le_refl _) (by omega)) hc 0 0 dir nm mode data gP kM
theorem eU.symlink (h:eU w B f S) (k:e7 c S) (hc:c<=900) (dir:Int) (nm text:List UInt8) (gP:nm.length<=1000000) (kM:text.length<=1000000) :
  Calls Tryz.prog 90 #[.pointer (some ⟨f.bF,0,none⟩),jV,.int .i64 dir,bs nm,bs text] w (fun e w'=>e=.returned (.tuple #[.int .i64 (j_ S 0 0 0 (.symlink dir nm text)),.int .i64 (fA S 0 0 0 (.symlink dir nm text))])/\mz w B f (cq S 0 0 0 (.symlink dir nm text)) w'):=
 RS.symlink h (k.ig (Int.le_refl _) (by omega)) hc 0 0 dir nm text gP kM
theorem eU.link (h:eU w B f S) (k:e7 c S) (hc:c<=900) (no dir:Int) (nm:List UInt8) (gP:nm.length<=1000000) :
  Calls Tryz.prog 91 #[.pointer (some ⟨f.bF,0,none⟩),jV,.int .i64 no,.int .i64 dir,bs nm] w (fun e w'=>e=.returned (.int .i64 (fA S 0 0 0 (.link no dir nm)))/\mz w B f (cq S 0 0 0 (.link no dir nm)) w'):=
 RS.link h (k.ig (Int.le_refl _) (by omega)) hc 0 0 no dir nm gP
theorem eU.cJ (h:eU w B f S) (k:e7 c S) (hc:c<=900) (no mode:Int) :
  Calls Tryz.prog 56 #[.pointer (some ⟨f.bF,0,none⟩),jV,.int .i64 no,.int .i64 mode] w (fun e w'=>e=.returned (.int .i64 (fA S 0 0 0 (.cJ no mode)))/\mz w B f (cq S 0 0 0 (.cJ no mode)) w'):=
 RS.cJ h (k.ig (Int.le_refl _) (by omega)) hc 0 0 no mode
theorem eU.cK (h:eU w B f S) (k:e7 c S) (hc:c<=900) (no uid gid:Int) :
  Calls Tryz.prog 55 #[.pointer (some ⟨f.bF,0,none⟩),jV,.int .i64 no,.int .i64 uid,.int .i64 gid] w (fun e w'=>e=.returned (.int .i64 (fA S 0 0 0 (.cK no uid gid)))/\mz w B f (cq S 0 0 0 (.cK no uid gid)) w'):=
 RS.cK h (k.ig (Int.le_refl _) (by omega)) hc 0 0 no uid gid
theorem eU.dA (h:eU w B f S) (k:e7 c S) (hc:c<=900) (no mt:Int) :
  Calls Tryz.prog 57 #[.pointer (some ⟨f.bF,0,none⟩),jV,.int .i64 no,.int .i64 mt] w (fun e w'=>e=.returned (.int .i64 (fA S 0 0 0 (.dA no mt)))/\mz w B f (cq S 0 0 0 (.dA no mt)) w'):=
 RS.dA h (k.ig (Int.le_refl _) (by omega)) hc 0 0 no mt
theorem eU.jT (h:eU w B f S) (k:e7 c S) (hc:c<=900) (at_ bl nd:Int) :
  Calls Tryz.prog 88 #[.pointer (some ⟨f.bF,0,none⟩),.int .i64 at_,.int .i64 bl,.int .i64 nd] w (fun e w'=>(∃v,e=.returned v)/\mz w B f (cx S at_ bl nd) w'):=by
 obtain ⟨A,cap,F,P⟩:=h;refine (Ce B f S _ at_ bl nd w F k.eD.eight k.eD.aC (by have:=k.eD.last;omega) (by have:=k.last;omega) (by have:=k.eD.count;have:=k.last;omega)).mono ?_;rintro e w' ⟨rfl,bN,bE,K,O,h1,h2⟩;refine ⟨⟨_,rfl⟩,⟨f.bF,bN,bE⟩,⟨A,cap,K,P.only O F.cR⟩,O,rfl,fun x hx=>?_⟩;simp only[cE.list,List.mem_cons,List.not_mem_nil,or_false]at hx|-;rcases hx with rfl|rfl|rfl
 ·exact .inl (.inl rfl)
 ·rcases h1 with e|e
  ·exact .inl (.inr (.inl e))
  ·exact .inr e
 ·rcases h2 with e|e
  ·exact .inl (.inr (.inr e))
  ·exact .inr e
end
end
section
open Go.ChangeShapes Go.WideShapes Go.ChangeAt Go.RowKit
def ur:RowK eF:=⟨22,125,3,32,.agg #[.string ⟨#[]⟩,.int .i64 0,.int .i64 0],fun x=>[.string (bs x.path),.int .i64 x.b,.int .i64 x.n],by decide,Tryz.underlying22,by kernel_rfl,rfl,fun _=>rfl,fun x u hu=>by
 simp only[List.mem_cons,List.not_mem_nil,or_false]at hu;rcases hu with rfl|rfl|rfl<;>rfl,by decide⟩
def se:RowK dN:=⟨23,80,7,72,.agg #[.string ⟨#[]⟩,.int .i64 0,.int .i64 0,.int .i64 0,.int .i64 0,.int .i64 0,.string ⟨#[]⟩],fun x=>[.string (bs x.path),.int .i64 x.kind,.int .i64 x.mode,.int .i64 x.uid,.int .i64 x.gid,.int .i64 x.mtime,.string (bs x.data)],by decide,Tryz.underlying23,by kernel_rfl,rfl,fun _=>rfl,fun x u hu=>by
 simp only[List.mem_cons,List.not_mem_nil,or_false]at hu;rcases hu with rfl|rfl|rfl|rfl|rfl|rfl|rfl<;>rfl,by decide⟩
theorem eB.KX {w:World} {A:Option Addr} {l:List eF} (h:eB ur w A l) {k:Nat} (hk:k<l.length):∃b o,A=some ⟨b,o,none⟩/\b<w.heap.size/\w.cell? ⟨b,o+k*3,none⟩=some (.string (bs l[k].path))/\w.cell? ⟨b,o+k*3+1,none⟩=some (.int .i64 l[k].b)/\w.cell? ⟨b,o+k*3+2,none⟩=some (.int .i64 l[k].n):=by
 rcases h with h|⟨b,o,hA,hb,hc⟩
 ·rw[h]at hk;cases hk
 ·exact⟨b,o,hA,hb,hc k hk 0 (by decide),hc k hk 1 (by decide),hc k hk 2 (by decide)⟩
theorem eB.GR {w:World} {A:Option Addr} {l:List dN} (h:eB se w A l) {k:Nat} (hk:k<l.length):∃b o,A=some ⟨b,o,none⟩/\b<w.heap.size/\w.cell? ⟨b,o+k*7,none⟩=some (.string (bs l[k].path))/\w.cell? ⟨b,o+k*7+1,none⟩=some (.int .i64 l[k].kind)/\w.cell? ⟨b,o+k*7+2,none⟩=some (.int .i64 l[k].mode) /\
  w.cell? ⟨b,o+k*7+3,none⟩=some (.int .i64 l[k].uid)/\w.cell? ⟨b,o+k*7+4,none⟩=some (.int .i64 l[k].gid)/\w.cell? ⟨b,o+k*7+5,none⟩=some (.int .i64 l[k].mtime)/\w.cell? ⟨b,o+k*7+6,none⟩=some (.string (bs l[k].data)):=by
 rcases h with h|⟨b,o,hA,hb,hc⟩
 ·rw[h]at hk;cases hk
 ·exact⟨b,o,hA,hb,hc k hk 0 (by decide),hc k hk 1 (by decide),hc k hk 2 (by decide),hc k hk 3 (by decide),hc k hk 4 (by decide),hc k hk 5 (by decide),hc k hk 6 (by decide)⟩
theorem xg:eC []=(65536,65536):=rfl
theorem xh {m:eF} {t:List eF} (h1:my m=true) (h2:cj m.b m.n=true):eC (m::t)=(m.b,m.n):=by unfold eC;rw[List.find?_cons,h1,h2];rfl
theorem pY {m:eF} {t:List eF} (h:my m=false\/cj m.b m.n=false):eC (m::t)=eC t:=by
 have e:(my m&&cj m.b m.n)=false:=by rcases h with h|h<;>rw[h]<;>simp
 unfold eC;rw[List.find?_cons,e]
theorem pZ (p:List UInt8):((bs p).toList == [47])=(p == [47]):=by rw[bh]
section
variable {S:aa} {it:dN}
theorem iE {x:ia} (h:gR S it=some x):jd S it=cq S 0 0 0 x:=by unfold jd;rw[h]
theorem iF {x:ia} (h:gR S it=some x):ie S it=j_ S 0 0 0 x:=by unfold ie;rw[h]
theorem qX (h:gR S it=none):jd S it=S:=by unfold jd;rw[h]
theorem qY (h:gR S it=none):ie S it=if (ew S it).2=0/\(ew S it).1.no≠0/\it.kind=1/\(ac S.nodes (ew S it).1.no).kind=1 then (ew S it).1.no else 0:=by unfold ie;rw[h]
theorem EL (h:(ew S it).2≠0):jd S it=S/\ie S it=0:=by
 have hc:gR S it=none:=by unfold gR;rw[if_pos h]
 exact ⟨qX hc,by rw[qY hc,if_neg (fun k=>h k.1)]⟩
theorem xi (h:(ew S it).2=0) (h1:(ew S it).1.no≠0):jd S it=S/\ie S it=if it.kind=1/\(ac S.nodes (ew S it).1.no).kind=1 then (ew S it).1.no else 0:=by
 have hc:gR S it=none:=by unfold gR;rw[if_neg (fun k=>k h),if_pos h1]
 refine ⟨qX hc,?_⟩;rw [qY hc]
 by_cases h2:it.kind=1/\(ac S.nodes (ew S it).1.no).kind=1
 ·rw[if_pos ⟨h,h1,h2⟩,if_pos h2]
 ·rw[if_neg (fun k=>h2 k.2.2),if_neg h2]
theorem EM (h:(ew S it).2=0) (h1:(ew S it).1.no=0):gR S it=if it.kind=1 then some (.bB (ew S it).1.dir (ew S it).1.name 493)
 else if it.kind=2 then some (.bc (ew S it).1.dir (ew S it).1.name 420 it.data)
 else if it.kind=3 then some (.symlink (ew S it).1.dir (ew S it).1.name it.data)
 else if it.kind=4 then (if (uo S it).2=0 then some (.link (uo S it).1.no (ew S it).1.dir (ew S it).1.name) else none)
 else none:=by
 unfold gR;rw[if_neg (fun k=>k h),if_neg (fun k=>k h1)]
theorem p5 (h1:(ew S it).1.no=0) (h:gR S it=none):jd S it=S/\ie S it=0:=⟨qX h,by rw[qY h,if_neg (fun k=>k.2.1 h1)]⟩
end
theorem Lb {w:World} {B b:Nat} {g:bJ} {c:Nat} {S:aa} (h:jU w B b g c S) (k:e7 c S) (hc:c<=890) (it:dN) (hp:it.path.length<=1000000) (hd:it.data.length<=1000000) :
  Calls Tryz.prog 46 #[.pointer (some ⟨b,0,none⟩),.agg #[bs it.path,it.kind,it.mode,it.uid,it.gid,it.mtime,bs it.data]] w (fun e w'=>e=.returned (.int .i64 (ie S it))/\mW w B b g (c+1) (jd S it) w'):=by
 obtain ⟨W1,bV⟩:∃W,W=w.alloc (.cells #[bs it.path,it.kind,it.mode,it.uid,it.gid,it.mtime,bs it.data] 80):=⟨_,rfl⟩;obtain ⟨b3,nK⟩:∃b,b=w.heap.size:=⟨_,rfl⟩;have E1:Ext w W1:=by rw[bV];exact (Ext.refl _).alloc _
 have B1:Has W1 b3 (.cells #[bs it.path,it.kind,it.mode,it.uid,it.gid,it.mtime,bs it.data] 80):=by rw[bV,nK];exact Has.new _ _
 have KF:=zH ((h.ext E1).find k (by omega) it.path false hp);obtain⟨r,hr⟩:=aq (ew S it);rw [show dF S 0 0 it.path false=r from hr.symm]at KF;have A_:Hid (Calls Tryz.prog 79 #[.pointer (some ⟨b,0,none⟩),.agg #[.int .i64 0,.int .i64 0],bs it.path,.bool false] W1 (aH W1 (.tuple #[.agg #[.int .i64 r.1.dir,bs r.1.name,r.1.no,.bool r.1.eH],.int .i64 r.2]))):=KF.out;have HR:=zH hr;have c0:=B1.cell 0;have cz:=B1.lt;simp only[gA,gB]at c0;have p6:=zH B1;have H1:=zH (h.ext E1);have H0:=zH h;clear h KF hr B1;go_enter Tryz.func46,Tryz.ntmps46;go_upto_region 1 with fail;rw [<-bV,<-nK];clear bV nK;go_wp2_with fail;refine A_.out.mono ?_;rintro e w1 ⟨rfl,b1⟩;clear A_ c0 cz;go_upto_region 2 with fail;obtain ⟨W2,du⟩:∃W,W=w1.alloc (.cells #[.int .i64 r.1.dir,bs r.1.name,r.1.no,.bool r.1.eH] 89):=⟨_,rfl⟩;obtain ⟨b4,ug⟩:∃b,b=w1.heap.size:=⟨_,rfl⟩;have E2:Ext W1 W2:=by rw[du];exact b1.alloc _
 have X2:Has W2 b4 (.cells #[.int .i64 r.1.dir,bs r.1.name,r.1.no,.bool r.1.eH] 89):=by rw[du,ug];exact Has.new _ _
 rw [<-du,<-ug];clear du ug b1;obtain ⟨m1,i6⟩:∃m,m=ac S.nodes r.1.no:=⟨_,rfl⟩;have KS:=zH ((H1.out.ext E2).stat k r.1.no);rw [<-i6]at KS;have HM1:=zH i6;obtain ⟨es,hes⟩:∃e,e=cC S r.1.no:=⟨_,rfl⟩;rw [<-hes]at KS;unfold fG at KS;have vM:=zH X2;have x2:=X2.cell 2;have xz:=X2.lt;simp only[gA,gB,gC]at x2;clear i6 hes X2;go_wp2_with fail;refine KS.out.mono ?_;rintro e w3 ⟨rfl,b3'⟩;clear KS x2 xz;go_upto_block 0 with fail;obtain ⟨W3,dg⟩:∃W,W=w3.alloc (.cells #[m1.no,m1.dev,m1.kind,m1.mode,m1.uid,m1.gid,m1.ah,.int .i64 m1.data.length,m1.mtime,m1.ctime] 46):=⟨_,rfl⟩;obtain ⟨b7,vB⟩:∃b,b=w3.heap.size:=⟨_,rfl⟩;have E3:Ext W2 W3:=by rw[dg];exact b3'.alloc _
 have S3:Has W3 b7 (.cells #[m1.no,m1.dev,m1.kind,m1.mode,m1.uid,m1.gid,m1.ah,.int .i64 m1.data.length,m1.mtime,m1.ctime] 46):=by rw[dg,vB];exact Has.new _ _
 rw [<-dg,<-vB];clear dg vB b3';have X3:=vM.out.ext E3;have B3:=p6.out.ext (E2.trans E3);have P3:=H1.out.ext (E2.trans E3);have nN:=(E1.trans E2).trans E3;have x0:=X3.cell 0;have x1:=X3.cell 1;have x2:=X3.cell 2;have xz:=X3.lt;have d1:=B3.cell 1;have d6:=B3.cell 6;have dz:=B3.lt;have s2:=S3.cell 2;have sz:=S3.lt;simp only[gA,gB,gC]at x0 x1 x2 d1 d6 s2;clear X3 B3 S3
 by_cases he:r.2=0
 case neg =>
  have t1:(r.2 != 0)=true:=by simpa using he
  have hT:Hid (jd S it=S/\ie S it=0):=EL (by rw[<-HR.out];exact he);clear he P3;go_wp2_with fail;go_ret;exact ⟨by rw[hT.out.2];rfl,by rw[hT.out.1];exact (mW.refl H0.out nN).mono (by omega)⟩
 have t1:(r.2 != 0)=false:=by simpa using he
 have HE:=zH he
 by_cases aU:r.1.no=0
 case neg =>
  have t2:(r.1.no != 0)=true:=by simpa using aU
  have hT:Hid (jd S it=S/\ie S it=if it.kind=1/\m1.kind=1 then r.1.no else 0):=by show _/\_;rw[HM1.out,HR.out];exact xi (by rw[<-HR.out];exact HE.out) (by rw[<-HR.out];exact aU)
  clear he aU P3
  by_cases hk:it.kind=1/\m1.kind=1
  ·have t3:(it.kind == 1)=true:=by simpa using hk.1
   have t4:(m1.kind == 1)=true:=by simpa using hk.2
   have ut:Hid (ie S it=r.1.no):=by show _=_;rw[hT.out.2,if_pos hk]
   clear hk;go_wp2_with fail;go_ret;exact ⟨by rw[ut.out];rfl,by rw[hT.out.1];exact (mW.refl H0.out nN).mono (by omega)⟩
  ·have ut:Hid (ie S it=0):=by show _=_;rw[hT.out.2,if_neg hk]
   by_cases jI:it.kind=1
   ·have t3:(it.kind == 1)=true:=by simpa using jI
    have t4:(m1.kind == 1)=false:=by simpa using fun q=>hk ⟨jI,q⟩
    clear hk jI;go_wp2_with fail;go_ret;exact ⟨by rw[ut.out];rfl,by rw[hT.out.1];exact (mW.refl H0.out nN).mono (by omega)⟩
   ·have t3:(it.kind == 1)=false:=by simpa using jI
    clear hk jI;go_wp2_with fail;go_ret;exact ⟨by rw[ut.out];rfl,by rw[hT.out.1];exact (mW.refl H0.out nN).mono (by omega)⟩
 have t2:(r.1.no != 0)=false:=by simpa using aU
 have hC:Hid (gR S it=if it.kind=1 then some (.bB r.1.dir r.1.name 493) else if it.kind=2 then some (.bc r.1.dir r.1.name 420 it.data) else if it.kind=3 then some (.symlink r.1.dir r.1.name it.data)
   else if it.kind=4 then (if (uo S it).2=0 then some (.link (uo S it).1.no r.1.dir r.1.name) else none) else none):=by show _=_;rw[HR.out];exact EM (by rw[<-HR.out];exact HE.out) (by rw[<-HR.out];exact aU)
 have V6:Hid ((ew S it).1.no=0):=by show _=_;rw[<-HR.out];exact aU
 clear he aU
 by_cases k1:it.kind=1
 ·have t3:(it.kind == 1)=true:=by simpa using k1
  obtain ⟨X,hX⟩:∃X:ia,X=.bB r.1.dir r.1.name 493:=⟨_,rfl⟩;have oW:gR S it=some X:=by rw[hC.out,if_pos k1,hX]
  have KC:=zH (P3.bB k (by omega) r.1.dir r.1.name 493);rw [<-hX,<-iE oW,<-iF oW]at KC;clear k1 hX oW hC P3;go_wp2_with fail;refine KC.out.mono ?_;rintro e w5 ⟨rfl,T5⟩;go_wp2_with fail;go_ret;exact ⟨rfl,T5.pre nN⟩
 have t3:(it.kind == 1)=false:=by simpa using k1
 by_cases k2:it.kind=2
 ·have t4:(it.kind == 2)=true:=by simpa using k2
  obtain ⟨X,hX⟩:∃X:ia,X=.bc r.1.dir r.1.name 420 it.data:=⟨_,rfl⟩;have oW:gR S it=some X:=by rw[hC.out,if_neg k1,if_pos k2,hX]
  have KC:=zH (P3.bc k (by omega) r.1.dir r.1.name 420 it.data (by omega));rw [<-hX,<-iE oW,<-iF oW]at KC;clear k1 k2 hX oW hC P3;go_wp2_with fail;refine KC.out.mono ?_;rintro e w5 ⟨rfl,T5⟩;go_wp2_with fail;go_ret;exact ⟨rfl,T5.pre nN⟩
 have t4:(it.kind == 2)=false:=by simpa using k2
 by_cases k3:it.kind=3
 ·have t5:(it.kind == 3)=true:=by simpa using k3
  obtain ⟨X,hX⟩:∃X:ia,X=.symlink r.1.dir r.1.name it.data:=⟨_,rfl⟩;have oW:gR S it=some X:=by rw[hC.out,if_neg k1,if_neg k2,if_pos k3,hX]
  have KC:=zH (P3.symlink k (by omega) r.1.dir r.1.name it.data (by omega));rw [<-hX,<-iE oW,<-iF oW]at KC;clear k1 k2 k3 hX oW hC P3;go_wp2_with fail;refine KC.out.mono ?_;rintro e w5 ⟨rfl,T5⟩;go_wp2_with fail;go_ret;exact ⟨rfl,T5.pre nN⟩
 have t5:(it.kind == 3)=false:=by simpa using k3
 by_cases k4:it.kind=4
 case neg =>
  have t6:(it.kind == 4)=false:=by simpa using k4
  have hT:Hid (jd S it=S/\ie S it=0):=p5 V6.out (by rw[hC.out,if_neg k1,if_neg k2,if_neg k3,if_neg k4]);clear k1 k2 k3 k4 hC P3;go_wp2_with fail;go_ret;exact ⟨by rw[hT.out.2];rfl,by rw[hT.out.1];exact (mW.refl H0.out nN).mono (by omega)⟩
 have t6:(it.kind == 4)=true:=by simpa using k4
 obtain⟨y,hy⟩:=aq (uo S it);have Oz:Hid (gR S it=if y.2=0 then some (.link y.1.no r.1.dir r.1.name) else none):=by show _=_;rw[hC.out,if_neg k1,if_neg k2,if_neg k3,if_pos k4,hy]
 have KF:=zH (P3.find k (by omega) it.data false hd);rw [show dF S 0 0 it.data false=y from hy.symm]at KF;have V7:Hid (Calls Tryz.prog 79 #[.pointer (some ⟨b,0,none⟩),.agg #[.int .i64 0,.int .i64 0],bs it.data,.bool false] W3 (aH W3 (.tuple #[.agg #[.int .i64 y.1.dir,bs y.1.name,y.1.no,.bool y.1.eH],.int .i64 y.2]))):=KF.out;have Hs:=zH P3;have Qm:=zH (vM.out.ext E3);clear k1 k2 k3 k4 hC hy KF P3 s2 sz;go_wp2_with fail;refine V7.out.mono ?_;rintro e w4 ⟨rfl,V_⟩;clear V7 x0 x1 x2 xz d1 d6 dz;go_upto_region 19 with fail;obtain ⟨W4,fO⟩:∃W,W=w4.alloc (.cells #[.int .i64 y.1.dir,bs y.1.name,y.1.no,.bool y.1.eH] 89):=⟨_,rfl⟩;obtain ⟨jb,jC⟩:∃b,b=w4.heap.size:=⟨_,rfl⟩;have E4:Ext W3 W4:=by rw[fO];exact V_.alloc _
 have Y4:Has W4 jb (.cells #[.int .i64 y.1.dir,bs y.1.name,y.1.no,.bool y.1.eH] 89):=by rw[fO,jC];exact Has.new _ _
 rw [<-fO,<-jC];clear fO jC V_;have X4:=Qm.out.ext E4;have P4:=Hs.out.ext E4;have x0:=X4.cell 0;have x1:=X4.cell 1;have xz:=X4.lt;have y2:=Y4.cell 2;have yz:=Y4.lt;simp only[gA,gB,gC]at x0 x1 y2;clear X4 Y4
 by_cases k5:y.2=0
 ·have t7:(y.2 == 0)=true:=by simpa using k5
  obtain ⟨X,hX⟩:∃X:ia,X=.link y.1.no r.1.dir r.1.name:=⟨_,rfl⟩;have oW:gR S it=some X:=by rw[Oz.out,if_pos k5,hX]
  have hN:Hid (ie S it=0):=by show _=_;rw[iF oW,hX];rfl
  have KC:=zH (P4.link k (by omega) y.1.no r.1.dir r.1.name);rw [<-hX,<-iE oW]at KC;clear k5 hX oW Oz P4;go_wp2_with fail;refine KC.out.mono ?_;rintro e w5 ⟨rfl,T5⟩;go_wp2_with fail;go_ret;exact ⟨by rw[hN.out];rfl,T5.pre (nN.trans E4)⟩
 ·have t7:(y.2 == 0)=false:=by simpa using k5
  have hT:Hid (jd S it=S/\ie S it=0):=p5 V6.out (by rw[Oz.out,if_neg k5]);clear k5 Oz P4;go_wp2_with fail;go_ret;exact ⟨by rw[hT.out.2];rfl,by rw[hT.out.1];exact (mW.refl H0.out (nN.trans E4)).mono (by omega)⟩
end
open Go.ChangeShapes Go.WideShapes Go.ChangeAt Go.RowKit
theorem Lc (A:Option Addr) (l:List eF) (cap:Nat) (A2:Option Addr) (n2 c2:Nat) (w:World) (hA:eB ur w A l) (hl:l.length<=9223372036854775807) :
  Calls Tryz.prog 44 #[.agg #[.slice A l.length cap,.slice A2 n2 c2]] w (aH w (.tuple #[.int .i64 (eC l).1,.int .i64 (eC l).2])):=by
 obtain⟨n,hn⟩:=aq l.length;obtain⟨R,hR⟩:=aq (eC l);rw [<-hn]at hl|-;rw [<-hR];have HN:=zH hn;have HR:=zH hR;obtain ⟨W1,bV⟩:∃W,W=w.alloc (.cells #[.slice A n cap,.slice A2 n2 c2] 25):=⟨_,rfl⟩;obtain ⟨b1,jO⟩:∃b,b=w.heap.size:=⟨_,rfl⟩;have E1:Ext w W1:=by rw[bV];exact (Ext.refl _).alloc _
 have B1:Has W1 b1 (.cells #[.slice A n cap,.slice A2 n2 c2] 25):=by rw[bV,jO];exact Has.new _ _
 have c0:=B1.cell 0;have cz:=B1.lt;simp only[gA,gB]at c0;have HA:=zH (hA.ext E1);clear hn hR hA;go_enter Tryz.func44,Tryz.ntmps44;go_upto_region 1 with fail;rw [<-bV,<-jO];clear bV jO;go_wp2_with fail;clear c0 cz;go_loopw [9] (fun vi wr=>∃k:Nat,vi=.int .i64 k/\k<=n/\Ext W1 wr/\eC (l.drop k)=R) (fun vi _=>n-(intOf vi).toNat)
 case atStart=>exact⟨0,rfl,Nat.zero_le _,Ext.refl _,by rw[List.drop_zero,HR.out]⟩
 case round =>
  obtain ⟨k,rfl,hk,hE,hS⟩:=hrel;have k0:(0:Int)<=(k:Int):=Int.natCast_nonneg _;have HE:=zH hE
  by_cases hlt:(k:Int)<n
  case neg =>
   have hd:l.drop k=[]:=List.drop_eq_nil_of_le (by have:=HN.out;omega);have Ld:Hid (R=(65536,65536)):=by show _=_;rw[<-hS,hd,xg]
   clear hS hd hE;go_wp2_with fail;go_ret2;exact aH.mk (by rw[Ld.out];rfl) (E1.trans HE.out)
  case pos =>
   have dh:k<l.length:=by have:=HN.out;omega
   obtain ⟨ba,o,rfl,yX,q0,q1,q2⟩:=(HA.out.ext hE).KX dh;have BM:IntKind.i64.wrap ((k:Int)+1)=(k:Int)+1:=IntWalk.i64_in _ (by omega);rw [List.drop_eq_getElem_cons dh]at hS;obtain⟨m,hm⟩:=aq (l[k]);rw [<-hm]at q0 q1 q2 hS;obtain⟨P,hP⟩:=aq (bs m.path);have tp:(P.toList == [47])=my m:=by rw[hP];exact pZ _
   rw [<-hP]at q0;obtain ⟨mb,St⟩:∃x,x=m.b:=⟨_,rfl⟩;obtain ⟨mn,M_⟩:∃x,x=m.n:=⟨_,rfl⟩;have HS:=zH hS;have Su:=zH St;have Sv:=zH M_;have nL:=ft mb mn;rw [<-St]at q1;rw [<-M_]at q2;clear hS hm hP hE St M_
   cases ht:my m with
   | false =>
    rw [ht]at tp;have GV:Hid (eC (l.drop (k+1))=R):=by show _=_;rw[<-HS.out,pY (.inl ht)]
    clear ht nL;go_wp2_with fail;go_roundw
    case rel=>exact⟨k+1,by go_num,by omega,HE.out.alloc _,GV.out⟩
    case measure=>simp[intOf];omega
   | true =>
    rw [ht]at tp;have HT:=zH ht;clear ht;rcases nL with⟨h1,h2,h3,h4,h0⟩|⟨h0,h1|⟨h1,h2⟩|⟨h1,h2,h3⟩|⟨h1,h2,h3,h4⟩⟩
    case inl =>
     have GV:Hid (R=(mb,mn)):=by show _=_;rw[<-HS.out,xh HT.out (by rw[<-Su.out,<-Sv.out];exact h0),Su.out,Sv.out]
     clear h0;go_upto_region 5 with fail;go_quiet (fail);go_wp2_with fail;go_ret2;exact aH.mk (by rw[GV.out];rfl) (E1.trans ((HE.out.alloc _).drewN nq))
    all_goals
     have GV:Hid (eC (l.drop (k+1))=R):=by show _=_;rw[<-HS.out,pY (.inr (by rw[<-Su.out,<-Sv.out];exact h0))]
     clear h0;go_wp2_with fail;go_roundw
     case rel=>exact⟨k+1,by go_num,by omega,HE.out.alloc _,GV.out⟩
     case measure=>simp[intOf];omega
theorem Dl (A:Option Addr) (l:List eF) (cap:Nat) (A2:Option Addr) (n2 c2:Nat) (w:World) (hA:eB ur w A l) (hl:l.length<=1000000) :
  Calls Tryz.prog 51 #[.agg #[.slice A l.length cap,.slice A2 n2 c2]] w (aH w (.tuple #[.int .i64 (eC l).1,.int .i64 (eC l).2])):=by
 obtain⟨n,hn⟩:=aq l.length;obtain⟨R,hR⟩:=aq (eC l);rw [<-hn]at hl|-;rw [<-hR];have HN:=zH hn;have HR:=zH hR;obtain ⟨W1,bV⟩:∃W,W=w.alloc (.cells #[.slice A n cap,.slice A2 n2 c2] 25):=⟨_,rfl⟩;obtain ⟨b1,jO⟩:∃b,b=w.heap.size:=⟨_,rfl⟩;have E1:Ext w W1:=by rw[bV];exact (Ext.refl _).alloc _
 have B1:Has W1 b1 (.cells #[.slice A n cap,.slice A2 n2 c2] 25):=by rw[bV,jO];exact Has.new _ _
 have p6:=zH B1;have HA:=zH (hA.ext E1);clear hn hR hA B1;go_enter Tryz.func51,Tryz.ntmps51;go_upto_region 1 with fail;rw [<-bV,<-jO];clear bV jO;go_wp2_with fail;go_loopw [4] (fun vi wr=>∃k:Nat,vi=.int .i64 k/\k<=n/\Ext W1 wr/\eC (l.drop k)=R) (fun vi _=>n-(intOf vi).toNat)
 case atStart=>exact⟨0,rfl,Nat.zero_le _,Ext.refl _,by rw[List.drop_zero,HR.out]⟩
 case round =>
  obtain ⟨k,rfl,hk,hE,hS⟩:=hrel;have k0:(0:Int)<=(k:Int):=Int.natCast_nonneg _;have HE:=zH hE;have B2:=p6.out.ext hE;have c0:=B2.cell 0;have cz:=B2.lt;simp only[gA,gB]at c0;clear B2
  by_cases hlt:(k:Int)<n
  case neg =>
   have hd:l.drop k=[]:=List.drop_eq_nil_of_le (by have:=HN.out;omega);have Ld:Hid (R=(65536,65536)):=by show _=_;rw[<-hS,hd,xg]
   clear hS hd hE;go_wp2_with fail;go_ret2;exact aH.mk (by rw[Ld.out];rfl) (E1.trans HE.out)
  case pos =>
   have dh:k<l.length:=by have:=HN.out;omega
   obtain ⟨ba,o,rfl,yX,q0,q1,q2⟩:=(HA.out.ext hE).KX dh;have BM:IntKind.i64.wrap ((k:Int)+1)=(k:Int)+1:=IntWalk.i64_in _ (by omega);rw [List.drop_eq_getElem_cons dh]at hS;obtain⟨m,hm⟩:=aq (l[k]);rw [<-hm]at q0 q1 q2 hS;obtain⟨P,hP⟩:=aq (bs m.path);have tp:(P.toList == [47])=my m:=by rw[hP];exact pZ _
   rw [<-hP]at q0;obtain ⟨mb,St⟩:∃x,x=m.b:=⟨_,rfl⟩;obtain ⟨mn,M_⟩:∃x,x=m.n:=⟨_,rfl⟩;have HS:=zH hS;have Su:=zH St;have Sv:=zH M_;rw [<-St]at q1;rw [<-M_]at q2;clear hS hm hP hE St M_
   cases ht:my m with
   | false =>
    rw [ht]at tp;have GV:Hid (eC (l.drop (k+1))=R):=by show _=_;rw[<-HS.out,pY (.inl ht)]
    clear ht;go_wp2_with fail;go_roundw
    case rel=>exact⟨k+1,by go_num,by omega,HE.out.alloc _,GV.out⟩
    case measure=>simp[intOf];omega
   | true =>
    rw [ht]at tp;have HT:=zH ht;obtain⟨u,hu⟩:=aq (cj mb mn);have Sw:Hid (u=true->R=(mb,mn)):=fun h0=>by rw[<-HS.out,xh HT.out (by rw[<-Su.out,<-Sv.out,<-hu];exact h0),Su.out,Sv.out]
    have aU:Hid (u=false->eC (l.drop (k+1))=R):=fun h0=>by rw[<-HS.out,pY (.inr (by rw[<-Su.out,<-Sv.out,<-hu];exact h0))]
    obtain ⟨W3,dg⟩:∃W,W=wr.alloc (.cells #[.string P,.int .i64 mb,.int .i64 mn] 125):=⟨_,rfl⟩;obtain ⟨b3,nK⟩:∃b,b=wr.heap.size:=⟨_,rfl⟩;have E3:Ext W1 W3:=by rw[dg];exact HE.out.alloc _
    have B3:Has W3 b3 (.cells #[.string P,.int .i64 mb,.int .i64 mn] 125):=by rw[dg,nK];exact Has.new _ _
    have KL:Hid (Calls Tryz.prog 85 #[.int .i64 mb,.int .i64 mn] W3 (aH W3 (.bool u))):=by
     show Calls _ _ _ _ _;rw [hu];exact kR mb mn W3
    have r0:=B3.cell 0;have r1:=B3.cell 1;have r2:=B3.cell 2;have rz:=B3.lt;simp only[gA,gB,gC]at r0 r1 r2;have HB3:=zH B3;clear ht hu B3;go_upto_region 5 with fail;rw [<-dg,<-nK];clear dg nK c0 cz q0 q1 q2 yX;go_wp2_with fail;refine KL.out.mono ?_;rintro e w4 ⟨rfl,b4⟩;have B4:=HB3.out.ext b4;clear r0 r1 r2 rz;have r1:=B4.cell 1;have r2:=B4.cell 2;have rz:=B4.lt;simp only[gA,gB,gC]at r1 r2;clear KL B4
    cases u with
    | false =>
     have u9:=zH (aU.out rfl);clear aU Sw;go_wp2_with fail;go_roundw
     case rel=>exact⟨k+1,by go_num,by omega,E3.trans b4,u9.out⟩
     case measure=>simp[intOf];omega
    | true =>
     have HYY:=zH (Sw.out rfl);clear aU Sw;go_upto_region 6 with fail;go_quiet (fail);go_wp2_with fail;go_ret2;exact aH.mk (by rw[HYY.out];rfl) (E1.trans ((E3.trans b4).drewN nq))
theorem Bb {S:aa} {m:eF} (h:(mw S m).2≠0):gK S m=S:=by unfold gK;rw[if_pos h]
theorem uu {S:aa} {m:eF} (h:(mw S m).2=0) (h2:(mw S m).1.no≠0):gK S m=cx S (mw S m).1.no m.b m.n:=by unfold gK;rw[if_neg (by rw[h];decide),if_neg h2]
theorem Bc {S:aa} {m:eF} (h:(mw S m).2=0) (h2:(mw S m).1.no=0):gK S m=if fA S 0 0 0 (qV S m)=0 then cx (cq S 0 0 0 (qV S m)) (j_ S 0 0 0 (qV S m)) m.b m.n else cq S 0 0 0 (qV S m):=by unfold gK;rw[if_neg (by rw[h];decide),if_pos h2]
theorem Le {w:World} {B b:Nat} {g:bJ} {c:Nat} {S:aa} (h:jU w B b g c S) (k:e7 c S) (hc:c<=890) (m:eF) (hp:m.path.length<=1000000) :
  Calls Tryz.prog 45 #[.pointer (some ⟨b,0,none⟩),.agg #[bs m.path,.int .i64 m.b,.int .i64 m.n]] w (fun e w'=>(∃v,e=.returned v)/\mW w B b g (c+1) (gK S m) w'):=by
 obtain ⟨W1,bV⟩:∃W,W=w.alloc (.cells #[bs m.path,.int .i64 m.b,.int .i64 m.n] 125):=⟨_,rfl⟩;obtain ⟨b3,nK⟩:∃b,b=w.heap.size:=⟨_,rfl⟩;have E1:Ext w W1:=by rw[bV];exact (Ext.refl _).alloc _
 have B1:Has W1 b3 (.cells #[bs m.path,.int .i64 m.b,.int .i64 m.n] 125):=by rw[bV,nK];exact Has.new _ _
 have hlt:=h.lt;have aaJ:w.heap.size<=b3:=by omega
 have KF:=zH ((h.ext E1).find k (by omega) m.path false hp);obtain⟨r,hr⟩:=aq (mw S m);rw [show dF S 0 0 m.path false=r from hr.symm]at KF;have A_:Hid (Calls Tryz.prog 79 #[.pointer (some ⟨b,0,none⟩),.agg #[.int .i64 0,.int .i64 0],bs m.path,.bool false] W1 (aH W1 (.tuple #[.agg #[.int .i64 r.1.dir,bs r.1.name,r.1.no,.bool r.1.eH],.int .i64 r.2]))):=KF.out;have HR:=zH hr;have c0:=B1.cell 0;have cz:=B1.lt;simp only[gA,gB]at c0;have p6:=zH B1;have H1:=zH (h.ext E1);have H0:=zH h;clear h KF hr B1;go_enter Tryz.func45,Tryz.ntmps45;go_upto_region 1 with fail;rw [<-bV,<-nK];clear bV nK;go_wp2_with fail;refine A_.out.mono ?_;rintro e w1 ⟨rfl,b1⟩;clear A_ c0 cz;go_upto_region 2 with fail;obtain ⟨W2,du⟩:∃W,W=w1.alloc (.cells #[.int .i64 r.1.dir,bs r.1.name,r.1.no,.bool r.1.eH] 89):=⟨_,rfl⟩;obtain ⟨b4,ug⟩:∃b,b=w1.heap.size:=⟨_,rfl⟩;have E2:Ext W1 W2:=by rw[du];exact b1.alloc _
 have X2:Has W2 b4 (.cells #[.int .i64 r.1.dir,bs r.1.name,r.1.no,.bool r.1.eH] 89):=by rw[du,ug];exact Has.new _ _
 rw [<-du,<-ug];have aaK:W1.heap.size<=b4:=by have:=b1.size;omega
 clear du ug b1;have P2:=H1.out.ext E2;have B2:=p6.out.ext E2;have Sy:=H1.out.lt;have yA:=zH P2;have vM:=zH X2;have Ht:=zH B2;have x0:=X2.cell 0;have x1:=X2.cell 1;have x2:=X2.cell 2;have xz:=X2.lt;simp only[gA,gB,gC]at x0 x1 x2
 by_cases he:r.2=0
 case neg =>
  have t1:(r.2 == 0)=false:=by simpa using he
  have hT:Hid (gK S m=S):=Bb (by rw[<-HR.out];exact he);clear he P2 X2 B2;go_wp2_with fail;go_end0;refine ⟨⟨_,rfl⟩,?_⟩;rw [hT.out];exact (mW.refl H0.out (E1.trans E2)).mono (by omega)
 have t1:(r.2 == 0)=true:=by simpa using he
 have HE:=zH he;obtain ⟨nS,AS,cS,S2⟩:=P2.sys
 by_cases aU:r.1.no=0
 case neg =>
  have t2:(r.1.no == 0)=false:=by simpa using aU
  have hT:Hid (gK S m=cx S r.1.no m.b m.n):=by show _=_;rw[HR.out];exact uu (by rw[<-HR.out];exact HE.out) (by rw[<-HR.out];exact aU)
  have d1:=B2.cell 1;have d2:=B2.cell 2;have dz:=B2.lt;simp only[gA,gB,gC]at d1 d2;have s0:=S2.cell 0;have sz:=S2.lt;simp only[gA,gB]at s0;have KM:=zH (fun u (hu:Ext W2 u)=>(P2.ext hu).jT k (by omega) r.1.no m.b m.n);have KD:=zH ((Ext.refl W2).drew);clear he aU P2 X2 B2 S2 x0 x1 xz;have x2:=vM.out.cell 2;have xz:=vM.out.lt;simp only[gA,gB,gC]at x2;go_upto_region 5 with fail;go_still_tail 10,(by kernel_rfl);change wpList _ _ _ _ _ W2.drew;go_wp2_with fail;refine (KM.out _ KD.out).mono ?_;rintro e w3 ⟨⟨v3,rfl⟩,T3⟩;go_wp2_with fail;go_end0;refine ⟨⟨_,rfl⟩,?_⟩;rw [hT.out];exact (T3.pre ((E1.trans E2).trans KD.out)).mono (by omega)
 have t2:(r.1.no == 0)=true:=by simpa using aU
 obtain ⟨X,hX⟩:∃X:ia,X=qV S m:=⟨_,rfl⟩;have Sz:X=.bB r.1.dir r.1.name 493:=by rw[hX,HR.out];rfl
 have hT:Hid (gK S m=if fA S 0 0 0 X=0 then cx (cq S 0 0 0 X) (j_ S 0 0 0 X) m.b m.n else cq S 0 0 0 X):=by show _=_;rw[hX];exact Bc (by rw[<-HR.out];exact HE.out) (by rw[<-HR.out];exact aU)
 have KC:=zH (P2.bB k (by omega) r.1.dir r.1.name 493);rw [<-Sz]at KC;have k1:e7 (c+1) (cq S 0 0 0 X):=by rw[Sz];exact k.kp 0 0 0 _ (fun _ _ _ _ e=>by cases e)
 obtain⟨N,hN⟩:=aq (j_ S 0 0 0 X);obtain ⟨e2,rA⟩:∃e,e=fA S 0 0 0 X:=⟨_,rfl⟩;obtain⟨T,Hu⟩:=aq (cq S 0 0 0 X);rw [<-hN,<-rA,<-Hu]at KC hT;rw [<-Hu]at k1;clear he aU P2 X2 B2 hX Sz hN rA Hu S2;go_wp2_with fail;refine KC.out.mono ?_;rintro e w3 ⟨rfl,T3⟩;have X3:=T3.has vM.out (fun hm=>by have:=Sy _ hm;omega);have B3:=T3.has Ht.out (fun hm=>by have:=hlt _ hm;omega);clear KC x0 x1 x2 xz;have f2:=Has.free X3 2;have xz:=X3.lt;have x2:=X3.cell 2;simp only[gA,gB,gC]at x2;obtain ⟨W4,fO⟩:∃W,W=w3.setCell ⟨b4,2,none⟩ (.int .i64 N):=⟨_,rfl⟩;have X4:Has W4 b4 (.cells #[.int .i64 r.1.dir,bs r.1.name,.int .i64 N,.bool r.1.eH] 89):=by rw[fO];exact Has.setCell X3 2 (.int .i64 N)
 have O4:Only [b4] w3 W4:=by rw[fO];exact Only.setCell _ _ _ _
 obtain ⟨g3,SA,P3,O3⟩:=T3;have F4:eG w3 B [b4]:=fun x hx=>by
  rw [List.mem_singleton]at hx;subst hx;have hB:=(H0.out.cR b (List.mem_cons_self ..));have BI:=hlt b (List.mem_cons_self ..);have:=E1.size;refine ⟨by omega,?_,?_⟩
  ·rintro⟨cs,fr,e⟩;unfold Has at X3;rw[X3]at e;injection e with e;injection e with _ e;exact absurd e (by decide)
  ·rintro⟨cs,fr,e⟩;unfold Has at X3;rw[X3]at e;injection e with e;injection e with _ e;exact absurd e (by decide)
 have MT:∀x∈b::g3.list,x∉[b4]:=fun x hx hm=>by
  rw [List.mem_singleton]at hm;subst hm;exact P3.off X3 (by decide) (by decide) (by decide) (by decide) hx
 have P4:=P3.only O4 F4 MT;have B4:=O4.has B3 (by rw[List.mem_singleton];have:=p6.out.lt;omega);have Wb:bJ.on g3 g w:=⟨SA.1,fun x hx=>(SA.2 x hx).imp id fun e=>by have:=E1.size;have:=E2.size;omega⟩;have O0:Only (b::g.list) w W4:=(Only.pre (E1.trans E2) O3).trans O4 (fun x hx=>by rw[List.mem_singleton]at hx;subst hx;exact .inr (by have:=E1.size;omega));have SB:=zH P4;have Mw:=zH Wb;have Sj:=zH O0;have Qo:=zH X4;have Lf:=zH B4;obtain ⟨nS,AS,cS,S2⟩:=P4.sys;clear P3 O3 SA F4 MT P4 Wb O0 X4 B4 O4 X3 B3
 by_cases h2:e2=0
 case neg =>
  have t3:(e2 == 0)=false:=by simpa using h2
  have ut:Hid (gK S m=T):=by show _=_;rw[hT.out,if_neg h2]
  clear h2 S2;go_upto_region 4 with fail;rw [<-fO];clear fO;go_wp2_with fail;go_end0;refine ⟨⟨_,rfl⟩,?_⟩;rw [ut.out];exact ⟨g3,Mw.out,SB.out,Sj.out⟩
 case pos =>
  have t3:(e2 == 0)=true:=by simpa using h2
  have ut:Hid (gK S m=cx T N m.b m.n):=by show _=_;rw[hT.out,if_pos h2]
  have s0:=S2.cell 0;have sz:=S2.lt;simp only[gA,gB]at s0;have KM:=zH (fun u (hu:Ext W4 u)=>(SB.out.ext hu).jT k1 (by omega) N m.b m.n);have KD:=zH ((Ext.refl W4).drew);clear h2 S2;go_upto_region 4 with fail;rw [<-fO];clear fO x2 xz f2;have x2:=Qo.out.cell 2;have xz:=Qo.out.lt;have d1:=Lf.out.cell 1;have d2:=Lf.out.cell 2;have dz:=Lf.out.lt;simp only[gA,gB,gC]at x2 d1 d2;go_upto_region 5 with fail;go_still_tail 10,(by kernel_rfl);change wpList _ _ _ _ _ W4.drew;go_wp2_with fail;refine (KM.out _ KD.out).mono ?_;rintro e w5 ⟨⟨v5,rfl⟩,T5⟩;go_wp2_with fail;go_end0;refine ⟨⟨_,rfl⟩,?_⟩;rw [ut.out];exact mW.trans Mw.out Sj.out (T5.pre KD.out)
theorem PS.Qp {w:World} {B b:Nat} {g:bJ} {s:az} (h:PS w B b g s) (A0:Option Addr) (l:List (Int×Int)) (mv:Nat) (hp:cV w A0 l) (hA:A0=none->mv=0) (ho:l≠[]->dx A0 b) (hl:l.length<=1000000) :
  Calls Tryz.prog 28 #[.pointer (some ⟨b,0,none⟩),.slice A0 l.length mv] w (fun e w'=>(∃v,e=.returned v)/\PS w' B b g {s with plan:=l,count:=0}/\Only [b] w w'):=by
 obtain ⟨A,cap,h⟩:=h;have hn:=h.iy;obtain ⟨h1,h2,h3,h4,h5⟩:=h;refine (NY A0 l mv w h2 hp hA ho hl).mono ?_;rintro e w' ⟨hv,A',cap',k1,k2,k3,k4,O⟩;refine ⟨hv,⟨A',cap',h1.tP h2 h5 hn O,k1,?_,k3,h5⟩,O⟩;rcases k2 with k2|⟨b2,o2,e2,hb2,DU⟩
 ·exact .inl k2
 ·exact .inr ⟨b2,o2,e2,hb2,.inr (k4 _ e2),DU⟩
theorem tR.Wd {w0 w:World} {B b:Nat} {g:bJ} {f:cE} {s r:az} (h:tR w0 B b g f s r w) (A0:Option Addr) (l:List (Int×Int)) (mv:Nat) (hp:cV w A0 l) (hA:A0=none->mv=0) (ho:l≠[]->dx A0 b) (hl:l.length<=1000000) :
  Calls Tryz.prog 28 #[.pointer (some ⟨b,0,none⟩),.slice A0 l.length mv] w (fun e w'=>(∃v,e=.returned v)/\tR w0 B b g f {s with plan:=l,count:=0} r w'):=by
 obtain ⟨g1,f1,h1,h2,h3,h4,h5⟩:=h;refine (h3.Qp A0 l mv hp hA ho hl).mono ?_;rintro e w' ⟨hv,k,O⟩;exact ⟨hv,tR.prog h1 h2 h3 h4 h5 k (O.mono (by simp))⟩
theorem oX {α β:Type} (f:β->α->β) (z:β) (l:List α) {k:Nat} (hk:k<l.length):(l.take (k+1)).foldl f z=f ((l.take k).foldl f z) l[k]:=by
 rw [List.take_succ_eq_append_getElem hk,List.foldl_append];rfl
theorem uv (S:aa) (l:List eF) {k:Nat} (hk:k<l.length):dZ S (l.take (k+1))=if my l[k]=true then dZ S (l.take k) else gK (dZ S (l.take k)) l[k]:=by unfold dZ;rw[oX _ _ _ hk]
theorem rL (p:aa×List Int) (l:List dN) {k:Nat} (hk:k<l.length):dD p (l.take (k+1))=rJ (dD p (l.take k)) l[k]:=by unfold dD;rw[oX _ _ _ hk]
theorem rM (S:aa) (l:List (Int×dN)) {k:Nat} (hk:k<l.length):dS S (l.take (k+1))=mi (dS S (l.take k)) l[k]:=by unfold dS;rw[oX _ _ _ hk]
theorem jU.uw {α:Type} {R:RowK α} {w:World} {B b:Nat} {g:bJ} {c:Nat} {S:aa} {base:Nat} {v:Value} {l:List α} (h:jU w B b g c S) (k:bZ R w base v l) (h1:R.t≠66) (h2:R.t≠70) (h3:R.t≠113) (h4:R.t≠157):∀x,v.ownBlock=some x->x∉b::g.list:=by
 intro x hx;rcases k.cases with⟨rfl,_⟩|⟨g',cap,cur,rfl,_,h5,_⟩
 ·cases hx
 ·injection hx with hx
  subst hx;exact h.off h5 h1 h2 h3 h4
theorem bZ.cR {α:Type} {R:RowK α} {w:World} {base B:Nat} {v:Value} {l:List α} (k:bZ R w base v l) (hB:B<=base) (h1:R.t≠106) (h2:R.t≠198):eG w B v.ownBlock.toList:=by
 intro x hx;have hx:=Option.mem_toList.1 hx;rcases k.cases with⟨rfl,_⟩|⟨g',cap,cur,rfl,hb,h5,_⟩
 ·cases hx
 ·have hx:g'=x:=Option.some.inj hx
  subst hx;unfold Has at h5;refine ⟨by omega,?_,?_⟩
  ·rintro⟨cs,fr,e⟩;rw[h5]at e;injection e with e;injection e with _ e;exact h1 e
  ·rintro⟨cs,fr,e⟩;rw[h5]at e;injection e with e;injection e with _ e;exact h2 e
theorem bZ.empty {α:Type} (R:RowK α) {w:World} {base g:Nat} (hb:base<=g) (h:Has w g (.cells #[] R.t)):bZ R w base (.slice (some ⟨g,0,none⟩) 0 0) []:=
 ⟨by simp[RowK.cells],.inr ⟨g,0,#[],rfl,hb,h,Nat.le_refl _,Nat.zero_le _,by simp,by simp[RowK.cells]⟩⟩
theorem bZ.mY {α:Type} {R:RowK α} {w:World} {base x:Nat} {v:Value} {l:List α} {cs:Array Value} {t:TypeId} (k:bZ R w base v l) (hx:Has w x (.cells cs t)) (hne:t≠R.t):x∉v.ownBlock.toList:=by
 intro hm;obtain ⟨cs2,fr,e⟩:=k.tag (Option.mem_toList.1 hm);unfold Has at hx;rw [hx]at e;injection e with e;injection e with _ e;exact hne e
theorem jU.aaL {w:World} {B b:Nat} {g:bJ} {c:Nat} {S:aa} (h:jU w B b g c S) :
  Calls Tryz.prog 50 #[.pointer (some ⟨b,0,none⟩)] w (fun e w'=>(∃v,e=.returned v)/\PS w' B b g ⟨S,0,0,[],false⟩/\Only (b::g.list) w w'):=by
 obtain ⟨n,_,_,h⟩:=h;have hh:=h;obtain ⟨A,cap,a1,a2,a3,a4,a5⟩:=hh;have HH:=zH h;have hn:=h.iy;have KN:Hid (Calls Tryz.prog 58 #[.pointer (some ⟨b,0,none⟩)] w (aH w (.bool false))):=Ew w a2;clear h a1 a3 a4;go_enter Tryz.func50,Tryz.ntmps50;go_wp2_with fail;refine KN.out.mono ?_;rintro e w1 ⟨rfl,b1⟩;have h1:=HH.out.ext b1;obtain ⟨A1,We,k1,k2,k3,k4,k5⟩:=id h1;have c4:=Has.cell k2 4;have f4:=Has.free k2 4;have z4:=Has.lt k2;simp only[gA,gB,gC]at c4;obtain ⟨W2,du⟩:∃W,W=w1.setCell ⟨b,4,none⟩ (.bool false):=⟨_,rfl⟩;have S2:eI W2 b g 0 n A1 0 We false:=by rw[du];exact Has.setCell k2 4 (.bool false)
 have O2:Only [b] w1 W2:=by rw[du];exact Only.setCell _ _ _ _
 have P2:PS W2 B b g ⟨S,0,n,[],false⟩:=⟨A1,We,k1.tP k2 k5 hn O2,S2,.inl rfl,k4,k5⟩;have KP:=zH (P2.Qp none [] 0 (.inl rfl) (fun _=>rfl) (fun h=>absurd rfl h) (Nat.zero_le _));clear k1 k2 k3 k4 S2 KN;go_upto_region 2 with fail;rw [<-du];clear du c4 f4 z4;go_wp2_with fail;refine KP.out.mono ?_;rintro e w3 ⟨⟨v,rfl⟩,P3,O3⟩;go_wp2_with fail;go_end0;refine ⟨⟨_,rfl⟩,P3,(Only.pre b1 (O2.mono (fun x hx=>by rw[List.mem_singleton]at hx;subst hx;exact List.mem_cons_self ..))).then (O3.mono (fun x hx=>by rw[List.mem_singleton]at hx;subst hx;exact List.mem_cons_self ..))⟩
theorem uA (Am:Option Addr) (ms:List eF) (cm:Nat) (Ai:Option Addr) (is:List dN) (ci:Nat) (w:World) (hM:eB ur w Am ms) (hI:eB se w Ai is) (h1:ms.length<=10) (h2:is.length<=30)
  (h3:∀m∈ms,m.path.length<=1000000) (h4:∀it∈is,it.path.length<=1000000/\it.data.length<=1000000) :
  Calls Tryz.prog 24 #[.agg #[.slice Am ms.length cm,.slice Ai is.length ci]] w (fun e w'=>∃(b B:Nat) (g:bJ),e=.returned (.pointer (some ⟨b,0,none⟩))/\w.heap.size<=B/\PS w' B b g ⟨fC ms is,0,0,[],false⟩/\Ext w w'):=by
 obtain ⟨nm,gP⟩:∃n,n=ms.length:=⟨_,rfl⟩;obtain ⟨ni,sB⟩:∃n,n=is.length:=⟨_,rfl⟩;obtain ⟨W1,bV⟩:∃W,W=w.alloc (.cells #[.slice Am nm cm,.slice Ai ni ci] 25):=⟨_,rfl⟩;obtain ⟨b1,jO⟩:∃b,b=w.heap.size:=⟨_,rfl⟩;have E1:Ext w W1:=by rw[bV];exact (Ext.refl _).alloc _
 have B1:Has W1 b1 (.cells #[.slice Am nm cm,.slice Ai ni ci] 25):=by rw[bV,jO];exact Has.new _ _
 have KL:Hid (Calls Tryz.prog 44 #[.agg #[.slice Am nm cm,.slice Ai ni ci]] W1 (aH W1 (.tuple #[.int .i64 (eC ms).1,.int .i64 (eC ms).2]))):=by
  show Calls _ _ _ _ _;rw [gP];exact Lc Am ms cm Ai ni ci W1 (hM.ext E1) (by omega)
 rw [<-gP]at h1|-;rw [<-sB]at h2|-;have BQ:=zH gP;have OA:=zH sB;have HM:=zH (hM.ext E1);have HI:=zH (hI.ext E1);have p6:=zH B1;have c0:=B1.cell 0;have c1:=B1.cell 1;have cz:=B1.lt;simp only[gA,gB,gC]at c0 c1;clear gP sB hM hI B1;go_enter Tryz.func24,Tryz.ntmps24;go_upto_region 1 with fail;rw [<-bV,<-jO];clear bV jO;go_wp2_with fail;refine KL.out.mono ?_;rintro e w2 ⟨rfl,E2⟩;clear KL c0 c1 cz;go_wp2_with fail;refine (aac (eC ms).1 (eC ms).2 w2 (jE ms)).mono ?_;rintro e w3 ⟨g0,B,b,hB,CP,rfl,K3,S3,_,E3⟩;have P3:jU w3 B b g0 0 (dZ (fM ms) (ms.take 0)):=⟨0,Int.le_refl _,Int.le_refl _,none,0,K3,S3,.inl rfl,(fun x hx=>by cases hx),CP⟩;have Wf:Ext W1 w3:=E2.trans E3;have zi:W1.heap.size<=B:=by have:=E2.size;omega
 have B3:=p6.out.ext Wf;have c0:=B3.cell 0;have cz:=B3.lt;simp only[gA,gB]at c0;have Hs:=zH P3;clear K3 S3 P3 B3 E2 E3 hB;go_wp2_with fail;clear c0 cz;go_loopw [26] (fun vi wr=>∃(k:Nat) (g:bJ),vi=.int .i64 k/\k<=nm/\jU wr B b g (2*k) (dZ (fM ms) (ms.take k))/\Ext W1 wr) (fun vi _=>nm-(intOf vi).toNat)
 case atStart=>exact⟨0,g0,rfl,Nat.zero_le _,Hs.out,Wf⟩
 case round =>
  clear Hs;obtain ⟨k,g,rfl,hk,hP,hE⟩:=hrel;have k0:(0:Int)<=(k:Int):=Int.natCast_nonneg _;have HP:=zH hP;have HE:=zH hE
  by_cases hlt:(k:Int)<nm
  case pos =>
   have dh:k<ms.length:=by have:=BQ.out;omega
   obtain ⟨ba,o,rfl,yX,q0,q1,q2⟩:=(HM.out.ext hE).KX dh;have BM:IntKind.i64.wrap ((k:Int)+1)=(k:Int)+1:=IntWalk.i64_in _ (by omega);have hst:=uv (fM ms) ms dh;have hpl:=h3 ms[k] (List.getElem_mem dh);have qZ:e7 (2*k) (dZ (fM ms) (ms.take k)):=(((e7.first (jE ms)).AU (ms.take k))).mono (by rw[List.length_take];omega);obtain⟨m,hm⟩:=aq (ms[k]);rw [<-hm]at q0 q1 q2 hst hpl;obtain ⟨W4,fO⟩:∃W,W=wr.alloc (.cells #[bs m.path,.int .i64 m.b,.int .i64 m.n] 125):=⟨_,rfl⟩;obtain ⟨b6,Qb⟩:∃b,b=wr.heap.size:=⟨_,rfl⟩;have E4:Ext wr W4:=by rw[fO];exact (Ext.refl _).alloc _
   have B4:Has W4 b6 (.cells #[bs m.path,.int .i64 m.b,.int .i64 m.n] 125):=by rw[fO,Qb];exact Has.new _ _
   have tp:=pZ m.path;have KM:=zH (Le (HP.out.ext E4) qZ (by omega) m hpl);have r0:=B4.cell 0;have r1:=B4.cell 1;have r2:=B4.cell 2;have rz:=B4.lt;simp only[gA,gB,gC]at r0 r1 r2;have oD:=zH hst;clear hP hE hm hst hpl qZ B4;go_upto_region 7 with fail;rw [<-fO,<-Qb];clear fO Qb q0 q1 q2 yX;obtain⟨P,yB⟩:=aq (bs m.path);rw [<-yB]at r0 tp KM;clear yB;have tt:my m=(m.path == [47]):=rfl;rw [<-tt]at tp;clear tt
   cases ht:my m with
   | true =>
    rw [ht]at tp;have Ld:Hid (dZ (fM ms) (ms.take (k+1))=dZ (fM ms) (ms.take k)):=by show _=_;rw[oD.out,if_pos ht]
    clear ht;go_wp2_with fail;go_roundw
    case rel=>exact⟨k+1,g,by go_num,by omega,by rw[Ld.out];exact (HP.out.ext E4).mono (by omega),HE.out.trans E4⟩
    case measure=>simp[intOf];omega
   | false =>
    rw [ht]at tp;have Ld:Hid (dZ (fM ms) (ms.take (k+1))=gK (dZ (fM ms) (ms.take k)) m):=by show _=_;rw[oD.out,if_neg (by rw[ht];decide)]
    clear ht;go_wp2_with fail;refine KM.out.mono ?_;rintro e w5 ⟨⟨v5,rfl⟩,T5⟩;have E5:Ext W1 w5:=T5.after (HP.out.ext E4) (HE.out.trans E4) zi;obtain ⟨g5,_,P5,_⟩:=T5;have EN:=zH P5;clear P5 KM r0 r1 r2 rz;go_wp2_with fail;go_roundw
    case rel=>exact⟨k+1,g5,by go_num,by omega,by rw[Ld.out];exact EN.out.mono (by omega),E5⟩
    case measure=>simp[intOf];omega
  case neg =>
   have lM:ms.take k=ms:=List.take_of_length_le (by have:=BQ.out;omega);have yY:=HP.out;rw [lM]at yY;have Dm:e7 20 (dZ (fM ms) ms):=((e7.first (jE ms)).AU ms).mono (by have:=BQ.out;omega);obtain ⟨S1,Cs⟩:∃S,S=dZ (fM ms) ms:=⟨_,rfl⟩;rw [<-Cs]at yY Dm;have Lg:Hid (fC ms is=dS (dD (S1,[]) is).1 ((dD (S1,[]) is).2.zip is)):=by show _=_;rw[Cs];rfl
   have yA:=zH (yY.mono (show 2*k<=20 by omega));have Lh:=zH Dm;have B3:=p6.out.ext hE;have c1:=B3.cell 1;have cz:=B3.lt;simp only[gA,gB,gC]at c1;clear hP hE HP yY Dm lM Cs B3 HM Wf;go_upto_region 11 with fail;obtain ⟨W6,MO⟩:∃W,W=wr.alloc (.cells #[] 3):=⟨_,rfl⟩;obtain ⟨b7,vB⟩:∃b,b=wr.heap.size:=⟨_,rfl⟩;have E6:Ext wr W6:=by rw[MO];exact (Ext.refl _).alloc _
   have M6:Has W6 b7 (.cells #[] 3):=by rw[MO,vB];exact Has.new _ _
   have hN6:W6.heap.size=wr.heap.size+1:=by rw[MO];simp
   rw [<-MO,<-vB];have Wg:wr.heap.size<=b7:=by omega
   have hP6:=yA.out.ext E6;have O6:bZ pW W6 wr.heap.size (.slice (some ⟨b7,0,none⟩) 0 0) []:=bZ.empty pW Wg M6;have Li:B<=wr.heap.size:=by have h7:=yA.out.lt b (List.mem_cons_self ..);omega
   obtain ⟨N0,Wh⟩:∃N,N=wr.heap.size:=⟨_,rfl⟩;rw [<-Wh]at O6 Li;have GL:=zH O6;have HP6:=zH hP6;have Mt:=zH (HE.out.trans E6);have Lj:N0<=W6.heap.size:=by have:=E6.size;omega
   have c1':=(E6.cell cz).trans c1;have cz':b1<W6.heap.size:=by have:=E6.size;omega
   clear MO vB M6 E6 hN6 O6 hP6 c1 cz Wh hlt hk k0 yA HE;go_wp2_with fail;clear c1' cz';go_loopw [7,41] (fun vm vi wr=>∃(k:Nat) (g:bJ),vi=.int .i64 k/\k<=ni/\jU wr B b g (20+3*k) (dD (S1,[]) (is.take k)).1/\bZ pW wr N0 vm (dD (S1,[]) (is.take k)).2/\N0<=wr.heap.size/\Ext W1 wr) (fun _ vi _=>ni-(intOf vi).toNat)
   case atStart=>exact⟨0,g,rfl,Nat.zero_le _,HP6.out,GL.out,Lj,Mt.out⟩
   case round =>
    clear HP6 GL Mt Wg Lj g;obtain ⟨k,g,rfl,hk,hP,hO,Wi,hE⟩:=hrel;have k0:(0:Int)<=(k:Int):=Int.natCast_nonneg _
    by_cases hlt:(k:Int)<ni
    case pos =>
     have dh:k<is.length:=by have:=OA.out;omega
     obtain ⟨ba,o,rfl,yX,q0,q1,q2,q3,q4,q5,q6⟩:=(HI.out.ext hE).GR dh;have BM:IntKind.i64.wrap ((k:Int)+1)=(k:Int)+1:=IntWalk.i64_in _ (by omega);have hst:=rL (S1,[]) is dh;have hil:=h4 is[k] (List.getElem_mem dh);have fH:=e7.items (is.take k) (S1,[]) Lh.out;have pJ:(is.take k).length=k:=by rw[List.length_take];omega
     rw [pJ]at fH;obtain ⟨it,hit⟩:∃m,m=is[k]:=⟨_,rfl⟩;rw [<-hit]at q0 q1 q2 q3 q4 q5 q6 hst hil;obtain⟨p,sj⟩:=aq (dD (S1,[]) (is.take k));rw [<-sj]at hst hP hO fH;have Lk:=fH.2;simp only[List.length_nil,Nat.zero_add]at Lk;have Ll:=zH fH.1;obtain ⟨W8,vh⟩:∃W,W=wr.alloc (.cells #[bs it.path,it.kind,it.mode,it.uid,it.gid,it.mtime,bs it.data] 80):=⟨_,rfl⟩;obtain ⟨b9,sy⟩:∃b,b=wr.heap.size:=⟨_,rfl⟩;have E8:Ext wr W8:=by rw[vh];exact (Ext.refl _).alloc _
     have B8:Has W8 b9 (.cells #[bs it.path,it.kind,it.mode,it.uid,it.gid,it.mtime,bs it.data] 80):=by rw[vh,sy];exact Has.new _ _
     have P8:=hP.ext E8;have O8:=hO.ext E8;have SC:=hP.lt;have aaM:wr.heap.size<=b9:=by omega
     have KN:=zH (Lb P8 fH.1 (by omega) it hil.1 hil.2);obtain⟨T,hT⟩:=aq (jd p.1 it);obtain ⟨no,aU⟩:∃n,n=ie p.1 it:=⟨_,rfl⟩;rw [<-hT,<-aU]at KN;have Ay:dD (S1,[]) (is.take (k+1))=(fB T no it,p.2++[no]):=by rw[hst,hT,aU];rfl
     have Lm:e7 (20+3*k+1) T:=by rw[hT];exact fH.1.GR it
     have oD:=zH Ay;have Wj:=zH Lm;have GW:=zH P8;have yZ:=zH O8;have HB8:=zH B8;have yC:=zH (hE.trans E8);have r0:=B8.cell 0;have r1:=B8.cell 1;have r2:=B8.cell 2;have r3:=B8.cell 3;have r4:=B8.cell 4;have r5:=B8.cell 5;have r6:=B8.cell 6;have rz:=B8.lt;simp only[gA,gB,gC]at r0 r1 r2 r3 r4 r5 r6;clear hst hil fH sj hP hO hE hit hT aU Ay Lm P8 O8 B8 pJ;go_upto_region 14 with fail;rw [<-vh,<-sy];clear vh sy q0 q1 q2 q3 q4 q5 q6 yX;go_wp2_with fail;refine KN.out.mono ?_;rintro e w9 ⟨rfl,T9⟩;have E9:Ext W1 w9:=T9.after GW.out yC.out zi;have B9:=T9.has HB8.out (fun hm=>by have:=SC _ hm;omega);have hoff:=GW.out.uw yZ.out (by decide) (by decide) (by decide) (by decide);obtain ⟨g9,Wk,P9,o9⟩:=T9;have O9:=yZ.out.only o9 hoff;have Ln:N0<=w9.heap.size:=by have:=o9.size;have:=E8.size;omega
     obtain ⟨v10,Da,Lo,Lp,Dn,_⟩:=um pW w9 O9 Ln no (by omega);have aaN:W1.heap.size<=N0:=by omega
     have Qq:Ext W1 Da:=(E9.alloc _).grown Dn (fun g hv=>by have:=(O9.lt hv).1;omega);have OB:Only u7.ownBlock.toList w9 Da:=(Only.gJ _ _ _).then (Only.of_grownBy Dn (fun g hv=>Option.mem_toList.2 hv));have Wl:=P9.only OB (O9.cR Li (by decide) (by decide)) (fun x hx hm=>P9.uw O9 (by decide) (by decide) (by decide) (by decide) x (Option.mem_toList.1 hm) hx);have Wm:=OB.has B9 (O9.mY B9 (by decide));have Lq:N0<=Da.heap.size:=by have:=OB.size;omega
     have Lr:=zH Lo;have uB:=zH Wl;have Do:=zH Lp;have uC:=zH Wm;have Bd:=zH Qq;clear E9 B9 hoff P9 o9 Wk O9 Lo Lp Dn Qq OB Wl Wm KN r0 r1 r2 r3 r4 r5 r6 rz Ln
     by_cases iK:no=0
     case pos =>
      have t1:(no != 0)=false:=by simpa using iK
      have hD:Hid (fB T no it=T):=by show _=_;unfold fB;rw[if_neg (fun q=>q iK)]
      clear iK;go_wp2_with (at_builtin;refine Lib.wpList_append_run _ rfl _ _ 123 123 rfl _ _ rfl rfl _ _ Lr.out ?_);go_roundw
      case rel=>exact⟨k+1,g9,by go_num,by omega,by rw[oD.out,hD.out];exact uB.out.mono (by omega),by rw[oD.out];exact Do.out,Lq,Bd.out⟩
      case measure=>simp[intOf];omega
     case neg =>
      have t1:(no != 0)=true:=by simpa using iK
      have hD:Hid (fB T no it=cq (cq T 0 0 0 (.cK no it.uid it.gid)) 0 0 0 (.cJ no it.mode)):=by show _=_;unfold fB;rw[if_pos iK];rfl
      have KC:=zH (uB.out.cK Wj.out (by omega) no it.uid it.gid);have Dp:e7 (20+3*k+1+1) (cq T 0 0 0 (.cK no it.uid it.gid)):=Wj.out.kp 0 0 0 _ (fun _ _ _ _ e=>by cases e);obtain⟨U,hU⟩:=aq (cq T 0 0 0 (.cK no it.uid it.gid));obtain ⟨ec,Wn⟩:∃e,e=fA T 0 0 0 (.cK no it.uid it.gid):=⟨_,rfl⟩;rw [<-hU,<-Wn]at KC;rw [<-hU]at hD Dp;have HPU:=zH Dp;clear iK hU Wn Dp;have r3:=uC.out.cell 3;have r4:=uC.out.cell 4;have rz:=uC.out.lt;simp only[gA,gB,gC]at r3 r4;go_wp2_with (at_builtin;refine Lib.wpList_append_run _ rfl _ _ 123 123 rfl _ _ rfl rfl _ _ Lr.out ?_);refine KC.out.mono ?_;rintro e Ls ⟨rfl,Lt⟩;have abN:=uB.out.lt;have wX:Ext W1 Ls:=Lt.after uB.out Bd.out zi;have SD:=Lt.has uC.out (uB.out.off uC.out (by decide) (by decide) (by decide) (by decide));have hoff:=uB.out.uw Do.out (by decide) (by decide) (by decide) (by decide);obtain ⟨g11,uD,Dq,Dr⟩:=Lt;have Lu:=Do.out.only Dr hoff;have Wo:N0<=Ls.heap.size:=by have:=Dr.size;omega
      have KM:=zH (Dq.cJ HPU.out (by omega) no it.mode);obtain⟨V,hV⟩:=aq (cq U 0 0 0 (.cJ no it.mode));obtain ⟨ed,Wp⟩:∃e,e=fA U 0 0 0 (.cJ no it.mode):=⟨_,rfl⟩;rw [<-hV,<-Wp]at KM;rw [<-hV]at hD;have Be:=zH Dq;have yD:=zH Lu;have Bf:=zH wX;clear r3 r4 rz KC hV Wp uD Dr hoff Dq Lu wX;have r2:=SD.cell 2;have rz:=SD.lt;simp only[gA,gB,gC]at r2;clear SD;go_wp2_with fail;refine KM.out.mono ?_;rintro e RZ ⟨rfl,YF⟩;have CH:Ext W1 RZ:=YF.after Be.out Bf.out zi;have hoff:=Be.out.uw yD.out (by decide) (by decide) (by decide) (by decide);obtain ⟨g12,Lv,Ua,Qr⟩:=YF;have Wq:=yD.out.only Qr hoff;have Lw:N0<=RZ.heap.size:=by have:=Qr.size;omega
      have SE:=zH Ua;have SF:=zH Wq;have Bg:=zH CH;clear r2 rz KM Lv Qr hoff Ua Wq CH;go_wp2_with fail;go_roundw
      case rel=>exact⟨k+1,g12,by go_num,by omega,by rw[oD.out,hD.out];exact SE.out.mono (by omega),by rw[oD.out];exact SF.out,Lw,Bg.out⟩
      case measure=>simp[intOf];omega
    case neg =>
     have lM:is.take k=is:=List.take_of_length_le (by have:=OA.out;omega);rw [lM]at hP hO;have fH:=e7.items is (S1,[]) Lh.out;have sB:=OA.out;obtain⟨p,sj⟩:=aq (dD (S1,[]) is);rw [<-sj]at hP hO fH;have JL:Hid (fC ms is=dS p.1 (p.2.zip is)):=by show _=_;rw[Lg.out,sj]
     have Lk:p.2.length=ni:=by have:=fH.2;simp only[List.length_nil,Nat.zero_add]at this;omega
     have HOL:=zH Lk;have hzl:Hid ((p.2.zip is).length=ni):=by show _=_;rw[List.length_zip];omega
     have SG:=zH (fH.1.mono (show 20+3*is.length<=110 by omega));have HP:=zH (hP.mono (show 20+3*k<=110 by omega));obtain ⟨Am,cm',Wr,_,_,Lx,_⟩:=hO.at_;rw [Lk]at Wr;have HO:=zH hO;have HE:=zH hE;have SH:=zH Lx;have B3:=p6.out.ext hE;have c1:=B3.cell 1;have cz:=B3.lt;simp only[gA,gB,gC]at c1;subst Wr;clear hP hO hE lM fH sB sj Lk Lx B3;go_wp2_with fail;clear c1 cz hlt hk k0;go_loopw [72] (fun vi wr=>∃(k:Nat) (g:bJ),vi=.int .i64 k/\k<=ni/\jU wr B b g (110+k) (dS p.1 ((p.2.zip is).take k))/\bZ pW wr N0 (.slice Am ni cm') p.2/\Ext W1 wr) (fun vi _=>ni-(intOf vi).toNat)
     case atStart=>exact⟨0,g,rfl,Nat.zero_le _,HP.out,HO.out,HE.out⟩
     case round =>
      clear HP HO HE Wi g SH;obtain ⟨k,g,rfl,hk,hP,hO,hE⟩:=hrel;have k0:(0:Int)<=(k:Int):=Int.natCast_nonneg _
      by_cases hlt:(k:Int)<ni
      case pos =>
       have dh:k<is.length:=by have:=OA.out;omega
       have OD:k<p.2.length:=by have:=HOL.out;omega
       have Ws:k<(p.2.zip is).length:=by have:=hzl.out;omega
       obtain ⟨ba,o,rfl,yX,q0,q1,q2,q3,q4,q5,q6⟩:=(HI.out.ext hE).GR dh;obtain ⟨gm,IP,SI,qm⟩:∃gm,Am=some ⟨gm,0,none⟩/\gm<wr.heap.size/\wr.cell? ⟨gm,k,none⟩=some (.int .i64 p.2[k]):=by
        rcases hO.cases with⟨_,h2⟩|⟨gm,cap,cur,h2,_,h3,_,_,h4⟩
        ·rw[h2]at OD;cases OD
        ·injection h2 with h2
         have:=h4 k OD 0 (by decide);exact ⟨gm,h2,h3.lt,by simpa [pW]using this⟩
       subst IP;have BM:IntKind.i64.wrap ((k:Int)+1)=(k:Int)+1:=IntWalk.i64_in _ (by omega);have hst:=rM p.1 (p.2.zip is) Ws;rw [List.getElem_zip]at hst;have qZ:e7 (110+k) (dS p.1 ((p.2.zip is).take k)):=(e7.times ((p.2.zip is).take k) SG.out).mono (by rw[List.length_take];omega);obtain ⟨it,hit⟩:∃m,m=is[k]:=⟨_,rfl⟩;obtain ⟨no,aU⟩:∃m,m=p.2[k]:=⟨_,rfl⟩;rw [<-hit]at q0 q1 q2 q3 q4 q5 q6 hst;rw [<-aU]at qm hst;obtain ⟨S3,GV⟩:∃S,S=dS p.1 ((p.2.zip is).take k):=⟨_,rfl⟩;rw [<-GV]at hst qZ hP;obtain ⟨W8,vh⟩:∃W,W=wr.alloc (.cells #[bs it.path,it.kind,it.mode,it.uid,it.gid,it.mtime,bs it.data] 80):=⟨_,rfl⟩;obtain ⟨b9,sy⟩:∃b,b=wr.heap.size:=⟨_,rfl⟩;have E8:Ext wr W8:=by rw[vh];exact (Ext.refl _).alloc _
       have B8:Has W8 b9 (.cells #[bs it.path,it.kind,it.mode,it.uid,it.gid,it.mtime,bs it.data] 80):=by rw[vh,sy];exact Has.new _ _
       have P8:=hP.ext E8;have O8:=hO.ext E8;have qm':=(E8.cell SI).trans qm;have qz':gm<W8.heap.size:=by have:=E8.size;omega
       have oD:=zH hst;have GW:=zH P8;have yZ:=zH O8;have yC:=zH (hE.trans E8);have r5:=B8.cell 5;have rz:=B8.lt;simp only[gA,gB,gC]at r5;have Ll:=zH qZ;clear hst hP hO hE hit aU GV P8 O8 B8 qZ qm OD Ws;go_upto_region 23 with fail;rw [<-vh,<-sy];clear vh sy q0 q1 q2 q3 q4 q5 q6 yX SI
       by_cases iK:no=0
       case pos =>
        have t1:(no != 0)=false:=by simpa using iK
        have hD:Hid (dS p.1 ((p.2.zip is).take (k+1))=S3):=by show _=_;rw[oD.out];unfold mi;rw[if_neg (fun q=>q iK)]
        clear iK;go_wp2_with fail;go_roundw
        case rel=>exact⟨k+1,g,by go_num,by omega,by rw[hD.out];exact GW.out.mono (by omega),yZ.out,yC.out⟩
        case measure=>simp[intOf];omega
       case neg =>
        have t1:(no != 0)=true:=by simpa using iK
        have hD:Hid (dS p.1 ((p.2.zip is).take (k+1))=cq S3 0 0 0 (.dA no it.mtime)):=by show _=_;rw[oD.out];unfold mi;rw[if_pos iK];rfl
        have SJ:=(Ext.refl W8).drew;have KC:=zH ((GW.out.ext SJ).dA Ll.out (by omega) no it.mtime);have Ly:=zH SJ;clear iK SJ;go_upto_region 24 with fail;go_still_tail 8,(by kernel_rfl);change wpList _ _ _ _ _ W8.drew;go_wp2_with fail;refine KC.out.mono ?_;rintro e Ls ⟨rfl,Lt⟩;have wX:Ext W1 Ls:=Lt.after (GW.out.ext Ly.out) (yC.out.trans Ly.out) zi;have hoff:=(GW.out.ext Ly.out).uw (yZ.out.ext Ly.out) (by decide) (by decide) (by decide) (by decide);obtain ⟨g11,uD,Dq,Dr⟩:=Lt;have Lu:=(yZ.out.ext Ly.out).only Dr hoff;have Be:=zH Dq;have yD:=zH Lu;have Bf:=zH wX;clear r5 rz KC uD Dr hoff Dq Lu wX qm' qz';go_wp2_with fail;go_roundw
        case rel=>exact⟨k+1,g11,by go_num,by omega,by rw[hD.out];exact Be.out.mono (by omega),yD.out,Bf.out⟩
        case measure=>simp[intOf];omega
      case neg =>
       have lM:(p.2.zip is).take k=p.2.zip is:=List.take_of_length_le (by have:=hzl.out;omega);rw [lM,<-JL.out]at hP;have HP:=zH hP;have HE:=zH hE;have KW:=zH hP.aaL;clear lM hP hE hO;go_wp2_with fail;refine KW.out.mono ?_;rintro e w9 ⟨⟨v9,rfl⟩,P9,o9⟩;have E9:Ext W1 w9:=o9.after HE.out (fun x hx=>by have:=(HP.out.cR x hx).1;omega);have HP9:=zH P9;clear P9 o9 KW;go_wp2_with fail;go_ret;exact ⟨b,B,g,rfl,by have:=E1.size;omega,HP9.out,E1.trans E9⟩
end Go.Proofs.YtblbohcaphcobaaGreatDoor
