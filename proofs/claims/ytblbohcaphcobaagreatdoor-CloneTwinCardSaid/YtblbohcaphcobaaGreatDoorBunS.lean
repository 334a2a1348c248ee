import Derived.Test.YtblbohcaphcobaaGreatDoorBunN
import Derived.Test.YtblbohcaphcobaaGreatDoorBunL
import Derived.Test.YtblbohcaphcobaaGreatDoorBunF
import Derived.Test.YtblbohcaphcobaaGreatDoorBunM
import Derived.Test.YtblbohcaphcobaaGreatDoorBunJ
import Derived.Test.YtblbohcaphcobaaGreatDoorBunI
import Derived.Test.YtblbohcaphcobaaGreatDoorBunK
import Derived.OpenShut
set_option maxHeartbeats 16000000
set_option maxRecDepth 100000
namespace Go.Proofs.YtblbohcaphcobaaGreatDoor
section
open Go.ChangeShapes Go.WideShapes Go.ChangeAt Go.RowKit
structure RowK (α:Type) where
 ts:TypeId
 t : TypeId
 k : Nat
 bytes:Nat
 zero:Value
 enc:α->List Value
 hk:0<k
 under:Tryz.prog.underlying ts=some (.slice t)
 info:(Tryz.prog.info? t).map (fun i=>(i.zero,i.size,i.bytes))=some (some zero,k,bytes)
 zs:zero.cells.size=k
 len:∀x,(enc x).length=k
 one:∀x,∀u∈enc x,u.oneCell'=true
 hb:bytes<=1000
section
variable {α:Type} {R:RowK α}
def RowK.cells (R:RowK α) (l:List α):List Value:=l.flatMap R.enc
theorem RowK.iL (R:RowK α) (l:List α):(R.cells l).length=l.length*R.k:=by
 unfold RowK.cells
 induction l with
 | nil=>simp
 | cons x l ih=>rw[List.flatMap_cons,List.length_append,ih,R.len,List.length_cons,Nat.succ_mul];omega
theorem RowK.gP (R:RowK α) (a b:List α):R.cells (a++b)=R.cells a++R.cells b:=by unfold RowK.cells;rw[List.flatMap_append]
theorem RowK.nY (R:RowK α) (l:List α):∀i,(h:i<l.length)->∀j,j<R.k->(R.cells l)[i*R.k+j]?=(R.enc l[i])[j]?:=by
 induction l with
 | nil=>intro i h;cases h
 | cons x l ih =>
  intro i h j hj;have e:R.cells (x::l)=R.enc x++R.cells l:=rfl;rw [e]
  cases i with
  | zero =>
   simp only[Nat.zero_mul,Nat.zero_add,List.getElem_cons_zero];rw [List.getElem?_append_left (by rw[R.len];exact hj)]
  | succ i =>
   have:=ih i (by simpa using h) j hj;rw [List.getElem?_append_right (by rw[R.len,Nat.succ_mul];omega),R.len];simp only[List.getElem_cons_succ];rw [show (i+1)*R.k+j-R.k=i*R.k+j by rw[Nat.succ_mul];omega];exact this
theorem RowK.Ia (R:RowK α) (l:List α):∀u∈R.cells l,u.oneCell'=true:=by
 intro u hu;unfold RowK.cells at hu;rw [List.mem_flatMap]at hu;obtain ⟨x,_,hx⟩:=hu;exact R.one x u hx
def bJ (R:RowK α) (w:World) (base:Nat) (v:Value) (l:List α):Prop:=w.ownsRow base R.t R.k v l.length (R.cells l)
theorem bJ.nil (R:RowK α) (w:World) (base:Nat):bJ R w base (.slice none 0 0) []:=World.ownsRow_nil _ _ _ _
def dC (R:RowK α) (w:World) (A:Option Addr) (l:List α):Prop:=
 l = []\/∃b o,A=some ⟨b,o,none⟩/\b<w.heap.size/\∀i,(h:i<l.length)->∀j,j<R.k->w.cell? ⟨b,o+i*R.k+j,none⟩=(R.enc l[i])[j]?
theorem dC.ext {w w':World} {A:Option Addr} {l:List α} (h:dC R w A l) (k:Ext w w'):dC R w' A l:=by
 rcases h with h|⟨b,o,hA,hb,hc⟩
 ·exact .inl h
 ·exact .inr ⟨b,o,hA,by have:=k.size;omega,fun i hi j hj=>(k.cell hb).trans (hc i hi j hj)⟩
theorem bJ.cases {w:World} {base:Nat} {v:Value} {l:List α} (h:bJ R w base v l) :
  (v=.slice none 0 0/\l=[])\/∃g cap cur,v=.slice (some ⟨g,0,none⟩) l.length cap/\base<=g/\Has w g (.cells cur R.t)/\l.length<=cap/\cap<=maxLen/\∀i,(h:i<l.length)->∀j,j<R.k->w.cell? ⟨g,i*R.k+j,none⟩=(R.enc l[i])[j]?:=by
 rcases h.2 with⟨e,h0⟩|⟨g,cap,cur,rfl,hb,hg,hn,hm,hs,ht⟩
 ·exact .inl ⟨e,List.eq_nil_of_length_eq_zero h0⟩
 ·refine .inr ⟨g,cap,cur,rfl,hb,hg,hn,hm,fun i hi j hj=>?_⟩
  have hlt:i*R.k+j<l.length*R.k:=by
   have:(i+1)*R.k<=l.length*R.k:=Nat.mul_le_mul_right _ hi;rw [Nat.succ_mul]at this;omega
  have:=World.ownsRow.cellAt h (i*R.k+j) hlt;rw [this];exact R.nY l i hi j hj
theorem bJ.at_ {w:World} {base:Nat} {v:Value} {l:List α} (h:bJ R w base v l):∃A cap,v=.slice A l.length cap/\l.length<=cap/\cap<=maxLen/\dC R w A l/\(A=none->cap=0):=by
 rcases h.cases with⟨rfl,rfl⟩|⟨g,cap,cur,rfl,hb,hg,hn,hm,hc⟩
 ·exact⟨none,0,rfl,Nat.le_refl _,by decide,.inl rfl,fun _=>rfl⟩
 ·exact⟨_,cap,rfl,hn,hm,.inr ⟨g,0,rfl,hg.lt,fun i hi j hj=>by rw[Nat.zero_add];exact hc i hi j hj⟩,fun e=>by cases e⟩
theorem bJ.ext {w w':World} {base:Nat} {v:Value} {l:List α} (h:bJ R w base v l) (k:Ext w w'):bJ R w' base v l:=World.ownsRow.kept h k.grownBy (by cases v.ownBlock<;>simp)
theorem bJ.only {w w':World} {base:Nat} {v:Value} {l:List α} {L:List Nat} (h:bJ R w base v l) (o:Only L w w') (hn:∀g,v.ownBlock=some g->g∉L):bJ R w' base v l:=av h o hn
theorem bJ.lt {w:World} {base:Nat} {v:Value} {l:List α} (h:bJ R w base v l) {g:Nat} (hv:v.ownBlock=some g):base<=g/\g<w.heap.size:=World.ownsRow.lt h g hv
theorem bJ.tag {w:World} {base g:Nat} {v:Value} {l:List α} (h:bJ R w base v l) (hv:v.ownBlock=some g):gh w g R.t:=by
 rcases h.2 with⟨rfl,_⟩|⟨g',cap,cur,rfl,hb,hg,_⟩
 ·cases hv
 ·injection hv with hv
  subst hv;exact ⟨_,_,hg⟩
theorem bJ.pop {w:World} {base:Nat} {g cap:Nat} {l:List α} {x:α} (h:bJ R w base (.slice (some ⟨g,0,none⟩) (l++[x]).length cap) (l++[x])):bJ R w base (.slice (some ⟨g,0,none⟩) l.length cap) l:=by
 refine ⟨R.iL l,?_⟩;rcases h.2 with⟨e,_⟩|⟨g',cap',cur,hv,hb,hg,hn,hm,hs,ht⟩
 ·cases e
 ·injection hv with h1 h2 h3
  injection h1 with h1;injection h1 with h1;subst h1;subst h3;refine .inr ⟨g,cap,cur,rfl,hb,hg,by rw[List.length_append]at hn;omega,hm,hs,?_⟩;have e:cur.toList.take (l.length*R.k)=(cur.toList.take ((l++[x]).length*R.k)).take (l.length*R.k):=by
   rw [List.take_take];congr 1;have:l.length*R.k<=(l++[x]).length*R.k:=Nat.mul_le_mul_right _ (by simp);omega
  rw [e,ht,R.gP,List.take_left' (R.iL l)]
theorem L6 (R:RowK α) (w:World) {base:Nat} {v:Value} {l:List α} (h:bJ R w base v l) (hb:base<=w.heap.size) (l2:List α) (bb o c2:Nat) (h2:∀i,(h:i<l2.length)->∀j,j<R.k->w.cell? ⟨bb,o+i*R.k+j,none⟩=(R.enc l2[i])[j]?)
  (hl:l.length<=2000000) (rO:l2.length<=1000000) :
  ∃ v' w',(Builtin.append_ #[R.ts,R.ts] R.ts #[v,.slice (some ⟨bb,o,none⟩) l2.length c2]).run Tryz.prog w=.ok v' w'/\bJ R w' base v' (l++l2)/\w.grownBy w' v.ownBlock/\(v'.ownBlock=v.ownBlock\/v'.ownBlock=some w.heap.size):=by
 obtain ⟨i0,hi,hz0,hz1,hz2⟩:=info_parts R.info;obtain ⟨v',w',hr,h3,h4,_,h5⟩:=run_append_own_at (P:=Tryz.prog) (w:=w) base R.ts R.ts R.t i0 R.zero R.k R.bytes R.under hi hz0 hz1 hz2 R.zs R.hk v l.length _ h ⟨bb,o,none⟩ l2.length c2 (R.cells l2) (R.iL l2)
  (by
   intro j u hu;rw [Addr.add_lit];have hk:=R.hk;have hj:j<l2.length*R.k:=by
    rcases Nat.lt_or_ge j (l2.length*R.k) with h'|h'
    ·exact h'
    ·rw[List.getElem?_eq_none (by rw[R.iL];exact h')]at hu;cases hu
   have hi:j / R.k<l2.length:=Nat.div_lt_of_lt_mul (by rw[Nat.mul_comm];exact hj);have hm:j % R.k<R.k:=Nat.mod_lt _ hk;have e:j / R.k*R.k+j % R.k=j:=by rw[Nat.mul_comm];exact Nat.div_add_mod j R.k
   have a:=R.nY l2 (j / R.k) hi (j % R.k) hm;rw [e,hu]at a;have b:=h2 (j / R.k) hi (j % R.k) hm;rw [Nat.add_assoc,e]at b;rw [b,<-a])
  (R.Ia l2) (by unfold maxLen;omega) (Nat.le_trans (Nat.mul_le_mul (show l.length+l2.length<=3000000 by omega) R.hb) (by omega)) hb
 refine ⟨v',w',hr,?_,h4,h5⟩;unfold bJ;rw [R.gP,List.length_append];exact h3
theorem sf (R:RowK α) (w:World) {base:Nat} {v:Value} {l:List α} (h:bJ R w base v l) (hb:base<=w.heap.size) (x:α) (hl:l.length<=2000000) :
  ∃ v' w',(Builtin.append_ #[R.ts,R.ts] R.ts #[v,.slice (some ⟨w.heap.size,0,none⟩) 1 1]).run Tryz.prog (w.alloc (.cells (R.enc x).toArray R.t))=.ok v' w'/\bJ R w' base v' (l++[x])/\(w.alloc (.cells (R.enc x).toArray R.t)).grownBy w' v.ownBlock/\(v'.ownBlock=v.ownBlock\/v'.ownBlock=some (w.heap.size+1)):=by
 have hN:=Has.new w (.cells (R.enc x).toArray R.t);have E:Ext w (w.alloc (.cells (R.enc x).toArray R.t)):=(Ext.refl _).alloc _;obtain ⟨v',w',hr,h3,h4,h5⟩:=L6 R (w.alloc (.cells (R.enc x).toArray R.t)) (h.ext E) (by simp;omega) [x] w.heap.size 0 1
  (fun i hi j hj=>by
   have:i=0:=by simpa using hi
   subst this;rw [show 0+0*R.k+j=j by omega];have:=hN.cell j;rw [this];simp) hl (by simp)
 exact ⟨v',w',hr,h3,h4,by rw[World.size_alloc]at h5;exact h5⟩
end
def qj:RowK Int:=⟨123,3,1,8,.int .i64 0,fun x=>[.int .i64 x],by decide,Tryz.underlying123,by kernel_rfl,rfl,fun _=>rfl,fun x u hu=>by rw[List.mem_singleton]at hu;subst hu;rfl,by decide⟩
def DU:RowK (List UInt8×Int):=⟨56,106,2,24,.agg #[.string ⟨#[]⟩,.int .i64 0],fun x=>[.string (bs x.1),.int .i64 x.2],by decide,Tryz.underlying56,by kernel_rfl,rfl,fun _=>rfl,fun x u hu=>by
 simp only[List.mem_cons,List.not_mem_nil,or_false]at hu;rcases hu with rfl|rfl<;>rfl,by decide⟩
end
section
structure eA where
 path:List UInt8
 b : Int
 n : Int
structure dJ where
 path:List UInt8
 kind:Int
 mode:Int
 uid:Int
 gid:Int
 mtime:Int
 data:List UInt8
structure fy (c:Nat) (S:ac):Prop where
 eE:dI c S
 xo:bi S
 kids:Kids S
 last:S.last<=c+1
theorem fy.mono {c d:Nat} {S:ac} (h:fy c S) (I1:c<=d):fy d S:=⟨gu h.eE I1,h.xo,h.kids,by have:=h.last;omega⟩
theorem fy.lP {c:Nat} {S:ac} (h:fy c S) (cu cg now:Int) (x:jn) (hx:∀fr a aY b,x≠.rename fr a aY b):fy (c+1) (cF S cu cg now x):=
 ⟨PD h.eE _ _ _ _ hx,Dx h.eE h.xo _ _ _ _ hx,LS h.eE h.kids _ _ _ _ hx,by have:=Li S cu cg now x;have:=h.last;omega⟩
theorem y_ {S:ac} (h:bi S) (a b n:Int):bi (ct S a b n):=by
 unfold ct;split
 ·intro m hm hk
  rcases List.mem_append.1 hm with hm|hm
  ·exact h m hm hk
  ·rw [List.mem_singleton]at hm
   subst hm;exact absurd rfl hk
 ·exact h
theorem fy.ji {c:Nat} {S:ac} (h:fy c S) (a b n:Int):fy (c+1) (ct S a b n):=
 ⟨gu (Gq h.eE _ _ _) (by omega),y_ h.xo _ _ _,DN h.eE h.kids _ _ _,by have:=AR (S:=S) a b n;have:=h.last;omega⟩
theorem fy.first {b n:Int} (hl:cA b n=true):fy 0 (cr cE 0 b n):=
 ⟨Gs hl,fun m hm hk=>by
  have hm':m∈[bo cE]:=hm;rw [List.mem_singleton]at hm';subst hm';rfl,DP b n,by show (1:Int)<=_;omega⟩
def mI (S:ac) (m:eA):gR×Int:=dP S 0 0 m.path false
def rE (S:ac) (m:eA):jn:=.bZ (mI S m).1.dir (mI S m).1.name 493
def gF (S:ac) (m:eA):ac:=
 if (mI S m).2≠0 then S
 else if (mI S m).1.no=0 then (if fE S 0 0 0 (rE S m)=0 then ct (cF S 0 0 0 (rE S m)) (jT S 0 0 0 (rE S m)) m.b m.n else cF S 0 0 0 (rE S m))
 else ct S (mI S m).1.no m.b m.n
theorem fy.Ib {c:Nat} {S:ac} (h:fy c S) (m:eA):fy (c+2) (gF S m):=by
 unfold gF;split
 ·exact h.mono (by omega)
 ·split
  ·have h1:=h.lP 0 0 0 (rE S m) (fun _ _ _ _ e=>by cases e)
   split
   ·exact h1.ji _ _ _
   ·exact h1.mono (by omega)
  ·exact (h.ji _ _ _).mono (by omega)
def mJ (m:eA):Bool:=m.path == [47]
def dX (S:ac) (l:List eA):ac:=l.foldl (fun S m=>if mJ m=true then S else gF S m) S
theorem fy.wF {c:Nat} {S:ac} (h:fy c S) (l:List eA):fy (c+2*l.length) (dX S l):=by
 unfold dX
 induction l generalizing c S with
 | nil=>exact h
 | cons m l ih =>
  rw [List.foldl_cons];have h1:fy (c+2) (if mJ m=true then S else gF S m):=by
   split
   ·exact h.mono (by omega)
   ·exact h.Ib m
  exact (ih h1).mono (by rw[List.length_cons];omega)
def eG (S:ac) (it:dJ):gR×Int:=dP S 0 0 it.path false
def uQ (S:ac) (it:dJ):gR×Int:=dP S 0 0 it.data false
def gT (S:ac) (it:dJ):Option jn:=
 if (eG S it).2≠0 then none
 else if (eG S it).1.no≠0 then none
 else if it.kind=1 then some (.bZ (eG S it).1.dir (eG S it).1.name 493)
 else if it.kind=2 then some (.bB (eG S it).1.dir (eG S it).1.name 420 it.data)
 else if it.kind=3 then some (.symlink (eG S it).1.dir (eG S it).1.name it.data)
 else if it.kind=4 then (if (uQ S it).2=0 then some (.link (uQ S it).1.no (eG S it).1.dir (eG S it).1.name) else none)
 else none
def iY (S:ac) (it:dJ):ac:=match gT S it with|some x=>cF S 0 0 0 x|none=>S
def iq (S:ac) (it:dJ):Int:=
 match gT S it with
 | some x=>jT S 0 0 0 x
 | none=>if (eG S it).2=0/\(eG S it).1.no≠0/\it.kind=1/\(aa S.nodes (eG S it).1.no).kind=1 then (eG S it).1.no else 0
theorem Qb {S:ac} {it:dJ} {x:jn} (h:gT S it=some x):∀fr a aY b,x≠.rename fr a aY b:=by
 intro fr a aY b e;subst e;unfold gT at h;split at h
 ·cases h
 split at h
 ·cases h
 split at h
 ·cases h
 split at h
 ·cases h
 split at h
 ·cases h
 split at h
 ·split at h<;>cases h
 ·cases h
theorem fy.DV {c:Nat} {S:ac} (h:fy c S) (it:dJ):fy (c+1) (iY S it):=by
 unfold iY;split
 ·rename_i x hx;exact h.lP _ _ _ _ (Qb hx)
 ·exact h.mono (by omega)
def fp (S:ac) (no:Int) (it:dJ):ac:=if no≠0 then d_ (ey S 0 0 no it.uid it.gid) 0 0 no it.mode else S
theorem fy.uR {c:Nat} {S:ac} (h:fy c S) (no:Int) (it:dJ):fy (c+2) (fp S no it):=by
 unfold fp;split
 ·exact (h.lP 0 0 0 (.cU no it.uid it.gid) (fun _ _ _ _ e=>by cases e)).lP 0 0 0 (.dn no it.mode) (fun _ _ _ _ e=>by cases e)
 ·exact h.mono (by omega)
def sg (p:ac×List Int) (it:dJ):ac×List Int:=(fp (iY p.1 it) (iq p.1 it) it,p.2++[iq p.1 it])
def dD (p:ac×List Int) (l:List dJ):ac×List Int:=l.foldl sg p
theorem fy.items {c:Nat} (l:List dJ) (p:ac×List Int) (h:fy c p.1):fy (c+3*l.length) (dD p l).1/\(dD p l).2.length=p.2.length+l.length:=by
 unfold dD
 induction l generalizing c p with
 | nil=>exact⟨h,rfl⟩
 | cons m l ih =>
  rw [List.foldl_cons];have h1:fy (c+3) (sg p m).1:=(h.DV m).uR _ _;obtain ⟨k1,k2⟩:=ih _ h1;refine ⟨k1.mono (by rw[List.length_cons];omega),?_⟩;rw [k2];unfold sg;simp only[List.length_append,List.length_cons,List.length_nil];omega
def lU (S:ac) (x:Int×dJ):ac:=if x.1≠0 then ee S 0 0 x.1 x.2.mtime else S
def dN (S:ac) (l:List (Int×dJ)):ac:=l.foldl lU S
theorem fy.times {c:Nat} (l:List (Int×dJ)) {S:ac} (h:fy c S):fy (c+l.length) (dN S l):=by
 unfold dN
 induction l generalizing c S with
 | nil=>exact h
 | cons x l ih =>
  rw [List.foldl_cons];have h1:fy (c+1) (lU S x):=by
   unfold lU;split
   ·exact h.lP 0 0 0 (.dp x.1 x.2.mtime) (fun _ _ _ _ e=>by cases e)
   ·exact h.mono (by omega)
  exact (ih h1).mono (by rw[List.length_cons];omega)
def eK (l:List eA):Int×Int:=match l.find? (fun m=>mJ m&&cA m.b m.n) with|some m=>(m.b,m.n)|none=>(65536,65536)
theorem jL (l:List eA):cA (eK l).1 (eK l).2=true:=by
 unfold eK;split
 ·rename_i m hm
  have:=List.find?_some hm;simp only[Bool.and_eq_true]at this;exact this.2
 ·decide
def fX (ms:List eA):ac:=cr cE 0 (eK ms).1 (eK ms).2
def xH (ms:List eA) (is:List dJ):ac×List Int:=dD (dX (fX ms) ms,[]) is
def fD (ms:List eA) (is:List dJ):ac:=dN (xH ms is).1 ((xH ms is).2.zip is)
def sO (ns:List ai):Nat:=(ns.map fun n=>n.ae.length).sum
theorem si (a b:List ai):sO (a++b)=sO a+sO b:=by unfold sO;rw[List.map_append,List.sum_append]
theorem xI {ns:List ai} {n:ai} (h:∀m∈ns,m.no≠n.no):bn ns n=ns:=by
 unfold bn;have:ns.map (fun m=>if m.no == n.no then n else m)=ns.map id:=by
  apply List.map_congr_left;intro m hm;have:=h m hm;rw [if_neg (by simpa using this)];rfl
 rw [this,List.map_id]
theorem L9 {ns:List ai} (hp:ns.Pairwise (fun a b=>a.no<b.no)) {n:ai} {d:Nat} (hle:n.ae.length<=(aa ns n.no).ae.length+d):sO (bn ns n)<=sO ns+d:=by
 induction ns with
 | nil=>exact Nat.zero_le _
 | cons a ns ih =>
  rw [List.pairwise_cons]at hp
  by_cases he:a.no=n.no
  ·have h1:bn ns n=ns:=xI fun m hm=>by have:=hp.1 m hm;omega
   have h2:aa (a::ns) n.no=a:=by unfold aa eY;rw[List.find?_cons];simp[he]
   have h3:bn (a::ns) n=n::bn ns n:=by unfold bn;rw[List.map_cons,if_pos (by simpa using he)]
   rw [h3,h1];rw [h2]at hle;unfold sO;rw [List.map_cons,List.sum_cons,List.map_cons,List.sum_cons];omega
  ·have h2:aa (a::ns) n.no=aa ns n.no:=by
    unfold aa eY;rw [List.find?_cons];have:(a.no == n.no)=false:=by simpa using he
    rw [this]
   have h3:bn (a::ns) n=a::bn ns n:=by unfold bn;rw[List.map_cons,if_neg (by simpa using he)]
   rw [h2]at hle;have:=ih hp.2 hle;rw [h3];unfold sO at this|-;rw [List.map_cons,List.sum_cons,List.map_cons,List.sum_cons];omega
theorem rF (S:ac):cG S=sO S.nodes:=rfl
theorem uU {S:ac} (hu:aI S.nodes S.last) {n:ai} {d:Nat} (hle:n.ae.length<=(aa S.nodes n.no).ae.length+d):cG (aK S n)<=cG S+d:=L9 hu.1 hle
theorem ql {S:ac} (hu:aI S.nodes S.last) {no:Int} (hi:aQ S.nodes no=true) {n:ai} (bc:n.no=(aa S.nodes no).no) (he:n.ae=(aa S.nodes no).ae):cG (aK S n)<=cG S:=by
 have h1:n.no=no:=bc.trans (aj hi).2.1;have:=uU (d:=0) hu (n:=n) (by rw[h1,he];omega);omega
theorem uV {S:ac} {c:Nat} (hT:dI c S) (cu cg now dir:Int) (nm:List UInt8) (n:ai) (hn:n.ae=[]):cG (aX S cu cg now dir nm n)<=cG S+1:=by
 unfold aX;split
 case isFalse=>omega
 rename_i h0;obtain ⟨h1,_,h3⟩:=gx h0;obtain ⟨p1,p2,_⟩:=aR h1;obtain ⟨_,bc,hmem⟩:=aj p1;have mN:(bj S (bA S cu cg now dir n)).nodes=S.nodes++[{bA S cu cg now dir n with no:=S.last+1}]:=by unfold bj;rw[if_pos h3]
 have OG:(bj S (bA S cu cg now dir n)).last=S.last+1:=by unfold bj;rw[if_pos h3]
 have hg:=jw hT.aC (bA S cu cg now dir n) p1;have hu:aI (bj S (bA S cu cg now dir n)).nodes (bj S (bA S cu cg now dir n)).last:=by rw[mN,OG];exact hT.aC.add _ rfl (by have:=hT.last;omega)
 have e1:cG (bj S (bA S cu cg now dir n))=cG S:=by
  rw [rF,mN,si];have:sO [{bA S cu cg now dir n with no:=S.last+1}]=0:=by
   show (([n.ae.length]:List Nat)).sum=0;rw [hn];rfl
  rw [this];rfl
 rw [<-e1];refine uU hu ?_;show (dk (aa S.nodes dir).ae (nm,S.last+1)).length<=(aa (bj S (bA S cu cg now dir n)).nodes (aa (bj S (bA S cu cg now dir n)).nodes dir).no).ae.length+1;rw [hg.1,bc,hg.1];exact pJ _ _
theorem zb {S T:ac} {p:Int} {k:Nat} (h:cG T<=cG S+k):cG (dM p S T)<=cG S+k:=by unfold dM;split;omega;exact h
theorem L_ {S:ac} {c:Nat} (hT:dI c S) (cu cg now no dir:Int) (nm:List UInt8):cG (dW S cu cg now no dir nm)<=cG S+1:=by
 unfold dW;split
 case isFalse=>omega
 rename_i h0;obtain ⟨hp,hi,hk,_⟩:=ii h0;obtain ⟨hid,oL,_⟩:=aR hp;obtain ⟨_,bc,hmem⟩:=aj hi;obtain ⟨_,lr,jq⟩:=aj hid;have hne:dir≠no:=fun e=>by subst e;exact hk oL
 have e0:(bH S now no).no=no:=bc;obtain ⟨g1,g2⟩:=jH (S:=S) (n:=bH S now no) (no:=dir) (by rw[e0];exact hne);have a1:cG (aK S (bH S now no))<=cG S:=ql hT.aC hi rfl rfl;have a2:cG (cI (aK S (bH S now no)) dir now (dk (aa S.nodes dir).ae (nm,no)))<=cG (aK S (bH S now no))+1:=by
  refine uU (S:=aK S (bH S now no)) (hT.aC.set _) ?_;show (dk (aa S.nodes dir).ae (nm,no)).length<=(aa (aK S (bH S now no)).nodes (aa (aK S (bH S now no)).nodes dir).no).ae.length+1;rw [g1,lr,g1];exact pJ _ _
 omega
theorem Ma {S:ac} {c:Nat} (hT:dI c S) (cu now no m:Int):cG (d_ S cu now no m)<=cG S:=by
 unfold d_;split
 ·rename_i h0
  unfold eJ at h0;split at h0
  ·rename_i h1;exact absurd h0 h1
  ·rename_i h1;exact ql hT.aC (fM (Decidable.not_not.1 h1)) rfl rfl
 ·omega
theorem Mb {S:ac} {c:Nat} (hT:dI c S) (cu now no u g:Int):cG (ey S cu now no u g)<=cG S:=by
 unfold ey;split
 ·rename_i h0
  unfold fu at h0;split at h0
  ·rename_i h1;exact absurd h0 h1
  ·rename_i h1;exact ql hT.aC (fM (Decidable.not_not.1 h1)) rfl rfl
 ·omega
theorem Mc {S:ac} {c:Nat} (hT:dI c S) (cu now no t:Int):cG (ee S cu now no t)<=cG S:=by
 unfold ee;split
 ·rename_i h0
  unfold fw at h0;split at h0
  ·rename_i h1;exact absurd h0 h1
  ·rename_i h1;exact ql hT.aC (fM (Decidable.not_not.1 h1)) rfl rfl
 ·omega
theorem Ic (S:ac) (a b n:Int):cG (ct S a b n)<=cG S:=by
 unfold ct;split
 ·rw [rF,rF]
  show sO (S.nodes++[bo S])<=_;rw [si];have:sO [bo S]=0:=rfl;omega
 ·omega
structure iM (c:Nat) (S:ac):Prop where
 dL:fy c S
 I7:cG S<=c
theorem iM.mono {c d:Nat} {S:ac} (h:iM c S) (I1:c<=d):iM d S:=⟨h.dL.mono I1,by have:=h.I7;omega⟩
theorem iM.ji {c:Nat} {S:ac} (h:iM c S) (a b n:Int):iM (c+1) (ct S a b n):=⟨h.dL.ji a b n,by have:=Ic S a b n;have:=h.I7;omega⟩
theorem iM.first {b n:Int} (hl:cA b n=true):iM 0 (cr cE 0 b n):=⟨.first hl,Nat.le_refl _⟩
theorem iM.dir {c:Nat} {S:ac} (h:iM c S) (cu cg now dir:Int) (nm:List UInt8) (mode:Int):iM (c+1) (cF S cu cg now (.bZ dir nm mode)):=
 ⟨h.dL.lP _ _ _ _ (fun _ _ _ _ e=>by cases e),by have:=zb (p:=lO mode) (uV h.dL.eE cu cg now dir nm (dV mode dir) rfl);have:=h.I7;show cG (dM _ _ _)<=_;omega⟩
theorem iM.file {c:Nat} {S:ac} (h:iM c S) (cu cg now dir:Int) (nm:List UInt8) (mode:Int) (data:List UInt8):iM (c+1) (cF S cu cg now (.bB dir nm mode data)):=
 ⟨h.dL.lP _ _ _ _ (fun _ _ _ _ e=>by cases e),by have:=zb (p:=gw mode data.length) (uV h.dL.eE cu cg now dir nm (cx mode data) rfl);have:=h.I7;show cG (dM _ _ _)<=_;omega⟩
theorem iM.sym {c:Nat} {S:ac} (h:iM c S) (cu cg now dir:Int) (nm text:List UInt8):iM (c+1) (cF S cu cg now (.symlink dir nm text)):=
 ⟨h.dL.lP _ _ _ _ (fun _ _ _ _ e=>by cases e),by have:=zb (p:=kP text) (uV h.dL.eE cu cg now dir nm (ep text) rfl);have:=h.I7;show cG (dM _ _ _)<=_;omega⟩
theorem iM.T_ {c:Nat} {S:ac} (h:iM c S) (cu cg now no dir:Int) (nm:List UInt8):iM (c+1) (cF S cu cg now (.link no dir nm)):=
 ⟨h.dL.lP _ _ _ _ (fun _ _ _ _ e=>by cases e),by have:=L_ h.dL.eE cu cg now no dir nm;have:=h.I7;show cG (dW ..)<=_;omega⟩
theorem iM.mode {c:Nat} {S:ac} (h:iM c S) (cu cg now no m:Int):iM (c+1) (cF S cu cg now (.dn no m)):=
 ⟨h.dL.lP _ _ _ _ (fun _ _ _ _ e=>by cases e),by have:=Ma h.dL.eE cu now no m;have:=h.I7;show cG (d_ ..)<=_;omega⟩
theorem iM.Ua {c:Nat} {S:ac} (h:iM c S) (cu cg now no u g:Int):iM (c+1) (cF S cu cg now (.cU no u g)):=
 ⟨h.dL.lP _ _ _ _ (fun _ _ _ _ e=>by cases e),by have:=Mb h.dL.eE cu now no u g;have:=h.I7;show cG (ey ..)<=_;omega⟩
theorem iM.time {c:Nat} {S:ac} (h:iM c S) (cu cg now no t:Int):iM (c+1) (cF S cu cg now (.dp no t)):=
 ⟨h.dL.lP _ _ _ _ (fun _ _ _ _ e=>by cases e),by have:=Mc h.dL.eE cu now no t;have:=h.I7;show cG (ee ..)<=_;omega⟩
theorem iM.Ib {c:Nat} {S:ac} (h:iM c S) (m:eA):iM (c+2) (gF S m):=by
 unfold gF;split
 ·exact h.mono (by omega)
 ·split
  ·have h1:=h.dir 0 0 0 (mI S m).1.dir (mI S m).1.name 493
   split
   ·exact h1.ji _ _ _
   ·exact h1.mono (by omega)
  ·exact (h.ji _ _ _).mono (by omega)
theorem iM.wF {c:Nat} {S:ac} (h:iM c S) (l:List eA):iM (c+2*l.length) (dX S l):=by
 unfold dX
 induction l generalizing c S with
 | nil=>exact h
 | cons m l ih =>
  rw [List.foldl_cons];have h1:iM (c+2) (if mJ m=true then S else gF S m):=by
   split
   ·exact h.mono (by omega)
   ·exact h.Ib m
  exact (ih h1).mono (by rw[List.length_cons];omega)
theorem iM.DV {c:Nat} {S:ac} (h:iM c S) (it:dJ):iM (c+1) (iY S it):=by
 unfold iY;split
 ·rename_i x hx
  unfold gT at hx;split at hx
  ·cases hx
  split at hx
  ·cases hx
  split at hx
  ·injection hx with hx;subst hx;exact h.dir ..
  split at hx
  ·injection hx with hx;subst hx;exact h.file ..
  split at hx
  ·injection hx with hx;subst hx;exact h.sym ..
  split at hx
  ·split at hx
   ·injection hx with hx;subst hx;exact h.T_ ..
   ·cases hx
  ·cases hx
 ·exact h.mono (by omega)
theorem iM.uR {c:Nat} {S:ac} (h:iM c S) (no:Int) (it:dJ):iM (c+2) (fp S no it):=by
 unfold fp;split
 ·exact (h.Ua 0 0 0 no it.uid it.gid).mode 0 0 0 no it.mode
 ·exact h.mono (by omega)
theorem iM.item {c:Nat} {p:ac×List Int} (h:iM c p.1) (it:dJ):iM (c+3) (sg p it).1:=(h.DV it).uR _ _
theorem iM.items {c:Nat} (l:List dJ) (p:ac×List Int) (h:iM c p.1):iM (c+3*l.length) (dD p l).1:=by
 unfold dD
 induction l generalizing c p with
 | nil=>exact h
 | cons m l ih =>
  rw [List.foldl_cons];exact (ih _ (h.item m)).mono (by rw[List.length_cons];omega)
theorem iM.times {c:Nat} (l:List (Int×dJ)) {S:ac} (h:iM c S):iM (c+l.length) (dN S l):=by
 unfold dN
 induction l generalizing c S with
 | nil=>exact h
 | cons x l ih =>
  rw [List.foldl_cons];have h1:iM (c+1) (lU S x):=by
   unfold lU;split
   ·exact h.time 0 0 0 x.1 x.2.mtime
   ·exact h.mono (by omega)
  exact (ih h1).mono (by rw[List.length_cons];omega)
theorem xJ {ms:List eA} {is:List dJ} (h1:ms.length<=10) (h2:is.length<=30):iM 140 (fD ms is):=by
 have a:=(iM.first (jL ms)).wF ms;have b1:=iM.items is (dX (fX ms) ms,[]) a;have c:=b1.times ((xH ms is).2.zip is);refine c.mono ?_;have:((xH ms is).2.zip is).length<=is.length:=by rw[List.length_zip];omega
 omega
theorem xK {S:ac} {cu cg at_:Int} {p:List UInt8} (h:¬eB S cu cg at_ p≠0) (h2:p≠[46,46]):p.length<=255:=by
 have h:=Decidable.not_not.1 h;unfold eB at h;split at h
 ·cases h
 split at h
 ·cases h
 split at h
 ·cases h
 ·omega
theorem Ie (S:ac) (cu cg:Int) (eN:Bool):∀l h,∀at_ m,(cQ S cu cg eN at_ l h m).1.name.length<=255:=by
 refine Lu (fun l h ih=>?_);intro at_ m
 cases l with
 | nil=>rw[qa];exact Nat.zero_le _
 | cons p l =>
  rw [cQ];split
  ·exact Nat.zero_le _
  rename_i h1;split
  ·exact ih _ _ (.inr ⟨rfl,by simp⟩) _ _
  rename_i h2;split
  ·split
   ·exact xK h1 h2
   ·exact Nat.zero_le _
  split
  ·split
   ·exact Nat.zero_le _
   ·split
    ·exact Nat.zero_le _
    ·exact ih _ _ (.inl ⟨by omega,by omega⟩) _ _
  split
  ·exact Nat.zero_le _
  split
  ·exact xK h1 h2
  ·exact ih _ _ (.inr ⟨rfl,by simp⟩) _ _
theorem kI (S:ac) (cu cg:Int) (p:List UInt8) (eN:Bool):(dP S cu cg p eN).1.name.length<=255:=by
 unfold dP;split
 ·exact Ie ..
 ·exact Nat.zero_le _
open Go.ChangeShapes Go.WideShapes Go.ChangeAt Go.RowKit
def j8 (w:World) (B b:Nat) (g:bQ) (c:Nat) (S:ac):Prop:=∃n:Int,0<=n/\n<=c/\PS w B b g ⟨S,0,n,[],false⟩
def nv (w:World) (B b:Nat) (g:bQ) (c:Nat) (S:ac) (w':World):Prop:=∃g',bQ.on g' g w/\j8 w' B b g' c S/\Only (b::g.list) w w'
def fq (w:World) (B:Nat) (f:cJ) (S:ac):Prop:=RS w B f ⟨S,0,0,[],false⟩
def mK (w:World) (B:Nat) (f:cJ) (S:ac) (w':World):Prop:=NW w B f ⟨S,0,0,[],false⟩ w'
theorem ze (S:ac) (n:Int):Bl ⟨S,0,n,[],false⟩=0:=rfl
theorem Md (S:ac) (n:Int) (x:jn):jU ⟨S,0,n,[],false⟩ 0 0 x=⟨cF S 0 0 0 x,0,n+1,[],false⟩:=by
 unfold jU;rw[if_neg (by rw[ze];decide),(nQ (ze S n)).2]
theorem Me (S:ac) (n:Int) (x:jn):kF ⟨S,0,n,[],false⟩ 0 0 x=fE S 0 0 0 x:=by unfold kF;rw[if_neg (by rw[ze];decide)]
theorem Ub (S:ac) (n:Int) (x:jn):o_ ⟨S,0,n,[],false⟩ 0 0 x=jT S 0 0 0 x:=by unfold o_;rw[if_neg (by rw[ze];decide)]
theorem fy.jj {c:Nat} {S:ac} (k:fy c S) {n:Int} (h0:0<=n) (h1:n<=c):fT c ⟨S,0,n,[],false⟩:=⟨k.eE,k.xo,k.last,h0,h1,Nat.zero_le _⟩
section
variable {w:World} {B b:Nat} {g:bQ} {c:Nat} {S:ac}
theorem j8.ext {w':World} (h:j8 w B b g c S) (k:Ext w w'):j8 w' B b g c S:=by obtain⟨n,h1,h2,h3⟩:=h;exact⟨n,h1,h2,h3.ext k⟩
theorem j8.mono {d:Nat} (h:j8 w B b g c S) (k:c<=d):j8 w B b g d S:=by obtain⟨n,h1,h2,h3⟩:=h;exact⟨n,h1,by omega,h3⟩
theorem j8.lt (h:j8 w B b g c S):∀x∈b::g.list,x<w.heap.size:=by obtain⟨n,h1,h2,h3⟩:=h;exact h3.lt
theorem j8.cV (h:j8 w B b g c S):eR w B (b::g.list):=by obtain⟨n,h1,h2,h3⟩:=h;exact h3.cV
theorem j8.only {w':World} {L:List Nat} (h:j8 w B b g c S) (o:Only L w w') (ha:eR w B L) (hn:∀x∈b::g.list,x∉L):j8 w' B b g c S:=by obtain⟨n,h1,h2,h3⟩:=h;exact⟨n,h1,h2,h3.only o ha hn⟩
theorem j8.sys (h:j8 w B b g c S):∃n A cap,Has w b (.cells #[.pointer (some ⟨g.bW,0,none⟩),.int .i64 0,.int .i64 n,.slice A 0 cap,.bool false] 66):=by
 obtain ⟨n,_,_,A,cap,_,h2,_⟩:=h;exact ⟨n,A,cap,h2⟩
theorem j8.off (h:j8 w B b g c S) {x:Nat} {cs:Array Value} {t:TypeId} (hx:Has w x (.cells cs t)) (h1:t≠66) (h2:t≠70) (h3:t≠113) (h4:t≠157):x∉b::g.list:=by
 obtain ⟨n,_,_,A,cap,⟨_,⟨_,_,k2,es,cl,k3,_⟩,cd,k4,k5⟩,a2,_⟩:=h;obtain ⟨_,cur,k6⟩:=k5.has;intro hb;simp only[bQ.list,List.mem_cons,List.not_mem_nil,or_false]at hb;unfold eQ at a2;unfold Has at *;rcases hb with rfl|rfl|rfl|rfl|rfl
 ·rw[hx]at a2;injection a2 with e;injection e with _ e;exact h1 e
 ·rw[hx]at k4;injection k4 with e;injection e with _ e;exact h2 e
 ·rw[hx]at k2;injection k2 with e;injection e with _ e;exact h3 e
 ·rw[hx]at k3;injection k3 with e;cases e
 ·rw[hx]at k6;injection k6 with e;injection e with _ e;exact h4 e
theorem nv.mono {d:Nat} {T:ac} {w':World} (h:nv w B b g c T w') (k:c<=d):nv w B b g d T w':=by obtain⟨g',h1,h2,h3⟩:=h;exact⟨g',h1,h2.mono k,h3⟩
theorem nv.pre {T:ac} {w1 w':World} (k:Ext w w1) (h:nv w1 B b g c T w'):nv w B b g c T w':=by
 obtain ⟨g',h1,h2,h3⟩:=h;have hs:=k.size;exact ⟨g',⟨h1.1,fun x hx=>(h1.2 x hx).imp id fun e=>by omega⟩,h2,Only.pre k h3⟩
theorem nv.has {T:ac} {w':World} {x:Nat} {o:Obj} (h:nv w B b g c T w') (k:Has w x o) (hx:x∉b::g.list):Has w' x o:=by obtain⟨_,_,_,h3⟩:=h;exact h3.has k hx
theorem nv.refl (h:j8 w B b g c S) {w':World} (k:Ext w w'):nv w B b g c S w':=⟨g,bQ.fK _ _,h.ext k,Only.aw k⟩
theorem nv.trans {c2:Nat} {T:ac} {w1 w':World} {g1:bQ} (h1:bQ.on g1 g w) (o:Only (b::g.list) w w1) (k:nv w1 B b g1 c2 T w'):nv w B b g c2 T w':=by
 obtain ⟨g2,k1,k2,k3⟩:=k;refine ⟨g2,bQ.pN h1 k1 o.size,k2,o.trans k3 fun x hx=>?_⟩;rcases List.mem_cons.1 hx with rfl|hx
 ·exact .inl (List.mem_cons_self ..)
 ·rcases h1.2 x hx with e|e
  ·exact .inl (List.mem_cons_of_mem _ e)
  ·exact .inr e
theorem nv.after {c2:Nat} {T:ac} {w0 w':World} (h:nv w B b g c2 T w') (k:j8 w B b g c S) (hE:Ext w0 w) (hB:w0.heap.size<=B):Ext w0 w':=by
 obtain ⟨_,_,_,h3⟩:=h;exact h3.after hE fun x hx=>by have:=(k.cV x hx).1;omega
theorem Qc {n:Int} (h0:0<=n) (h1:n<=c) {x:jn} {e:Ending} {w':World} (k:Lk w B b g ⟨S,0,n,[],false⟩ 0 0 x e w'):e=.returned (.int .i64 (fE S 0 0 0 x))/\nv w B b g (c+1) (cF S 0 0 0 x) w':=by
 obtain ⟨k1,k2,k3⟩:=k;rw [Me]at k1;rw [Md]at k2;exact ⟨k1,g,bQ.fK _ _,⟨n+1,by omega,by omega,k2⟩,k3⟩
theorem Uc {n:Int} (h0:0<=n) (h1:n<=c) {x:jn} {e:Ending} {w':World} (k:NU w B b g ⟨S,0,n,[],false⟩ 0 0 x e w'):e=.returned (.tuple #[.int .i64 (jT S 0 0 0 x),.int .i64 (fE S 0 0 0 x)])/\nv w B b g (c+1) (cF S 0 0 0 x) w':=by
 obtain ⟨k1,k2,k3⟩:=k;rw [Ub,Me]at k1;rw [Md]at k2;exact ⟨k1,g,bQ.fK _ _,⟨n+1,by omega,by omega,k2⟩,k3⟩
abbrev j9:Value:=.agg #[.int .i64 0,.int .i64 0]
theorem j8.find (h:j8 w B b g c S) (k:fy c S) (hc:c<=900) (p:List UInt8) (eN:Bool) (hp:p.length<=1000000) :
  Calls Tryz.prog 79 #[.pointer (some ⟨b,0,none⟩),j9,bs p,.bool eN] w (gZ w (dP S 0 0 p eN)):=by
 obtain ⟨n,h0,h1,h2⟩:=h;exact h2.find (k.jj h0 h1) hc 0 0 p eN hp
theorem j8.stat (h:j8 w B b g c S) (k:fy c S) (no:Int) :
  Calls Tryz.prog 12 #[.pointer (some ⟨b,0,none⟩),.int .i64 no] w (aH w (.tuple #[gD (aa S.nodes no),.int .i64 (cK S no)])):=by
 obtain ⟨n,h0,h1,h2⟩:=h;exact h2.stat (k.jj h0 h1) no
theorem j8.bZ (h:j8 w B b g c S) (k:fy c S) (hc:c<=900) (dir:Int) (nm:List UInt8) (mode:Int) :
  Calls Tryz.prog 64 #[.pointer (some ⟨b,0,none⟩),j9,.int .i64 dir,bs nm,.int .i64 mode] w (fun e w'=>e=.returned (.tuple #[.int .i64 (jT S 0 0 0 (.bZ dir nm mode)),.int .i64 (fE S 0 0 0 (.bZ dir nm mode))])/\nv w B b g (c+1) (cF S 0 0 0 (.bZ dir nm mode)) w'):=by
 obtain ⟨n,h0,h1,h2⟩:=h;exact (h2.bZ (k.jj h0 h1) hc rfl 0 0 dir nm mode).mono fun _ _ q=>Uc h0 h1 q
theorem j8.bB (h:j8 w B b g c S) (k:fy c S) (hc:c<=900) (dir:Int) (nm:List UInt8) (mode:Int) (data:List UInt8) (kT:data.length<=1000000000) :
  Calls Tryz.prog 66 #[.pointer (some ⟨b,0,none⟩),j9,.int .i64 dir,bs nm,.int .i64 mode,bs data] w (fun e w'=>e=.returned (.tuple #[.int .i64 (jT S 0 0 0 (.bB dir nm mode data)),.int .i64 (fE S 0 0 0 (.bB dir nm mode data))])/\nv w B b g (c+1) (cF S 0 0 0 (.bB dir nm mode data)) w'):=by
 obtain ⟨n,h0,h1,h2⟩:=h;exact (h2.bB (k.jj h0 h1) hc rfl 0 0 dir nm mode data kT).mono fun _ _ q=>Uc h0 h1 q
theorem j8.symlink (h:j8 w B b g c S) (k:fy c S) (hc:c<=900) (dir:Int) (nm text:List UInt8) (kT:text.length<=1000000000) :
  Calls Tryz.prog 68 #[.pointer (some ⟨b,0,none⟩),j9,.int .i64 dir,bs nm,bs text] w (fun e w'=>e=.returned (.tuple #[.int .i64 (jT S 0 0 0 (.symlink dir nm text)),.int .i64 (fE S 0 0 0 (.symlink dir nm text))])/\nv w B b g (c+1) (cF S 0 0 0 (.symlink dir nm text)) w'):=by
 obtain ⟨n,h0,h1,h2⟩:=h;exact (h2.symlink (k.jj h0 h1) hc rfl 0 0 dir nm text kT).mono fun _ _ q=>Uc h0 h1 q
theorem j8.link (h:j8 w B b g c S) (k:fy c S) (hc:c<=900) (no dir:Int) (nm:List UInt8) :
  Calls Tryz.prog 63 #[.pointer (some ⟨b,0,none⟩),j9,.int .i64 no,.int .i64 dir,bs nm] w (fun e w'=>e=.returned (.int .i64 (fE S 0 0 0 (.link no dir nm)))/\nv w B b g (c+1) (cF S 0 0 0 (.link no dir nm)) w'):=by
 obtain ⟨n,h0,h1,h2⟩:=h;exact (h2.link (k.jj h0 h1) hc rfl 0 0 no dir nm).mono fun _ _ q=>Qc h0 h1 q
theorem j8.dn (h:j8 w B b g c S) (k:fy c S) (hc:c<=900) (no mode:Int) :
  Calls Tryz.prog 48 #[.pointer (some ⟨b,0,none⟩),j9,.int .i64 no,.int .i64 mode] w (fun e w'=>e=.returned (.int .i64 (fE S 0 0 0 (.dn no mode)))/\nv w B b g (c+1) (cF S 0 0 0 (.dn no mode)) w'):=by
 obtain ⟨n,h0,h1,h2⟩:=h;exact (h2.dn (k.jj h0 h1) hc rfl 0 0 no mode).mono fun _ _ q=>Qc h0 h1 q
theorem j8.cU (h:j8 w B b g c S) (k:fy c S) (hc:c<=900) (no uid gid:Int) :
  Calls Tryz.prog 47 #[.pointer (some ⟨b,0,none⟩),j9,.int .i64 no,.int .i64 uid,.int .i64 gid] w (fun e w'=>e=.returned (.int .i64 (fE S 0 0 0 (.cU no uid gid)))/\nv w B b g (c+1) (cF S 0 0 0 (.cU no uid gid)) w'):=by
 obtain ⟨n,h0,h1,h2⟩:=h;exact (h2.cU (k.jj h0 h1) hc rfl 0 0 no uid gid).mono fun _ _ q=>Qc h0 h1 q
theorem j8.dp (h:j8 w B b g c S) (k:fy c S) (hc:c<=900) (no mt:Int) :
  Calls Tryz.prog 49 #[.pointer (some ⟨b,0,none⟩),j9,.int .i64 no,.int .i64 mt] w (fun e w'=>e=.returned (.int .i64 (fE S 0 0 0 (.dp no mt)))/\nv w B b g (c+1) (cF S 0 0 0 (.dp no mt)) w'):=by
 obtain ⟨n,h0,h1,h2⟩:=h;exact (h2.dp (k.jj h0 h1) hc rfl 0 0 no mt).mono fun _ _ q=>Qc h0 h1 q
theorem j8.ji (h:j8 w B b g c S) (k:fy c S) (hc:c<=900) (at_ bl nd:Int) :
  Calls Tryz.prog 80 #[.pointer (some ⟨g.bW,0,none⟩),.int .i64 at_,.int .i64 bl,.int .i64 nd] w (fun e w'=>(∃v,e=.returned v)/\nv w B b g c (ct S at_ bl nd) w'):=by
 obtain ⟨n,h0,h1,h2⟩:=h;have hn:=h2.iG;obtain ⟨A,cap,a1,a2,a3,a4,a5⟩:=h2;refine (CN B g S at_ bl nd w a1 k.eE.af k.eE.eight k.eE.aC (by have:=k.eE.last;omega) (by have:=k.last;omega)).mono ?_;rintro e w' ⟨rfl,bD,K,O,hD⟩;refine ⟨⟨_,rfl⟩,⟨g.bW,g.bT,g.bM,bD⟩,⟨rfl,fun x hx=>?_⟩,⟨n,h0,h1,A,cap,K,eQ.only a2 O hn,a3.only O a1.cV,a4,a5⟩,O.mono fun y hy=>List.mem_cons_of_mem _ hy⟩;simp only[bQ.list,List.mem_cons,List.not_mem_nil,or_false]at hx|-;rcases hx with rfl|rfl|rfl|rfl
 ·exact .inl (.inl rfl)
 ·exact .inl (.inr (.inl rfl))
 ·exact .inl (.inr (.inr (.inl rfl)))
 ·rcases hD with e|e
  ·exact .inl (.inr (.inr (.inr e)))
  ·exact .inr e
end
section
variable {w:World} {B:Nat} {f:cJ} {c:Nat} {S:ac}
theorem fq.ext {w':World} (h:fq w B f S) (k:Ext w w'):fq w' B f S:=RS.ext h k
theorem fq.lt (h:fq w B f S):∀x∈f.list,x<w.heap.size:=RS.lt h
theorem fq.cV (h:fq w B f S):eR w B f.list:=RS.cV h
theorem fq.only {w':World} {L:List Nat} (h:fq w B f S) (o:Only L w w') (ha:eR w B L) (hn:∀x∈f.list,x∉L):fq w' B f S:=RS.only h o ha hn
theorem fq.off (h:fq w B f S) {x:Nat} {cs:Array Value} {t:TypeId} (hx:Has w x (.cells cs t)) (h1:t≠54) (h2:t≠58) (h3:t≠110):x∉f.list:=by
 obtain ⟨A,cap,⟨_,cn,ce,k2,⟨xs,k3,_⟩,k4⟩,_⟩:=h;obtain ⟨_,yp,k5⟩:=bY k3;obtain ⟨_,Ge,k6⟩:=bY k4;intro hb;simp only[cJ.list,List.mem_cons,List.not_mem_nil,or_false]at hb;unfold Has at *;rcases hb with rfl|rfl|rfl
 ·rw[hx]at k2;injection k2 with e;injection e with _ e;exact h1 e
 ·rw[hx]at k5;injection k5 with e;injection e with _ e;exact h2 e
 ·rw[hx]at k6;injection k6 with e;injection e with _ e;exact h3 e
theorem mK.pre {T:ac} {w1 w':World} (k:Ext w w1) (h:mK w1 B f T w'):mK w B f T w':=by
 obtain ⟨f',h1,h2,h3⟩:=h;have hs:=k.size;exact ⟨f',h1,Only.pre k h2,⟨h3.1,fun x hx=>(h3.2 x hx).imp id fun e=>by omega⟩⟩
theorem mK.has {T:ac} {w':World} {x:Nat} {o:Obj} (h:mK w B f T w') (k:Has w x o) (hx:x∉f.list):Has w' x o:=by obtain⟨_,_,h3,_⟩:=h;exact h3.has k hx
theorem mK.refl (h:fq w B f S) {w':World} (k:Ext w w'):mK w B f S w':=⟨f,h.ext k,Only.aw k,cJ.fK _ _⟩
theorem mK.trans {T:ac} {w1 w':World} {f1:cJ} (h1:cJ.on f1 f w) (o:Only f.list w w1) (k:mK w1 B f1 T w'):mK w B f T w':=by
 obtain ⟨f2,k1,k3,k2⟩:=k;refine ⟨f2,k1,o.trans k3 fun x hx=>?_,cJ.pN h1 k2 o.size⟩;rcases h1.2 x hx with e|e
 ·exact .inl e
 ·exact .inr e
theorem fq.find (h:fq w B f S) (k:fy c S) (hc:c<=900) (p:List UInt8) (eN:Bool) (hp:p.length<=1000000) :
  Calls Tryz.prog 30 #[.pointer (some ⟨f.bF,0,none⟩),j9,bs p,.bool eN] w (gZ w (dP S 0 0 p eN)):=by
 obtain ⟨X,F⟩:=RS.PG h;exact nk B f S X 0 0 p eN w F k.eE (by omega) (by have:=k.last;omega) hp
theorem fq.get (h:fq w B f S) (k:fy c S) (hc:c<=900) (no:Int) :
  Calls Tryz.prog 14 #[.pointer (some ⟨f.bF,0,none⟩),.int .i64 no] w (OZ w B S.nodes no):=by
 obtain ⟨X,F⟩:=RS.PG h;exact eZ B f S X no w F (by have:=k.eE.count;have:=k.last;omega) k.eE.aC
theorem fq.bZ (h:fq w B f S) (k:fy c S) (hc:c<=900) (dir:Int) (nm:List UInt8) (mode:Int) (gY:nm.length<=1000000) :
  Calls Tryz.prog 87 #[.pointer (some ⟨f.bF,0,none⟩),j9,.int .i64 dir,bs nm,.int .i64 mode] w (fun e w'=>e=.returned (.tuple #[.int .i64 (jT S 0 0 0 (.bZ dir nm mode)),.int .i64 (fE S 0 0 0 (.bZ dir nm mode))])/\mK w B f (cF S 0 0 0 (.bZ dir nm mode)) w'):=
 RS.bZ h (k.jj (Int.le_refl _) (by omega)) hc 0 0 dir nm mode gY
theorem fq.bB (h:fq w B f S) (k:fy c S) (hc:c<=900) (dir:Int) (nm:List UInt8) (mode:Int) (data:List UInt8) (gY:nm.length<=1000000) (kT:data.length<=1000000000) :
  Calls Tryz.prog 89 #[.pointer (some ⟨f.bF,0,none⟩),j9,.int .i64 dir,bs nm,.int .i64 mode,bs data] w (fun e w'=>e=.returned (.tuple #[.int .i64 (jT S 0 0 0 (.bB dir nm mode data)),.int .i64 (fE S 0 0 0 (.bB dir nm mode data))])/\mK w B f (cF S 0 0 0 (.bB dir nm mode data)) w'):=
 RS.bB h (k.jj (Int.le_refl _) (by omega)) hc 0 0 dir nm mode data gY kT
theorem fq.symlink (h:fq w B f S) (k:fy c S) (hc:c<=900) (dir:Int) (nm text:List UInt8) (gY:nm.length<=1000000) (kT:text.length<=1000000) :
  Calls Tryz.prog 90 #[.pointer (some ⟨f.bF,0,none⟩),j9,.int .i64 dir,bs nm,bs text] w (fun e w'=>e=.returned (.tuple #[.int .i64 (jT S 0 0 0 (.symlink dir nm text)),.int .i64 (fE S 0 0 0 (.symlink dir nm text))])/\mK w B f (cF S 0 0 0 (.symlink dir nm text)) w'):=
 RS.symlink h (k.jj (Int.le_refl _) (by omega)) hc 0 0 dir nm text gY kT
theorem fq.link (h:fq w B f S) (k:fy c S) (hc:c<=900) (no dir:Int) (nm:List UInt8) (gY:nm.length<=1000000) :
  Calls Tryz.prog 91 #[.pointer (some ⟨f.bF,0,none⟩),j9,.int .i64 no,.int .i64 dir,bs nm] w (fun e w'=>e=.returned (.int .i64 (fE S 0 0 0 (.link no dir nm)))/\mK w B f (cF S 0 0 0 (.link no dir nm)) w'):=
 RS.link h (k.jj (Int.le_refl _) (by omega)) hc 0 0 no dir nm gY
theorem fq.dn (h:fq w B f S) (k:fy c S) (hc:c<=900) (no mode:Int) :
  Calls Tryz.prog 56 #[.pointer (some ⟨f.bF,0,none⟩),j9,.int .i64 no,.int .i64 mode] w (fun e w'=>e=.returned (.int .i64 (fE S 0 0 0 (.dn no mode)))/\mK w B f (cF S 0 0 0 (.dn no mode)) w'):=
 RS.dn h (k.jj (Int.le_refl _) (by omega)) hc 0 0 no mode
theorem fq.cU (h:fq w B f S) (k:fy c S) (hc:c<=900) (no uid gid:Int) :
  Calls Tryz.prog 55 #[.pointer (some ⟨f.bF,0,none⟩),j9,.int .i64 no,.int .i64 uid,.int .i64 gid] w (fun e w'=>e=.returned (.int .i64 (fE S 0 0 0 (.cU no uid gid)))/\mK w B f (cF S 0 0 0 (.cU no uid gid)) w'):=
 RS.cU h (k.jj (Int.le_refl _) (by omega)) hc 0 0 no uid gid
theorem fq.dp (h:fq w B f S) (k:fy c S) (hc:c<=900) (no mt:Int) :
  Calls Tryz.prog 57 #[.pointer (some ⟨f.bF,0,none⟩),j9,.int .i64 no,.int .i64 mt] w (fun e w'=>e=.returned (.int .i64 (fE S 0 0 0 (.dp no mt)))/\mK w B f (cF S 0 0 0 (.dp no mt)) w'):=
 RS.dp h (k.jj (Int.le_refl _) (by omega)) hc 0 0 no mt
theorem fq.ji (h:fq w B f S) (k:fy c S) (hc:c<=900) (at_ bl nd:Int) :
  Calls Tryz.prog 88 #[.pointer (some ⟨f.bF,0,none⟩),.int .i64 at_,.int .i64 bl,.int .i64 nd] w (fun e w'=>(∃v,e=.returned v)/\mK w B f (ct S at_ bl nd) w'):=by
 obtain ⟨A,cap,F,P⟩:=h;refine (CP B f S _ at_ bl nd w F k.eE.eight k.eE.aC (by have:=k.eE.last;omega) (by have:=k.last;omega) (by have:=k.eE.count;have:=k.last;omega)).mono ?_;rintro e w' ⟨rfl,bN,bE,K,O,h1,h2⟩;refine ⟨⟨_,rfl⟩,⟨f.bF,bN,bE⟩,⟨A,cap,K,P.only O F.cV⟩,O,rfl,fun x hx=>?_⟩;simp only[cJ.list,List.mem_cons,List.not_mem_nil,or_false]at hx|-;rcases hx with rfl|rfl|rfl
 ·exact .inl (.inl rfl)
 ·rcases h1 with e|e
  ·exact .inl (.inr (.inl e))
  ·exact .inr e
 ·rcases h2 with e|e
  ·exact .inl (.inr (.inr e))
  ·exact .inr e
end
end
section
open Go.ChangeShapes Go.WideShapes Go.ChangeAt Go.RowKit
def uW:RowK eA:=⟨22,125,3,32,.agg #[.string ⟨#[]⟩,.int .i64 0,.int .i64 0],fun x=>[.string (bs x.path),.int .i64 x.b,.int .i64 x.n],by decide,Tryz.underlying22,by kernel_rfl,rfl,fun _=>rfl,fun x u hu=>by
 simp only[List.mem_cons,List.not_mem_nil,or_false]at hu;rcases hu with rfl|rfl|rfl<;>rfl,by decide⟩
def sP:RowK dJ:=⟨23,80,7,72,.agg #[.string ⟨#[]⟩,.int .i64 0,.int .i64 0,.int .i64 0,.int .i64 0,.int .i64 0,.string ⟨#[]⟩],fun x=>[.string (bs x.path),.int .i64 x.kind,.int .i64 x.mode,.int .i64 x.uid,.int .i64 x.gid,.int .i64 x.mtime,.string (bs x.data)],by decide,Tryz.underlying23,by kernel_rfl,rfl,fun _=>rfl,fun x u hu=>by
 simp only[List.mem_cons,List.not_mem_nil,or_false]at hu;rcases hu with rfl|rfl|rfl|rfl|rfl|rfl|rfl<;>rfl,by decide⟩
theorem dC.Ib {w:World} {A:Option Addr} {l:List eA} (h:dC uW w A l) {k:Nat} (hk:k<l.length):∃b o,A=some ⟨b,o,none⟩/\b<w.heap.size/\w.cell? ⟨b,o+k*3,none⟩=some (.string (bs l[k].path))/\w.cell? ⟨b,o+k*3+1,none⟩=some (.int .i64 l[k].b)/\w.cell? ⟨b,o+k*3+2,none⟩=some (.int .i64 l[k].n):=by
 rcases h with h|⟨b,o,hA,hb,hc⟩
 ·rw[h]at hk;cases hk
 ·exact⟨b,o,hA,hb,hc k hk 0 (by decide),hc k hk 1 (by decide),hc k hk 2 (by decide)⟩
theorem dC.DV {w:World} {A:Option Addr} {l:List dJ} (h:dC sP w A l) {k:Nat} (hk:k<l.length):∃b o,A=some ⟨b,o,none⟩/\b<w.heap.size/\w.cell? ⟨b,o+k*7,none⟩=some (.string (bs l[k].path))/\w.cell? ⟨b,o+k*7+1,none⟩=some (.int .i64 l[k].kind)/\w.cell? ⟨b,o+k*7+2,none⟩=some (.int .i64 l[k].mode) /\
  w.cell? ⟨b,o+k*7+3,none⟩=some (.int .i64 l[k].uid)/\w.cell? ⟨b,o+k*7+4,none⟩=some (.int .i64 l[k].gid)/\w.cell? ⟨b,o+k*7+5,none⟩=some (.int .i64 l[k].mtime)/\w.cell? ⟨b,o+k*7+6,none⟩=some (.string (bs l[k].data)):=by
 rcases h with h|⟨b,o,hA,hb,hc⟩
 ·rw[h]at hk;cases hk
 ·exact⟨b,o,hA,hb,hc k hk 0 (by decide),hc k hk 1 (by decide),hc k hk 2 (by decide),hc k hk 3 (by decide),hc k hk 4 (by decide),hc k hk 5 (by decide),hc k hk 6 (by decide)⟩
theorem xL:eK []=(65536,65536):=rfl
theorem xM {m:eA} {t:List eA} (h1:mJ m=true) (h2:cA m.b m.n=true):eK (m::t)=(m.b,m.n):=by unfold eK;rw[List.find?_cons,h1,h2];rfl
theorem qo {m:eA} {t:List eA} (h:mJ m=false\/cA m.b m.n=false):eK (m::t)=eK t:=by
 have e:(mJ m&&cA m.b m.n)=false:=by rcases h with h|h<;>rw[h]<;>simp
 unfold eK;rw[List.find?_cons,e]
theorem qp (p:List UInt8):((bs p).toList == [47])=(p == [47]):=by rw[bk]
section
variable {S:ac} {it:dJ}
theorem iN {x:jn} (h:gT S it=some x):iY S it=cF S 0 0 0 x:=by unfold iY;rw[h]
theorem iO {x:jn} (h:gT S it=some x):iq S it=jT S 0 0 0 x:=by unfold iq;rw[h]
theorem rG (h:gT S it=none):iY S it=S:=by unfold iY;rw[h]
theorem rH (h:gT S it=none):iq S it=if (eG S it).2=0/\(eG S it).1.no≠0/\it.kind=1/\(aa S.nodes (eG S it).1.no).kind=1 then (eG S it).1.no else 0:=by unfold iq;rw[h]
theorem Fu (h:(eG S it).2≠0):iY S it=S/\iq S it=0:=by
 have hc:gT S it=none:=by unfold gT;rw[if_pos h]
 exact ⟨rG hc,by rw[rH hc,if_neg (fun k=>h k.1)]⟩
theorem xN (h:(eG S it).2=0) (h1:(eG S it).1.no≠0):iY S it=S/\iq S it=if it.kind=1/\(aa S.nodes (eG S it).1.no).kind=1 then (eG S it).1.no else 0:=by
 have hc:gT S it=none:=by unfold gT;rw[if_neg (fun k=>k h),if_pos h1]
 refine ⟨rG hc,?_⟩;rw [rH hc]
 by_cases h2:it.kind=1/\(aa S.nodes (eG S it).1.no).kind=1
 ·rw[if_pos ⟨h,h1,h2⟩,if_pos h2]
 ·rw[if_neg (fun k=>h2 k.2.2),if_neg h2]
theorem Fv (h:(eG S it).2=0) (h1:(eG S it).1.no=0):gT S it=if it.kind=1 then some (.bZ (eG S it).1.dir (eG S it).1.name 493)
 else if it.kind=2 then some (.bB (eG S it).1.dir (eG S it).1.name 420 it.data)
 else if it.kind=3 then some (.symlink (eG S it).1.dir (eG S it).1.name it.data)
 else if it.kind=4 then (if (uQ S it).2=0 then some (.link (uQ S it).1.no (eG S it).1.dir (eG S it).1.name) else none)
 else none:=by
 unfold gT;rw[if_neg (fun k=>k h),if_neg (fun k=>k h1)]
theorem qq (h1:(eG S it).1.no=0) (h:gT S it=none):iY S it=S/\iq S it=0:=⟨rG h,by rw[rH h,if_neg (fun k=>k.2.1 h1)]⟩
end
theorem Mf {w:World} {B b:Nat} {g:bQ} {c:Nat} {S:ac} (h:j8 w B b g c S) (k:fy c S) (hc:c<=890) (it:dJ) (hp:it.path.length<=1000000) (hd:it.data.length<=1000000) :
  Calls Tryz.prog 46 #[.pointer (some ⟨b,0,none⟩),.agg #[bs it.path,it.kind,it.mode,it.uid,it.gid,it.mtime,bs it.data]] w (fun e w'=>e=.returned (.int .i64 (iq S it))/\nv w B b g (c+1) (iY S it) w'):=by
 obtain ⟨W1,b_⟩:∃W,W=w.alloc (.cells #[bs it.path,it.kind,it.mode,it.uid,it.gid,it.mtime,bs it.data] 80):=⟨_,rfl⟩;obtain ⟨b3,oh⟩:∃b,b=w.heap.size:=⟨_,rfl⟩;have E1:Ext w W1:=by rw[b_];exact (Ext.refl _).alloc _
 have B1:Has W1 b3 (.cells #[bs it.path,it.kind,it.mode,it.uid,it.gid,it.mtime,bs it.data] 80):=by rw[b_,oh];exact Has.new _ _
 have KF:=zH ((h.ext E1).find k (by omega) it.path false hp);obtain⟨r,hr⟩:=ar (eG S it);rw [show dP S 0 0 it.path false=r from hr.symm]at KF;have BM:Hid (Calls Tryz.prog 79 #[.pointer (some ⟨b,0,none⟩),.agg #[.int .i64 0,.int .i64 0],bs it.path,.bool false] W1 (aH W1 (.tuple #[.agg #[.int .i64 r.1.dir,bs r.1.name,r.1.no,.bool r.1.eS],.int .i64 r.2]))):=KF.out;have HR:=zH hr;have c0:=B1.cell 0;have cz:=B1.lt;simp only[gA,gB]at c0;have qs:=zH B1;have H1:=zH (h.ext E1);have H0:=zH h;clear h KF hr B1;go_enter Tryz.func46,Tryz.ntmps46;go_upto_region 1 with fail;rw [<-b_,<-oh];clear b_ oh;go_wp2_with fail;refine BM.out.mono ?_;rintro e w1 ⟨rfl,b1⟩;clear BM c0 cz;go_upto_region 2 with fail;obtain ⟨W2,dF⟩:∃W,W=w1.alloc (.cells #[.int .i64 r.1.dir,bs r.1.name,r.1.no,.bool r.1.eS] 89):=⟨_,rfl⟩;obtain ⟨b4,uL⟩:∃b,b=w1.heap.size:=⟨_,rfl⟩;have E2:Ext W1 W2:=by rw[dF];exact b1.alloc _
 have X2:Has W2 b4 (.cells #[.int .i64 r.1.dir,bs r.1.name,r.1.no,.bool r.1.eS] 89):=by rw[dF,uL];exact Has.new _ _
 rw [<-dF,<-uL];clear dF uL b1;obtain ⟨m1,jl⟩:∃m,m=aa S.nodes r.1.no:=⟨_,rfl⟩;have KS:=zH ((H1.out.ext E2).stat k r.1.no);rw [<-jl]at KS;have HM1:=zH jl;obtain ⟨es,hes⟩:∃e,e=cK S r.1.no:=⟨_,rfl⟩;rw [<-hes]at KS;unfold gD at KS;have wE:=zH X2;have x2:=X2.cell 2;have xz:=X2.lt;simp only[gA,gB,gC]at x2;clear jl hes X2;go_wp2_with fail;refine KS.out.mono ?_;rintro e w3 ⟨rfl,b3'⟩;clear KS x2 xz;go_upto_block 0 with fail;obtain ⟨W3,du⟩:∃W,W=w3.alloc (.cells #[m1.no,m1.dev,m1.kind,m1.mode,m1.uid,m1.gid,m1.ah,.int .i64 m1.data.length,m1.mtime,m1.ctime] 46):=⟨_,rfl⟩;obtain ⟨b7,wm⟩:∃b,b=w3.heap.size:=⟨_,rfl⟩;have E3:Ext W2 W3:=by rw[du];exact b3'.alloc _
 have S3:Has W3 b7 (.cells #[m1.no,m1.dev,m1.kind,m1.mode,m1.uid,m1.gid,m1.ah,.int .i64 m1.data.length,m1.mtime,m1.ctime] 46):=by rw[du,wm];exact Has.new _ _
 rw [<-du,<-wm];clear du wm b3';have X3:=wE.out.ext E3;have B3:=qs.out.ext (E2.trans E3);have P3:=H1.out.ext (E2.trans E3);have oo:=(E1.trans E2).trans E3;have x0:=X3.cell 0;have x1:=X3.cell 1;have x2:=X3.cell 2;have xz:=X3.lt;have d1:=B3.cell 1;have d6:=B3.cell 6;have dz:=B3.lt;have s2:=S3.cell 2;have sz:=S3.lt;simp only[gA,gB,gC]at x0 x1 x2 d1 d6 s2;clear X3 B3 S3
 by_cases he:r.2=0
 case neg =>
  have t1:(r.2 != 0)=true:=by simpa using he
  have hT:Hid (iY S it=S/\iq S it=0):=Fu (by rw[<-HR.out];exact he);clear he P3;go_wp2_with fail;go_ret;exact ⟨by rw[hT.out.2];rfl,by rw[hT.out.1];exact (nv.refl H0.out oo).mono (by omega)⟩
 have t1:(r.2 != 0)=false:=by simpa using he
 have HE:=zH he
 by_cases bc:r.1.no=0
 case neg =>
  have t2:(r.1.no != 0)=true:=by simpa using bc
  have hT:Hid (iY S it=S/\iq S it=if it.kind=1/\m1.kind=1 then r.1.no else 0):=by show _/\_;rw[HM1.out,HR.out];exact xN (by rw[<-HR.out];exact HE.out) (by rw[<-HR.out];exact bc)
  clear he bc P3
  by_cases hk:it.kind=1/\m1.kind=1
  ·have t3:(it.kind == 1)=true:=by simpa using hk.1
   have t4:(m1.kind == 1)=true:=by simpa using hk.2
   have zJ:Hid (iq S it=r.1.no):=by show _=_;rw[hT.out.2,if_pos hk]
   clear hk;go_wp2_with fail;go_ret;exact ⟨by rw[zJ.out];rfl,by rw[hT.out.1];exact (nv.refl H0.out oo).mono (by omega)⟩
  ·have zJ:Hid (iq S it=0):=by show _=_;rw[hT.out.2,if_neg hk]
   by_cases gG:it.kind=1
   ·have t3:(it.kind == 1)=true:=by simpa using gG
    have t4:(m1.kind == 1)=false:=by simpa using fun q=>hk ⟨gG,q⟩
    clear hk gG;go_wp2_with fail;go_ret;exact ⟨by rw[zJ.out];rfl,by rw[hT.out.1];exact (nv.refl H0.out oo).mono (by omega)⟩
   ·have t3:(it.kind == 1)=false:=by simpa using gG
    clear hk gG;go_wp2_with fail;go_ret;exact ⟨by rw[zJ.out];rfl,by rw[hT.out.1];exact (nv.refl H0.out oo).mono (by omega)⟩
 have t2:(r.1.no != 0)=false:=by simpa using bc
 have hC:Hid (gT S it=if it.kind=1 then some (.bZ r.1.dir r.1.name 493) else if it.kind=2 then some (.bB r.1.dir r.1.name 420 it.data) else if it.kind=3 then some (.symlink r.1.dir r.1.name it.data)
   else if it.kind=4 then (if (uQ S it).2=0 then some (.link (uQ S it).1.no r.1.dir r.1.name) else none) else none):=by show _=_;rw[HR.out];exact Fv (by rw[<-HR.out];exact HE.out) (by rw[<-HR.out];exact bc)
 have Yc:Hid ((eG S it).1.no=0):=by show _=_;rw[<-HR.out];exact bc
 clear he bc
 by_cases k1:it.kind=1
 ·have t3:(it.kind == 1)=true:=by simpa using k1
  obtain ⟨X,hX⟩:∃X:jn,X=.bZ r.1.dir r.1.name 493:=⟨_,rfl⟩;have ph:gT S it=some X:=by rw[hC.out,if_pos k1,hX]
  have KC:=zH (P3.bZ k (by omega) r.1.dir r.1.name 493);rw [<-hX,<-iN ph,<-iO ph]at KC;clear k1 hX ph hC P3;go_wp2_with fail;refine KC.out.mono ?_;rintro e w5 ⟨rfl,T5⟩;go_wp2_with fail;go_ret;exact ⟨rfl,T5.pre oo⟩
 have t3:(it.kind == 1)=false:=by simpa using k1
 by_cases k2:it.kind=2
 ·have t4:(it.kind == 2)=true:=by simpa using k2
  obtain ⟨X,hX⟩:∃X:jn,X=.bB r.1.dir r.1.name 420 it.data:=⟨_,rfl⟩;have ph:gT S it=some X:=by rw[hC.out,if_neg k1,if_pos k2,hX]
  have KC:=zH (P3.bB k (by omega) r.1.dir r.1.name 420 it.data (by omega));rw [<-hX,<-iN ph,<-iO ph]at KC;clear k1 k2 hX ph hC P3;go_wp2_with fail;refine KC.out.mono ?_;rintro e w5 ⟨rfl,T5⟩;go_wp2_with fail;go_ret;exact ⟨rfl,T5.pre oo⟩
 have t4:(it.kind == 2)=false:=by simpa using k2
 by_cases k3:it.kind=3
 ·have t5:(it.kind == 3)=true:=by simpa using k3
  obtain ⟨X,hX⟩:∃X:jn,X=.symlink r.1.dir r.1.name it.data:=⟨_,rfl⟩;have ph:gT S it=some X:=by rw[hC.out,if_neg k1,if_neg k2,if_pos k3,hX]
  have KC:=zH (P3.symlink k (by omega) r.1.dir r.1.name it.data (by omega));rw [<-hX,<-iN ph,<-iO ph]at KC;clear k1 k2 k3 hX ph hC P3;go_wp2_with fail;refine KC.out.mono ?_;rintro e w5 ⟨rfl,T5⟩;go_wp2_with fail;go_ret;exact ⟨rfl,T5.pre oo⟩
 have t5:(it.kind == 3)=false:=by simpa using k3
 by_cases k4:it.kind=4
 case neg =>
  have t6:(it.kind == 4)=false:=by simpa using k4
  have hT:Hid (iY S it=S/\iq S it=0):=qq Yc.out (by rw[hC.out,if_neg k1,if_neg k2,if_neg k3,if_neg k4]);clear k1 k2 k3 k4 hC P3;go_wp2_with fail;go_ret;exact ⟨by rw[hT.out.2];rfl,by rw[hT.out.1];exact (nv.refl H0.out oo).mono (by omega)⟩
 have t6:(it.kind == 4)=true:=by simpa using k4
 obtain⟨y,hy⟩:=ar (uQ S it);have Qd:Hid (gT S it=if y.2=0 then some (.link y.1.no r.1.dir r.1.name) else none):=by show _=_;rw[hC.out,if_neg k1,if_neg k2,if_neg k3,if_pos k4,hy]
 have KF:=zH (P3.find k (by omega) it.data false hd);rw [show dP S 0 0 it.data false=y from hy.symm]at KF;have Yd:Hid (Calls Tryz.prog 79 #[.pointer (some ⟨b,0,none⟩),.agg #[.int .i64 0,.int .i64 0],bs it.data,.bool false] W3 (aH W3 (.tuple #[.agg #[.int .i64 y.1.dir,bs y.1.name,y.1.no,.bool y.1.eS],.int .i64 y.2]))):=KF.out;have Fw:=zH P3;have RL:=zH (wE.out.ext E3);clear k1 k2 k3 k4 hC hy KF P3 s2 sz;go_wp2_with fail;refine Yd.out.mono ?_;rintro e w4 ⟨rfl,Ye⟩;clear Yd x0 x1 x2 xz d1 d6 dz;go_upto_region 19 with fail;obtain ⟨W4,fN⟩:∃W,W=w4.alloc (.cells #[.int .i64 y.1.dir,bs y.1.name,y.1.no,.bool y.1.eS] 89):=⟨_,rfl⟩;obtain ⟨iU,iW⟩:∃b,b=w4.heap.size:=⟨_,rfl⟩;have E4:Ext W3 W4:=by rw[fN];exact Ye.alloc _
 have Y4:Has W4 iU (.cells #[.int .i64 y.1.dir,bs y.1.name,y.1.no,.bool y.1.eS] 89):=by rw[fN,iW];exact Has.new _ _
 rw [<-fN,<-iW];clear fN iW Ye;have X4:=RL.out.ext E4;have P4:=Fw.out.ext E4;have x0:=X4.cell 0;have x1:=X4.cell 1;have xz:=X4.lt;have y2:=Y4.cell 2;have yz:=Y4.lt;simp only[gA,gB,gC]at x0 x1 y2;clear X4 Y4
 by_cases k5:y.2=0
 ·have t7:(y.2 == 0)=true:=by simpa using k5
  obtain ⟨X,hX⟩:∃X:jn,X=.link y.1.no r.1.dir r.1.name:=⟨_,rfl⟩;have ph:gT S it=some X:=by rw[Qd.out,if_pos k5,hX]
  have hN:Hid (iq S it=0):=by show _=_;rw[iO ph,hX];rfl
  have KC:=zH (P4.link k (by omega) y.1.no r.1.dir r.1.name);rw [<-hX,<-iN ph]at KC;clear k5 hX ph Qd P4;go_wp2_with fail;refine KC.out.mono ?_;rintro e w5 ⟨rfl,T5⟩;go_wp2_with fail;go_ret;exact ⟨by rw[hN.out];rfl,T5.pre (oo.trans E4)⟩
 ·have t7:(y.2 == 0)=false:=by simpa using k5
  have hT:Hid (iY S it=S/\iq S it=0):=qq Yc.out (by rw[Qd.out,if_neg k5]);clear k5 Qd P4;go_wp2_with fail;go_ret;exact ⟨by rw[hT.out.2];rfl,by rw[hT.out.1];exact (nv.refl H0.out (oo.trans E4)).mono (by omega)⟩
end
open Go.ChangeShapes Go.WideShapes Go.ChangeAt Go.RowKit
theorem Mg (A:Option Addr) (l:List eA) (cap:Nat) (A2:Option Addr) (n2 c2:Nat) (w:World) (hA:dC uW w A l) (hl:l.length<=9223372036854775807) :
  Calls Tryz.prog 44 #[.agg #[.slice A l.length cap,.slice A2 n2 c2]] w (aH w (.tuple #[.int .i64 (eK l).1,.int .i64 (eK l).2])):=by
 obtain⟨n,hn⟩:=ar l.length;obtain⟨R,hR⟩:=ar (eK l);rw [<-hn]at hl|-;rw [<-hR];have HN:=zH hn;have HR:=zH hR;obtain ⟨W1,b_⟩:∃W,W=w.alloc (.cells #[.slice A n cap,.slice A2 n2 c2] 25):=⟨_,rfl⟩;obtain ⟨b1,jZ⟩:∃b,b=w.heap.size:=⟨_,rfl⟩;have E1:Ext w W1:=by rw[b_];exact (Ext.refl _).alloc _
 have B1:Has W1 b1 (.cells #[.slice A n cap,.slice A2 n2 c2] 25):=by rw[b_,jZ];exact Has.new _ _
 have c0:=B1.cell 0;have cz:=B1.lt;simp only[gA,gB]at c0;have HA:=zH (hA.ext E1);clear hn hR hA;go_enter Tryz.func44,Tryz.ntmps44;go_upto_region 1 with fail;rw [<-b_,<-jZ];clear b_ jZ;go_wp2_with fail;clear c0 cz;go_loopw [9] (fun vi wr=>∃k:Nat,vi=.int .i64 k/\k<=n/\Ext W1 wr/\eK (l.drop k)=R) (fun vi _=>n-(intOf vi).toNat)
 case atStart=>exact⟨0,rfl,Nat.zero_le _,Ext.refl _,by rw[List.drop_zero,HR.out]⟩
 case round =>
  obtain ⟨k,rfl,hk,hE,hS⟩:=hrel;have k0:(0:Int)<=(k:Int):=Int.natCast_nonneg _;have HE:=zH hE
  by_cases hlt:(k:Int)<n
  case neg =>
   have hd:l.drop k=[]:=List.drop_eq_nil_of_le (by have:=HN.out;omega);have Mh:Hid (R=(65536,65536)):=by show _=_;rw[<-hS,hd,xL]
   clear hS hd hE;go_wp2_with fail;go_ret2;exact aH.mk (by rw[Mh.out];rfl) (E1.trans HE.out)
  case pos =>
   have dq:k<l.length:=by have:=HN.out;omega
   obtain ⟨ba,o,rfl,zG,q0,q1,q2⟩:=(HA.out.ext hE).Ib dq;have Du:IntKind.i64.wrap ((k:Int)+1)=(k:Int)+1:=IntWalk.i64_in _ (by omega);rw [List.drop_eq_getElem_cons dq]at hS;obtain⟨m,hm⟩:=ar (l[k]);rw [<-hm]at q0 q1 q2 hS;obtain⟨P,hP⟩:=ar (bs m.path);have tp:(P.toList == [47])=mJ m:=by rw[hP];exact qp _
   rw [<-hP]at q0;obtain ⟨mb,Ud⟩:∃x,x=m.b:=⟨_,rfl⟩;obtain ⟨mn,OH⟩:∃x,x=m.n:=⟨_,rfl⟩;have HS:=zH hS;have Ue:=zH Ud;have Uf:=zH OH;have ol:=fH mb mn;rw [<-Ud]at q1;rw [<-OH]at q2;clear hS hm hP hE Ud OH
   cases ht:mJ m with
   | false =>
    rw [ht]at tp;have Ig:Hid (eK (l.drop (k+1))=R):=by show _=_;rw[<-HS.out,qo (.inl ht)]
    clear ht ol;go_wp2_with fail;go_roundw
    case rel=>exact⟨k+1,by go_num,by omega,HE.out.alloc _,Ig.out⟩
    case measure=>simp[intOf];omega
   | true =>
    rw [ht]at tp;have HT:=zH ht;clear ht;rcases ol with⟨h1,h2,h3,h4,h0⟩|⟨h0,h1|⟨h1,h2⟩|⟨h1,h2,h3⟩|⟨h1,h2,h3,h4⟩⟩
    case inl =>
     have Ig:Hid (R=(mb,mn)):=by show _=_;rw[<-HS.out,xM HT.out (by rw[<-Ue.out,<-Uf.out];exact h0),Ue.out,Uf.out]
     clear h0;go_upto_region 5 with fail;go_quiet (fail);go_wp2_with fail;go_ret2;exact aH.mk (by rw[Ig.out];rfl) (E1.trans ((HE.out.alloc _).drewN nq))
    all_goals
     have Ig:Hid (eK (l.drop (k+1))=R):=by show _=_;rw[<-HS.out,qo (.inr (by rw[<-Ue.out,<-Uf.out];exact h0))]
     clear h0;go_wp2_with fail;go_roundw
     case rel=>exact⟨k+1,by go_num,by omega,HE.out.alloc _,Ig.out⟩
     case measure=>simp[intOf];omega
theorem DW (A:Option Addr) (l:List eA) (cap:Nat) (A2:Option Addr) (n2 c2:Nat) (w:World) (hA:dC uW w A l) (hl:l.length<=1000000) :
  Calls Tryz.prog 51 #[.agg #[.slice A l.length cap,.slice A2 n2 c2]] w (aH w (.tuple #[.int .i64 (eK l).1,.int .i64 (eK l).2])):=by
 obtain⟨n,hn⟩:=ar l.length;obtain⟨R,hR⟩:=ar (eK l);rw [<-hn]at hl|-;rw [<-hR];have HN:=zH hn;have HR:=zH hR;obtain ⟨W1,b_⟩:∃W,W=w.alloc (.cells #[.slice A n cap,.slice A2 n2 c2] 25):=⟨_,rfl⟩;obtain ⟨b1,jZ⟩:∃b,b=w.heap.size:=⟨_,rfl⟩;have E1:Ext w W1:=by rw[b_];exact (Ext.refl _).alloc _
 have B1:Has W1 b1 (.cells #[.slice A n cap,.slice A2 n2 c2] 25):=by rw[b_,jZ];exact Has.new _ _
 have qs:=zH B1;have HA:=zH (hA.ext E1);clear hn hR hA B1;go_enter Tryz.func51,Tryz.ntmps51;go_upto_region 1 with fail;rw [<-b_,<-jZ];clear b_ jZ;go_wp2_with fail;go_loopw [4] (fun vi wr=>∃k:Nat,vi=.int .i64 k/\k<=n/\Ext W1 wr/\eK (l.drop k)=R) (fun vi _=>n-(intOf vi).toNat)
 case atStart=>exact⟨0,rfl,Nat.zero_le _,Ext.refl _,by rw[List.drop_zero,HR.out]⟩
 case round =>
  obtain ⟨k,rfl,hk,hE,hS⟩:=hrel;have k0:(0:Int)<=(k:Int):=Int.natCast_nonneg _;have HE:=zH hE;have B2:=qs.out.ext hE;have c0:=B2.cell 0;have cz:=B2.lt;simp only[gA,gB]at c0;clear B2
  by_cases hlt:(k:Int)<n
  case neg =>
   have hd:l.drop k=[]:=List.drop_eq_nil_of_le (by have:=HN.out;omega);have Mh:Hid (R=(65536,65536)):=by show _=_;rw[<-hS,hd,xL]
   clear hS hd hE;go_wp2_with fail;go_ret2;exact aH.mk (by rw[Mh.out];rfl) (E1.trans HE.out)
  case pos =>
   have dq:k<l.length:=by have:=HN.out;omega
   obtain ⟨ba,o,rfl,zG,q0,q1,q2⟩:=(HA.out.ext hE).Ib dq;have Du:IntKind.i64.wrap ((k:Int)+1)=(k:Int)+1:=IntWalk.i64_in _ (by omega);rw [List.drop_eq_getElem_cons dq]at hS;obtain⟨m,hm⟩:=ar (l[k]);rw [<-hm]at q0 q1 q2 hS;obtain⟨P,hP⟩:=ar (bs m.path);have tp:(P.toList == [47])=mJ m:=by rw[hP];exact qp _
   rw [<-hP]at q0;obtain ⟨mb,Ud⟩:∃x,x=m.b:=⟨_,rfl⟩;obtain ⟨mn,OH⟩:∃x,x=m.n:=⟨_,rfl⟩;have HS:=zH hS;have Ue:=zH Ud;have Uf:=zH OH;rw [<-Ud]at q1;rw [<-OH]at q2;clear hS hm hP hE Ud OH
   cases ht:mJ m with
   | false =>
    rw [ht]at tp;have Ig:Hid (eK (l.drop (k+1))=R):=by show _=_;rw[<-HS.out,qo (.inl ht)]
    clear ht;go_wp2_with fail;go_roundw
    case rel=>exact⟨k+1,by go_num,by omega,HE.out.alloc _,Ig.out⟩
    case measure=>simp[intOf];omega
   | true =>
    rw [ht]at tp;have HT:=zH ht;obtain⟨u,hu⟩:=ar (cA mb mn);have Ug:Hid (u=true->R=(mb,mn)):=fun h0=>by rw[<-HS.out,xM HT.out (by rw[<-Ue.out,<-Uf.out,<-hu];exact h0),Ue.out,Uf.out]
    have bc:Hid (u=false->eK (l.drop (k+1))=R):=fun h0=>by rw[<-HS.out,qo (.inr (by rw[<-Ue.out,<-Uf.out,<-hu];exact h0))]
    obtain ⟨W3,du⟩:∃W,W=wr.alloc (.cells #[.string P,.int .i64 mb,.int .i64 mn] 125):=⟨_,rfl⟩;obtain ⟨b3,oh⟩:∃b,b=wr.heap.size:=⟨_,rfl⟩;have E3:Ext W1 W3:=by rw[du];exact HE.out.alloc _
    have B3:Has W3 b3 (.cells #[.string P,.int .i64 mb,.int .i64 mn] 125):=by rw[du,oh];exact Has.new _ _
    have KL:Hid (Calls Tryz.prog 85 #[.int .i64 mb,.int .i64 mn] W3 (aH W3 (.bool u))):=by
     show Calls _ _ _ _ _;rw [hu];exact kX mb mn W3
    have r0:=B3.cell 0;have r1:=B3.cell 1;have r2:=B3.cell 2;have rz:=B3.lt;simp only[gA,gB,gC]at r0 r1 r2;have HB3:=zH B3;clear ht hu B3;go_upto_region 5 with fail;rw [<-du,<-oh];clear du oh c0 cz q0 q1 q2 zG;go_wp2_with fail;refine KL.out.mono ?_;rintro e w4 ⟨rfl,b4⟩;have B4:=HB3.out.ext b4;clear r0 r1 r2 rz;have r1:=B4.cell 1;have r2:=B4.cell 2;have rz:=B4.lt;simp only[gA,gB,gC]at r1 r2;clear KL B4
    cases u with
    | false =>
     have vS:=zH (bc.out rfl);clear bc Ug;go_wp2_with fail;go_roundw
     case rel=>exact⟨k+1,by go_num,by omega,E3.trans b4,vS.out⟩
     case measure=>simp[intOf];omega
    | true =>
     have HYY:=zH (Ug.out rfl);clear bc Ug;go_upto_region 6 with fail;go_quiet (fail);go_wp2_with fail;go_ret2;exact aH.mk (by rw[HYY.out];rfl) (E1.trans ((E3.trans b4).drewN nq))
theorem BN {S:ac} {m:eA} (h:(mI S m).2≠0):gF S m=S:=by unfold gF;rw[if_pos h]
theorem uX {S:ac} {m:eA} (h:(mI S m).2=0) (h2:(mI S m).1.no≠0):gF S m=ct S (mI S m).1.no m.b m.n:=by unfold gF;rw[if_neg (by rw[h];decide),if_neg h2]
theorem BO {S:ac} {m:eA} (h:(mI S m).2=0) (h2:(mI S m).1.no=0):gF S m=if fE S 0 0 0 (rE S m)=0 then ct (cF S 0 0 0 (rE S m)) (jT S 0 0 0 (rE S m)) m.b m.n else cF S 0 0 0 (rE S m):=by unfold gF;rw[if_neg (by rw[h];decide),if_pos h2]
theorem Mi {w:World} {B b:Nat} {g:bQ} {c:Nat} {S:ac} (h:j8 w B b g c S) (k:fy c S) (hc:c<=890) (m:eA) (hp:m.path.length<=1000000) :
  Calls Tryz.prog 45 #[.pointer (some ⟨b,0,none⟩),.agg #[bs m.path,.int .i64 m.b,.int .i64 m.n]] w (fun e w'=>(∃v,e=.returned v)/\nv w B b g (c+1) (gF S m) w'):=by
 obtain ⟨W1,b_⟩:∃W,W=w.alloc (.cells #[bs m.path,.int .i64 m.b,.int .i64 m.n] 125):=⟨_,rfl⟩;obtain ⟨b3,oh⟩:∃b,b=w.heap.size:=⟨_,rfl⟩;have E1:Ext w W1:=by rw[b_];exact (Ext.refl _).alloc _
 have B1:Has W1 b3 (.cells #[bs m.path,.int .i64 m.b,.int .i64 m.n] 125):=by rw[b_,oh];exact Has.new _ _
 have hlt:=h.lt;have abc:w.heap.size<=b3:=by omega
 have KF:=zH ((h.ext E1).find k (by omega) m.path false hp);obtain⟨r,hr⟩:=ar (mI S m);rw [show dP S 0 0 m.path false=r from hr.symm]at KF;have BM:Hid (Calls Tryz.prog 79 #[.pointer (some ⟨b,0,none⟩),.agg #[.int .i64 0,.int .i64 0],bs m.path,.bool false] W1 (aH W1 (.tuple #[.agg #[.int .i64 r.1.dir,bs r.1.name,r.1.no,.bool r.1.eS],.int .i64 r.2]))):=KF.out;have HR:=zH hr;have c0:=B1.cell 0;have cz:=B1.lt;simp only[gA,gB]at c0;have qs:=zH B1;have H1:=zH (h.ext E1);have H0:=zH h;clear h KF hr B1;go_enter Tryz.func45,Tryz.ntmps45;go_upto_region 1 with fail;rw [<-b_,<-oh];clear b_ oh;go_wp2_with fail;refine BM.out.mono ?_;rintro e w1 ⟨rfl,b1⟩;clear BM c0 cz;go_upto_region 2 with fail;obtain ⟨W2,dF⟩:∃W,W=w1.alloc (.cells #[.int .i64 r.1.dir,bs r.1.name,r.1.no,.bool r.1.eS] 89):=⟨_,rfl⟩;obtain ⟨b4,uL⟩:∃b,b=w1.heap.size:=⟨_,rfl⟩;have E2:Ext W1 W2:=by rw[dF];exact b1.alloc _
 have X2:Has W2 b4 (.cells #[.int .i64 r.1.dir,bs r.1.name,r.1.no,.bool r.1.eS] 89):=by rw[dF,uL];exact Has.new _ _
 rw [<-dF,<-uL];have abd:W1.heap.size<=b4:=by have:=b1.size;omega
 clear dF uL b1;have P2:=H1.out.ext E2;have B2:=qs.out.ext E2;have Uh:=H1.out.lt;have xO:=zH P2;have wE:=zH X2;have I8:=zH B2;have x0:=X2.cell 0;have x1:=X2.cell 1;have x2:=X2.cell 2;have xz:=X2.lt;simp only[gA,gB,gC]at x0 x1 x2
 by_cases he:r.2=0
 case neg =>
  have t1:(r.2 == 0)=false:=by simpa using he
  have hT:Hid (gF S m=S):=BN (by rw[<-HR.out];exact he);clear he P2 X2 B2;go_wp2_with fail;go_end0;refine ⟨⟨_,rfl⟩,?_⟩;rw [hT.out];exact (nv.refl H0.out (E1.trans E2)).mono (by omega)
 have t1:(r.2 == 0)=true:=by simpa using he
 have HE:=zH he;obtain ⟨nS,AS,cS,S2⟩:=P2.sys
 by_cases bc:r.1.no=0
 case neg =>
  have t2:(r.1.no == 0)=false:=by simpa using bc
  have hT:Hid (gF S m=ct S r.1.no m.b m.n):=by show _=_;rw[HR.out];exact uX (by rw[<-HR.out];exact HE.out) (by rw[<-HR.out];exact bc)
  have d1:=B2.cell 1;have d2:=B2.cell 2;have dz:=B2.lt;simp only[gA,gB,gC]at d1 d2;have s0:=S2.cell 0;have sz:=S2.lt;simp only[gA,gB]at s0;have KM:=zH (fun u (hu:Ext W2 u)=>(P2.ext hu).ji k (by omega) r.1.no m.b m.n);have KD:=zH ((Ext.refl W2).drew);clear he bc P2 X2 B2 S2 x0 x1 xz;have x2:=wE.out.cell 2;have xz:=wE.out.lt;simp only[gA,gB,gC]at x2;go_upto_region 5 with fail;go_still_tail 10,(by kernel_rfl);change wpList _ _ _ _ _ W2.drew;go_wp2_with fail;refine (KM.out _ KD.out).mono ?_;rintro e w3 ⟨⟨v3,rfl⟩,T3⟩;go_wp2_with fail;go_end0;refine ⟨⟨_,rfl⟩,?_⟩;rw [hT.out];exact (T3.pre ((E1.trans E2).trans KD.out)).mono (by omega)
 have t2:(r.1.no == 0)=true:=by simpa using bc
 obtain ⟨X,hX⟩:∃X:jn,X=rE S m:=⟨_,rfl⟩;have Ui:X=.bZ r.1.dir r.1.name 493:=by rw[hX,HR.out];rfl
 have hT:Hid (gF S m=if fE S 0 0 0 X=0 then ct (cF S 0 0 0 X) (jT S 0 0 0 X) m.b m.n else cF S 0 0 0 X):=by show _=_;rw[hX];exact BO (by rw[<-HR.out];exact HE.out) (by rw[<-HR.out];exact bc)
 have KC:=zH (P2.bZ k (by omega) r.1.dir r.1.name 493);rw [<-Ui]at KC;have k1:fy (c+1) (cF S 0 0 0 X):=by rw[Ui];exact k.lP 0 0 0 _ (fun _ _ _ _ e=>by cases e)
 obtain⟨N,hN⟩:=ar (jT S 0 0 0 X);obtain ⟨e2,sZ⟩:∃e,e=fE S 0 0 0 X:=⟨_,rfl⟩;obtain⟨T,I9⟩:=ar (cF S 0 0 0 X);rw [<-hN,<-sZ,<-I9]at KC hT;rw [<-I9]at k1;clear he bc P2 X2 B2 hX Ui hN sZ I9 S2;go_wp2_with fail;refine KC.out.mono ?_;rintro e w3 ⟨rfl,T3⟩;have X3:=T3.has wE.out (fun hm=>by have:=Uh _ hm;omega);have B3:=T3.has I8.out (fun hm=>by have:=hlt _ hm;omega);clear KC x0 x1 x2 xz;have f2:=Has.free X3 2;have xz:=X3.lt;have x2:=X3.cell 2;simp only[gA,gB,gC]at x2;obtain ⟨W4,fN⟩:∃W,W=w3.setCell ⟨b4,2,none⟩ (.int .i64 N):=⟨_,rfl⟩;have X4:Has W4 b4 (.cells #[.int .i64 r.1.dir,bs r.1.name,.int .i64 N,.bool r.1.eS] 89):=by rw[fN];exact Has.setCell X3 2 (.int .i64 N)
 have O4:Only [b4] w3 W4:=by rw[fN];exact Only.setCell _ _ _ _
 obtain ⟨g3,Uj,P3,O3⟩:=T3;have F4:eR w3 B [b4]:=fun x hx=>by
  rw [List.mem_singleton]at hx;subst hx;have hB:=(H0.out.cV b (List.mem_cons_self ..));have zy:=hlt b (List.mem_cons_self ..);have:=E1.size;refine ⟨by omega,?_,?_⟩
  ·rintro⟨cs,fr,e⟩;unfold Has at X3;rw[X3]at e;injection e with e;injection e with _ e;exact absurd e (by decide)
  ·rintro⟨cs,fr,e⟩;unfold Has at X3;rw[X3]at e;injection e with e;injection e with _ e;exact absurd e (by decide)
 have Ot:∀x∈b::g3.list,x∉[b4]:=fun x hx hm=>by
  rw [List.mem_singleton]at hm;subst hm;exact P3.off X3 (by decide) (by decide) (by decide) (by decide) hx
 have P4:=P3.only O4 F4 Ot;have B4:=O4.has B3 (by rw[List.mem_singleton];have:=qs.out.lt;omega);have Yf:bQ.on g3 g w:=⟨Uj.1,fun x hx=>(Uj.2 x hx).imp id fun e=>by have:=E1.size;have:=E2.size;omega⟩;have O0:Only (b::g.list) w W4:=(Only.pre (E1.trans E2) O3).trans O4 (fun x hx=>by rw[List.mem_singleton]at hx;subst hx;exact .inr (by have:=E1.size;omega));have Uk:=zH P4;have NR:=zH Yf;have TV:=zH O0;have I_:=zH X4;have Mj:=zH B4;obtain ⟨nS,AS,cS,S2⟩:=P4.sys;clear P3 O3 Uj F4 Ot P4 Yf O0 X4 B4 O4 X3 B3
 by_cases h2:e2=0
 case neg =>
  have t3:(e2 == 0)=false:=by simpa using h2
  have zJ:Hid (gF S m=T):=by show _=_;rw[hT.out,if_neg h2]
  clear h2 S2;go_upto_region 4 with fail;rw [<-fN];clear fN;go_wp2_with fail;go_end0;refine ⟨⟨_,rfl⟩,?_⟩;rw [zJ.out];exact ⟨g3,NR.out,Uk.out,TV.out⟩
 case pos =>
  have t3:(e2 == 0)=true:=by simpa using h2
  have zJ:Hid (gF S m=ct T N m.b m.n):=by show _=_;rw[hT.out,if_pos h2]
  have s0:=S2.cell 0;have sz:=S2.lt;simp only[gA,gB]at s0;have KM:=zH (fun u (hu:Ext W4 u)=>(Uk.out.ext hu).ji k1 (by omega) N m.b m.n);have KD:=zH ((Ext.refl W4).drew);clear h2 S2;go_upto_region 4 with fail;rw [<-fN];clear fN x2 xz f2;have x2:=I_.out.cell 2;have xz:=I_.out.lt;have d1:=Mj.out.cell 1;have d2:=Mj.out.cell 2;have dz:=Mj.out.lt;simp only[gA,gB,gC]at x2 d1 d2;go_upto_region 5 with fail;go_still_tail 10,(by kernel_rfl);change wpList _ _ _ _ _ W4.drew;go_wp2_with fail;refine (KM.out _ KD.out).mono ?_;rintro e w5 ⟨⟨v5,rfl⟩,T5⟩;go_wp2_with fail;go_end0;refine ⟨⟨_,rfl⟩,?_⟩;rw [zJ.out];exact nv.trans NR.out TV.out (T5.pre KD.out)
theorem PS.RO {w:World} {B b:Nat} {g:bQ} {s:aA} (h:PS w B b g s) (A0:Option Addr) (l:List (Int×Int)) (mH:Nat) (hp:cZ w A0 l) (hA:A0=none->mH=0) (ho:l≠[]->dK A0 b) (hl:l.length<=1000000) :
  Calls Tryz.prog 28 #[.pointer (some ⟨b,0,none⟩),.slice A0 l.length mH] w (fun e w'=>(∃v,e=.returned v)/\PS w' B b g {s with plan:=l,count:=0}/\Only [b] w w'):=by
 obtain ⟨A,cap,h⟩:=h;have hn:=h.iG;obtain ⟨h1,h2,h3,h4,h5⟩:=h;refine (PE A0 l mH w h2 hp hA ho hl).mono ?_;rintro e w' ⟨hv,A',cap',k1,k2,k3,k4,O⟩;refine ⟨hv,⟨A',cap',h1.uv h2 h5 hn O,k1,?_,k3,h5⟩,O⟩;rcases k2 with k2|⟨b2,o2,e2,hb2,EB⟩
 ·exact .inl k2
 ·exact .inr ⟨b2,o2,e2,hb2,.inr (k4 _ e2),EB⟩
theorem uy.Yg {w0 w:World} {B b:Nat} {g:bQ} {f:cJ} {s r:aA} (h:uy w0 B b g f s r w) (A0:Option Addr) (l:List (Int×Int)) (mH:Nat) (hp:cZ w A0 l) (hA:A0=none->mH=0) (ho:l≠[]->dK A0 b) (hl:l.length<=1000000) :
  Calls Tryz.prog 28 #[.pointer (some ⟨b,0,none⟩),.slice A0 l.length mH] w (fun e w'=>(∃v,e=.returned v)/\uy w0 B b g f {s with plan:=l,count:=0} r w'):=by
 obtain ⟨g1,f1,h1,h2,h3,h4,h5⟩:=h;refine (h3.RO A0 l mH hp hA ho hl).mono ?_;rintro e w' ⟨hv,k,O⟩;exact ⟨hv,uy.prog h1 h2 h3 h4 h5 k (O.mono (by simp))⟩
theorem pj {α β:Type} (f:β->α->β) (z:β) (l:List α) {k:Nat} (hk:k<l.length):(l.take (k+1)).foldl f z=f ((l.take k).foldl f z) l[k]:=by
 rw [List.take_succ_eq_append_getElem hk,List.foldl_append];rfl
theorem uY (S:ac) (l:List eA) {k:Nat} (hk:k<l.length):dX S (l.take (k+1))=if mJ l[k]=true then dX S (l.take k) else gF (dX S (l.take k)) l[k]:=by unfold dX;rw[pj _ _ _ hk]
theorem sj (p:ac×List Int) (l:List dJ) {k:Nat} (hk:k<l.length):dD p (l.take (k+1))=sg (dD p (l.take k)) l[k]:=by unfold dD;rw[pj _ _ _ hk]
theorem sk (S:ac) (l:List (Int×dJ)) {k:Nat} (hk:k<l.length):dN S (l.take (k+1))=lU (dN S (l.take k)) l[k]:=by unfold dN;rw[pj _ _ _ hk]
theorem j8.uZ {α:Type} {R:RowK α} {w:World} {B b:Nat} {g:bQ} {c:Nat} {S:ac} {base:Nat} {v:Value} {l:List α} (h:j8 w B b g c S) (k:bJ R w base v l) (h1:R.t≠66) (h2:R.t≠70) (h3:R.t≠113) (h4:R.t≠157):∀x,v.ownBlock=some x->x∉b::g.list:=by
 intro x hx;rcases k.cases with⟨rfl,_⟩|⟨g',cap,cur,rfl,_,h5,_⟩
 ·cases hx
 ·injection hx with hx
  subst hx;exact h.off h5 h1 h2 h3 h4
theorem bJ.cV {α:Type} {R:RowK α} {w:World} {base B:Nat} {v:Value} {l:List α} (k:bJ R w base v l) (hB:B<=base) (h1:R.t≠106) (h2:R.t≠198):eR w B v.ownBlock.toList:=by
 intro x hx;have hx:=Option.mem_toList.1 hx;rcases k.cases with⟨rfl,_⟩|⟨g',cap,cur,rfl,hb,h5,_⟩
 ·cases hx
 ·have hx:g'=x:=Option.some.inj hx
  subst hx;unfold Has at h5;refine ⟨by omega,?_,?_⟩
  ·rintro⟨cs,fr,e⟩;rw[h5]at e;injection e with e;injection e with _ e;exact h1 e
  ·rintro⟨cs,fr,e⟩;rw[h5]at e;injection e with e;injection e with _ e;exact h2 e
theorem bJ.empty {α:Type} (R:RowK α) {w:World} {base g:Nat} (hb:base<=g) (h:Has w g (.cells #[] R.t)):bJ R w base (.slice (some ⟨g,0,none⟩) 0 0) []:=
 ⟨by simp[RowK.cells],.inr ⟨g,0,#[],rfl,hb,h,Nat.le_refl _,Nat.zero_le _,by simp,by simp[RowK.cells]⟩⟩
theorem bJ.ny {α:Type} {R:RowK α} {w:World} {base x:Nat} {v:Value} {l:List α} {cs:Array Value} {t:TypeId} (k:bJ R w base v l) (hx:Has w x (.cells cs t)) (hne:t≠R.t):x∉v.ownBlock.toList:=by
 intro hm;obtain ⟨cs2,fr,e⟩:=k.tag (Option.mem_toList.1 hm);unfold Has at hx;rw [hx]at e;injection e with e;injection e with _ e;exact hne e
theorem j8.abe {w:World} {B b:Nat} {g:bQ} {c:Nat} {S:ac} (h:j8 w B b g c S) :
  Calls Tryz.prog 50 #[.pointer (some ⟨b,0,none⟩)] w (fun e w'=>(∃v,e=.returned v)/\PS w' B b g ⟨S,0,0,[],false⟩/\Only (b::g.list) w w'):=by
 obtain ⟨n,_,_,h⟩:=h;have hh:=h;obtain ⟨A,cap,a1,a2,a3,a4,a5⟩:=hh;have HH:=zH h;have hn:=h.iG;have KN:Hid (Calls Tryz.prog 58 #[.pointer (some ⟨b,0,none⟩)] w (aH w (.bool false))):=Fh w a2;clear h a1 a3 a4;go_enter Tryz.func50,Tryz.ntmps50;go_wp2_with fail;refine KN.out.mono ?_;rintro e w1 ⟨rfl,b1⟩;have h1:=HH.out.ext b1;obtain ⟨A1,Yh,k1,k2,k3,k4,k5⟩:=id h1;have c4:=Has.cell k2 4;have f4:=Has.free k2 4;have z4:=Has.lt k2;simp only[gA,gB,gC]at c4;obtain ⟨W2,dF⟩:∃W,W=w1.setCell ⟨b,4,none⟩ (.bool false):=⟨_,rfl⟩;have S2:eQ W2 b g 0 n A1 0 Yh false:=by rw[dF];exact Has.setCell k2 4 (.bool false)
 have O2:Only [b] w1 W2:=by rw[dF];exact Only.setCell _ _ _ _
 have P2:PS W2 B b g ⟨S,0,n,[],false⟩:=⟨A1,Yh,k1.uv k2 k5 hn O2,S2,.inl rfl,k4,k5⟩;have KP:=zH (P2.RO none [] 0 (.inl rfl) (fun _=>rfl) (fun h=>absurd rfl h) (Nat.zero_le _));clear k1 k2 k3 k4 S2 KN;go_upto_region 2 with fail;rw [<-dF];clear dF c4 f4 z4;go_wp2_with fail;refine KP.out.mono ?_;rintro e w3 ⟨⟨v,rfl⟩,P3,O3⟩;go_wp2_with fail;go_end0;refine ⟨⟨_,rfl⟩,P3,(Only.pre b1 (O2.mono (fun x hx=>by rw[List.mem_singleton]at hx;subst hx;exact List.mem_cons_self ..))).then (O3.mono (fun x hx=>by rw[List.mem_singleton]at hx;subst hx;exact List.mem_cons_self ..))⟩
theorem u_ (Am:Option Addr) (ms:List eA) (cm:Nat) (Ai:Option Addr) (is:List dJ) (ci:Nat) (w:World) (hM:dC uW w Am ms) (hI:dC sP w Ai is) (h1:ms.length<=10) (h2:is.length<=30)
  (h3:∀m∈ms,m.path.length<=1000000) (h4:∀it∈is,it.path.length<=1000000/\it.data.length<=1000000) :
  Calls Tryz.prog 24 #[.agg #[.slice Am ms.length cm,.slice Ai is.length ci]] w (fun e w'=>∃(b B:Nat) (g:bQ),e=.returned (.pointer (some ⟨b,0,none⟩))/\w.heap.size<=B/\PS w' B b g ⟨fD ms is,0,0,[],false⟩/\Ext w w'):=by
 obtain ⟨nm,gY⟩:∃n,n=ms.length:=⟨_,rfl⟩;obtain ⟨ni,tg⟩:∃n,n=is.length:=⟨_,rfl⟩;obtain ⟨W1,b_⟩:∃W,W=w.alloc (.cells #[.slice Am nm cm,.slice Ai ni ci] 25):=⟨_,rfl⟩;obtain ⟨b1,jZ⟩:∃b,b=w.heap.size:=⟨_,rfl⟩;have E1:Ext w W1:=by rw[b_];exact (Ext.refl _).alloc _
 have B1:Has W1 b1 (.cells #[.slice Am nm cm,.slice Ai ni ci] 25):=by rw[b_,jZ];exact Has.new _ _
 have KL:Hid (Calls Tryz.prog 44 #[.agg #[.slice Am nm cm,.slice Ai ni ci]] W1 (aH W1 (.tuple #[.int .i64 (eK ms).1,.int .i64 (eK ms).2]))):=by
  show Calls _ _ _ _ _;rw [gY];exact Mg Am ms cm Ai ni ci W1 (hM.ext E1) (by omega)
 rw [<-gY]at h1|-;rw [<-tg]at h2|-;have CA:=zH gY;have Qe:=zH tg;have HM:=zH (hM.ext E1);have HI:=zH (hI.ext E1);have qs:=zH B1;have c0:=B1.cell 0;have c1:=B1.cell 1;have cz:=B1.lt;simp only[gA,gB,gC]at c0 c1;clear gY tg hM hI B1;go_enter Tryz.func24,Tryz.ntmps24;go_upto_region 1 with fail;rw [<-b_,<-jZ];clear b_ jZ;go_wp2_with fail;refine KL.out.mono ?_;rintro e w2 ⟨rfl,E2⟩;clear KL c0 c1 cz;go_wp2_with fail;refine (aaG (eK ms).1 (eK ms).2 w2 (jL ms)).mono ?_;rintro e w3 ⟨g0,B,b,hB,Dv,rfl,K3,S3,_,E3⟩;have P3:j8 w3 B b g0 0 (dX (fX ms) (ms.take 0)):=⟨0,Int.le_refl _,Int.le_refl _,none,0,K3,S3,.inl rfl,(fun x hx=>by cases hx),Dv⟩;have RP:Ext W1 w3:=E2.trans E3;have zT:W1.heap.size<=B:=by have:=E2.size;omega
 have B3:=qs.out.ext RP;have c0:=B3.cell 0;have cz:=B3.lt;simp only[gA,gB]at c0;have Fw:=zH P3;clear K3 S3 P3 B3 E2 E3 hB;go_wp2_with fail;clear c0 cz;go_loopw [26] (fun vi wr=>∃(k:Nat) (g:bQ),vi=.int .i64 k/\k<=nm/\j8 wr B b g (2*k) (dX (fX ms) (ms.take k))/\Ext W1 wr) (fun vi _=>nm-(intOf vi).toNat)
 case atStart=>exact⟨0,g0,rfl,Nat.zero_le _,Fw.out,RP⟩
 case round =>
  clear Fw;obtain ⟨k,g,rfl,hk,hP,hE⟩:=hrel;have k0:(0:Int)<=(k:Int):=Int.natCast_nonneg _;have HP:=zH hP;have HE:=zH hE
  by_cases hlt:(k:Int)<nm
  case pos =>
   have dq:k<ms.length:=by have:=CA.out;omega
   obtain ⟨ba,o,rfl,zG,q0,q1,q2⟩:=(HM.out.ext hE).Ib dq;have Du:IntKind.i64.wrap ((k:Int)+1)=(k:Int)+1:=IntWalk.i64_in _ (by omega);have hst:=uY (fX ms) ms dq;have hpl:=h3 ms[k] (List.getElem_mem dq);have rI:fy (2*k) (dX (fX ms) (ms.take k)):=(((fy.first (jL ms)).wF (ms.take k))).mono (by rw[List.length_take];omega);obtain⟨m,hm⟩:=ar (ms[k]);rw [<-hm]at q0 q1 q2 hst hpl;obtain ⟨W4,fN⟩:∃W,W=wr.alloc (.cells #[bs m.path,.int .i64 m.b,.int .i64 m.n] 125):=⟨_,rfl⟩;obtain ⟨b6,Rw⟩:∃b,b=wr.heap.size:=⟨_,rfl⟩;have E4:Ext wr W4:=by rw[fN];exact (Ext.refl _).alloc _
   have B4:Has W4 b6 (.cells #[bs m.path,.int .i64 m.b,.int .i64 m.n] 125):=by rw[fN,Rw];exact Has.new _ _
   have tp:=qp m.path;have KM:=zH (Mi (HP.out.ext E4) rI (by omega) m hpl);have r0:=B4.cell 0;have r1:=B4.cell 1;have r2:=B4.cell 2;have rz:=B4.lt;simp only[gA,gB,gC]at r0 r1 r2;have ou:=zH hst;clear hP hE hm hst hpl rI B4;go_upto_region 7 with fail;rw [<-fN,<-Rw];clear fN Rw q0 q1 q2 zG;obtain⟨P,zf⟩:=ar (bs m.path);rw [<-zf]at r0 tp KM;clear zf;have tt:mJ m=(m.path == [47]):=rfl;rw [<-tt]at tp;clear tt
   cases ht:mJ m with
   | true =>
    rw [ht]at tp;have Mh:Hid (dX (fX ms) (ms.take (k+1))=dX (fX ms) (ms.take k)):=by show _=_;rw[ou.out,if_pos ht]
    clear ht;go_wp2_with fail;go_roundw
    case rel=>exact⟨k+1,g,by go_num,by omega,by rw[Mh.out];exact (HP.out.ext E4).mono (by omega),HE.out.trans E4⟩
    case measure=>simp[intOf];omega
   | false =>
    rw [ht]at tp;have Mh:Hid (dX (fX ms) (ms.take (k+1))=gF (dX (fX ms) (ms.take k)) m):=by show _=_;rw[ou.out,if_neg (by rw[ht];decide)]
    clear ht;go_wp2_with fail;refine KM.out.mono ?_;rintro e w5 ⟨⟨v5,rfl⟩,T5⟩;have E5:Ext W1 w5:=T5.after (HP.out.ext E4) (HE.out.trans E4) zT;obtain ⟨g5,_,P5,_⟩:=T5;have Fx:=zH P5;clear P5 KM r0 r1 r2 rz;go_wp2_with fail;go_roundw
    case rel=>exact⟨k+1,g5,by go_num,by omega,by rw[Mh.out];exact Fx.out.mono (by omega),E5⟩
    case measure=>simp[intOf];omega
  case neg =>
   have lk:ms.take k=ms:=List.take_of_length_le (by have:=CA.out;omega);have zK:=HP.out;rw [lk]at zK;have DX:fy 20 (dX (fX ms) ms):=((fy.first (jL ms)).wF ms).mono (by have:=CA.out;omega);obtain ⟨S1,C5⟩:∃S,S=dX (fX ms) ms:=⟨_,rfl⟩;rw [<-C5]at zK DX;have Mk:Hid (fD ms is=dN (dD (S1,[]) is).1 ((dD (S1,[]) is).2.zip is)):=by show _=_;rw[C5];rfl
   have xO:=zH (zK.mono (show 2*k<=20 by omega));have Ml:=zH DX;have B3:=qs.out.ext hE;have c1:=B3.cell 1;have cz:=B3.lt;simp only[gA,gB,gC]at c1;clear hP hE HP zK DX lk C5 B3 HM RP;go_upto_region 11 with fail;obtain ⟨W6,DI⟩:∃W,W=wr.alloc (.cells #[] 3):=⟨_,rfl⟩;obtain ⟨b7,wm⟩:∃b,b=wr.heap.size:=⟨_,rfl⟩;have E6:Ext wr W6:=by rw[DI];exact (Ext.refl _).alloc _
   have M6:Has W6 b7 (.cells #[] 3):=by rw[DI,wm];exact Has.new _ _
   have hN6:W6.heap.size=wr.heap.size+1:=by rw[DI];simp
   rw [<-DI,<-wm];have Yi:wr.heap.size<=b7:=by omega
   have hP6:=xO.out.ext E6;have O6:bJ qj W6 wr.heap.size (.slice (some ⟨b7,0,none⟩) 0 0) []:=bJ.empty qj Yi M6;have Mm:B<=wr.heap.size:=by have h7:=xO.out.lt b (List.mem_cons_self ..);omega
   obtain ⟨N0,Ul⟩:∃N,N=wr.heap.size:=⟨_,rfl⟩;rw [<-Ul]at O6 Mm;have HJ:=zH O6;have HP6:=zH hP6;have NN:=zH (HE.out.trans E6);have Mn:N0<=W6.heap.size:=by have:=E6.size;omega
   have c1':=(E6.cell cz).trans c1;have cz':b1<W6.heap.size:=by have:=E6.size;omega
   clear DI wm M6 E6 hN6 O6 hP6 c1 cz Ul hlt hk k0 xO HE;go_wp2_with fail;clear c1' cz';go_loopw [7,41] (fun vm vi wr=>∃(k:Nat) (g:bQ),vi=.int .i64 k/\k<=ni/\j8 wr B b g (20+3*k) (dD (S1,[]) (is.take k)).1/\bJ qj wr N0 vm (dD (S1,[]) (is.take k)).2/\N0<=wr.heap.size/\Ext W1 wr) (fun _ vi _=>ni-(intOf vi).toNat)
   case atStart=>exact⟨0,g,rfl,Nat.zero_le _,HP6.out,HJ.out,Mn,NN.out⟩
   case round =>
    clear HP6 HJ NN Yi Mn g;obtain ⟨k,g,rfl,hk,hP,hO,Yj,hE⟩:=hrel;have k0:(0:Int)<=(k:Int):=Int.natCast_nonneg _
    by_cases hlt:(k:Int)<ni
    case pos =>
     have dq:k<is.length:=by have:=Qe.out;omega
     obtain ⟨ba,o,rfl,zG,q0,q1,q2,q3,q4,q5,q6⟩:=(HI.out.ext hE).DV dq;have Du:IntKind.i64.wrap ((k:Int)+1)=(k:Int)+1:=IntWalk.i64_in _ (by omega);have hst:=sj (S1,[]) is dq;have hil:=h4 is[k] (List.getElem_mem dq);have fR:=fy.items (is.take k) (S1,[]) Ml.out;have pW:(is.take k).length=k:=by rw[List.length_take];omega
     rw [pW]at fR;obtain ⟨it,hit⟩:∃m,m=is[k]:=⟨_,rfl⟩;rw [<-hit]at q0 q1 q2 q3 q4 q5 q6 hst hil;obtain⟨p,sU⟩:=ar (dD (S1,[]) (is.take k));rw [<-sU]at hst hP hO fR;have Mo:=fR.2;simp only[List.length_nil,Nat.zero_add]at Mo;have Mp:=zH fR.1;obtain ⟨W8,vX⟩:∃W,W=wr.alloc (.cells #[bs it.path,it.kind,it.mode,it.uid,it.gid,it.mtime,bs it.data] 80):=⟨_,rfl⟩;obtain ⟨b9,tf⟩:∃b,b=wr.heap.size:=⟨_,rfl⟩;have E8:Ext wr W8:=by rw[vX];exact (Ext.refl _).alloc _
     have B8:Has W8 b9 (.cells #[bs it.path,it.kind,it.mode,it.uid,it.gid,it.mtime,bs it.data] 80):=by rw[vX,tf];exact Has.new _ _
     have P8:=hP.ext E8;have O8:=hO.ext E8;have Um:=hP.lt;have abf:wr.heap.size<=b9:=by omega
     have KN:=zH (Mf P8 fR.1 (by omega) it hil.1 hil.2);obtain⟨T,hT⟩:=ar (iY p.1 it);obtain ⟨no,bc⟩:∃n,n=iq p.1 it:=⟨_,rfl⟩;rw [<-hT,<-bc]at KN;have Bu:dD (S1,[]) (is.take (k+1))=(fp T no it,p.2++[no]):=by rw[hst,hT,bc];rfl
     have Mq:fy (20+3*k+1) T:=by rw[hT];exact fR.1.DV it
     have ou:=zH Bu;have Yk:=zH Mq;have Ih:=zH P8;have xP:=zH O8;have HB8:=zH B8;have zL:=zH (hE.trans E8);have r0:=B8.cell 0;have r1:=B8.cell 1;have r2:=B8.cell 2;have r3:=B8.cell 3;have r4:=B8.cell 4;have r5:=B8.cell 5;have r6:=B8.cell 6;have rz:=B8.lt;simp only[gA,gB,gC]at r0 r1 r2 r3 r4 r5 r6;clear hst hil fR sU hP hO hE hit hT bc Bu Mq P8 O8 B8 pW;go_upto_region 14 with fail;rw [<-vX,<-tf];clear vX tf q0 q1 q2 q3 q4 q5 q6 zG;go_wp2_with fail;refine KN.out.mono ?_;rintro e w9 ⟨rfl,T9⟩;have E9:Ext W1 w9:=T9.after Ih.out zL.out zT;have B9:=T9.has HB8.out (fun hm=>by have:=Um _ hm;omega);have hoff:=Ih.out.uZ xP.out (by decide) (by decide) (by decide) (by decide);obtain ⟨g9,Yl,P9,o9⟩:=T9;have O9:=xP.out.only o9 hoff;have Mr:N0<=w9.heap.size:=by have:=o9.size;have:=E8.size;omega
     obtain ⟨v10,DJ,Ms,Mt,DY,_⟩:=sf qj w9 O9 Mr no (by omega);have abg:W1.heap.size<=N0:=by omega
     have Qf:Ext W1 DJ:=(E9.alloc _).grown DY (fun g hv=>by have:=(O9.lt hv).1;omega);have Qg:Only u7.ownBlock.toList w9 DJ:=(Only.gS _ _ _).then (Only.of_grownBy DY (fun g hv=>Option.mem_toList.2 hv));have Ym:=P9.only Qg (O9.cV Mm (by decide) (by decide)) (fun x hx hm=>P9.uZ O9 (by decide) (by decide) (by decide) (by decide) x (Option.mem_toList.1 hm) hx);have Yn:=Qg.has B9 (O9.ny B9 (by decide));have Mu:N0<=DJ.heap.size:=by have:=Qg.size;omega
     have Mv:=zH Ms;have vc:=zH Ym;have DZ:=zH Mt;have vg:=zH Yn;have Ii:=zH Qf;clear E9 B9 hoff P9 o9 Yl O9 Ms Mt DY Qf Qg Ym Yn KN r0 r1 r2 r3 r4 r5 r6 rz Mr
     by_cases iV:no=0
     case pos =>
      have t1:(no != 0)=false:=by simpa using iV
      have hD:Hid (fp T no it=T):=by show _=_;unfold fp;rw[if_neg (fun q=>q iV)]
      clear iV;go_wp2_with (at_builtin;refine Lib.wpList_append_run _ rfl _ _ 123 123 rfl _ _ rfl rfl _ _ Mv.out ?_);go_roundw
      case rel=>exact⟨k+1,g9,by go_num,by omega,by rw[ou.out,hD.out];exact vc.out.mono (by omega),by rw[ou.out];exact DZ.out,Mu,Ii.out⟩
      case measure=>simp[intOf];omega
     case neg =>
      have t1:(no != 0)=true:=by simpa using iV
      have hD:Hid (fp T no it=cF (cF T 0 0 0 (.cU no it.uid it.gid)) 0 0 0 (.dn no it.mode)):=by show _=_;unfold fp;rw[if_pos iV];rfl
      have KC:=zH (vc.out.cU Yk.out (by omega) no it.uid it.gid);have D2:fy (20+3*k+1+1) (cF T 0 0 0 (.cU no it.uid it.gid)):=Yk.out.lP 0 0 0 _ (fun _ _ _ _ e=>by cases e);obtain⟨U,hU⟩:=ar (cF T 0 0 0 (.cU no it.uid it.gid));obtain ⟨ec,Yo⟩:∃e,e=fE T 0 0 0 (.cU no it.uid it.gid):=⟨_,rfl⟩;rw [<-hU,<-Yo]at KC;rw [<-hU]at hD D2;have HPU:=zH D2;clear iV hU Yo D2;have r3:=vg.out.cell 3;have r4:=vg.out.cell 4;have rz:=vg.out.lt;simp only[gA,gB,gC]at r3 r4;go_wp2_with (at_builtin;refine Lib.wpList_append_run _ rfl _ _ 123 123 rfl _ _ rfl rfl _ _ Mv.out ?_);refine KC.out.mono ?_;rintro e Ja ⟨rfl,Mw⟩;have abT:=vc.out.lt;have tc:Ext W1 Ja:=Mw.after vc.out Ii.out zT;have Un:=Mw.has vg.out (vc.out.off vg.out (by decide) (by decide) (by decide) (by decide));have hoff:=vc.out.uZ DZ.out (by decide) (by decide) (by decide) (by decide);obtain ⟨g11,vh,D8,D_⟩:=Mw;have Mx:=DZ.out.only D_ hoff;have Yp:N0<=Ja.heap.size:=by have:=D_.size;omega
      have KM:=zH (D8.dn HPU.out (by omega) no it.mode);obtain⟨V,hV⟩:=ar (cF U 0 0 0 (.dn no it.mode));obtain ⟨ed,Yq⟩:∃e,e=fE U 0 0 0 (.dn no it.mode):=⟨_,rfl⟩;rw [<-hV,<-Yq]at KM;rw [<-hV]at hD;have BP:=zH D8;have zg:=zH Mx;have BQ:=zH tc;clear r3 r4 rz KC hV Yq vh D_ hoff D8 Mx tc;have r2:=Un.cell 2;have rz:=Un.lt;simp only[gA,gB,gC]at r2;clear Un;go_wp2_with fail;refine KM.out.mono ?_;rintro e I5 ⟨rfl,T12⟩;have Dm:Ext W1 I5:=T12.after BP.out BQ.out zT;have hoff:=BP.out.uZ zg.out (by decide) (by decide) (by decide) (by decide);obtain ⟨g12,My,Qh,RQ⟩:=T12;have Ow:=zg.out.only RQ hoff;have Mz:N0<=I5.heap.size:=by have:=RQ.size;omega
      have Uo:=zH Qh;have Uq:=zH Ow;have Ea:=zH Dm;clear r2 rz KM My RQ hoff Qh Ow Dm;go_wp2_with fail;go_roundw
      case rel=>exact⟨k+1,g12,by go_num,by omega,by rw[ou.out,hD.out];exact Uo.out.mono (by omega),by rw[ou.out];exact Uq.out,Mz,Ea.out⟩
      case measure=>simp[intOf];omega
    case neg =>
     have lk:is.take k=is:=List.take_of_length_le (by have:=Qe.out;omega);rw [lk]at hP hO;have fR:=fy.items is (S1,[]) Ml.out;have tg:=Qe.out;obtain⟨p,sU⟩:=ar (dD (S1,[]) is);rw [<-sU]at hP hO fR;have K_:Hid (fD ms is=dN p.1 (p.2.zip is)):=by show _=_;rw[Mk.out,sU]
     have Mo:p.2.length=ni:=by have:=fR.2;simp only[List.length_nil,Nat.zero_add]at this;omega
     have HOL:=zH Mo;have hzl:Hid ((p.2.zip is).length=ni):=by show _=_;rw[List.length_zip];omega
     have Ur:=zH (fR.1.mono (show 20+3*is.length<=110 by omega));have HP:=zH (hP.mono (show 20+3*k<=110 by omega));obtain ⟨Am,cm',Yr,_,_,MA,_⟩:=hO.at_;rw [Mo]at Yr;have HO:=zH hO;have HE:=zH hE;have Us:=zH MA;have B3:=qs.out.ext hE;have c1:=B3.cell 1;have cz:=B3.lt;simp only[gA,gB,gC]at c1;subst Yr;clear hP hO hE lk fR tg sU Mo MA B3;go_wp2_with fail;clear c1 cz hlt hk k0;go_loopw [72] (fun vi wr=>∃(k:Nat) (g:bQ),vi=.int .i64 k/\k<=ni/\j8 wr B b g (110+k) (dN p.1 ((p.2.zip is).take k))/\bJ qj wr N0 (.slice Am ni cm') p.2/\Ext W1 wr) (fun vi _=>ni-(intOf vi).toNat)
     case atStart=>exact⟨0,g,rfl,Nat.zero_le _,HP.out,HO.out,HE.out⟩
     case round =>
      clear HP HO HE Yj g Us;obtain ⟨k,g,rfl,hk,hP,hO,hE⟩:=hrel;have k0:(0:Int)<=(k:Int):=Int.natCast_nonneg _
      by_cases hlt:(k:Int)<ni
      case pos =>
       have dq:k<is.length:=by have:=Qe.out;omega
       have Qi:k<p.2.length:=by have:=HOL.out;omega
       have Yt:k<(p.2.zip is).length:=by have:=hzl.out;omega
       obtain ⟨ba,o,rfl,zG,q0,q1,q2,q3,q4,q5,q6⟩:=(HI.out.ext hE).DV dq;obtain ⟨gm,Vp,Ut,qm⟩:∃gm,Am=some ⟨gm,0,none⟩/\gm<wr.heap.size/\wr.cell? ⟨gm,k,none⟩=some (.int .i64 p.2[k]):=by
        rcases hO.cases with⟨_,h2⟩|⟨gm,cap,cur,h2,_,h3,_,_,h4⟩
        ·rw[h2]at Qi;cases Qi
        ·injection h2 with h2
         have:=h4 k Qi 0 (by decide);exact ⟨gm,h2,h3.lt,by simpa [qj]using this⟩
       subst Vp;have Du:IntKind.i64.wrap ((k:Int)+1)=(k:Int)+1:=IntWalk.i64_in _ (by omega);have hst:=sk p.1 (p.2.zip is) Yt;rw [List.getElem_zip]at hst;have rI:fy (110+k) (dN p.1 ((p.2.zip is).take k)):=(fy.times ((p.2.zip is).take k) Ur.out).mono (by rw[List.length_take];omega);obtain ⟨it,hit⟩:∃m,m=is[k]:=⟨_,rfl⟩;obtain ⟨no,bc⟩:∃m,m=p.2[k]:=⟨_,rfl⟩;rw [<-hit]at q0 q1 q2 q3 q4 q5 q6 hst;rw [<-bc]at qm hst;obtain ⟨S3,Ig⟩:∃S,S=dN p.1 ((p.2.zip is).take k):=⟨_,rfl⟩;rw [<-Ig]at hst rI hP;obtain ⟨W8,vX⟩:∃W,W=wr.alloc (.cells #[bs it.path,it.kind,it.mode,it.uid,it.gid,it.mtime,bs it.data] 80):=⟨_,rfl⟩;obtain ⟨b9,tf⟩:∃b,b=wr.heap.size:=⟨_,rfl⟩;have E8:Ext wr W8:=by rw[vX];exact (Ext.refl _).alloc _
       have B8:Has W8 b9 (.cells #[bs it.path,it.kind,it.mode,it.uid,it.gid,it.mtime,bs it.data] 80):=by rw[vX,tf];exact Has.new _ _
       have P8:=hP.ext E8;have O8:=hO.ext E8;have qm':=(E8.cell Ut).trans qm;have qz':gm<W8.heap.size:=by have:=E8.size;omega
       have ou:=zH hst;have Ih:=zH P8;have xP:=zH O8;have zL:=zH (hE.trans E8);have r5:=B8.cell 5;have rz:=B8.lt;simp only[gA,gB,gC]at r5;have Mp:=zH rI;clear hst hP hO hE hit bc Ig P8 O8 B8 rI qm Qi Yt;go_upto_region 23 with fail;rw [<-vX,<-tf];clear vX tf q0 q1 q2 q3 q4 q5 q6 zG Ut
       by_cases iV:no=0
       case pos =>
        have t1:(no != 0)=false:=by simpa using iV
        have hD:Hid (dN p.1 ((p.2.zip is).take (k+1))=S3):=by show _=_;rw[ou.out];unfold lU;rw[if_neg (fun q=>q iV)]
        clear iV;go_wp2_with fail;go_roundw
        case rel=>exact⟨k+1,g,by go_num,by omega,by rw[hD.out];exact Ih.out.mono (by omega),xP.out,zL.out⟩
        case measure=>simp[intOf];omega
       case neg =>
        have t1:(no != 0)=true:=by simpa using iV
        have hD:Hid (dN p.1 ((p.2.zip is).take (k+1))=cF S3 0 0 0 (.dp no it.mtime)):=by show _=_;rw[ou.out];unfold lU;rw[if_pos iV];rfl
        have Uu:=(Ext.refl W8).drew;have KC:=zH ((Ih.out.ext Uu).dp Mp.out (by omega) no it.mtime);have MB:=zH Uu;clear iV Uu;go_upto_region 24 with fail;go_still_tail 8,(by kernel_rfl);change wpList _ _ _ _ _ W8.drew;go_wp2_with fail;refine KC.out.mono ?_;rintro e Ja ⟨rfl,Mw⟩;have tc:Ext W1 Ja:=Mw.after (Ih.out.ext MB.out) (zL.out.trans MB.out) zT;have hoff:=(Ih.out.ext MB.out).uZ (xP.out.ext MB.out) (by decide) (by decide) (by decide) (by decide);obtain ⟨g11,vh,D8,D_⟩:=Mw;have Mx:=(xP.out.ext MB.out).only D_ hoff;have BP:=zH D8;have zg:=zH Mx;have BQ:=zH tc;clear r5 rz KC vh D_ hoff D8 Mx tc qm' qz';go_wp2_with fail;go_roundw
        case rel=>exact⟨k+1,g11,by go_num,by omega,by rw[hD.out];exact BP.out.mono (by omega),zg.out,BQ.out⟩
        case measure=>simp[intOf];omega
      case neg =>
       have lk:(p.2.zip is).take k=p.2.zip is:=List.take_of_length_le (by have:=hzl.out;omega);rw [lk,<-K_.out]at hP;have HP:=zH hP;have HE:=zH hE;have KW:=zH hP.abe;clear lk hP hE hO;go_wp2_with fail;refine KW.out.mono ?_;rintro e w9 ⟨⟨v9,rfl⟩,P9,o9⟩;have E9:Ext W1 w9:=o9.after HE.out (fun x hx=>by have:=(HP.out.cV x hx).1;omega);have HP9:=zH P9;clear P9 o9 KW;go_wp2_with fail;go_ret;exact ⟨b,B,g,rfl,by have:=E1.size;omega,HP9.out,E1.trans E9⟩
end Go.Proofs.YtblbohcaphcobaaGreatDoor
