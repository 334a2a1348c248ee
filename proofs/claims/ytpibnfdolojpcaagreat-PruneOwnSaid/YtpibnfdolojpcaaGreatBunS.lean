import Derived.Test.YtpibnfdolojpcaaGreatBunN
import Derived.Test.YtpibnfdolojpcaaGreatBunL
import Derived.Test.YtpibnfdolojpcaaGreatBunF
import Derived.Test.YtpibnfdolojpcaaGreatBunM
import Derived.Test.YtpibnfdolojpcaaGreatBunJ
import Derived.Test.YtpibnfdolojpcaaGreatBunI
import Derived.Test.YtpibnfdolojpcaaGreatBunK
import Derived.OpenShut
set_option maxHeartbeats 16000000
set_option maxRecDepth 100000
namespace Go.Proofs.YtpibnfdolojpcaaGreat
section
open Go.ChangeShapes Go.WideShapes Go.ChangeAt Go.RowKit
structure gJ (α:Type) where
 ts:TypeId
 t : TypeId
 k : Nat
 bytes:Nat
 zero:Value
 enc:α->List Value
 hk:0<k
 under:Tryz.prog.underlying ts=some (.slice t)
 info:(Tryz.prog.info? t).map (fun i=>(i.zero,i.size,i.bytes))=some (some zero,k,bytes)
 zs:zero.cells.size=k
 len:∀x,(enc x).length=k
 one:∀x,∀u∈enc x,u.oneCell'=true
 hb:bytes<=1000
section
variable {α:Type} {R:gJ α}
def gJ.cells (R:gJ α) (l:List α):List Value:=l.flatMap R.enc
theorem gJ.oN (R:gJ α) (l:List α):(R.cells l).length=l.length*R.k:=by
 unfold gJ.cells
 induction l with
 | nil=>simp
 | cons x l ih=>rw[List.flatMap_cons,List.length_append,ih,R.len,List.length_cons,Nat.succ_mul];omega
theorem gJ.qL (R:gJ α) (a b:List α):R.cells (a++b)=R.cells a++R.cells b:=by unfold gJ.cells;rw[List.flatMap_append]
theorem gJ.sw (R:gJ α) (l:List α):∀i,(h:i<l.length)->∀j,j<R.k->(R.cells l)[i*R.k+j]?=(R.enc l[i])[j]?:=by
 induction l with
 | nil=>intro i h;cases h
 | cons x l ih =>
  intro i h j hj;have e:R.cells (x::l)=R.enc x++R.cells l:=rfl;rw [e]
  cases i with
  | zero =>
   simp only[Nat.zero_mul,Nat.zero_add,List.getElem_cons_zero];rw [List.getElem?_append_left (by rw[R.len];exact hj)]
  | succ i =>
   have:=ih i (by simpa using h) j hj;rw [List.getElem?_append_right (by rw[R.len,Nat.succ_mul];omega),R.len];simp only[List.getElem_cons_succ];rw [show (i+1)*R.k+j-R.k=i*R.k+j by rw[Nat.succ_mul];omega];exact this
theorem gJ.IJ (R:gJ α) (l:List α):∀u∈R.cells l,u.oneCell'=true:=by
 intro u hu;unfold gJ.cells at hu;rw [List.mem_flatMap]at hu;obtain ⟨x,_,hx⟩:=hu;exact R.one x u hx
def dq (R:gJ α) (w:World) (base:Nat) (v:Value) (l:List α):Prop:=w.ownsRow base R.t R.k v l.length (R.cells l)
theorem dq.nil (R:gJ α) (w:World) (base:Nat):dq R w base (.slice none 0 0) []:=World.ownsRow_nil _ _ _ _
def eP (R:gJ α) (w:World) (A:Option Addr) (l:List α):Prop:=
 l = []\/∃b o,A=some ⟨b,o,none⟩/\b<w.heap.size/\∀i,(h:i<l.length)->∀j,j<R.k->w.cell? ⟨b,o+i*R.k+j,none⟩=(R.enc l[i])[j]?
theorem eP.ext {w w':World} {A:Option Addr} {l:List α} (h:eP R w A l) (k:Ext w w'):eP R w' A l:=by
 rcases h with h|⟨b,o,hA,hb,hc⟩
 ·exact .inl h
 ·exact .inr ⟨b,o,hA,by have:=k.size;omega,fun i hi j hj=>(k.cell hb).trans (hc i hi j hj)⟩
theorem dq.cases {w:World} {base:Nat} {v:Value} {l:List α} (h:dq R w base v l) :
  (v=.slice none 0 0/\l=[])\/∃g cap cur,v=.slice (some ⟨g,0,none⟩) l.length cap/\base<=g/\Has w g (.cells cur R.t)/\l.length<=cap/\cap<=maxLen/\∀i,(h:i<l.length)->∀j,j<R.k->w.cell? ⟨g,i*R.k+j,none⟩=(R.enc l[i])[j]?:=by
 rcases h.2 with⟨e,h0⟩|⟨g,cap,cur,rfl,hb,hg,hn,hm,hs,ht⟩
 ·exact .inl ⟨e,List.eq_nil_of_length_eq_zero h0⟩
 ·refine .inr ⟨g,cap,cur,rfl,hb,hg,hn,hm,fun i hi j hj=>?_⟩
  have hlt:i*R.k+j<l.length*R.k:=by
   have:(i+1)*R.k<=l.length*R.k:=Nat.mul_le_mul_right _ hi;rw [Nat.succ_mul]at this;omega
  have:=World.ownsRow.cellAt h (i*R.k+j) hlt;rw [this];exact R.sw l i hi j hj
theorem dq.at_ {w:World} {base:Nat} {v:Value} {l:List α} (h:dq R w base v l):∃A cap,v=.slice A l.length cap/\l.length<=cap/\cap<=maxLen/\eP R w A l/\(A=none->cap=0):=by
 rcases h.cases with⟨rfl,rfl⟩|⟨g,cap,cur,rfl,hb,hg,hn,hm,hc⟩
 ·exact⟨none,0,rfl,Nat.le_refl _,by decide,.inl rfl,fun _=>rfl⟩
 ·exact⟨_,cap,rfl,hn,hm,.inr ⟨g,0,rfl,hg.lt,fun i hi j hj=>by rw[Nat.zero_add];exact hc i hi j hj⟩,fun e=>by cases e⟩
theorem dq.ext {w w':World} {base:Nat} {v:Value} {l:List α} (h:dq R w base v l) (k:Ext w w'):dq R w' base v l:=World.ownsRow.kept h k.grownBy (by cases v.ownBlock<;>simp)
theorem dq.only {w w':World} {base:Nat} {v:Value} {l:List α} {L:List Nat} (h:dq R w base v l) (o:Only L w w') (hn:∀g,v.ownBlock=some g->g∉L):dq R w' base v l:=au h o hn
theorem dq.lt {w:World} {base:Nat} {v:Value} {l:List α} (h:dq R w base v l) {g:Nat} (hv:v.ownBlock=some g):base<=g/\g<w.heap.size:=World.ownsRow.lt h g hv
theorem dq.tag {w:World} {base g:Nat} {v:Value} {l:List α} (h:dq R w base v l) (hv:v.ownBlock=some g):dO w g R.t:=by
 rcases h.2 with⟨rfl,_⟩|⟨g',cap,cur,rfl,hb,hg,_⟩
 ·cases hv
 ·injection hv with hv
  subst hv;exact ⟨_,_,hg⟩
theorem dq.pop {w:World} {base:Nat} {g cap:Nat} {l:List α} {x:α} (h:dq R w base (.slice (some ⟨g,0,none⟩) (l++[x]).length cap) (l++[x])):dq R w base (.slice (some ⟨g,0,none⟩) l.length cap) l:=by
 refine ⟨R.oN l,?_⟩;rcases h.2 with⟨e,_⟩|⟨g',cap',cur,hv,hb,hg,hn,hm,hs,ht⟩
 ·cases e
 ·injection hv with h1 h2 h3
  injection h1 with h1;injection h1 with h1;subst h1;subst h3;refine .inr ⟨g,cap,cur,rfl,hb,hg,by rw[List.length_append]at hn;omega,hm,hs,?_⟩;have e:cur.toList.take (l.length*R.k)=(cur.toList.take ((l++[x]).length*R.k)).take (l.length*R.k):=by
   rw [List.take_take];congr 1;have:l.length*R.k<=(l++[x]).length*R.k:=Nat.mul_le_mul_right _ (by simp);omega
  rw [e,ht,R.qL,List.take_left' (R.oN l)]
theorem M9 (R:gJ α) (w:World) {base:Nat} {v:Value} {l:List α} (h:dq R w base v l) (hb:base<=w.heap.size) (l2:List α) (bb o c2:Nat) (h2:∀i,(h:i<l2.length)->∀j,j<R.k->w.cell? ⟨bb,o+i*R.k+j,none⟩=(R.enc l2[i])[j]?)
  (hl:l.length<=2000000) (rh:l2.length<=1000000) :
  ∃ v' w',(Builtin.append_ #[R.ts,R.ts] R.ts #[v,.slice (some ⟨bb,o,none⟩) l2.length c2]).run Tryz.prog w=.ok v' w'/\dq R w' base v' (l++l2)/\w.grownBy w' v.ownBlock/\(v'.ownBlock=v.ownBlock\/v'.ownBlock=some w.heap.size):=by
 obtain ⟨i0,hi,hz0,hz1,hz2⟩:=info_parts R.info;obtain ⟨v',w',hr,h3,h4,_,h5⟩:=run_append_own_at (P:=Tryz.prog) (w:=w) base R.ts R.ts R.t i0 R.zero R.k R.bytes R.under hi hz0 hz1 hz2 R.zs R.hk v l.length _ h ⟨bb,o,none⟩ l2.length c2 (R.cells l2) (R.oN l2)
  (by
   intro j u hu;rw [Addr.add_lit];have hk:=R.hk;have hj:j<l2.length*R.k:=by
    rcases Nat.lt_or_ge j (l2.length*R.k) with h'|h'
    ·exact h'
    ·rw[List.getElem?_eq_none (by rw[R.oN];exact h')]at hu;cases hu
   have hi:j / R.k<l2.length:=Nat.div_lt_of_lt_mul (by rw[Nat.mul_comm];exact hj);have hm:j % R.k<R.k:=Nat.mod_lt _ hk;have e:j / R.k*R.k+j % R.k=j:=by rw[Nat.mul_comm];exact Nat.div_add_mod j R.k
   have a:=R.sw l2 (j / R.k) hi (j % R.k) hm;rw [e,hu]at a;have b:=h2 (j / R.k) hi (j % R.k) hm;rw [Nat.add_assoc,e]at b;rw [b,<-a])
  (R.IJ l2) (by unfold maxLen;omega) (Nat.le_trans (Nat.mul_le_mul (show l.length+l2.length<=3000000 by omega) R.hb) (by omega)) hb
 refine ⟨v',w',hr,?_,h4,h5⟩;unfold dq;rw [R.qL,List.length_append];exact h3
theorem xO (R:gJ α) (w:World) {base:Nat} {v:Value} {l:List α} (h:dq R w base v l) (hb:base<=w.heap.size) (x:α) (hl:l.length<=2000000) :
  ∃ v' w',(Builtin.append_ #[R.ts,R.ts] R.ts #[v,.slice (some ⟨w.heap.size,0,none⟩) 1 1]).run Tryz.prog (w.alloc (.cells (R.enc x).toArray R.t))=.ok v' w'/\dq R w' base v' (l++[x])/\(w.alloc (.cells (R.enc x).toArray R.t)).grownBy w' v.ownBlock/\(v'.ownBlock=v.ownBlock\/v'.ownBlock=some (w.heap.size+1)):=by
 have hN:=Has.new w (.cells (R.enc x).toArray R.t);have E:Ext w (w.alloc (.cells (R.enc x).toArray R.t)):=(Ext.refl _).alloc _;obtain ⟨v',w',hr,h3,h4,h5⟩:=M9 R (w.alloc (.cells (R.enc x).toArray R.t)) (h.ext E) (by simp;omega) [x] w.heap.size 0 1
  (fun i hi j hj=>by
   have:i=0:=by simpa using hi
   subst this;rw [show 0+0*R.k+j=j by omega];have:=hN.cell j;rw [this];simp) hl (by simp)
 exact ⟨v',w',hr,h3,h4,by rw[World.size_alloc]at h5;exact h5⟩
end
def jQ:gJ Int:=⟨124,3,1,8,.int .i64 0,fun x=>[.int .i64 x],by decide,Tryz.underlying124,by kernel_rfl,rfl,fun _=>rfl,fun x u hu=>by rw[List.mem_singleton]at hu;subst hu;rfl,by decide⟩
def DZ:gJ (List UInt8×Int):=⟨64,153,2,24,.agg #[.string ⟨#[]⟩,.int .i64 0],fun x=>[.string (bs x.1),.int .i64 x.2],by decide,Tryz.underlying64,by kernel_rfl,rfl,fun _=>rfl,fun x u hu=>by
 simp only[List.mem_cons,List.not_mem_nil,or_false]at hu;rcases hu with rfl|rfl<;>rfl,by decide⟩
end
section
structure eW where
 path:List UInt8
 b : Int
 n : Int
structure dS where
 path:List UInt8
 kind:Int
 mode:Int
 uid:Int
 gid:Int
 mtime:Int
 data:List UInt8
structure fI (c:Nat) (S:ae):Prop where
 fE:dy c S
 JF:bj S
 kids:Kids S
 last:S.last<=c+1
theorem fI.mono {c d:Nat} {S:ae} (h:fI c S) (FB:c<=d):fI d S:=⟨gz h.fE FB,h.JF,h.kids,by have:=h.last;omega⟩
theorem fI.oc {c:Nat} {S:ae} (h:fI c S) (cu cg now:Int) (x:lG) (hx:∀fr a gN b,x≠.rename fr a gN b):fI (c+1) (cM S cu cg now x):=
 ⟨Qj h.fE _ _ _ _ hx,DA h.fE h.JF _ _ _ _ hx,MK h.fE h.kids _ _ _ _ hx,by have:=L_ S cu cg now x;have:=h.last;omega⟩
theorem zj {S:ae} (h:bj S) (a b n:Int):bj (cH S a b n):=by
 unfold cH;split
 ·intro m hm hk
  rcases List.mem_append.1 hm with hm|hm
  ·exact h m hm hk
  ·rw [List.mem_singleton]at hm
   subst hm;exact absurd rfl hk
 ·exact h
theorem fI.kw {c:Nat} {S:ae} (h:fI c S) (a b n:Int):fI (c+1) (cH S a b n):=
 ⟨gz (GD h.fE _ _ _) (by omega),zj h.JF _ _ _,DL h.fE h.kids _ _ _,by have:=AE (S:=S) a b n;have:=h.last;omega⟩
theorem fI.first {b n:Int} (hl:cx b n=true):fI 0 (cq cJ 0 b n):=
 ⟨GF hl,fun m hm hk=>by
  have hm':m∈[bn cJ]:=hm;rw [List.mem_singleton]at hm';subst hm';rfl,DM b n,by show (1:Int)<=_;omega⟩
def m_ (S:ae) (m:eW):iz×Int:=dV S 0 0 m.path false
def sx (S:ae) (m:eW):lG:=.da (m_ S m).1.dir (m_ S m).1.name 493
def iA (S:ae) (m:eW):ae:=
 if (m_ S m).2≠0 then S
 else if (m_ S m).1.no=0 then (if fQ S 0 0 0 (sx S m)=0 then cH (cM S 0 0 0 (sx S m)) (kW S 0 0 0 (sx S m)) m.b m.n else cM S 0 0 0 (sx S m))
 else cH S (m_ S m).1.no m.b m.n
theorem fI.M_ {c:Nat} {S:ae} (h:fI c S) (m:eW):fI (c+2) (iA S m):=by
 unfold iA;split
 ·exact h.mono (by omega)
 ·split
  ·have h1:=h.oc 0 0 0 (sx S m) (fun _ _ _ _ e=>by cases e)
   split
   ·exact h1.kw _ _ _
   ·exact h1.mono (by omega)
  ·exact (h.kw _ _ _).mono (by omega)
def na (m:eW):Bool:=m.path == [47]
def ey (S:ae) (l:List eW):ae:=l.foldl (fun S m=>if na m=true then S else iA S m) S
theorem fI.BI {c:Nat} {S:ae} (h:fI c S) (l:List eW):fI (c+2*l.length) (ey S l):=by
 unfold ey
 induction l generalizing c S with
 | nil=>exact h
 | cons m l ih =>
  rw [List.foldl_cons];have h1:fI (c+2) (if na m=true then S else iA S m):=by
   split
   ·exact h.mono (by omega)
   ·exact h.M_ m
  exact (ih h1).mono (by rw[List.length_cons];omega)
def eJ (S:ae) (it:dS):iz×Int:=dV S 0 0 it.path false
def vB (S:ae) (it:dS):iz×Int:=dV S 0 0 it.data false
def iH (S:ae) (it:dS):Option lG:=
 if (eJ S it).2≠0 then none
 else if (eJ S it).1.no≠0 then none
 else if it.kind=1 then some (.da (eJ S it).1.dir (eJ S it).1.name 493)
 else if it.kind=2 then some (.cL (eJ S it).1.dir (eJ S it).1.name 420 it.data)
 else if it.kind=3 then some (.symlink (eJ S it).1.dir (eJ S it).1.name it.data)
 else if it.kind=4 then (if (vB S it).2=0 then some (.link (vB S it).1.no (eJ S it).1.dir (eJ S it).1.name) else none)
 else none
def jD (S:ae) (it:dS):ae:=match iH S it with|some x=>cM S 0 0 0 x|none=>S
def iU (S:ae) (it:dS):Int:=
 match iH S it with
 | some x=>kW S 0 0 0 x
 | none=>if (eJ S it).2=0/\(eJ S it).1.no≠0/\it.kind=1/\(ac S.nodes (eJ S it).1.no).kind=1 then (eJ S it).1.no else 0
theorem QO {S:ae} {it:dS} {x:lG} (h:iH S it=some x):∀fr a gN b,x≠.rename fr a gN b:=by
 intro fr a gN b e;subst e;unfold iH at h;split at h
 ·cases h
 split at h
 ·cases h
 split at h
 ·cases h
 split at h
 ·cases h
 split at h
 ·cases h
 split at h
 ·split at h<;>cases h
 ·cases h
theorem fI.IK {c:Nat} {S:ae} (h:fI c S) (it:dS):fI (c+1) (jD S it):=by
 unfold jD;split
 ·rename_i x hx;exact h.oc _ _ _ _ (QO hx)
 ·exact h.mono (by omega)
def gj (S:ae) (no:Int) (it:dS):ae:=if no≠0 then eZ (fN S 0 0 no it.uid it.gid) 0 0 no it.mode else S
theorem fI.BJ {c:Nat} {S:ae} (h:fI c S) (no:Int) (it:dS):fI (c+2) (gj S no it):=by
 unfold gj;split
 ·exact (h.oc 0 0 0 (.eu no it.uid it.gid) (fun _ _ _ _ e=>by cases e)).oc 0 0 0 (.dP no it.mode) (fun _ _ _ _ e=>by cases e)
 ·exact h.mono (by omega)
def s8 (p:ae×List Int) (it:dS):ae×List Int:=(gj (jD p.1 it) (iU p.1 it) it,p.2++[iU p.1 it])
def dL (p:ae×List Int) (l:List dS):ae×List Int:=l.foldl s8 p
theorem fI.items {c:Nat} (l:List dS) (p:ae×List Int) (h:fI c p.1):fI (c+3*l.length) (dL p l).1/\(dL p l).2.length=p.2.length+l.length:=by
 unfold dL
 induction l generalizing c p with
 | nil=>exact⟨h,rfl⟩
 | cons m l ih =>
  rw [List.foldl_cons];have h1:fI (c+3) (s8 p m).1:=(h.IK m).BJ _ _;obtain ⟨k1,k2⟩:=ih _ h1;refine ⟨k1.mono (by rw[List.length_cons];omega),?_⟩;rw [k2];unfold s8;simp only[List.length_append,List.length_cons,List.length_nil];omega
def mS (S:ae) (x:Int×dS):ae:=if x.1≠0 then fO S 0 0 x.1 x.2.mtime else S
def ee (S:ae) (l:List (Int×dS)):ae:=l.foldl mS S
theorem fI.times {c:Nat} (l:List (Int×dS)) {S:ae} (h:fI c S):fI (c+l.length) (ee S l):=by
 unfold ee
 induction l generalizing c S with
 | nil=>exact h
 | cons x l ih =>
  rw [List.foldl_cons];have h1:fI (c+1) (mS S x):=by
   unfold mS;split
   ·exact h.oc 0 0 0 (.fP x.1 x.2.mtime) (fun _ _ _ _ e=>by cases e)
   ·exact h.mono (by omega)
  exact (ih h1).mono (by rw[List.length_cons];omega)
def eQ (l:List eW):Int×Int:=match l.find? (fun m=>na m&&cx m.b m.n) with|some m=>(m.b,m.n)|none=>(65536,65536)
theorem j9 (l:List eW):cx (eQ l).1 (eQ l).2=true:=by
 unfold eQ;split
 ·rename_i m hm
  have:=List.find?_some hm;simp only[Bool.and_eq_true]at this;exact this.2
 ·decide
def gP (ms:List eW):ae:=cq cJ 0 (eQ ms).1 (eQ ms).2
def xP (ms:List eW) (is:List dS):ae×List Int:=dL (ey (gP ms) ms,[]) is
def gp (ms:List eW) (is:List dS):ae:=ee (xP ms is).1 ((xP ms is).2.zip is)
def ma (ns:List ai):Nat:=(ns.map fun n=>n.af.length).sum
theorem s9 (a b:List ai):ma (a++b)=ma a+ma b:=by unfold ma;rw[List.map_append,List.sum_append]
theorem sy {ns:List ai} {n:ai} (h:∀m∈ns,m.no≠n.no):bQ ns n=ns:=by
 unfold bQ;have:ns.map (fun m=>if m.no == n.no then n else m)=ns.map id:=by
  apply List.map_congr_left;intro m hm;have:=h m hm;rw [if_neg (by simpa using this)];rfl
 rw [this,List.map_id]
theorem Na {ns:List ai} (hp:ns.Pairwise (fun a b=>a.no<b.no)) {n:ai} {d:Nat} (hle:n.af.length<=(ac ns n.no).af.length+d):ma (bQ ns n)<=ma ns+d:=by
 induction ns with
 | nil=>exact Nat.zero_le _
 | cons a ns ih =>
  rw [List.pairwise_cons]at hp
  by_cases he:a.no=n.no
  ·have h1:bQ ns n=ns:=sy fun m hm=>by have:=hp.1 m hm;omega
   have h2:ac (a::ns) n.no=a:=by unfold ac eF;rw[List.find?_cons];simp[he]
   have h3:bQ (a::ns) n=n::bQ ns n:=by unfold bQ;rw[List.map_cons,if_pos (by simpa using he)]
   rw [h3,h1];rw [h2]at hle;unfold ma;rw [List.map_cons,List.sum_cons,List.map_cons,List.sum_cons];omega
  ·have h2:ac (a::ns) n.no=ac ns n.no:=by
    unfold ac eF;rw [List.find?_cons];have:(a.no == n.no)=false:=by simpa using he
    rw [this]
   have h3:bQ (a::ns) n=a::bQ ns n:=by unfold bQ;rw[List.map_cons,if_neg (by simpa using he)]
   rw [h2]at hle;have:=ih hp.2 hle;rw [h3];unfold ma at this|-;rw [List.map_cons,List.sum_cons,List.map_cons,List.sum_cons];omega
theorem sA (S:ae):aY S=ma S.nodes:=rfl
theorem qM {S:ae} (hu:aD S.nodes S.last) {n:ai} {d:Nat} (hle:n.af.length<=(ac S.nodes n.no).af.length+d):aY (aE S n)<=aY S+d:=Na hu.1 hle
theorem qN {S:ae} (hu:aD S.nodes S.last) {no:Int} (hi:aJ S.nodes no=true) {n:ai} (aW:n.no=(ac S.nodes no).no) (he:n.af=(ac S.nodes no).af):aY (aE S n)<=aY S:=by
 have h1:n.no=no:=aW.trans (ak hi).2.1;have:=qM (d:=0) hu (n:=n) (by rw[h1,he];omega);omega
theorem vC {S:ae} {c:Nat} (hT:dy c S) (cu cg now dir:Int) (nm:List UInt8) (n:ai) (hn:n.af=[]):aY (bV S cu cg now dir nm n)<=aY S+1:=by
 unfold bV;split
 case isFalse=>omega
 rename_i h0;obtain ⟨h1,_,h3⟩:=jN h0;obtain ⟨p1,p2,_⟩:=aT h1;obtain ⟨_,aW,hmem⟩:=ak p1;have nk:(bB S (bZ S cu cg now dir n)).nodes=S.nodes++[{bZ S cu cg now dir n with no:=S.last+1}]:=by unfold bB;rw[if_pos h3]
 have ES:(bB S (bZ S cu cg now dir n)).last=S.last+1:=by unfold bB;rw[if_pos h3]
 have hg:=kL hT.bc (bZ S cu cg now dir n) p1;have hu:aD (bB S (bZ S cu cg now dir n)).nodes (bB S (bZ S cu cg now dir n)).last:=by rw[nk,ES];exact hT.bc.add _ rfl (by have:=hT.last;omega)
 have e1:aY (bB S (bZ S cu cg now dir n))=aY S:=by
  rw [sA,nk,s9];have:ma [{bZ S cu cg now dir n with no:=S.last+1}]=0:=by
   show (([n.af.length]:List Nat)).sum=0;rw [hn];rfl
  rw [this];rfl
 rw [<-e1];refine qM hu ?_;show (en (ac S.nodes dir).af (nm,S.last+1)).length<=(ac (bB S (bZ S cu cg now dir n)).nodes (ac (bB S (bZ S cu cg now dir n)).nodes dir).no).af.length+1;rw [hg.1,aW,hg.1];exact qb _ _
theorem zk {S T:ae} {p:Int} {k:Nat} (h:aY T<=aY S+k):aY (fc p S T)<=aY S+k:=by unfold fc;split;omega;exact h
theorem Nb {S:ae} {c:Nat} (hT:dy c S) (cu cg now no dir:Int) (nm:List UInt8):aY (gM S cu cg now no dir nm)<=aY S+1:=by
 unfold gM;split
 case isFalse=>omega
 rename_i h0;obtain ⟨hp,hi,hk,_⟩:=kT h0;obtain ⟨hid,wo,_⟩:=aT hp;obtain ⟨_,aW,hmem⟩:=ak hi;obtain ⟨_,jB,il⟩:=ak hid;have hne:dir≠no:=fun e=>by subst e;exact hk wo
 have e0:(dE S now no).no=no:=aW;obtain ⟨g1,g2⟩:=jt (S:=S) (n:=dE S now no) (no:=dir) (by rw[e0];exact hne);have a1:aY (aE S (dE S now no))<=aY S:=qN hT.bc hi rfl rfl;have a2:aY (bR (aE S (dE S now no)) dir now (en (ac S.nodes dir).af (nm,no)))<=aY (aE S (dE S now no))+1:=by
  refine qM (S:=aE S (dE S now no)) (hT.bc.set _) ?_;show (en (ac S.nodes dir).af (nm,no)).length<=(ac (aE S (dE S now no)).nodes (ac (aE S (dE S now no)).nodes dir).no).af.length+1;rw [g1,jB,g1];exact qb _ _
 omega
theorem BK {S:ae} {c:Nat} (hT:dy c S) (cu now no m:Int):aY (eZ S cu now no m)<=aY S:=by
 unfold eZ;split
 ·rename_i h0
  unfold fC at h0;split at h0
  ·rename_i h1;exact absurd h0 h1
  ·rename_i h1;exact qN hT.bc (ic (Decidable.not_not.1 h1)) rfl rfl
 ·omega
theorem Nc {S:ae} {c:Nat} (hT:dy c S) (cu now no u g:Int):aY (fN S cu now no u g)<=aY S:=by
 unfold fN;split
 ·rename_i h0
  unfold gD at h0;split at h0
  ·rename_i h1;exact absurd h0 h1
  ·rename_i h1;exact qN hT.bc (ic (Decidable.not_not.1 h1)) rfl rfl
 ·omega
theorem Nd {S:ae} {c:Nat} (hT:dy c S) (cu now no t:Int):aY (fO S cu now no t)<=aY S:=by
 unfold fO;split
 ·rename_i h0
  unfold gL at h0;split at h0
  ·rename_i h1;exact absurd h0 h1
  ·rename_i h1;exact qN hT.bc (ic (Decidable.not_not.1 h1)) rfl rfl
 ·omega
theorem IM (S:ae) (a b n:Int):aY (cH S a b n)<=aY S:=by
 unfold cH;split
 ·rw [sA,sA]
  show ma (S.nodes++[bn S])<=_;rw [s9];have:ma [bn S]=0:=rfl;omega
 ·omega
structure jk (c:Nat) (S:ae):Prop where
 iB:fI c S
 JP:aY S<=c
theorem jk.mono {c d:Nat} {S:ae} (h:jk c S) (FB:c<=d):jk d S:=⟨h.iB.mono FB,by have:=h.JP;omega⟩
theorem jk.kw {c:Nat} {S:ae} (h:jk c S) (a b n:Int):jk (c+1) (cH S a b n):=⟨h.iB.kw a b n,by have:=IM S a b n;have:=h.JP;omega⟩
theorem jk.first {b n:Int} (hl:cx b n=true):jk 0 (cq cJ 0 b n):=⟨.first hl,Nat.le_refl _⟩
theorem jk.dir {c:Nat} {S:ae} (h:jk c S) (cu cg now dir:Int) (nm:List UInt8) (mode:Int):jk (c+1) (cM S cu cg now (.da dir nm mode)):=
 ⟨h.iB.oc _ _ _ _ (fun _ _ _ _ e=>by cases e),by have:=zk (p:=mH mode) (vC h.iB.fE cu cg now dir nm (dY mode dir) rfl);have:=h.JP;show aY (fc _ _ _)<=_;omega⟩
theorem jk.file {c:Nat} {S:ae} (h:jk c S) (cu cg now dir:Int) (nm:List UInt8) (mode:Int) (data:List UInt8):jk (c+1) (cM S cu cg now (.cL dir nm mode data)):=
 ⟨h.iB.oc _ _ _ _ (fun _ _ _ _ e=>by cases e),by have:=zk (p:=ik mode data.length) (vC h.iB.fE cu cg now dir nm (cG mode data) rfl);have:=h.JP;show aY (fc _ _ _)<=_;omega⟩
theorem jk.sym {c:Nat} {S:ae} (h:jk c S) (cu cg now dir:Int) (nm text:List UInt8):jk (c+1) (cM S cu cg now (.symlink dir nm text)):=
 ⟨h.iB.oc _ _ _ _ (fun _ _ _ _ e=>by cases e),by have:=zk (p:=k_ text) (vC h.iB.fE cu cg now dir nm (eC text) rfl);have:=h.JP;show aY (fc _ _ _)<=_;omega⟩
theorem jk.abv {c:Nat} {S:ae} (h:jk c S) (cu cg now no dir:Int) (nm:List UInt8):jk (c+1) (cM S cu cg now (.link no dir nm)):=
 ⟨h.iB.oc _ _ _ _ (fun _ _ _ _ e=>by cases e),by have:=Nb h.iB.fE cu cg now no dir nm;have:=h.JP;show aY (gM ..)<=_;omega⟩
theorem jk.mode {c:Nat} {S:ae} (h:jk c S) (cu cg now no m:Int):jk (c+1) (cM S cu cg now (.dP no m)):=
 ⟨h.iB.oc _ _ _ _ (fun _ _ _ _ e=>by cases e),by have:=BK h.iB.fE cu now no m;have:=h.JP;show aY (eZ ..)<=_;omega⟩
theorem jk.abw {c:Nat} {S:ae} (h:jk c S) (cu cg now no u g:Int):jk (c+1) (cM S cu cg now (.eu no u g)):=
 ⟨h.iB.oc _ _ _ _ (fun _ _ _ _ e=>by cases e),by have:=Nc h.iB.fE cu now no u g;have:=h.JP;show aY (fN ..)<=_;omega⟩
theorem jk.time {c:Nat} {S:ae} (h:jk c S) (cu cg now no t:Int):jk (c+1) (cM S cu cg now (.fP no t)):=
 ⟨h.iB.oc _ _ _ _ (fun _ _ _ _ e=>by cases e),by have:=Nd h.iB.fE cu now no t;have:=h.JP;show aY (fO ..)<=_;omega⟩
theorem jk.M_ {c:Nat} {S:ae} (h:jk c S) (m:eW):jk (c+2) (iA S m):=by
 unfold iA;split
 ·exact h.mono (by omega)
 ·split
  ·have h1:=h.dir 0 0 0 (m_ S m).1.dir (m_ S m).1.name 493
   split
   ·exact h1.kw _ _ _
   ·exact h1.mono (by omega)
  ·exact (h.kw _ _ _).mono (by omega)
theorem jk.BI {c:Nat} {S:ae} (h:jk c S) (l:List eW):jk (c+2*l.length) (ey S l):=by
 unfold ey
 induction l generalizing c S with
 | nil=>exact h
 | cons m l ih =>
  rw [List.foldl_cons];have h1:jk (c+2) (if na m=true then S else iA S m):=by
   split
   ·exact h.mono (by omega)
   ·exact h.M_ m
  exact (ih h1).mono (by rw[List.length_cons];omega)
theorem jk.IK {c:Nat} {S:ae} (h:jk c S) (it:dS):jk (c+1) (jD S it):=by
 unfold jD;split
 ·rename_i x hx
  unfold iH at hx;split at hx
  ·cases hx
  split at hx
  ·cases hx
  split at hx
  ·injection hx with hx;subst hx;exact h.dir ..
  split at hx
  ·injection hx with hx;subst hx;exact h.file ..
  split at hx
  ·injection hx with hx;subst hx;exact h.sym ..
  split at hx
  ·split at hx
   ·injection hx with hx;subst hx;exact h.abv ..
   ·cases hx
  ·cases hx
 ·exact h.mono (by omega)
theorem jk.BJ {c:Nat} {S:ae} (h:jk c S) (no:Int) (it:dS):jk (c+2) (gj S no it):=by
 unfold gj;split
 ·exact (h.abw 0 0 0 no it.uid it.gid).mode 0 0 0 no it.mode
 ·exact h.mono (by omega)
theorem jk.item {c:Nat} {p:ae×List Int} (h:jk c p.1) (it:dS):jk (c+3) (s8 p it).1:=(h.IK it).BJ _ _
theorem jk.items {c:Nat} (l:List dS) (p:ae×List Int) (h:jk c p.1):jk (c+3*l.length) (dL p l).1:=by
 unfold dL
 induction l generalizing c p with
 | nil=>exact h
 | cons m l ih =>
  rw [List.foldl_cons];exact (ih _ (h.item m)).mono (by rw[List.length_cons];omega)
theorem jk.times {c:Nat} (l:List (Int×dS)) {S:ae} (h:jk c S):jk (c+l.length) (ee S l):=by
 unfold ee
 induction l generalizing c S with
 | nil=>exact h
 | cons x l ih =>
  rw [List.foldl_cons];have h1:jk (c+1) (mS S x):=by
   unfold mS;split
   ·exact h.time 0 0 0 x.1 x.2.mtime
   ·exact h.mono (by omega)
  exact (ih h1).mono (by rw[List.length_cons];omega)
theorem xQ {ms:List eW} {is:List dS} (h1:ms.length<=10) (h2:is.length<=30):jk 140 (gp ms is):=by
 have a:=(jk.first (j9 ms)).BI ms;have b1:=jk.items is (ey (gP ms) ms,[]) a;have c:=b1.times ((xP ms is).2.zip is);refine c.mono ?_;have:((xP ms is).2.zip is).length<=is.length:=by rw[List.length_zip];omega
 omega
theorem xR {S:ae} {cu cg at_:Int} {p:List UInt8} (h:¬eE S cu cg at_ p≠0) (h2:p≠[46,46]):p.length<=255:=by
 have h:=Decidable.not_not.1 h;unfold eE at h;split at h
 ·cases h
 split at h
 ·cases h
 split at h
 ·cases h
 ·omega
theorem IP (S:ae) (cu cg:Int) (eV:Bool):∀l h,∀at_ m,(dg S cu cg eV at_ l h m).1.name.length<=255:=by
 refine Ml (fun l h ih=>?_);intro at_ m
 cases l with
 | nil=>rw[qD];exact Nat.zero_le _
 | cons p l =>
  rw [dg];split
  ·exact Nat.zero_le _
  rename_i h1;split
  ·exact ih _ _ (.inr ⟨rfl,by simp⟩) _ _
  rename_i h2;split
  ·split
   ·exact xR h1 h2
   ·exact Nat.zero_le _
  split
  ·split
   ·exact Nat.zero_le _
   ·split
    ·exact Nat.zero_le _
    ·exact ih _ _ (.inl ⟨by omega,by omega⟩) _ _
  split
  ·exact Nat.zero_le _
  split
  ·exact xR h1 h2
  ·exact ih _ _ (.inr ⟨rfl,by simp⟩) _ _
theorem kN (S:ae) (cu cg:Int) (p:List UInt8) (eV:Bool):(dV S cu cg p eV).1.name.length<=255:=by
 unfold dV;split
 ·exact IP ..
 ·exact Nat.zero_le _
open Go.ChangeShapes Go.WideShapes Go.ChangeAt Go.RowKit
def kA (w:World) (B b:Nat) (g:bG) (c:Nat) (S:ae):Prop:=∃n:Int,0<=n/\n<=c/\PS w B b g ⟨S,0,n,[],false⟩
def ow (w:World) (B b:Nat) (g:bG) (c:Nat) (S:ae) (w':World):Prop:=∃g',bG.on g' g w/\kA w' B b g' c S/\Only (b::g.list) w w'
def fA (w:World) (B:Nat) (f:cI) (S:ae):Prop:=RS w B f ⟨S,0,0,[],false⟩
def nc (w:World) (B:Nat) (f:cI) (S:ae) (w':World):Prop:=OP w B f ⟨S,0,0,[],false⟩ w'
theorem zl (S:ae) (n:Int):Bd ⟨S,0,n,[],false⟩=0:=rfl
theorem Nf (S:ae) (n:Int) (x:lG):ww ⟨S,0,n,[],false⟩ 0 0 x=⟨cM S 0 0 0 x,0,n+1,[],false⟩:=by
 unfold ww;rw[if_neg (by rw[zl];decide),(lZ (zl S n)).2]
theorem Ng (S:ae) (n:Int) (x:lG):zJ ⟨S,0,n,[],false⟩ 0 0 x=fQ S 0 0 0 x:=by unfold zJ;rw[if_neg (by rw[zl];decide)]
theorem US (S:ae) (n:Int) (x:lG):VZ ⟨S,0,n,[],false⟩ 0 0 x=kW S 0 0 0 x:=by unfold VZ;rw[if_neg (by rw[zl];decide)]
theorem fI.jR {c:Nat} {S:ae} (k:fI c S) {n:Int} (h0:0<=n) (h1:n<=c):eH c ⟨S,0,n,[],false⟩:=⟨k.fE,k.JF,k.last,h0,h1,Nat.zero_le _⟩
section
variable {w:World} {B b:Nat} {g:bG} {c:Nat} {S:ae}
theorem kA.ext {w':World} (h:kA w B b g c S) (k:Ext w w'):kA w' B b g c S:=by obtain⟨n,h1,h2,h3⟩:=h;exact⟨n,h1,h2,h3.ext k⟩
theorem kA.mono {d:Nat} (h:kA w B b g c S) (k:c<=d):kA w B b g d S:=by obtain⟨n,h1,h2,h3⟩:=h;exact⟨n,h1,by omega,h3⟩
theorem kA.lt (h:kA w B b g c S):∀x∈b::g.list,x<w.heap.size:=by obtain⟨n,h1,h2,h3⟩:=h;exact h3.lt
theorem kA.cU (h:kA w B b g c S):dh w B (b::g.list):=by obtain⟨n,h1,h2,h3⟩:=h;exact h3.cU
theorem kA.only {w':World} {L:List Nat} (h:kA w B b g c S) (o:Only L w w') (ha:dh w B L) (hn:∀x∈b::g.list,x∉L):kA w' B b g c S:=by obtain⟨n,h1,h2,h3⟩:=h;exact⟨n,h1,h2,h3.only o ha hn⟩
theorem kA.sys (h:kA w B b g c S):∃n A cap,Has w b (.cells #[.pointer (some ⟨g.bW,0,none⟩),.int .i64 0,.int .i64 n,.slice A 0 cap,.bool false] 102):=by
 obtain ⟨n,_,_,A,cap,_,h2,_⟩:=h;exact ⟨n,A,cap,h2⟩
theorem kA.off (h:kA w B b g c S) {x:Nat} {cs:Array Value} {t:TypeId} (hx:Has w x (.cells cs t)) (h1:t≠102) (h2:t≠106) (h3:t≠157) (h4:t≠205):x∉b::g.list:=by
 obtain ⟨n,_,_,A,cap,⟨_,⟨_,_,k2,es,cl,k3,_⟩,cd,k4,k5⟩,a2,_⟩:=h;obtain ⟨_,cur,k6⟩:=k5.has;intro hb;simp only[bG.list,List.mem_cons,List.not_mem_nil,or_false]at hb;unfold dR at a2;unfold Has at *;rcases hb with rfl|rfl|rfl|rfl|rfl
 ·rw[hx]at a2;injection a2 with e;injection e with _ e;exact h1 e
 ·rw[hx]at k4;injection k4 with e;injection e with _ e;exact h2 e
 ·rw[hx]at k2;injection k2 with e;injection e with _ e;exact h3 e
 ·rw[hx]at k3;injection k3 with e;cases e
 ·rw[hx]at k6;injection k6 with e;injection e with _ e;exact h4 e
theorem ow.mono {d:Nat} {T:ae} {w':World} (h:ow w B b g c T w') (k:c<=d):ow w B b g d T w':=by obtain⟨g',h1,h2,h3⟩:=h;exact⟨g',h1,h2.mono k,h3⟩
theorem ow.pre {T:ae} {w1 w':World} (k:Ext w w1) (h:ow w1 B b g c T w'):ow w B b g c T w':=by
 obtain ⟨g',h1,h2,h3⟩:=h;have hs:=k.size;exact ⟨g',⟨h1.1,fun x hx=>(h1.2 x hx).imp id fun e=>by omega⟩,h2,Only.pre k h3⟩
theorem ow.has {T:ae} {w':World} {x:Nat} {o:Obj} (h:ow w B b g c T w') (k:Has w x o) (hx:x∉b::g.list):Has w' x o:=by obtain⟨_,_,_,h3⟩:=h;exact h3.has k hx
theorem ow.refl (h:kA w B b g c S) {w':World} (k:Ext w w'):ow w B b g c S w':=⟨g,bG.fq _ _,h.ext k,Only.ax k⟩
theorem ow.trans {c2:Nat} {T:ae} {w1 w':World} {g1:bG} (h1:bG.on g1 g w) (o:Only (b::g.list) w w1) (k:ow w1 B b g1 c2 T w'):ow w B b g c2 T w':=by
 obtain ⟨g2,k1,k2,k3⟩:=k;refine ⟨g2,bG.qp h1 k1 o.size,k2,o.trans k3 fun x hx=>?_⟩;rcases List.mem_cons.1 hx with rfl|hx
 ·exact .inl (List.mem_cons_self ..)
 ·rcases h1.2 x hx with e|e
  ·exact .inl (List.mem_cons_of_mem _ e)
  ·exact .inr e
theorem ow.after {c2:Nat} {T:ae} {w0 w':World} (h:ow w B b g c2 T w') (k:kA w B b g c S) (hE:Ext w0 w) (hB:w0.heap.size<=B):Ext w0 w':=by
 obtain ⟨_,_,_,h3⟩:=h;exact h3.after hE fun x hx=>by have:=(k.cU x hx).1;omega
theorem QP {n:Int} (h0:0<=n) (h1:n<=c) {x:lG} {e:Ending} {w':World} (k:TW w B b g ⟨S,0,n,[],false⟩ 0 0 x e w'):e=.returned (.int .i64 (fQ S 0 0 0 x))/\ow w B b g (c+1) (cM S 0 0 0 x) w':=by
 obtain ⟨k1,k2,k3⟩:=k;rw [Ng]at k1;rw [Nf]at k2;exact ⟨k1,g,bG.fq _ _,⟨n+1,by omega,by omega,k2⟩,k3⟩
theorem UT {n:Int} (h0:0<=n) (h1:n<=c) {x:lG} {e:Ending} {w':World} (k:Ch2 w B b g ⟨S,0,n,[],false⟩ 0 0 x e w'):e=.returned (.tuple #[.int .i64 (kW S 0 0 0 x),.int .i64 (fQ S 0 0 0 x)])/\ow w B b g (c+1) (cM S 0 0 0 x) w':=by
 obtain ⟨k1,k2,k3⟩:=k;rw [US,Ng]at k1;rw [Nf]at k2;exact ⟨k1,g,bG.fq _ _,⟨n+1,by omega,by omega,k2⟩,k3⟩
abbrev kB:Value:=.agg #[.int .i64 0,.int .i64 0]
theorem kA.find (h:kA w B b g c S) (k:fI c S) (hc:c<=900) (p:List UInt8) (eV:Bool) (hp:p.length<=1000000) :
  Calls Tryz.prog 110 #[.pointer (some ⟨b,0,none⟩),kB,bs p,.bool eV] w (iT w (dV S 0 0 p eV)):=by
 obtain ⟨n,h0,h1,h2⟩:=h;exact h2.find (k.jR h0 h1) hc 0 0 p eV hp
theorem kA.stat (h:kA w B b g c S) (k:fI c S) (no:Int) :
  Calls Tryz.prog 45 #[.pointer (some ⟨b,0,none⟩),.int .i64 no] w (aI w (.tuple #[gU (ac S.nodes no),.int .i64 (cT S no)])):=by
 obtain ⟨n,h0,h1,h2⟩:=h;exact h2.stat (k.jR h0 h1) no
theorem kA.da (h:kA w B b g c S) (k:fI c S) (hc:c<=900) (dir:Int) (nm:List UInt8) (mode:Int) :
  Calls Tryz.prog 111 #[.pointer (some ⟨b,0,none⟩),kB,.int .i64 dir,bs nm,.int .i64 mode] w (fun e w'=>e=.returned (.tuple #[.int .i64 (kW S 0 0 0 (.da dir nm mode)),.int .i64 (fQ S 0 0 0 (.da dir nm mode))])/\ow w B b g (c+1) (cM S 0 0 0 (.da dir nm mode)) w'):=by
 obtain ⟨n,h0,h1,h2⟩:=h;exact (h2.da (k.jR h0 h1) hc rfl 0 0 dir nm mode).mono fun _ _ q=>UT h0 h1 q
theorem kA.cL (h:kA w B b g c S) (k:fI c S) (hc:c<=900) (dir:Int) (nm:List UInt8) (mode:Int) (data:List UInt8) (lr:data.length<=1000000000) :
  Calls Tryz.prog 113 #[.pointer (some ⟨b,0,none⟩),kB,.int .i64 dir,bs nm,.int .i64 mode,bs data] w (fun e w'=>e=.returned (.tuple #[.int .i64 (kW S 0 0 0 (.cL dir nm mode data)),.int .i64 (fQ S 0 0 0 (.cL dir nm mode data))])/\ow w B b g (c+1) (cM S 0 0 0 (.cL dir nm mode data)) w'):=by
 obtain ⟨n,h0,h1,h2⟩:=h;exact (h2.cL (k.jR h0 h1) hc rfl 0 0 dir nm mode data lr).mono fun _ _ q=>UT h0 h1 q
theorem kA.symlink (h:kA w B b g c S) (k:fI c S) (hc:c<=900) (dir:Int) (nm text:List UInt8) (lr:text.length<=1000000000) :
  Calls Tryz.prog 114 #[.pointer (some ⟨b,0,none⟩),kB,.int .i64 dir,bs nm,bs text] w (fun e w'=>e=.returned (.tuple #[.int .i64 (kW S 0 0 0 (.symlink dir nm text)),.int .i64 (fQ S 0 0 0 (.symlink dir nm text))])/\ow w B b g (c+1) (cM S 0 0 0 (.symlink dir nm text)) w'):=by
 obtain ⟨n,h0,h1,h2⟩:=h;exact (h2.symlink (k.jR h0 h1) hc rfl 0 0 dir nm text lr).mono fun _ _ q=>UT h0 h1 q
theorem kA.link (h:kA w B b g c S) (k:fI c S) (hc:c<=900) (no dir:Int) (nm:List UInt8) :
  Calls Tryz.prog 115 #[.pointer (some ⟨b,0,none⟩),kB,.int .i64 no,.int .i64 dir,bs nm] w (fun e w'=>e=.returned (.int .i64 (fQ S 0 0 0 (.link no dir nm)))/\ow w B b g (c+1) (cM S 0 0 0 (.link no dir nm)) w'):=by
 obtain ⟨n,h0,h1,h2⟩:=h;exact (h2.link (k.jR h0 h1) hc rfl 0 0 no dir nm).mono fun _ _ q=>QP h0 h1 q
theorem kA.dP (h:kA w B b g c S) (k:fI c S) (hc:c<=900) (no mode:Int) :
  Calls Tryz.prog 68 #[.pointer (some ⟨b,0,none⟩),kB,.int .i64 no,.int .i64 mode] w (fun e w'=>e=.returned (.int .i64 (fQ S 0 0 0 (.dP no mode)))/\ow w B b g (c+1) (cM S 0 0 0 (.dP no mode)) w'):=by
 obtain ⟨n,h0,h1,h2⟩:=h;exact (h2.dP (k.jR h0 h1) hc rfl 0 0 no mode).mono fun _ _ q=>QP h0 h1 q
theorem kA.eu (h:kA w B b g c S) (k:fI c S) (hc:c<=900) (no uid gid:Int) :
  Calls Tryz.prog 67 #[.pointer (some ⟨b,0,none⟩),kB,.int .i64 no,.int .i64 uid,.int .i64 gid] w (fun e w'=>e=.returned (.int .i64 (fQ S 0 0 0 (.eu no uid gid)))/\ow w B b g (c+1) (cM S 0 0 0 (.eu no uid gid)) w'):=by
 obtain ⟨n,h0,h1,h2⟩:=h;exact (h2.eu (k.jR h0 h1) hc rfl 0 0 no uid gid).mono fun _ _ q=>QP h0 h1 q
theorem kA.fP (h:kA w B b g c S) (k:fI c S) (hc:c<=900) (no mt:Int) :
  Calls Tryz.prog 69 #[.pointer (some ⟨b,0,none⟩),kB,.int .i64 no,.int .i64 mt] w (fun e w'=>e=.returned (.int .i64 (fQ S 0 0 0 (.fP no mt)))/\ow w B b g (c+1) (cM S 0 0 0 (.fP no mt)) w'):=by
 obtain ⟨n,h0,h1,h2⟩:=h;exact (h2.fP (k.jR h0 h1) hc rfl 0 0 no mt).mono fun _ _ q=>QP h0 h1 q
theorem kA.kw (h:kA w B b g c S) (k:fI c S) (hc:c<=900) (at_ bl nd:Int) :
  Calls Tryz.prog 112 #[.pointer (some ⟨g.bW,0,none⟩),.int .i64 at_,.int .i64 bl,.int .i64 nd] w (fun e w'=>(∃v,e=.returned v)/\ow w B b g c (cH S at_ bl nd) w'):=by
 obtain ⟨n,h0,h1,h2⟩:=h;have hn:=h2.ja;obtain ⟨A,cap,a1,a2,a3,a4,a5⟩:=h2;refine (CR B g S at_ bl nd w a1 k.fE.ah k.fE.eight k.fE.bc (by have:=k.fE.last;omega) (by have:=k.last;omega)).mono ?_;rintro e w' ⟨rfl,bD,K,O,hD⟩;refine ⟨⟨_,rfl⟩,⟨g.bW,g.bT,g.bM,bD⟩,⟨rfl,fun x hx=>?_⟩,⟨n,h0,h1,A,cap,K,dR.only a2 O hn,a3.only O a1.cU,a4,a5⟩,O.mono fun y hy=>List.mem_cons_of_mem _ hy⟩;simp only[bG.list,List.mem_cons,List.not_mem_nil,or_false]at hx|-;rcases hx with rfl|rfl|rfl|rfl
 ·exact .inl (.inl rfl)
 ·exact .inl (.inr (.inl rfl))
 ·exact .inl (.inr (.inr (.inl rfl)))
 ·rcases hD with e|e
  ·exact .inl (.inr (.inr (.inr e)))
  ·exact .inr e
end
section
variable {w:World} {B:Nat} {f:cI} {c:Nat} {S:ae}
theorem fA.ext {w':World} (h:fA w B f S) (k:Ext w w'):fA w' B f S:=RS.ext h k
theorem fA.lt (h:fA w B f S):∀x∈f.list,x<w.heap.size:=RS.lt h
theorem fA.cU (h:fA w B f S):dh w B f.list:=RS.cU h
theorem fA.only {w':World} {L:List Nat} (h:fA w B f S) (o:Only L w w') (ha:dh w B L) (hn:∀x∈f.list,x∉L):fA w' B f S:=RS.only h o ha hn
theorem fA.off (h:fA w B f S) {x:Nat} {cs:Array Value} {t:TypeId} (hx:Has w x (.cells cs t)) (h1:t≠78) (h2:t≠66) (h3:t≠191):x∉f.list:=by
 obtain ⟨A,cap,⟨_,cn,ce,k2,⟨xs,k3,_⟩,k4⟩,_⟩:=h;obtain ⟨_,yy,k5⟩:=bY k3;obtain ⟨_,Gq,k6⟩:=bY k4;intro hb;simp only[cI.list,List.mem_cons,List.not_mem_nil,or_false]at hb;unfold Has at *;rcases hb with rfl|rfl|rfl
 ·rw[hx]at k2;injection k2 with e;injection e with _ e;exact h1 e
 ·rw[hx]at k5;injection k5 with e;injection e with _ e;exact h2 e
 ·rw[hx]at k6;injection k6 with e;injection e with _ e;exact h3 e
theorem nc.pre {T:ae} {w1 w':World} (k:Ext w w1) (h:nc w1 B f T w'):nc w B f T w':=by
 obtain ⟨f',h1,h2,h3⟩:=h;have hs:=k.size;exact ⟨f',h1,Only.pre k h2,⟨h3.1,fun x hx=>(h3.2 x hx).imp id fun e=>by omega⟩⟩
theorem nc.has {T:ae} {w':World} {x:Nat} {o:Obj} (h:nc w B f T w') (k:Has w x o) (hx:x∉f.list):Has w' x o:=by obtain⟨_,_,h3,_⟩:=h;exact h3.has k hx
theorem nc.refl (h:fA w B f S) {w':World} (k:Ext w w'):nc w B f S w':=⟨f,h.ext k,Only.ax k,cI.fq _ _⟩
theorem nc.trans {T:ae} {w1 w':World} {f1:cI} (h1:cI.on f1 f w) (o:Only f.list w w1) (k:nc w1 B f1 T w'):nc w B f T w':=by
 obtain ⟨f2,k1,k3,k2⟩:=k;refine ⟨f2,k1,o.trans k3 fun x hx=>?_,cI.qp h1 k2 o.size⟩;rcases h1.2 x hx with e|e
 ·exact .inl e
 ·exact .inr e
theorem fA.find (h:fA w B f S) (k:fI c S) (hc:c<=900) (p:List UInt8) (eV:Bool) (hp:p.length<=1000000) :
  Calls Tryz.prog 40 #[.pointer (some ⟨f.bF,0,none⟩),kB,bs p,.bool eV] w (iT w (dV S 0 0 p eV)):=by
 obtain ⟨X,F⟩:=RS.Sh h;exact sY B f S X 0 0 p eV w F k.fE (by omega) (by have:=k.last;omega) hp
theorem fA.get (h:fA w B f S) (k:fI c S) (hc:c<=900) (no:Int) :
  Calls Tryz.prog 30 #[.pointer (some ⟨f.bF,0,none⟩),.int .i64 no] w (PA w B S.nodes no):=by
 obtain ⟨X,F⟩:=RS.Sh h;exact eK B f S X no w F (by have:=k.fE.count;have:=k.last;omega) k.fE.bc
theorem fA.da (h:fA w B f S) (k:fI c S) (hc:c<=900) (dir:Int) (nm:List UInt8) (mode:Int) (jA:nm.length<=1000000) :
  Calls Tryz.prog 122 #[.pointer (some ⟨f.bF,0,none⟩),kB,.int .i64 dir,bs nm,.int .i64 mode] w (fun e w'=>e=.returned (.tuple #[.int .i64 (kW S 0 0 0 (.da dir nm mode)),.int .i64 (fQ S 0 0 0 (.da dir nm mode))])/\nc w B f (cM S 0 0 0 (.da dir nm mode)) w'):=
 RS.da h (k.jR (Int.le_refl _) (by omega)) hc 0 0 dir nm mode jA
theorem fA.cL (h:fA w B f S) (k:fI c S) (hc:c<=900) (dir:Int) (nm:List UInt8) (mode:Int) (data:List UInt8) (jA:nm.length<=1000000) (lr:data.length<=1000000000) :
  Calls Tryz.prog 124 #[.pointer (some ⟨f.bF,0,none⟩),kB,.int .i64 dir,bs nm,.int .i64 mode,bs data] w (fun e w'=>e=.returned (.tuple #[.int .i64 (kW S 0 0 0 (.cL dir nm mode data)),.int .i64 (fQ S 0 0 0 (.cL dir nm mode data))])/\nc w B f (cM S 0 0 0 (.cL dir nm mode data)) w'):=
 RS.cL h (k.jR (Int.le_refl _) (by omega)) hc 0 0 dir nm mode data jA lr
theorem fA.symlink (h:fA w B f S) (k:fI c S) (hc:c<=900) (dir:Int) (nm text:List UInt8) (jA:nm.length<=1000000) (lr:text.length<=1000000) :
  Calls Tryz.prog 125 #[.pointer (some ⟨f.bF,0,none⟩),kB,.int .i64 dir,bs nm,bs text] w (fun e w'=>e=.returned (.tuple #[.int .i64 (kW S 0 0 0 (.symlink dir nm text)),.int .i64 (fQ S 0 0 0 (.symlink dir nm text))])/\nc w B f (cM S 0 0 0 (.symlink dir nm text)) w'):=
 RS.symlink h (k.jR (Int.le_refl _) (by omega)) hc 0 0 dir nm text jA lr
theorem fA.link (h:fA w B f S) (k:fI c S) (hc:c<=900) (no dir:Int) (nm:List UInt8) (jA:nm.length<=1000000) :
  Calls Tryz.prog 126 #[.pointer (some ⟨f.bF,0,none⟩),kB,.int .i64 no,.int .i64 dir,bs nm] w (fun e w'=>e=.returned (.int .i64 (fQ S 0 0 0 (.link no dir nm)))/\nc w B f (cM S 0 0 0 (.link no dir nm)) w'):=
 RS.link h (k.jR (Int.le_refl _) (by omega)) hc 0 0 no dir nm jA
theorem fA.dP (h:fA w B f S) (k:fI c S) (hc:c<=900) (no mode:Int) :
  Calls Tryz.prog 76 #[.pointer (some ⟨f.bF,0,none⟩),kB,.int .i64 no,.int .i64 mode] w (fun e w'=>e=.returned (.int .i64 (fQ S 0 0 0 (.dP no mode)))/\nc w B f (cM S 0 0 0 (.dP no mode)) w'):=
 RS.dP h (k.jR (Int.le_refl _) (by omega)) hc 0 0 no mode
theorem fA.eu (h:fA w B f S) (k:fI c S) (hc:c<=900) (no uid gid:Int) :
  Calls Tryz.prog 75 #[.pointer (some ⟨f.bF,0,none⟩),kB,.int .i64 no,.int .i64 uid,.int .i64 gid] w (fun e w'=>e=.returned (.int .i64 (fQ S 0 0 0 (.eu no uid gid)))/\nc w B f (cM S 0 0 0 (.eu no uid gid)) w'):=
 RS.eu h (k.jR (Int.le_refl _) (by omega)) hc 0 0 no uid gid
theorem fA.fP (h:fA w B f S) (k:fI c S) (hc:c<=900) (no mt:Int) :
  Calls Tryz.prog 77 #[.pointer (some ⟨f.bF,0,none⟩),kB,.int .i64 no,.int .i64 mt] w (fun e w'=>e=.returned (.int .i64 (fQ S 0 0 0 (.fP no mt)))/\nc w B f (cM S 0 0 0 (.fP no mt)) w'):=
 RS.fP h (k.jR (Int.le_refl _) (by omega)) hc 0 0 no mt
theorem fA.kw (h:fA w B f S) (k:fI c S) (hc:c<=900) (at_ bl nd:Int) :
  Calls Tryz.prog 123 #[.pointer (some ⟨f.bF,0,none⟩),.int .i64 at_,.int .i64 bl,.int .i64 nd] w (fun e w'=>(∃v,e=.returned v)/\nc w B f (cH S at_ bl nd) w'):=by
 obtain ⟨A,cap,F,P⟩:=h;refine (CS B f S _ at_ bl nd w F k.fE.eight k.fE.bc (by have:=k.fE.last;omega) (by have:=k.last;omega) (by have:=k.fE.count;have:=k.last;omega)).mono ?_;rintro e w' ⟨rfl,bN,bE,K,O,h1,h2⟩;refine ⟨⟨_,rfl⟩,⟨f.bF,bN,bE⟩,⟨A,cap,K,P.only O F.cU⟩,O,rfl,fun x hx=>?_⟩;simp only[cI.list,List.mem_cons,List.not_mem_nil,or_false]at hx|-;rcases hx with rfl|rfl|rfl
 ·exact .inl (.inl rfl)
 ·rcases h1 with e|e
  ·exact .inl (.inr (.inl e))
  ·exact .inr e
 ·rcases h2 with e|e
  ·exact .inl (.inr (.inr e))
  ·exact .inr e
end
end
section
open Go.ChangeShapes Go.WideShapes Go.ChangeAt Go.RowKit
def vE:gJ eW:=⟨22,119,3,32,.agg #[.string ⟨#[]⟩,.int .i64 0,.int .i64 0],fun x=>[.string (bs x.path),.int .i64 x.b,.int .i64 x.n],by decide,Tryz.underlying22,by kernel_rfl,rfl,fun _=>rfl,fun x u hu=>by
 simp only[List.mem_cons,List.not_mem_nil,or_false]at hu;rcases hu with rfl|rfl|rfl<;>rfl,by decide⟩
def tC:gJ dS:=⟨23,72,7,72,.agg #[.string ⟨#[]⟩,.int .i64 0,.int .i64 0,.int .i64 0,.int .i64 0,.int .i64 0,.string ⟨#[]⟩],fun x=>[.string (bs x.path),.int .i64 x.kind,.int .i64 x.mode,.int .i64 x.uid,.int .i64 x.gid,.int .i64 x.mtime,.string (bs x.data)],by decide,Tryz.underlying23,by kernel_rfl,rfl,fun _=>rfl,fun x u hu=>by
 simp only[List.mem_cons,List.not_mem_nil,or_false]at hu;rcases hu with rfl|rfl|rfl|rfl|rfl|rfl|rfl<;>rfl,by decide⟩
theorem eP.M_ {w:World} {A:Option Addr} {l:List eW} (h:eP vE w A l) {k:Nat} (hk:k<l.length):∃b o,A=some ⟨b,o,none⟩/\b<w.heap.size/\w.cell? ⟨b,o+k*3,none⟩=some (.string (bs l[k].path))/\w.cell? ⟨b,o+k*3+1,none⟩=some (.int .i64 l[k].b)/\w.cell? ⟨b,o+k*3+2,none⟩=some (.int .i64 l[k].n):=by
 rcases h with h|⟨b,o,hA,hb,hc⟩
 ·rw[h]at hk;cases hk
 ·exact⟨b,o,hA,hb,hc k hk 0 (by decide),hc k hk 1 (by decide),hc k hk 2 (by decide)⟩
theorem eP.IK {w:World} {A:Option Addr} {l:List dS} (h:eP tC w A l) {k:Nat} (hk:k<l.length):∃b o,A=some ⟨b,o,none⟩/\b<w.heap.size/\w.cell? ⟨b,o+k*7,none⟩=some (.string (bs l[k].path))/\w.cell? ⟨b,o+k*7+1,none⟩=some (.int .i64 l[k].kind)/\w.cell? ⟨b,o+k*7+2,none⟩=some (.int .i64 l[k].mode) /\
  w.cell? ⟨b,o+k*7+3,none⟩=some (.int .i64 l[k].uid)/\w.cell? ⟨b,o+k*7+4,none⟩=some (.int .i64 l[k].gid)/\w.cell? ⟨b,o+k*7+5,none⟩=some (.int .i64 l[k].mtime)/\w.cell? ⟨b,o+k*7+6,none⟩=some (.string (bs l[k].data)):=by
 rcases h with h|⟨b,o,hA,hb,hc⟩
 ·rw[h]at hk;cases hk
 ·exact⟨b,o,hA,hb,hc k hk 0 (by decide),hc k hk 1 (by decide),hc k hk 2 (by decide),hc k hk 3 (by decide),hc k hk 4 (by decide),hc k hk 5 (by decide),hc k hk 6 (by decide)⟩
theorem xS:eQ []=(65536,65536):=rfl
theorem xT {m:eW} {t:List eW} (h1:na m=true) (h2:cx m.b m.n=true):eQ (m::t)=(m.b,m.n):=by unfold eQ;rw[List.find?_cons,h1,h2];rfl
theorem qO {m:eW} {t:List eW} (h:na m=false\/cx m.b m.n=false):eQ (m::t)=eQ t:=by
 have e:(na m&&cx m.b m.n)=false:=by rcases h with h|h<;>rw[h]<;>simp
 unfold eQ;rw[List.find?_cons,e]
theorem qP (p:List UInt8):((bs p).toList == [47])=(p == [47]):=by rw[bk]
section
variable {S:ae} {it:dS}
theorem jh {x:lG} (h:iH S it=some x):jD S it=cM S 0 0 0 x:=by unfold jD;rw[h]
theorem ji {x:lG} (h:iH S it=some x):iU S it=kW S 0 0 0 x:=by unfold iU;rw[h]
theorem sB (h:iH S it=none):jD S it=S:=by unfold jD;rw[h]
theorem sC (h:iH S it=none):iU S it=if (eJ S it).2=0/\(eJ S it).1.no≠0/\it.kind=1/\(ac S.nodes (eJ S it).1.no).kind=1 then (eJ S it).1.no else 0:=by unfold iU;rw[h]
theorem FT (h:(eJ S it).2≠0):jD S it=S/\iU S it=0:=by
 have hc:iH S it=none:=by unfold iH;rw[if_pos h]
 exact ⟨sB hc,by rw[sC hc,if_neg (fun k=>h k.1)]⟩
theorem xU (h:(eJ S it).2=0) (h1:(eJ S it).1.no≠0):jD S it=S/\iU S it=if it.kind=1/\(ac S.nodes (eJ S it).1.no).kind=1 then (eJ S it).1.no else 0:=by
 have hc:iH S it=none:=by unfold iH;rw[if_neg (fun k=>k h),if_pos h1]
 refine ⟨sB hc,?_⟩;rw [sC hc]
 by_cases h2:it.kind=1/\(ac S.nodes (eJ S it).1.no).kind=1
 ·rw[if_pos ⟨h,h1,h2⟩,if_pos h2]
 ·rw[if_neg (fun k=>h2 k.2.2),if_neg h2]
theorem FU (h:(eJ S it).2=0) (h1:(eJ S it).1.no=0):iH S it=if it.kind=1 then some (.da (eJ S it).1.dir (eJ S it).1.name 493)
 else if it.kind=2 then some (.cL (eJ S it).1.dir (eJ S it).1.name 420 it.data)
 else if it.kind=3 then some (.symlink (eJ S it).1.dir (eJ S it).1.name it.data)
 else if it.kind=4 then (if (vB S it).2=0 then some (.link (vB S it).1.no (eJ S it).1.dir (eJ S it).1.name) else none)
 else none:=by
 unfold iH;rw[if_neg (fun k=>k h),if_neg (fun k=>k h1)]
theorem qQ (h1:(eJ S it).1.no=0) (h:iH S it=none):jD S it=S/\iU S it=0:=⟨sB h,by rw[sC h,if_neg (fun k=>k.2.1 h1)]⟩
end
theorem Nh {w:World} {B b:Nat} {g:bG} {c:Nat} {S:ae} (h:kA w B b g c S) (k:fI c S) (hc:c<=890) (it:dS) (hp:it.path.length<=1000000) (hd:it.data.length<=1000000) :
  Calls Tryz.prog 66 #[.pointer (some ⟨b,0,none⟩),.agg #[bs it.path,it.kind,it.mode,it.uid,it.gid,it.mtime,bs it.data]] w (fun e w'=>e=.returned (.int .i64 (iU S it))/\ow w B b g (c+1) (jD S it) w'):=by
 obtain ⟨W1,bL⟩:∃W,W=w.alloc (.cells #[bs it.path,it.kind,it.mode,it.uid,it.gid,it.mtime,bs it.data] 72):=⟨_,rfl⟩;obtain ⟨b3,oT⟩:∃b,b=w.heap.size:=⟨_,rfl⟩;have E1:Ext w W1:=by rw[bL];exact (Ext.refl _).alloc _
 have B1:Has W1 b3 (.cells #[bs it.path,it.kind,it.mode,it.uid,it.gid,it.mtime,bs it.data] 72):=by rw[bL,oT];exact Has.new _ _
 have KF:=zH ((h.ext E1).find k (by omega) it.path false hp);obtain⟨r,hr⟩:=zE (eJ S it);rw [show dV S 0 0 it.path false=r from hr.symm]at KF;have FV:Hid (Calls Tryz.prog 110 #[.pointer (some ⟨b,0,none⟩),.agg #[.int .i64 0,.int .i64 0],bs it.path,.bool false] W1 (aI W1 (.tuple #[.agg #[.int .i64 r.1.dir,bs r.1.name,r.1.no,.bool r.1.fR],.int .i64 r.2]))):=KF.out;have HR:=zH hr;have c0:=B1.cell 0;have cz:=B1.lt;simp only[gA,gB]at c0;have qR:=zH B1;have H1:=zH (h.ext E1);have H0:=zH h;clear h KF hr B1;go_enter Tryz.func66,Tryz.ntmps66;go_upto_region 1 with fail;rw [<-bL,<-oT];clear bL oT;go_wp2_with fail;refine FV.out.mono ?_;rintro e w1 ⟨rfl,b1⟩;clear FV c0 cz;go_upto_region 2 with fail;obtain ⟨W2,cQ⟩:∃W,W=w1.alloc (.cells #[.int .i64 r.1.dir,bs r.1.name,r.1.no,.bool r.1.fR] 82):=⟨_,rfl⟩;obtain ⟨b4,oq⟩:∃b,b=w1.heap.size:=⟨_,rfl⟩;have E2:Ext W1 W2:=by rw[cQ];exact b1.alloc _
 have X2:Has W2 b4 (.cells #[.int .i64 r.1.dir,bs r.1.name,r.1.no,.bool r.1.fR] 82):=by rw[cQ,oq];exact Has.new _ _
 rw [<-cQ,<-oq];clear cQ oq b1;obtain ⟨m1,fX⟩:∃m,m=ac S.nodes r.1.no:=⟨_,rfl⟩;have KS:=zH ((H1.out.ext E2).stat k r.1.no);rw [<-fX]at KS;have HM1:=zH fX;obtain ⟨es,hes⟩:∃e,e=cT S r.1.no:=⟨_,rfl⟩;rw [<-hes]at KS;unfold gU at KS;have ra:=zH X2;have x2:=X2.cell 2;have xz:=X2.lt;simp only[gA,gB,gC]at x2;clear fX hes X2;go_wp2_with fail;refine KS.out.mono ?_;rintro e w3 ⟨rfl,Xb⟩;clear KS x2 xz;go_upto_block 0 with fail;obtain ⟨W3,cj⟩:∃W,W=w3.alloc (.cells #[m1.no,m1.dev,m1.kind,m1.mode,m1.uid,m1.gid,m1.ag,.int .i64 m1.data.length,m1.mtime,m1.ctime] 95):=⟨_,rfl⟩;obtain ⟨b7,sP⟩:∃b,b=w3.heap.size:=⟨_,rfl⟩;have E3:Ext W2 W3:=by rw[cj];exact Xb.alloc _
 have S3:Has W3 b7 (.cells #[m1.no,m1.dev,m1.kind,m1.mode,m1.uid,m1.gid,m1.ag,.int .i64 m1.data.length,m1.mtime,m1.ctime] 95):=by rw[cj,sP];exact Has.new _ _
 rw [<-cj,<-sP];clear cj sP Xb;have X3:=ra.out.ext E3;have B3:=qR.out.ext (E2.trans E3);have P3:=H1.out.ext (E2.trans E3);have mR:=(E1.trans E2).trans E3;have x0:=X3.cell 0;have x1:=X3.cell 1;have x2:=X3.cell 2;have xz:=X3.lt;have d1:=B3.cell 1;have d6:=B3.cell 6;have dz:=B3.lt;have s2:=S3.cell 2;have sz:=S3.lt;simp only[gA,gB,gC]at x0 x1 x2 d1 d6 s2;clear X3 B3 S3
 by_cases he:r.2=0
 case neg =>
  have t1:(r.2 != 0)=true:=by simpa using he
  have hT:Hid (jD S it=S/\iU S it=0):=FT (by rw[<-HR.out];exact he);clear he P3;go_wp2_with fail;go_ret;exact ⟨by rw[hT.out.2];rfl,by rw[hT.out.1];exact (ow.refl H0.out mR).mono (by omega)⟩
 have t1:(r.2 != 0)=false:=by simpa using he
 have HE:=zH he
 by_cases aW:r.1.no=0
 case neg =>
  have t2:(r.1.no != 0)=true:=by simpa using aW
  have hT:Hid (jD S it=S/\iU S it=if it.kind=1/\m1.kind=1 then r.1.no else 0):=by show _/\_;rw[HM1.out,HR.out];exact xU (by rw[<-HR.out];exact HE.out) (by rw[<-HR.out];exact aW)
  clear he aW P3
  by_cases hk:it.kind=1/\m1.kind=1
  ·have t3:(it.kind == 1)=true:=by simpa using hk.1
   have t4:(m1.kind == 1)=true:=by simpa using hk.2
   have zL:Hid (iU S it=r.1.no):=by show _=_;rw[hT.out.2,if_pos hk]
   clear hk;go_wp2_with fail;go_ret;exact ⟨by rw[zL.out];rfl,by rw[hT.out.1];exact (ow.refl H0.out mR).mono (by omega)⟩
  ·have zL:Hid (iU S it=0):=by show _=_;rw[hT.out.2,if_neg hk]
   by_cases jK:it.kind=1
   ·have t3:(it.kind == 1)=true:=by simpa using jK
    have t4:(m1.kind == 1)=false:=by simpa using fun q=>hk ⟨jK,q⟩
    clear hk jK;go_wp2_with fail;go_ret;exact ⟨by rw[zL.out];rfl,by rw[hT.out.1];exact (ow.refl H0.out mR).mono (by omega)⟩
   ·have t3:(it.kind == 1)=false:=by simpa using jK
    clear hk jK;go_wp2_with fail;go_ret;exact ⟨by rw[zL.out];rfl,by rw[hT.out.1];exact (ow.refl H0.out mR).mono (by omega)⟩
 have t2:(r.1.no != 0)=false:=by simpa using aW
 have hC:Hid (iH S it=if it.kind=1 then some (.da r.1.dir r.1.name 493) else if it.kind=2 then some (.cL r.1.dir r.1.name 420 it.data) else if it.kind=3 then some (.symlink r.1.dir r.1.name it.data)
   else if it.kind=4 then (if (vB S it).2=0 then some (.link (vB S it).1.no r.1.dir r.1.name) else none) else none):=by show _=_;rw[HR.out];exact FU (by rw[<-HR.out];exact HE.out) (by rw[<-HR.out];exact aW)
 have SA:Hid ((eJ S it).1.no=0):=by show _=_;rw[<-HR.out];exact aW
 clear he aW
 by_cases k1:it.kind=1
 ·have t3:(it.kind == 1)=true:=by simpa using k1
  obtain ⟨X,hX⟩:∃X:lG,X=.da r.1.dir r.1.name 493:=⟨_,rfl⟩;have pQ:iH S it=some X:=by rw[hC.out,if_pos k1,hX]
  have KC:=zH (P3.da k (by omega) r.1.dir r.1.name 493);rw [<-hX,<-jh pQ,<-ji pQ]at KC;clear k1 hX pQ hC P3;go_wp2_with fail;refine KC.out.mono ?_;rintro e w5 ⟨rfl,T5⟩;go_wp2_with fail;go_ret;exact ⟨rfl,T5.pre mR⟩
 have t3:(it.kind == 1)=false:=by simpa using k1
 by_cases k2:it.kind=2
 ·have t4:(it.kind == 2)=true:=by simpa using k2
  obtain ⟨X,hX⟩:∃X:lG,X=.cL r.1.dir r.1.name 420 it.data:=⟨_,rfl⟩;have pQ:iH S it=some X:=by rw[hC.out,if_neg k1,if_pos k2,hX]
  have KC:=zH (P3.cL k (by omega) r.1.dir r.1.name 420 it.data (by omega));rw [<-hX,<-jh pQ,<-ji pQ]at KC;clear k1 k2 hX pQ hC P3;go_wp2_with fail;refine KC.out.mono ?_;rintro e w5 ⟨rfl,T5⟩;go_wp2_with fail;go_ret;exact ⟨rfl,T5.pre mR⟩
 have t4:(it.kind == 2)=false:=by simpa using k2
 by_cases k3:it.kind=3
 ·have t5:(it.kind == 3)=true:=by simpa using k3
  obtain ⟨X,hX⟩:∃X:lG,X=.symlink r.1.dir r.1.name it.data:=⟨_,rfl⟩;have pQ:iH S it=some X:=by rw[hC.out,if_neg k1,if_neg k2,if_pos k3,hX]
  have KC:=zH (P3.symlink k (by omega) r.1.dir r.1.name it.data (by omega));rw [<-hX,<-jh pQ,<-ji pQ]at KC;clear k1 k2 k3 hX pQ hC P3;go_wp2_with fail;refine KC.out.mono ?_;rintro e w5 ⟨rfl,T5⟩;go_wp2_with fail;go_ret;exact ⟨rfl,T5.pre mR⟩
 have t5:(it.kind == 3)=false:=by simpa using k3
 by_cases k4:it.kind=4
 case neg =>
  have t6:(it.kind == 4)=false:=by simpa using k4
  have hT:Hid (jD S it=S/\iU S it=0):=qQ SA.out (by rw[hC.out,if_neg k1,if_neg k2,if_neg k3,if_neg k4]);clear k1 k2 k3 k4 hC P3;go_wp2_with fail;go_ret;exact ⟨by rw[hT.out.2];rfl,by rw[hT.out.1];exact (ow.refl H0.out mR).mono (by omega)⟩
 have t6:(it.kind == 4)=true:=by simpa using k4
 obtain⟨y,hy⟩:=zE (vB S it);have QQ:Hid (iH S it=if y.2=0 then some (.link y.1.no r.1.dir r.1.name) else none):=by show _=_;rw[hC.out,if_neg k1,if_neg k2,if_neg k3,if_pos k4,hy]
 have KF:=zH (P3.find k (by omega) it.data false hd);rw [show dV S 0 0 it.data false=y from hy.symm]at KF;have YZ:Hid (Calls Tryz.prog 110 #[.pointer (some ⟨b,0,none⟩),.agg #[.int .i64 0,.int .i64 0],bs it.data,.bool false] W3 (aI W3 (.tuple #[.agg #[.int .i64 y.1.dir,bs y.1.name,y.1.no,.bool y.1.fR],.int .i64 y.2]))):=KF.out;have QR:=zH P3;have MH:=zH (ra.out.ext E3);clear k1 k2 k3 k4 hC hy KF P3 s2 sz;go_wp2_with fail;refine YZ.out.mono ?_;rintro e w4 ⟨rfl,Y0⟩;clear YZ x0 x1 x2 xz d1 d6 dz;go_upto_region 19 with fail;obtain ⟨W4,ij⟩:∃W,W=w4.alloc (.cells #[.int .i64 y.1.dir,bs y.1.name,y.1.no,.bool y.1.fR] 82):=⟨_,rfl⟩;obtain ⟨CC,mL⟩:∃b,b=w4.heap.size:=⟨_,rfl⟩;have E4:Ext W3 W4:=by rw[ij];exact Y0.alloc _
 have Y4:Has W4 CC (.cells #[.int .i64 y.1.dir,bs y.1.name,y.1.no,.bool y.1.fR] 82):=by rw[ij,mL];exact Has.new _ _
 rw [<-ij,<-mL];clear ij mL Y0;have X4:=MH.out.ext E4;have P4:=QR.out.ext E4;have x0:=X4.cell 0;have x1:=X4.cell 1;have xz:=X4.lt;have y2:=Y4.cell 2;have yz:=Y4.lt;simp only[gA,gB,gC]at x0 x1 y2;clear X4 Y4
 by_cases k5:y.2=0
 ·have t7:(y.2 == 0)=true:=by simpa using k5
  obtain ⟨X,hX⟩:∃X:lG,X=.link y.1.no r.1.dir r.1.name:=⟨_,rfl⟩;have pQ:iH S it=some X:=by rw[QQ.out,if_pos k5,hX]
  have hN:Hid (iU S it=0):=by show _=_;rw[ji pQ,hX];rfl
  have KC:=zH (P4.link k (by omega) y.1.no r.1.dir r.1.name);rw [<-hX,<-jh pQ]at KC;clear k5 hX pQ QQ P4;go_wp2_with fail;refine KC.out.mono ?_;rintro e w5 ⟨rfl,T5⟩;go_wp2_with fail;go_ret;exact ⟨by rw[hN.out];rfl,T5.pre (mR.trans E4)⟩
 ·have t7:(y.2 == 0)=false:=by simpa using k5
  have hT:Hid (jD S it=S/\iU S it=0):=qQ SA.out (by rw[QQ.out,if_neg k5]);clear k5 QQ P4;go_wp2_with fail;go_ret;exact ⟨by rw[hT.out.2];rfl,by rw[hT.out.1];exact (ow.refl H0.out (mR.trans E4)).mono (by omega)⟩
end
open Go.ChangeShapes Go.WideShapes Go.ChangeAt Go.RowKit
theorem Ni (A:Option Addr) (l:List eW) (cap:Nat) (A2:Option Addr) (n2 c2:Nat) (w:World) (hA:eP vE w A l) (hl:l.length<=9223372036854775807) :
  Calls Tryz.prog 64 #[.agg #[.slice A l.length cap,.slice A2 n2 c2]] w (aI w (.tuple #[.int .i64 (eQ l).1,.int .i64 (eQ l).2])):=by
 obtain⟨n,hn⟩:=zE l.length;obtain⟨R,hR⟩:=zE (eQ l);rw [<-hn]at hl|-;rw [<-hR];have HN:=zH hn;have HR:=zH hR;obtain ⟨W1,bL⟩:∃W,W=w.alloc (.cells #[.slice A n cap,.slice A2 n2 c2] 25):=⟨_,rfl⟩;obtain ⟨b1,kG⟩:∃b,b=w.heap.size:=⟨_,rfl⟩;have E1:Ext w W1:=by rw[bL];exact (Ext.refl _).alloc _
 have B1:Has W1 b1 (.cells #[.slice A n cap,.slice A2 n2 c2] 25):=by rw[bL,kG];exact Has.new _ _
 have c0:=B1.cell 0;have cz:=B1.lt;simp only[gA,gB]at c0;have HA:=zH (hA.ext E1);clear hn hR hA;go_enter Tryz.func64,Tryz.ntmps64;go_upto_region 1 with fail;rw [<-bL,<-kG];clear bL kG;go_wp2_with fail;clear c0 cz;go_loopw [9] (fun vi wr=>∃k:Nat,vi=.int .i64 k/\k<=n/\Ext W1 wr/\eQ (l.drop k)=R) (fun vi _=>n-(intOf vi).toNat)
 case atStart=>exact⟨0,rfl,Nat.zero_le _,Ext.refl _,by rw[List.drop_zero,HR.out]⟩
 case round =>
  obtain ⟨k,rfl,hk,hE,hS⟩:=hrel;have k0:(0:Int)<=(k:Int):=Int.natCast_nonneg _;have HE:=zH hE
  by_cases hlt:(k:Int)<n
  case neg =>
   have hd:l.drop k=[]:=List.drop_eq_nil_of_le (by have:=HN.out;omega);have BL:Hid (R=(65536,65536)):=by show _=_;rw[<-hS,hd,xS]
   clear hS hd hE;go_wp2_with fail;go_ret2;exact aI.mk (by rw[BL.out];rfl) (E1.trans HE.out)
  case pos =>
   have dI:k<l.length:=by have:=HN.out;omega
   obtain ⟨ba,o,rfl,wH,q0,q1,q2⟩:=(HA.out.ext hE).M_ dI;have AY:IntKind.i64.wrap ((k:Int)+1)=(k:Int)+1:=IntWalk.i64_in _ (by omega);rw [List.drop_eq_getElem_cons dI]at hS;obtain⟨m,hm⟩:=zE (l[k]);rw [<-hm]at q0 q1 q2 hS;obtain⟨P,hP⟩:=zE (bs m.path);have tp:(P.toList == [47])=na m:=by rw[hP];exact qP _
   rw [<-hP]at q0;obtain ⟨mb,UU⟩:∃x,x=m.b:=⟨_,rfl⟩;obtain ⟨mn,JW⟩:∃x,x=m.n:=⟨_,rfl⟩;have HS:=zH hS;have UV:=zH UU;have UW:=zH JW;have oU:=fZ mb mn;rw [<-UU]at q1;rw [<-JW]at q2;clear hS hm hP hE UU JW
   cases ht:na m with
   | false =>
    rw [ht]at tp;have IQ:Hid (eQ (l.drop (k+1))=R):=by show _=_;rw[<-HS.out,qO (.inl ht)]
    clear ht oU;go_wp2_with fail;go_roundw
    case rel=>exact⟨k+1,by go_num,by omega,HE.out.alloc _,IQ.out⟩
    case measure=>simp[intOf];omega
   | true =>
    rw [ht]at tp;have HT:=zH ht;clear ht;rcases oU with⟨h1,h2,h3,h4,h0⟩|⟨h0,h1|⟨h1,h2⟩|⟨h1,h2,h3⟩|⟨h1,h2,h3,h4⟩⟩
    case inl =>
     have IQ:Hid (R=(mb,mn)):=by show _=_;rw[<-HS.out,xT HT.out (by rw[<-UV.out,<-UW.out];exact h0),UV.out,UW.out]
     clear h0;go_upto_region 5 with fail;go_quiet (fail);go_wp2_with fail;go_ret2;exact aI.mk (by rw[IQ.out];rfl) (E1.trans ((HE.out.alloc _).drewN nq))
    all_goals
     have IQ:Hid (eQ (l.drop (k+1))=R):=by show _=_;rw[<-HS.out,qO (.inr (by rw[<-UV.out,<-UW.out];exact h0))]
     clear h0;go_wp2_with fail;go_roundw
     case rel=>exact⟨k+1,by go_num,by omega,HE.out.alloc _,IQ.out⟩
     case measure=>simp[intOf];omega
theorem D_ (A:Option Addr) (l:List eW) (cap:Nat) (A2:Option Addr) (n2 c2:Nat) (w:World) (hA:eP vE w A l) (hl:l.length<=1000000) :
  Calls Tryz.prog 71 #[.agg #[.slice A l.length cap,.slice A2 n2 c2]] w (aI w (.tuple #[.int .i64 (eQ l).1,.int .i64 (eQ l).2])):=by
 obtain⟨n,hn⟩:=zE l.length;obtain⟨R,hR⟩:=zE (eQ l);rw [<-hn]at hl|-;rw [<-hR];have HN:=zH hn;have HR:=zH hR;obtain ⟨W1,bL⟩:∃W,W=w.alloc (.cells #[.slice A n cap,.slice A2 n2 c2] 25):=⟨_,rfl⟩;obtain ⟨b1,kG⟩:∃b,b=w.heap.size:=⟨_,rfl⟩;have E1:Ext w W1:=by rw[bL];exact (Ext.refl _).alloc _
 have B1:Has W1 b1 (.cells #[.slice A n cap,.slice A2 n2 c2] 25):=by rw[bL,kG];exact Has.new _ _
 have qR:=zH B1;have HA:=zH (hA.ext E1);clear hn hR hA B1;go_enter Tryz.func71,Tryz.ntmps71;go_upto_region 1 with fail;rw [<-bL,<-kG];clear bL kG;go_wp2_with fail;go_loopw [4] (fun vi wr=>∃k:Nat,vi=.int .i64 k/\k<=n/\Ext W1 wr/\eQ (l.drop k)=R) (fun vi _=>n-(intOf vi).toNat)
 case atStart=>exact⟨0,rfl,Nat.zero_le _,Ext.refl _,by rw[List.drop_zero,HR.out]⟩
 case round =>
  obtain ⟨k,rfl,hk,hE,hS⟩:=hrel;have k0:(0:Int)<=(k:Int):=Int.natCast_nonneg _;have HE:=zH hE;have B2:=qR.out.ext hE;have c0:=B2.cell 0;have cz:=B2.lt;simp only[gA,gB]at c0;clear B2
  by_cases hlt:(k:Int)<n
  case neg =>
   have hd:l.drop k=[]:=List.drop_eq_nil_of_le (by have:=HN.out;omega);have BL:Hid (R=(65536,65536)):=by show _=_;rw[<-hS,hd,xS]
   clear hS hd hE;go_wp2_with fail;go_ret2;exact aI.mk (by rw[BL.out];rfl) (E1.trans HE.out)
  case pos =>
   have dI:k<l.length:=by have:=HN.out;omega
   obtain ⟨ba,o,rfl,wH,q0,q1,q2⟩:=(HA.out.ext hE).M_ dI;have AY:IntKind.i64.wrap ((k:Int)+1)=(k:Int)+1:=IntWalk.i64_in _ (by omega);rw [List.drop_eq_getElem_cons dI]at hS;obtain⟨m,hm⟩:=zE (l[k]);rw [<-hm]at q0 q1 q2 hS;obtain⟨P,hP⟩:=zE (bs m.path);have tp:(P.toList == [47])=na m:=by rw[hP];exact qP _
   rw [<-hP]at q0;obtain ⟨mb,UU⟩:∃x,x=m.b:=⟨_,rfl⟩;obtain ⟨mn,JW⟩:∃x,x=m.n:=⟨_,rfl⟩;have HS:=zH hS;have UV:=zH UU;have UW:=zH JW;rw [<-UU]at q1;rw [<-JW]at q2;clear hS hm hP hE UU JW
   cases ht:na m with
   | false =>
    rw [ht]at tp;have IQ:Hid (eQ (l.drop (k+1))=R):=by show _=_;rw[<-HS.out,qO (.inl ht)]
    clear ht;go_wp2_with fail;go_roundw
    case rel=>exact⟨k+1,by go_num,by omega,HE.out.alloc _,IQ.out⟩
    case measure=>simp[intOf];omega
   | true =>
    rw [ht]at tp;have HT:=zH ht;obtain⟨u,hu⟩:=zE (cx mb mn);have UX:Hid (u=true->R=(mb,mn)):=fun h0=>by rw[<-HS.out,xT HT.out (by rw[<-UV.out,<-UW.out,<-hu];exact h0),UV.out,UW.out]
    have aW:Hid (u=false->eQ (l.drop (k+1))=R):=fun h0=>by rw[<-HS.out,qO (.inr (by rw[<-UV.out,<-UW.out,<-hu];exact h0))]
    obtain ⟨W3,cj⟩:∃W,W=wr.alloc (.cells #[.string P,.int .i64 mb,.int .i64 mn] 119):=⟨_,rfl⟩;obtain ⟨b3,oT⟩:∃b,b=wr.heap.size:=⟨_,rfl⟩;have E3:Ext W1 W3:=by rw[cj];exact HE.out.alloc _
    have B3:Has W3 b3 (.cells #[.string P,.int .i64 mb,.int .i64 mn] 119):=by rw[cj,oT];exact Has.new _ _
    have KL:Hid (Calls Tryz.prog 120 #[.int .i64 mb,.int .i64 mn] W3 (aI W3 (.bool u))):=by
     show Calls _ _ _ _ _;rw [hu];exact lg mb mn W3
    have r0:=B3.cell 0;have r1:=B3.cell 1;have r2:=B3.cell 2;have rz:=B3.lt;simp only[gA,gB,gC]at r0 r1 r2;have HB3:=zH B3;clear ht hu B3;go_upto_region 5 with fail;rw [<-cj,<-oT];clear cj oT c0 cz q0 q1 q2 wH;go_wp2_with fail;refine KL.out.mono ?_;rintro e w4 ⟨rfl,b4⟩;have B4:=HB3.out.ext b4;clear r0 r1 r2 rz;have r1:=B4.cell 1;have r2:=B4.cell 2;have rz:=B4.lt;simp only[gA,gB,gC]at r1 r2;clear KL B4
    cases u with
    | false =>
     have nL:=zH (aW.out rfl);clear aW UX;go_wp2_with fail;go_roundw
     case rel=>exact⟨k+1,by go_num,by omega,E3.trans b4,nL.out⟩
     case measure=>simp[intOf];omega
    | true =>
     have HYY:=zH (UX.out rfl);clear aW UX;go_upto_region 6 with fail;go_quiet (fail);go_wp2_with fail;go_ret2;exact aI.mk (by rw[HYY.out];rfl) (E1.trans ((E3.trans b4).drewN nq))
theorem BM {S:ae} {m:eW} (h:(m_ S m).2≠0):iA S m=S:=by unfold iA;rw[if_pos h]
theorem vF {S:ae} {m:eW} (h:(m_ S m).2=0) (h2:(m_ S m).1.no≠0):iA S m=cH S (m_ S m).1.no m.b m.n:=by unfold iA;rw[if_neg (by rw[h];decide),if_neg h2]
theorem BN {S:ae} {m:eW} (h:(m_ S m).2=0) (h2:(m_ S m).1.no=0):iA S m=if fQ S 0 0 0 (sx S m)=0 then cH (cM S 0 0 0 (sx S m)) (kW S 0 0 0 (sx S m)) m.b m.n else cM S 0 0 0 (sx S m):=by unfold iA;rw[if_neg (by rw[h];decide),if_pos h2]
theorem Nj {w:World} {B b:Nat} {g:bG} {c:Nat} {S:ae} (h:kA w B b g c S) (k:fI c S) (hc:c<=890) (m:eW) (hp:m.path.length<=1000000) :
  Calls Tryz.prog 65 #[.pointer (some ⟨b,0,none⟩),.agg #[bs m.path,.int .i64 m.b,.int .i64 m.n]] w (fun e w'=>(∃v,e=.returned v)/\ow w B b g (c+1) (iA S m) w'):=by
 obtain ⟨W1,bL⟩:∃W,W=w.alloc (.cells #[bs m.path,.int .i64 m.b,.int .i64 m.n] 119):=⟨_,rfl⟩;obtain ⟨b3,oT⟩:∃b,b=w.heap.size:=⟨_,rfl⟩;have E1:Ext w W1:=by rw[bL];exact (Ext.refl _).alloc _
 have B1:Has W1 b3 (.cells #[bs m.path,.int .i64 m.b,.int .i64 m.n] 119):=by rw[bL,oT];exact Has.new _ _
 have hlt:=h.lt;have abx:w.heap.size<=b3:=by omega
 have KF:=zH ((h.ext E1).find k (by omega) m.path false hp);obtain⟨r,hr⟩:=zE (m_ S m);rw [show dV S 0 0 m.path false=r from hr.symm]at KF;have FV:Hid (Calls Tryz.prog 110 #[.pointer (some ⟨b,0,none⟩),.agg #[.int .i64 0,.int .i64 0],bs m.path,.bool false] W1 (aI W1 (.tuple #[.agg #[.int .i64 r.1.dir,bs r.1.name,r.1.no,.bool r.1.fR],.int .i64 r.2]))):=KF.out;have HR:=zH hr;have c0:=B1.cell 0;have cz:=B1.lt;simp only[gA,gB]at c0;have qR:=zH B1;have H1:=zH (h.ext E1);have H0:=zH h;clear h KF hr B1;go_enter Tryz.func65,Tryz.ntmps65;go_upto_region 1 with fail;rw [<-bL,<-oT];clear bL oT;go_wp2_with fail;refine FV.out.mono ?_;rintro e w1 ⟨rfl,b1⟩;clear FV c0 cz;go_upto_region 2 with fail;obtain ⟨W2,cQ⟩:∃W,W=w1.alloc (.cells #[.int .i64 r.1.dir,bs r.1.name,r.1.no,.bool r.1.fR] 82):=⟨_,rfl⟩;obtain ⟨b4,oq⟩:∃b,b=w1.heap.size:=⟨_,rfl⟩;have E2:Ext W1 W2:=by rw[cQ];exact b1.alloc _
 have X2:Has W2 b4 (.cells #[.int .i64 r.1.dir,bs r.1.name,r.1.no,.bool r.1.fR] 82):=by rw[cQ,oq];exact Has.new _ _
 rw [<-cQ,<-oq];have aby:W1.heap.size<=b4:=by have:=b1.size;omega
 clear cQ oq b1;have P2:=H1.out.ext E2;have B2:=qR.out.ext E2;have UY:=H1.out.lt;have SB:=zH P2;have ra:=zH X2;have UZ:=zH B2;have x0:=X2.cell 0;have x1:=X2.cell 1;have x2:=X2.cell 2;have xz:=X2.lt;simp only[gA,gB,gC]at x0 x1 x2
 by_cases he:r.2=0
 case neg =>
  have t1:(r.2 == 0)=false:=by simpa using he
  have hT:Hid (iA S m=S):=BM (by rw[<-HR.out];exact he);clear he P2 X2 B2;go_wp2_with fail;go_end0;refine ⟨⟨_,rfl⟩,?_⟩;rw [hT.out];exact (ow.refl H0.out (E1.trans E2)).mono (by omega)
 have t1:(r.2 == 0)=true:=by simpa using he
 have HE:=zH he;obtain ⟨nS,AS,cS,S2⟩:=P2.sys
 by_cases aW:r.1.no=0
 case neg =>
  have t2:(r.1.no == 0)=false:=by simpa using aW
  have hT:Hid (iA S m=cH S r.1.no m.b m.n):=by show _=_;rw[HR.out];exact vF (by rw[<-HR.out];exact HE.out) (by rw[<-HR.out];exact aW)
  have d1:=B2.cell 1;have d2:=B2.cell 2;have dz:=B2.lt;simp only[gA,gB,gC]at d1 d2;have s0:=S2.cell 0;have sz:=S2.lt;simp only[gA,gB]at s0;have KM:=zH (fun u (hu:Ext W2 u)=>(P2.ext hu).kw k (by omega) r.1.no m.b m.n);have KD:=zH ((Ext.refl W2).drew);clear he aW P2 X2 B2 S2 x0 x1 xz;have x2:=ra.out.cell 2;have xz:=ra.out.lt;simp only[gA,gB,gC]at x2;go_upto_region 5 with fail;go_still_tail 10,(by kernel_rfl);change wpList _ _ _ _ _ W2.drew;go_wp2_with fail;refine (KM.out _ KD.out).mono ?_;rintro e w3 ⟨⟨v3,rfl⟩,T3⟩;go_wp2_with fail;go_end0;refine ⟨⟨_,rfl⟩,?_⟩;rw [hT.out];exact (T3.pre ((E1.trans E2).trans KD.out)).mono (by omega)
 have t2:(r.1.no == 0)=true:=by simpa using aW
 obtain ⟨X,hX⟩:∃X:lG,X=sx S m:=⟨_,rfl⟩;have U0:X=.da r.1.dir r.1.name 493:=by rw[hX,HR.out];rfl
 have hT:Hid (iA S m=if fQ S 0 0 0 X=0 then cH (cM S 0 0 0 X) (kW S 0 0 0 X) m.b m.n else cM S 0 0 0 X):=by show _=_;rw[hX];exact BN (by rw[<-HR.out];exact HE.out) (by rw[<-HR.out];exact aW)
 have KC:=zH (P2.da k (by omega) r.1.dir r.1.name 493);rw [<-U0]at KC;have k1:fI (c+1) (cM S 0 0 0 X):=by rw[U0];exact k.oc 0 0 0 _ (fun _ _ _ _ e=>by cases e)
 obtain⟨N,hN⟩:=zE (kW S 0 0 0 X);obtain ⟨e2,mi⟩:∃e,e=fQ S 0 0 0 X:=⟨_,rfl⟩;obtain⟨T,JQ⟩:=zE (cM S 0 0 0 X);rw [<-hN,<-mi,<-JQ]at KC hT;rw [<-JQ]at k1;clear he aW P2 X2 B2 hX U0 hN mi JQ S2;go_wp2_with fail;refine KC.out.mono ?_;rintro e w3 ⟨rfl,T3⟩;have X3:=T3.has ra.out (fun hm=>by have:=UY _ hm;omega);have B3:=T3.has UZ.out (fun hm=>by have:=hlt _ hm;omega);clear KC x0 x1 x2 xz;have f2:=Has.free X3 2;have xz:=X3.lt;have x2:=X3.cell 2;simp only[gA,gB,gC]at x2;obtain ⟨W4,ij⟩:∃W,W=w3.setCell ⟨b4,2,none⟩ (.int .i64 N):=⟨_,rfl⟩;have X4:Has W4 b4 (.cells #[.int .i64 r.1.dir,bs r.1.name,.int .i64 N,.bool r.1.fR] 82):=by rw[ij];exact Has.setCell X3 2 (.int .i64 N)
 have O4:Only [b4] w3 W4:=by rw[ij];exact Only.setCell _ _ _ _
 obtain ⟨g3,U1,P3,O3⟩:=T3;have F4:dh w3 B [b4]:=fun x hx=>by
  rw [List.mem_singleton]at hx;subst hx;have hB:=(H0.out.cU b (List.mem_cons_self ..));have mV:=hlt b (List.mem_cons_self ..);have:=E1.size;refine ⟨by omega,?_,?_⟩
  ·rintro⟨cs,fr,e⟩;unfold Has at X3;rw[X3]at e;injection e with e;injection e with _ e;exact absurd e (by decide)
  ·rintro⟨cs,fr,e⟩;unfold Has at X3;rw[X3]at e;injection e with e;injection e with _ e;exact absurd e (by decide)
 have CH:∀x∈b::g3.list,x∉[b4]:=fun x hx hm=>by
  rw [List.mem_singleton]at hm;subst hm;exact P3.off X3 (by decide) (by decide) (by decide) (by decide) hx
 have P4:=P3.only O4 F4 CH;have B4:=O4.has B3 (by rw[List.mem_singleton];have:=qR.out.lt;omega);have Y1:bG.on g3 g w:=⟨U1.1,fun x hx=>(U1.2 x hx).imp id fun e=>by have:=E1.size;have:=E2.size;omega⟩;have O0:Only (b::g.list) w W4:=(Only.pre (E1.trans E2) O3).trans O4 (fun x hx=>by rw[List.mem_singleton]at hx;subst hx;exact .inr (by have:=E1.size;omega));have SC:=zH P4;have OO:=zH Y1;have O_:=zH O0;have SD:=zH X4;have JR:=zH B4;obtain ⟨nS,AS,cS,S2⟩:=P4.sys;clear P3 O3 U1 F4 CH P4 Y1 O0 X4 B4 O4 X3 B3
 by_cases h2:e2=0
 case neg =>
  have t3:(e2 == 0)=false:=by simpa using h2
  have zL:Hid (iA S m=T):=by show _=_;rw[hT.out,if_neg h2]
  clear h2 S2;go_upto_region 4 with fail;rw [<-ij];clear ij;go_wp2_with fail;go_end0;refine ⟨⟨_,rfl⟩,?_⟩;rw [zL.out];exact ⟨g3,OO.out,SC.out,O_.out⟩
 case pos =>
  have t3:(e2 == 0)=true:=by simpa using h2
  have zL:Hid (iA S m=cH T N m.b m.n):=by show _=_;rw[hT.out,if_pos h2]
  have s0:=S2.cell 0;have sz:=S2.lt;simp only[gA,gB]at s0;have KM:=zH (fun u (hu:Ext W4 u)=>(SC.out.ext hu).kw k1 (by omega) N m.b m.n);have KD:=zH ((Ext.refl W4).drew);clear h2 S2;go_upto_region 4 with fail;rw [<-ij];clear ij x2 xz f2;have x2:=SD.out.cell 2;have xz:=SD.out.lt;have d1:=JR.out.cell 1;have d2:=JR.out.cell 2;have dz:=JR.out.lt;simp only[gA,gB,gC]at x2 d1 d2;go_upto_region 5 with fail;go_still_tail 10,(by kernel_rfl);change wpList _ _ _ _ _ W4.drew;go_wp2_with fail;refine (KM.out _ KD.out).mono ?_;rintro e w5 ⟨⟨v5,rfl⟩,T5⟩;go_wp2_with fail;go_end0;refine ⟨⟨_,rfl⟩,?_⟩;rw [zL.out];exact ow.trans OO.out O_.out (T5.pre KD.out)
theorem PS.SE {w:World} {B b:Nat} {g:bG} {s:av} (h:PS w B b g s) (A0:Option Addr) (l:List (Int×Int)) (mZ:Nat) (hp:cK w A0 l) (hA:A0=none->mZ=0) (ho:l≠[]->cZ A0 b) (hl:l.length<=1000000) :
  Calls Tryz.prog 38 #[.pointer (some ⟨b,0,none⟩),.slice A0 l.length mZ] w (fun e w'=>(∃v,e=.returned v)/\PS w' B b g {s with plan:=l,count:=0}/\Only [b] w w'):=by
 obtain ⟨A,cap,h⟩:=h;have hn:=h.ja;obtain ⟨h1,h2,h3,h4,h5⟩:=h;refine (Qk A0 l mZ w h2 hp hA ho hl).mono ?_;rintro e w' ⟨hv,A',cap',k1,k2,k3,k4,O⟩;refine ⟨hv,⟨A',cap',h1.rY h2 h5 hn O,k1,?_,k3,h5⟩,O⟩;rcases k2 with k2|⟨b2,o2,e2,hb2,tF⟩
 ·exact .inl k2
 ·exact .inr ⟨b2,o2,e2,hb2,.inr (k4 _ e2),tF⟩
theorem tP.Y2 {w0 w:World} {B b:Nat} {g:bG} {f:cI} {s r:av} (h:tP w0 B b g f s r w) (A0:Option Addr) (l:List (Int×Int)) (mZ:Nat) (hp:cK w A0 l) (hA:A0=none->mZ=0) (ho:l≠[]->cZ A0 b) (hl:l.length<=1000000) :
  Calls Tryz.prog 38 #[.pointer (some ⟨b,0,none⟩),.slice A0 l.length mZ] w (fun e w'=>(∃v,e=.returned v)/\tP w0 B b g f {s with plan:=l,count:=0} r w'):=by
 obtain ⟨g1,f1,h1,h2,h3,h4,h5⟩:=h;refine (h3.SE A0 l mZ hp hA ho hl).mono ?_;rintro e w' ⟨hv,k,O⟩;exact ⟨hv,tP.prog h1 h2 h3 h4 h5 k (O.mono (by simp))⟩
theorem pR {α β:Type} (f:β->α->β) (z:β) (l:List α) {k:Nat} (hk:k<l.length):(l.take (k+1)).foldl f z=f ((l.take k).foldl f z) l[k]:=by
 rw [List.take_succ_eq_append_getElem hk,List.foldl_append];rfl
theorem vG (S:ae) (l:List eW) {k:Nat} (hk:k<l.length):ey S (l.take (k+1))=if na l[k]=true then ey S (l.take k) else iA (ey S (l.take k)) l[k]:=by unfold ey;rw[pR _ _ _ hk]
theorem ta (p:ae×List Int) (l:List dS) {k:Nat} (hk:k<l.length):dL p (l.take (k+1))=s8 (dL p (l.take k)) l[k]:=by unfold dL;rw[pR _ _ _ hk]
theorem tb (S:ae) (l:List (Int×dS)) {k:Nat} (hk:k<l.length):ee S (l.take (k+1))=mS (ee S (l.take k)) l[k]:=by unfold ee;rw[pR _ _ _ hk]
theorem kA.vH {α:Type} {R:gJ α} {w:World} {B b:Nat} {g:bG} {c:Nat} {S:ae} {base:Nat} {v:Value} {l:List α} (h:kA w B b g c S) (k:dq R w base v l) (h1:R.t≠102) (h2:R.t≠106) (h3:R.t≠157) (h4:R.t≠205):∀x,v.ownBlock=some x->x∉b::g.list:=by
 intro x hx;rcases k.cases with⟨rfl,_⟩|⟨g',cap,cur,rfl,_,h5,_⟩
 ·cases hx
 ·injection hx with hx
  subst hx;exact h.off h5 h1 h2 h3 h4
theorem dq.cU {α:Type} {R:gJ α} {w:World} {base B:Nat} {v:Value} {l:List α} (k:dq R w base v l) (hB:B<=base) (h1:R.t≠153) (h2:R.t≠216):dh w B v.ownBlock.toList:=by
 intro x hx;have hx:=Option.mem_toList.1 hx;rcases k.cases with⟨rfl,_⟩|⟨g',cap,cur,rfl,hb,h5,_⟩
 ·cases hx
 ·have hx:g'=x:=Option.some.inj hx
  subst hx;unfold Has at h5;refine ⟨by omega,?_,?_⟩
  ·rintro⟨cs,fr,e⟩;rw[h5]at e;injection e with e;injection e with _ e;exact h1 e
  ·rintro⟨cs,fr,e⟩;rw[h5]at e;injection e with e;injection e with _ e;exact h2 e
theorem dq.empty {α:Type} (R:gJ α) {w:World} {base g:Nat} (hb:base<=g) (h:Has w g (.cells #[] R.t)):dq R w base (.slice (some ⟨g,0,none⟩) 0 0) []:=
 ⟨by simp[gJ.cells],.inr ⟨g,0,#[],rfl,hb,h,Nat.le_refl _,Nat.zero_le _,by simp,by simp[gJ.cells]⟩⟩
theorem dq.vJ {α:Type} {R:gJ α} {w:World} {base x:Nat} {v:Value} {l:List α} {cs:Array Value} {t:TypeId} (k:dq R w base v l) (hx:Has w x (.cells cs t)) (hne:t≠R.t):x∉v.ownBlock.toList:=by
 intro hm;obtain ⟨cs2,fr,e⟩:=k.tag (Option.mem_toList.1 hm);unfold Has at hx;rw [hx]at e;injection e with e;injection e with _ e;exact hne e
theorem kA.abz {w:World} {B b:Nat} {g:bG} {c:Nat} {S:ae} (h:kA w B b g c S) :
  Calls Tryz.prog 70 #[.pointer (some ⟨b,0,none⟩)] w (fun e w'=>(∃v,e=.returned v)/\PS w' B b g ⟨S,0,0,[],false⟩/\Only (b::g.list) w w'):=by
 obtain ⟨n,_,_,h⟩:=h;have hh:=h;obtain ⟨A,cap,a1,a2,a3,a4,a5⟩:=hh;have HH:=zH h;have hn:=h.ja;have KN:Hid (Calls Tryz.prog 78 #[.pointer (some ⟨b,0,none⟩)] w (aI w (.bool false))):=FF w a2;clear h a1 a3 a4;go_enter Tryz.func70,Tryz.ntmps70;go_wp2_with fail;refine KN.out.mono ?_;rintro e w1 ⟨rfl,b1⟩;have h1:=HH.out.ext b1;obtain ⟨A1,DX,k1,k2,k3,k4,k5⟩:=id h1;have c4:=Has.cell k2 4;have f4:=Has.free k2 4;have z4:=Has.lt k2;simp only[gA,gB,gC]at c4;obtain ⟨W2,cQ⟩:∃W,W=w1.setCell ⟨b,4,none⟩ (.bool false):=⟨_,rfl⟩;have S2:dR W2 b g 0 n A1 0 DX false:=by rw[cQ];exact Has.setCell k2 4 (.bool false)
 have O2:Only [b] w1 W2:=by rw[cQ];exact Only.setCell _ _ _ _
 have P2:PS W2 B b g ⟨S,0,n,[],false⟩:=⟨A1,DX,k1.rY k2 k5 hn O2,S2,.inl rfl,k4,k5⟩;have KP:=zH (P2.SE none [] 0 (.inl rfl) (fun _=>rfl) (fun h=>absurd rfl h) (Nat.zero_le _));clear k1 k2 k3 k4 S2 KN;go_upto_region 2 with fail;rw [<-cQ];clear cQ c4 f4 z4;go_wp2_with fail;refine KP.out.mono ?_;rintro e w3 ⟨⟨v,rfl⟩,P3,O3⟩;go_wp2_with fail;go_end0;refine ⟨⟨_,rfl⟩,P3,(Only.pre b1 (O2.mono (fun x hx=>by rw[List.mem_singleton]at hx;subst hx;exact List.mem_cons_self ..))).then (O3.mono (fun x hx=>by rw[List.mem_singleton]at hx;subst hx;exact List.mem_cons_self ..))⟩
theorem vK (Am:Option Addr) (ms:List eW) (cm:Nat) (Ai:Option Addr) (is:List dS) (ci:Nat) (w:World) (hM:eP vE w Am ms) (hI:eP tC w Ai is) (h1:ms.length<=10) (h2:is.length<=30)
  (h3:∀m∈ms,m.path.length<=1000000) (h4:∀it∈is,it.path.length<=1000000/\it.data.length<=1000000) :
  Calls Tryz.prog 36 #[.agg #[.slice Am ms.length cm,.slice Ai is.length ci]] w (fun e w'=>∃(b B:Nat) (g:bG),e=.returned (.pointer (some ⟨b,0,none⟩))/\w.heap.size<=B/\PS w' B b g ⟨gp ms is,0,0,[],false⟩/\Ext w w'):=by
 obtain ⟨nm,jA⟩:∃n,n=ms.length:=⟨_,rfl⟩;obtain ⟨ni,sD⟩:∃n,n=is.length:=⟨_,rfl⟩;obtain ⟨W1,bL⟩:∃W,W=w.alloc (.cells #[.slice Am nm cm,.slice Ai ni ci] 25):=⟨_,rfl⟩;obtain ⟨b1,kG⟩:∃b,b=w.heap.size:=⟨_,rfl⟩;have E1:Ext w W1:=by rw[bL];exact (Ext.refl _).alloc _
 have B1:Has W1 b1 (.cells #[.slice Am nm cm,.slice Ai ni ci] 25):=by rw[bL,kG];exact Has.new _ _
 have KL:Hid (Calls Tryz.prog 64 #[.agg #[.slice Am nm cm,.slice Ai ni ci]] W1 (aI W1 (.tuple #[.int .i64 (eQ ms).1,.int .i64 (eQ ms).2]))):=by
  show Calls _ _ _ _ _;rw [jA];exact Ni Am ms cm Ai ni ci W1 (hM.ext E1) (by omega)
 rw [<-jA]at h1|-;rw [<-sD]at h2|-;have QS:=zH jA;have QT:=zH sD;have HM:=zH (hM.ext E1);have HI:=zH (hI.ext E1);have qR:=zH B1;have c0:=B1.cell 0;have c1:=B1.cell 1;have cz:=B1.lt;simp only[gA,gB,gC]at c0 c1;clear jA sD hM hI B1;go_enter Tryz.func36,Tryz.ntmps36;go_upto_region 1 with fail;rw [<-bL,<-kG];clear bL kG;go_wp2_with fail;refine KL.out.mono ?_;rintro e w2 ⟨rfl,E2⟩;clear KL c0 c1 cz;go_wp2_with fail;refine (aaU (eQ ms).1 (eQ ms).2 w2 (j9 ms)).mono ?_;rintro e w3 ⟨g0,B,b,hB,yT,rfl,K3,S3,_,E3⟩;have P3:kA w3 B b g0 0 (ey (gP ms) (ms.take 0)):=⟨0,Int.le_refl _,Int.le_refl _,none,0,K3,S3,.inl rfl,(fun x hx=>by cases hx),yT⟩;have Y3:Ext W1 w3:=E2.trans E3;have wP:W1.heap.size<=B:=by have:=E2.size;omega
 have B3:=qR.out.ext Y3;have c0:=B3.cell 0;have cz:=B3.lt;simp only[gA,gB]at c0;have QR:=zH P3;clear K3 S3 P3 B3 E2 E3 hB;go_wp2_with fail;clear c0 cz;go_loopw [26] (fun vi wr=>∃(k:Nat) (g:bG),vi=.int .i64 k/\k<=nm/\kA wr B b g (2*k) (ey (gP ms) (ms.take k))/\Ext W1 wr) (fun vi _=>nm-(intOf vi).toNat)
 case atStart=>exact⟨0,g0,rfl,Nat.zero_le _,QR.out,Y3⟩
 case round =>
  clear QR;obtain ⟨k,g,rfl,hk,hP,hE⟩:=hrel;have k0:(0:Int)<=(k:Int):=Int.natCast_nonneg _;have HP:=zH hP;have HE:=zH hE
  by_cases hlt:(k:Int)<nm
  case pos =>
   have dI:k<ms.length:=by have:=QS.out;omega
   obtain ⟨ba,o,rfl,wH,q0,q1,q2⟩:=(HM.out.ext hE).M_ dI;have AY:IntKind.i64.wrap ((k:Int)+1)=(k:Int)+1:=IntWalk.i64_in _ (by omega);have hst:=vG (gP ms) ms dI;have hpl:=h3 ms[k] (List.getElem_mem dI);have sE:fI (2*k) (ey (gP ms) (ms.take k)):=(((fI.first (j9 ms)).BI (ms.take k))).mono (by rw[List.length_take];omega);obtain⟨m,hm⟩:=zE (ms[k]);rw [<-hm]at q0 q1 q2 hst hpl;obtain ⟨W4,ij⟩:∃W,W=wr.alloc (.cells #[bs m.path,.int .i64 m.b,.int .i64 m.n] 119):=⟨_,rfl⟩;obtain ⟨b6,Ib⟩:∃b,b=wr.heap.size:=⟨_,rfl⟩;have E4:Ext wr W4:=by rw[ij];exact (Ext.refl _).alloc _
   have B4:Has W4 b6 (.cells #[bs m.path,.int .i64 m.b,.int .i64 m.n] 119):=by rw[ij,Ib];exact Has.new _ _
   have tp:=qP m.path;have KM:=zH (Nj (HP.out.ext E4) sE (by omega) m hpl);have r0:=B4.cell 0;have r1:=B4.cell 1;have r2:=B4.cell 2;have rz:=B4.lt;simp only[gA,gB,gC]at r0 r1 r2;have rb:=zH hst;clear hP hE hm hst hpl sE B4;go_upto_region 7 with fail;rw [<-ij,<-Ib];clear ij Ib q0 q1 q2 wH;obtain⟨P,zm⟩:=zE (bs m.path);rw [<-zm]at r0 tp KM;clear zm;have tt:na m=(m.path == [47]):=rfl;rw [<-tt]at tp;clear tt
   cases ht:na m with
   | true =>
    rw [ht]at tp;have BL:Hid (ey (gP ms) (ms.take (k+1))=ey (gP ms) (ms.take k)):=by show _=_;rw[rb.out,if_pos ht]
    clear ht;go_wp2_with fail;go_roundw
    case rel=>exact⟨k+1,g,by go_num,by omega,by rw[BL.out];exact (HP.out.ext E4).mono (by omega),HE.out.trans E4⟩
    case measure=>simp[intOf];omega
   | false =>
    rw [ht]at tp;have BL:Hid (ey (gP ms) (ms.take (k+1))=iA (ey (gP ms) (ms.take k)) m):=by show _=_;rw[rb.out,if_neg (by rw[ht];decide)]
    clear ht;go_wp2_with fail;refine KM.out.mono ?_;rintro e w5 ⟨⟨v5,rfl⟩,T5⟩;have E5:Ext W1 w5:=T5.after (HP.out.ext E4) (HE.out.trans E4) wP;obtain ⟨g5,_,P5,_⟩:=T5;have HP5:=zH P5;clear P5 KM r0 r1 r2 rz;go_wp2_with fail;go_roundw
    case rel=>exact⟨k+1,g5,by go_num,by omega,by rw[BL.out];exact HP5.out.mono (by omega),E5⟩
    case measure=>simp[intOf];omega
  case neg =>
   have ng:ms.take k=ms:=List.take_of_length_le (by have:=QS.out;omega);have QU:=HP.out;rw [ng]at QU;have Ea:fI 20 (ey (gP ms) ms):=((fI.first (j9 ms)).BI ms).mono (by have:=QS.out;omega);obtain ⟨S1,Az⟩:∃S,S=ey (gP ms) ms:=⟨_,rfl⟩;rw [<-Az]at QU Ea;have Nk:Hid (gp ms is=ee (dL (S1,[]) is).1 ((dL (S1,[]) is).2.zip is)):=by show _=_;rw[Az];rfl
   have SB:=zH (QU.mono (show 2*k<=20 by omega));have Nl:=zH Ea;have B3:=qR.out.ext hE;have c1:=B3.cell 1;have cz:=B3.lt;simp only[gA,gB,gC]at c1;clear hP hE HP QU Ea ng Az B3 HM Y3;go_upto_region 11 with fail;obtain ⟨W6,ze⟩:∃W,W=wr.alloc (.cells #[] 3):=⟨_,rfl⟩;obtain ⟨b7,sP⟩:∃b,b=wr.heap.size:=⟨_,rfl⟩;have E6:Ext wr W6:=by rw[ze];exact (Ext.refl _).alloc _
   have M6:Has W6 b7 (.cells #[] 3):=by rw[ze,sP];exact Has.new _ _
   have hN6:W6.heap.size=wr.heap.size+1:=by rw[ze];simp
   rw [<-ze,<-sP];have Y5:wr.heap.size<=b7:=by omega
   have hP6:=SB.out.ext E6;have O6:dq jQ W6 wr.heap.size (.slice (some ⟨b7,0,none⟩) 0 0) []:=dq.empty jQ Y5 M6;have Nn:B<=wr.heap.size:=by have h7:=SB.out.lt b (List.mem_cons_self ..);omega
   obtain ⟨N0,Sc⟩:∃N,N=wr.heap.size:=⟨_,rfl⟩;rw [<-Sc]at O6 Nn;have Wk:=zH O6;have HP6:=zH hP6;have OH:=zH (HE.out.trans E6);have Np:N0<=W6.heap.size:=by have:=E6.size;omega
   have c1':=(E6.cell cz).trans c1;have cz':b1<W6.heap.size:=by have:=E6.size;omega
   clear ze sP M6 E6 hN6 O6 hP6 c1 cz Sc hlt hk k0 SB HE;go_wp2_with fail;clear c1' cz';go_loopw [7,41] (fun vm vi wr=>∃(k:Nat) (g:bG),vi=.int .i64 k/\k<=ni/\kA wr B b g (20+3*k) (dL (S1,[]) (is.take k)).1/\dq jQ wr N0 vm (dL (S1,[]) (is.take k)).2/\N0<=wr.heap.size/\Ext W1 wr) (fun _ vi _=>ni-(intOf vi).toNat)
   case atStart=>exact⟨0,g,rfl,Nat.zero_le _,HP6.out,Wk.out,Np,OH.out⟩
   case round =>
    clear HP6 Wk OH Y5 Np g;obtain ⟨k,g,rfl,hk,hP,hO,Y6,hE⟩:=hrel;have k0:(0:Int)<=(k:Int):=Int.natCast_nonneg _
    by_cases hlt:(k:Int)<ni
    case pos =>
     have dI:k<is.length:=by have:=QT.out;omega
     obtain ⟨ba,o,rfl,wH,q0,q1,q2,q3,q4,q5,q6⟩:=(HI.out.ext hE).IK dI;have AY:IntKind.i64.wrap ((k:Int)+1)=(k:Int)+1:=IntWalk.i64_in _ (by omega);have hst:=ta (S1,[]) is dI;have hil:=h4 is[k] (List.getElem_mem dI);have gF:=fI.items (is.take k) (S1,[]) Nl.out;have rQ:(is.take k).length=k:=by rw[List.length_take];omega
     rw [rQ]at gF;obtain ⟨it,hit⟩:∃m,m=is[k]:=⟨_,rfl⟩;rw [<-hit]at q0 q1 q2 q3 q4 q5 q6 hst hil;obtain⟨p,pC⟩:=zE (dL (S1,[]) (is.take k));rw [<-pC]at hst hP hO gF;have Nq:=gF.2;simp only[List.length_nil,Nat.zero_add]at Nq;have Nr:=zH gF.1;obtain ⟨W8,tm⟩:∃W,W=wr.alloc (.cells #[bs it.path,it.kind,it.mode,it.uid,it.gid,it.mtime,bs it.data] 72):=⟨_,rfl⟩;obtain ⟨b9,DV⟩:∃b,b=wr.heap.size:=⟨_,rfl⟩;have E8:Ext wr W8:=by rw[tm];exact (Ext.refl _).alloc _
     have B8:Has W8 b9 (.cells #[bs it.path,it.kind,it.mode,it.uid,it.gid,it.mtime,bs it.data] 72):=by rw[tm,DV];exact Has.new _ _
     have P8:=hP.ext E8;have O8:=hO.ext E8;have U2:=hP.lt;have QN:wr.heap.size<=b9:=by omega
     have KN:=zH (Nh P8 gF.1 (by omega) it hil.1 hil.2);obtain⟨T,hT⟩:=zE (jD p.1 it);obtain ⟨no,aW⟩:∃n,n=iU p.1 it:=⟨_,rfl⟩;rw [<-hT,<-aW]at KN;have wA:dL (S1,[]) (is.take (k+1))=(gj T no it,p.2++[no]):=by rw[hst,hT,aW];rfl
     have Ns:fI (20+3*k+1) T:=by rw[hT];exact gF.1.IK it
     have rb:=zH wA;have Y7:=zH Ns;have IR:=zH P8;have DY:=zH O8;have IU:=zH B8;have II:=zH (hE.trans E8);have r0:=B8.cell 0;have r1:=B8.cell 1;have r2:=B8.cell 2;have r3:=B8.cell 3;have r4:=B8.cell 4;have r5:=B8.cell 5;have r6:=B8.cell 6;have rz:=B8.lt;simp only[gA,gB,gC]at r0 r1 r2 r3 r4 r5 r6;clear hst hil gF pC hP hO hE hit hT aW wA Ns P8 O8 B8 rQ;go_upto_region 14 with fail;rw [<-tm,<-DV];clear tm DV q0 q1 q2 q3 q4 q5 q6 wH;go_wp2_with fail;refine KN.out.mono ?_;rintro e w9 ⟨rfl,T9⟩;have E9:Ext W1 w9:=T9.after IR.out II.out wP;have B9:=T9.has IU.out (fun hm=>by have:=U2 _ hm;omega);have hoff:=IR.out.vH DY.out (by decide) (by decide) (by decide) (by decide);obtain ⟨g9,Y8,P9,o9⟩:=T9;have O9:=DY.out.only o9 hoff;have Nt:N0<=w9.heap.size:=by have:=o9.size;have:=E8.size;omega
     obtain ⟨v10,pO,Nu,Nv,Eb,_⟩:=xO jQ w9 O9 Nt no (by omega);have abA:W1.heap.size<=N0:=by omega
     have Y9:Ext W1 pO:=(E9.alloc _).grown Eb (fun g hv=>by have:=(O9.lt hv).1;omega);have QV:Only u7.ownBlock.toList w9 pO:=(Only.jw _ _ _).then (Only.of_grownBy Eb (fun g hv=>Option.mem_toList.2 hv));have MZ:=P9.only QV (O9.cU Nn (by decide) (by decide)) (fun x hx hm=>P9.vH O9 (by decide) (by decide) (by decide) (by decide) x (Option.mem_toList.1 hm) hx);have Sz:=QV.has B9 (O9.vJ B9 (by decide));have Nw:N0<=pO.heap.size:=by have:=QV.size;omega
     have BG:=zH Nu;have vL:=zH MZ;have Ec:=zH Nv;have qJ:=zH Sz;have IV:=zH Y9;clear E9 B9 hoff P9 o9 Y8 O9 Nu Nv Eb Y9 QV MZ Sz KN r0 r1 r2 r3 r4 r5 r6 rz Nt
     by_cases jj:no=0
     case pos =>
      have t1:(no != 0)=false:=by simpa using jj
      have hD:Hid (gj T no it=T):=by show _=_;unfold gj;rw[if_neg (fun q=>q jj)]
      clear jj;go_wp2_with (at_builtin;refine Lib.wpList_append_run _ rfl _ _ 124 124 rfl _ _ rfl rfl _ _ BG.out ?_);go_roundw
      case rel=>exact⟨k+1,g9,by go_num,by omega,by rw[rb.out,hD.out];exact vL.out.mono (by omega),by rw[rb.out];exact Ec.out,Nw,IV.out⟩
      case measure=>simp[intOf];omega
     case neg =>
      have t1:(no != 0)=true:=by simpa using jj
      have hD:Hid (gj T no it=cM (cM T 0 0 0 (.eu no it.uid it.gid)) 0 0 0 (.dP no it.mode)):=by show _=_;unfold gj;rw[if_pos jj];rfl
      have KC:=zH (vL.out.eu Y7.out (by omega) no it.uid it.gid);have Ed:fI (20+3*k+1+1) (cM T 0 0 0 (.eu no it.uid it.gid)):=Y7.out.oc 0 0 0 _ (fun _ _ _ _ e=>by cases e);obtain⟨U,hU⟩:=zE (cM T 0 0 0 (.eu no it.uid it.gid));obtain ⟨ec,Y_⟩:∃e,e=fQ T 0 0 0 (.eu no it.uid it.gid):=⟨_,rfl⟩;rw [<-hU,<-Y_]at KC;rw [<-hU]at hD Ed;have HPU:=zH Ed;clear jj hU Y_ Ed;have r3:=qJ.out.cell 3;have r4:=qJ.out.cell 4;have rz:=qJ.out.lt;simp only[gA,gB,gC]at r3 r4;go_wp2_with (at_builtin;refine Lib.wpList_append_run _ rfl _ _ 124 124 rfl _ _ rfl rfl _ _ BG.out ?_);refine KC.out.mono ?_;rintro e JS ⟨rfl,Nx⟩;have acd:=vL.out.lt;have vp:Ext W1 JS:=Nx.after vL.out IV.out wP;have U3:=Nx.has qJ.out (vL.out.off qJ.out (by decide) (by decide) (by decide) (by decide));have hoff:=vL.out.vH Ec.out (by decide) (by decide) (by decide) (by decide);obtain ⟨g11,vM,Ee,Ef⟩:=Nx;have Ny:=Ec.out.only Ef hoff;have Za:N0<=JS.heap.size:=by have:=Ef.size;omega
      have KM:=zH (Ee.dP HPU.out (by omega) no it.mode);obtain⟨V,hV⟩:=zE (cM U 0 0 0 (.dP no it.mode));obtain ⟨ed,Zb⟩:∃e,e=fQ U 0 0 0 (.dP no it.mode):=⟨_,rfl⟩;rw [<-hV,<-Zb]at KM;rw [<-hV]at hD;have BO:=zH Ee;have zn:=zH Ny;have BP:=zH vp;clear r3 r4 rz KC hV Zb vM Ef hoff Ee Ny vp;have r2:=U3.cell 2;have rz:=U3.lt;simp only[gA,gB,gC]at r2;clear U3;go_wp2_with fail;refine KM.out.mono ?_;rintro e Ss ⟨rfl,T12⟩;have Dp:Ext W1 Ss:=T12.after BO.out BP.out wP;have hoff:=BO.out.vH zn.out (by decide) (by decide) (by decide) (by decide);obtain ⟨g12,Nz,Wr,SF⟩:=T12;have Zc:=zn.out.only SF hoff;have NA:N0<=Ss.heap.size:=by have:=SF.size;omega
      have U4:=zH Wr;have U6:=zH Zc;have IW:=zH Dp;clear r2 rz KM Nz SF hoff Wr Zc Dp;go_wp2_with fail;go_roundw
      case rel=>exact⟨k+1,g12,by go_num,by omega,by rw[rb.out,hD.out];exact U4.out.mono (by omega),by rw[rb.out];exact U6.out,NA,IW.out⟩
      case measure=>simp[intOf];omega
    case neg =>
     have ng:is.take k=is:=List.take_of_length_le (by have:=QT.out;omega);rw [ng]at hP hO;have gF:=fI.items is (S1,[]) Nl.out;have sD:=QT.out;obtain⟨p,pC⟩:=zE (dL (S1,[]) is);rw [<-pC]at hP hO gF;have Hg:Hid (gp ms is=ee p.1 (p.2.zip is)):=by show _=_;rw[Nk.out,pC]
     have Nq:p.2.length=ni:=by have:=gF.2;simp only[List.length_nil,Nat.zero_add]at this;omega
     have HOL:=zH Nq;have hzl:Hid ((p.2.zip is).length=ni):=by show _=_;rw[List.length_zip];omega
     have U7:=zH (gF.1.mono (show 20+3*is.length<=110 by omega));have HP:=zH (hP.mono (show 20+3*k<=110 by omega));obtain ⟨Am,cm',Zd,_,_,NB,_⟩:=hO.at_;rw [Nq]at Zd;have HO:=zH hO;have HE:=zH hE;have U8:=zH NB;have B3:=qR.out.ext hE;have c1:=B3.cell 1;have cz:=B3.lt;simp only[gA,gB,gC]at c1;subst Zd;clear hP hO hE ng gF sD pC Nq NB B3;go_wp2_with fail;clear c1 cz hlt hk k0;go_loopw [72] (fun vi wr=>∃(k:Nat) (g:bG),vi=.int .i64 k/\k<=ni/\kA wr B b g (110+k) (ee p.1 ((p.2.zip is).take k))/\dq jQ wr N0 (.slice Am ni cm') p.2/\Ext W1 wr) (fun vi _=>ni-(intOf vi).toNat)
     case atStart=>exact⟨0,g,rfl,Nat.zero_le _,HP.out,HO.out,HE.out⟩
     case round =>
      clear HP HO HE Y6 g U8;obtain ⟨k,g,rfl,hk,hP,hO,hE⟩:=hrel;have k0:(0:Int)<=(k:Int):=Int.natCast_nonneg _
      by_cases hlt:(k:Int)<ni
      case pos =>
       have dI:k<is.length:=by have:=QT.out;omega
       have QW:k<p.2.length:=by have:=HOL.out;omega
       have Ze:k<(p.2.zip is).length:=by have:=hzl.out;omega
       obtain ⟨ba,o,rfl,wH,q0,q1,q2,q3,q4,q5,q6⟩:=(HI.out.ext hE).IK dI;obtain ⟨gm,VQ,U9,qm⟩:∃gm,Am=some ⟨gm,0,none⟩/\gm<wr.heap.size/\wr.cell? ⟨gm,k,none⟩=some (.int .i64 p.2[k]):=by
        rcases hO.cases with⟨_,h2⟩|⟨gm,cap,cur,h2,_,h3,_,_,h4⟩
        ·rw[h2]at QW;cases QW
        ·injection h2 with h2
         have:=h4 k QW 0 (by decide);exact ⟨gm,h2,h3.lt,by simpa [jQ]using this⟩
       subst VQ;have AY:IntKind.i64.wrap ((k:Int)+1)=(k:Int)+1:=IntWalk.i64_in _ (by omega);have hst:=tb p.1 (p.2.zip is) Ze;rw [List.getElem_zip]at hst;have sE:fI (110+k) (ee p.1 ((p.2.zip is).take k)):=(fI.times ((p.2.zip is).take k) U7.out).mono (by rw[List.length_take];omega);obtain ⟨it,hit⟩:∃m,m=is[k]:=⟨_,rfl⟩;obtain ⟨no,aW⟩:∃m,m=p.2[k]:=⟨_,rfl⟩;rw [<-hit]at q0 q1 q2 q3 q4 q5 q6 hst;rw [<-aW]at qm hst;obtain ⟨S3,IQ⟩:∃S,S=ee p.1 ((p.2.zip is).take k):=⟨_,rfl⟩;rw [<-IQ]at hst sE hP;obtain ⟨W8,tm⟩:∃W,W=wr.alloc (.cells #[bs it.path,it.kind,it.mode,it.uid,it.gid,it.mtime,bs it.data] 72):=⟨_,rfl⟩;obtain ⟨b9,DV⟩:∃b,b=wr.heap.size:=⟨_,rfl⟩;have E8:Ext wr W8:=by rw[tm];exact (Ext.refl _).alloc _
       have B8:Has W8 b9 (.cells #[bs it.path,it.kind,it.mode,it.uid,it.gid,it.mtime,bs it.data] 72):=by rw[tm,DV];exact Has.new _ _
       have P8:=hP.ext E8;have O8:=hO.ext E8;have qm':=(E8.cell U9).trans qm;have qz':gm<W8.heap.size:=by have:=E8.size;omega
       have rb:=zH hst;have IR:=zH P8;have DY:=zH O8;have II:=zH (hE.trans E8);have r5:=B8.cell 5;have rz:=B8.lt;simp only[gA,gB,gC]at r5;have Nr:=zH sE;clear hst hP hO hE hit aW IQ P8 O8 B8 sE qm QW Ze;go_upto_region 23 with fail;rw [<-tm,<-DV];clear tm DV q0 q1 q2 q3 q4 q5 q6 wH U9
       by_cases jj:no=0
       case pos =>
        have t1:(no != 0)=false:=by simpa using jj
        have hD:Hid (ee p.1 ((p.2.zip is).take (k+1))=S3):=by show _=_;rw[rb.out];unfold mS;rw[if_neg (fun q=>q jj)]
        clear jj;go_wp2_with fail;go_roundw
        case rel=>exact⟨k+1,g,by go_num,by omega,by rw[hD.out];exact IR.out.mono (by omega),DY.out,II.out⟩
        case measure=>simp[intOf];omega
       case neg =>
        have t1:(no != 0)=true:=by simpa using jj
        have hD:Hid (ee p.1 ((p.2.zip is).take (k+1))=cM S3 0 0 0 (.fP no it.mtime)):=by show _=_;rw[rb.out];unfold mS;rw[if_pos jj];rfl
        have U_:=(Ext.refl W8).drew;have KC:=zH ((IR.out.ext U_).fP Nr.out (by omega) no it.mtime);have NC:=zH U_;clear jj U_;go_upto_region 24 with fail;go_still_tail 8,(by kernel_rfl);change wpList _ _ _ _ _ W8.drew;go_wp2_with fail;refine KC.out.mono ?_;rintro e JS ⟨rfl,Nx⟩;have vp:Ext W1 JS:=Nx.after (IR.out.ext NC.out) (II.out.trans NC.out) wP;have hoff:=(IR.out.ext NC.out).vH (DY.out.ext NC.out) (by decide) (by decide) (by decide) (by decide);obtain ⟨g11,vM,Ee,Ef⟩:=Nx;have Ny:=(DY.out.ext NC.out).only Ef hoff;have BO:=zH Ee;have zn:=zH Ny;have BP:=zH vp;clear r5 rz KC vM Ef hoff Ee Ny vp qm' qz';go_wp2_with fail;go_roundw
        case rel=>exact⟨k+1,g11,by go_num,by omega,by rw[hD.out];exact BO.out.mono (by omega),zn.out,BP.out⟩
        case measure=>simp[intOf];omega
      case neg =>
       have ng:(p.2.zip is).take k=p.2.zip is:=List.take_of_length_le (by have:=hzl.out;omega);rw [ng,<-Hg.out]at hP;have HP:=zH hP;have HE:=zH hE;have KW:=zH hP.abz;clear ng hP hE hO;go_wp2_with fail;refine KW.out.mono ?_;rintro e w9 ⟨⟨v9,rfl⟩,P9,o9⟩;have E9:Ext W1 w9:=o9.after HE.out (fun x hx=>by have:=(HP.out.cU x hx).1;omega);have HP9:=zH P9;clear P9 o9 KW;go_wp2_with fail;go_ret;exact ⟨b,B,g,rfl,by have:=E1.size;omega,HP9.out,E1.trans E9⟩
end Go.Proofs.YtpibnfdolojpcaaGreat
