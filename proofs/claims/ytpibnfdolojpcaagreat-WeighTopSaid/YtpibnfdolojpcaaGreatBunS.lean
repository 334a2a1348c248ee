import Derived.Test.YtpibnfdolojpcaaGreatBunN
import Derived.Test.YtpibnfdolojpcaaGreatBunL
import Derived.Test.YtpibnfdolojpcaaGreatBunF
import Derived.Test.YtpibnfdolojpcaaGreatBunM
import Derived.Test.YtpibnfdolojpcaaGreatBunJ
import Derived.Test.YtpibnfdolojpcaaGreatBunI
import Derived.Test.YtpibnfdolojpcaaGreatBunK
import Derived.OpenShut
set_option maxHeartbeats 16000000
set_option maxRecDepth 100000
namespace Go.Proofs.YtpibnfdolojpcaaGreat
open Go.ChangeShapes Go.WideShapes Go.ChangeAt Go.RowKit
structure RowK (α:Type) where
 ts:TypeId
 t : TypeId
 k : Nat
 bytes:Nat
 zero:Value
 enc:α→List Value
 hk:0<k
 under:Tryz.prog.underlying ts=some (.slice t)
 info:(Tryz.prog.info? t).map (fun i=>(i.zero,i.size,i.bytes))=some (some zero,k,bytes)
 zs:zero.cells.size=k
 len:∀x,(enc x).length=k
 one:∀x,∀u∈enc x,u.oneCell'=true
 hb:bytes≤1000
section
variable {α:Type} {R:RowK α}
def RowK.cells (R:RowK α) (l:List α):List Value:=l.flatMap R.enc
theorem RowK.cells_len (R:RowK α) (l:List α):(R.cells l).length=l.length*R.k:=by
 unfold RowK.cells
 induction l with
 | nil=>simp
 | cons x l ih=>rw[List.flatMap_cons,List.length_append,ih,R.len,List.length_cons,Nat.succ_mul];omega
theorem RowK.cells_append (R:RowK α) (a b:List α):R.cells (a++b)=R.cells a++R.cells b:=by unfold RowK.cells;rw[List.flatMap_append]
theorem RowK.cells_get (R:RowK α) (l:List α):∀i,(h:i<l.length)→∀j,j<R.k→(R.cells l)[i*R.k+j]?=(R.enc l[i])[j]?:=by
 induction l with
 | nil=>intro i h;cases h
 | cons x l ih =>
  intro i h j hj;have e:R.cells (x::l)=R.enc x++R.cells l:=rfl;rw [e]
  cases i with
  | zero =>
   simp only[Nat.zero_mul,Nat.zero_add,List.getElem_cons_zero];rw [List.getElem?_append_left (by rw[R.len];exact hj)]
  | succ i =>
   have:=ih i (by simpa using h) j hj;rw [List.getElem?_append_right (by rw[R.len,Nat.succ_mul];omega),R.len];simp only[List.getElem_cons_succ];rw [show (i+1)*R.k+j-R.k=i*R.k+j by rw[Nat.succ_mul];omega];exact this
theorem RowK.cells_one (R:RowK α) (l:List α):∀u∈R.cells l,u.oneCell'=true:=by
 intro u hu;unfold RowK.cells at hu;rw [List.mem_flatMap]at hu;obtain ⟨x,_,hx⟩:=hu;exact R.one x u hx
def OwnG (R:RowK α) (w:World) (base:Nat) (v:Value) (l:List α):Prop:=w.ownsRow base R.t R.k v l.length (R.cells l)
theorem OwnG.nil (R:RowK α) (w:World) (base:Nat):OwnG R w base (.slice none 0 0) []:=World.ownsRow_nil _ _ _ _
def RowAt (R:RowK α) (w:World) (A:Option Addr) (l:List α):Prop:=
 l = []∨∃b o,A=some ⟨b,o,none⟩∧b<w.heap.size∧∀i,(h:i<l.length)→∀j,j<R.k→w.cell? ⟨b,o+i*R.k+j,none⟩=(R.enc l[i])[j]?
theorem RowAt.ext {w w':World} {A:Option Addr} {l:List α} (h:RowAt R w A l) (k:Ext w w'):RowAt R w' A l:=by
 rcases h with h|⟨b,o,hA,hb,hc⟩
 ·exact .inl h
 ·exact .inr ⟨b,o,hA,by have:=k.size;omega,fun i hi j hj=>(k.cell hb).trans (hc i hi j hj)⟩
theorem OwnG.cases {w:World} {base:Nat} {v:Value} {l:List α} (h:OwnG R w base v l) :
  (v=.slice none 0 0∧l=[])∨∃g cap cur,v=.slice (some ⟨g,0,none⟩) l.length cap∧base≤g∧Has w g (.cells cur R.t)∧l.length≤cap∧cap≤maxLen∧∀i,(h:i<l.length)→∀j,j<R.k→w.cell? ⟨g,i*R.k+j,none⟩=(R.enc l[i])[j]?:=by
 rcases h.2 with⟨e,h0⟩|⟨g,cap,cur,rfl,hb,hg,hn,hm,hs,ht⟩
 ·exact .inl ⟨e,List.eq_nil_of_length_eq_zero h0⟩
 ·refine .inr ⟨g,cap,cur,rfl,hb,hg,hn,hm,fun i hi j hj=>?_⟩
  have hlt:i*R.k+j<l.length*R.k:=by
   have:(i+1)*R.k≤l.length*R.k:=Nat.mul_le_mul_right _ hi;rw [Nat.succ_mul]at this;omega
  have:=World.ownsRow.cellAt h (i*R.k+j) hlt;rw [this];exact R.cells_get l i hi j hj
theorem OwnG.at_ {w:World} {base:Nat} {v:Value} {l:List α} (h:OwnG R w base v l):∃A cap,v=.slice A l.length cap∧l.length≤cap∧cap≤maxLen∧RowAt R w A l∧(A=none→cap=0):=by
 rcases h.cases with⟨rfl,rfl⟩|⟨g,cap,cur,rfl,hb,hg,hn,hm,hc⟩
 ·exact⟨none,0,rfl,Nat.le_refl _,by decide,.inl rfl,fun _=>rfl⟩
 ·exact⟨_,cap,rfl,hn,hm,.inr ⟨g,0,rfl,hg.lt,fun i hi j hj=>by rw[Nat.zero_add];exact hc i hi j hj⟩,fun e=>by cases e⟩
theorem OwnG.ext {w w':World} {base:Nat} {v:Value} {l:List α} (h:OwnG R w base v l) (k:Ext w w'):OwnG R w' base v l:=World.ownsRow.kept h k.grownBy (by cases v.ownBlock<;>simp)
theorem OwnG.only {w w':World} {base:Nat} {v:Value} {l:List α} {L:List Nat} (h:OwnG R w base v l) (o:Only L w w') (hn:∀g,v.ownBlock=some g→g∉L):OwnG R w' base v l:=ownsRow_only h o hn
theorem OwnG.lt {w:World} {base:Nat} {v:Value} {l:List α} (h:OwnG R w base v l) {g:Nat} (hv:v.ownBlock=some g):base≤g∧g<w.heap.size:=World.ownsRow.lt h g hv
theorem OwnG.tag {w:World} {base g:Nat} {v:Value} {l:List α} (h:OwnG R w base v l) (hv:v.ownBlock=some g):HasTag w g R.t:=by
 rcases h.2 with⟨rfl,_⟩|⟨g',cap,cur,rfl,hb,hg,_⟩
 ·cases hv
 ·injection hv with hv
  subst hv;exact ⟨_,_,hg⟩
theorem app_gs (R:RowK α) (w:World) {base:Nat} {v:Value} {l:List α} (h:OwnG R w base v l) (hb:base≤w.heap.size) (l2:List α) (bb o c2:Nat) (h2:∀i,(h:i<l2.length)→∀j,j<R.k→w.cell? ⟨bb,o+i*R.k+j,none⟩=(R.enc l2[i])[j]?)
  (hl:l.length≤2000000) (hl2:l2.length≤1000000) :
  ∃ v' w',(Builtin.append_ #[R.ts,R.ts] R.ts #[v,.slice (some ⟨bb,o,none⟩) l2.length c2]).run Tryz.prog w=.ok v' w'∧OwnG R w' base v' (l++l2)∧w.grownBy w' v.ownBlock∧(v'.ownBlock=v.ownBlock∨v'.ownBlock=some w.heap.size):=by
 obtain ⟨i0,hi,hz0,hz1,hz2⟩:=info_parts R.info;obtain ⟨v',w',hr,h3,h4,_,h5⟩:=run_append_own_at (P:=Tryz.prog) (w:=w) base R.ts R.ts R.t i0 R.zero R.k R.bytes R.under hi hz0 hz1 hz2 R.zs R.hk v l.length _ h ⟨bb,o,none⟩ l2.length c2 (R.cells l2) (R.cells_len l2)
  (by
   intro j u hu;rw [Addr.add_lit];have hk:=R.hk;have hj:j<l2.length*R.k:=by
    rcases Nat.lt_or_ge j (l2.length*R.k) with h'|h'
    ·exact h'
    ·rw[List.getElem?_eq_none (by rw[R.cells_len];exact h')]at hu;cases hu
   have hi:j / R.k<l2.length:=Nat.div_lt_of_lt_mul (by rw[Nat.mul_comm];exact hj);have hm:j % R.k<R.k:=Nat.mod_lt _ hk;have e:j / R.k*R.k+j % R.k=j:=by rw[Nat.mul_comm];exact Nat.div_add_mod j R.k
   have a:=R.cells_get l2 (j / R.k) hi (j % R.k) hm;rw [e,hu]at a;have b:=h2 (j / R.k) hi (j % R.k) hm;rw [Nat.add_assoc,e]at b;rw [b,←a])
  (R.cells_one l2) (by unfold maxLen;omega) (Nat.le_trans (Nat.mul_le_mul (show l.length+l2.length≤3000000 by omega) R.hb) (by omega)) hb
 refine ⟨v',w',hr,?_,h4,h5⟩;unfold OwnG;rw [R.cells_append,List.length_append];exact h3
theorem app_g (R:RowK α) (w:World) {base:Nat} {v:Value} {l:List α} (h:OwnG R w base v l) (hb:base≤w.heap.size) (x:α) (hl:l.length≤2000000) :
  ∃ v' w',(Builtin.append_ #[R.ts,R.ts] R.ts #[v,.slice (some ⟨w.heap.size,0,none⟩) 1 1]).run Tryz.prog (w.alloc (.cells (R.enc x).toArray R.t))=.ok v' w'∧OwnG R w' base v' (l++[x])∧(w.alloc (.cells (R.enc x).toArray R.t)).grownBy w' v.ownBlock∧(v'.ownBlock=v.ownBlock∨v'.ownBlock=some (w.heap.size+1)):=by
 have hN:=Has.new w (.cells (R.enc x).toArray R.t);have E:Ext w (w.alloc (.cells (R.enc x).toArray R.t)):=(Ext.refl _).alloc _;obtain ⟨v',w',hr,h3,h4,h5⟩:=app_gs R (w.alloc (.cells (R.enc x).toArray R.t)) (h.ext E) (by simp;omega) [x] w.heap.size 0 1
  (fun i hi j hj=>by
   have:i=0:=by simpa using hi
   subst this;rw [show 0+0*R.k+j=j by omega];have:=hN.cell j;rw [this];simp) hl (by simp)
 exact ⟨v',w',hr,h3,h4,by rw[World.size_alloc]at h5;exact h5⟩
end
def rowI:RowK Int:=⟨124,3,1,8,.int .i64 0,fun x=>[.int .i64 x],by decide,Tryz.underlying124,by kernel_rfl,rfl,fun _=>rfl,fun x u hu=>by rw[List.mem_singleton]at hu;subst hu;rfl,by decide⟩
def rowE:RowK (List UInt8×Int):=⟨64,153,2,24,.agg #[.string ⟨#[]⟩,.int .i64 0],fun x=>[.string (bs x.1),.int .i64 x.2],by decide,Tryz.underlying64,by kernel_rfl,rfl,fun _=>rfl,fun x u hu=>by
 simp only[List.mem_cons,List.not_mem_nil,or_false]at hu;rcases hu with rfl|rfl<;>rfl,by decide⟩
end Go.Proofs.YtpibnfdolojpcaaGreat
namespace Go.Proofs.YtpibnfdolojpcaaGreat
structure MntD where
 path:List UInt8
 b : Int
 n : Int
structure ItmD where
 path:List UInt8
 kind:Int
 mode:Int
 uid:Int
 gid:Int
 mtime:Int
 data:List UInt8
structure Plt (c:Nat) (S:TreeD):Prop where
 tre:Tre c S
 noe:NoEnts S
 kids:Kids S
 last:S.last≤c+1
theorem Plt.mono {c d:Nat} {S:TreeD} (h:Plt c S) (hcd:c≤d):Plt d S:=⟨tre_mono h.tre hcd,h.noe,h.kids,by have:=h.last;omega⟩
theorem Plt.chg {c:Nat} {S:TreeD} (h:Plt c S) (cu cg now:Int) (x:Chg) (hx:∀fr a to_ b,x≠.rename fr a to_ b):Plt (c+1) (chgT S cu cg now x):=
 ⟨tre_chg h.tre _ _ _ _,noEnts_chg h.tre h.noe _ _ _ _,kids_chg h.tre h.kids _ _ _ _ hx,by have:=chg_last S cu cg now x;have:=h.last;omega⟩
theorem noEnts_mount {S:TreeD} (h:NoEnts S) (a b n:Int):NoEnts (mountT S a b n):=by
 unfold mountT;split
 ·intro m hm hk
  rcases List.mem_append.1 hm with hm|hm
  ·exact h m hm hk
  ·rw [List.mem_singleton]at hm
   subst hm;exact absurd rfl hk
 ·exact h
theorem Plt.mount {c:Nat} {S:TreeD} (h:Plt c S) (a b n:Int):Plt (c+1) (mountT S a b n):=
 ⟨tre_mono (tre_mount h.tre _ _ _) (by omega),noEnts_mount h.noe _ _ _,kids_mount h.tre h.kids _ _ _,by have:=mountT_last (S:=S) a b n;have:=h.last;omega⟩
theorem Plt.first {b n:Int} (hl:limitsF b n=true):Plt 0 (rootT emptyT 0 b n):=
 ⟨tre_first hl,fun m hm hk=>by
  have hm':m∈[rootNode emptyT]:=hm;rw [List.mem_singleton]at hm';subst hm';rfl,kids_first b n,by show (1:Int)≤_;omega⟩
def mntP (S:TreeD) (m:MntD):FndD×Int:=pathF S 0 0 m.path false
def mntC (S:TreeD) (m:MntD):Chg:=.mkdir (mntP S m).1.dir (mntP S m).1.name 493
def mntT (S:TreeD) (m:MntD):TreeD:=
 if (mntP S m).2≠0 then S
 else if (mntP S m).1.no=0 then (if chgE S 0 0 0 (mntC S m)=0 then mountT (chgT S 0 0 0 (mntC S m)) (chgN S 0 0 0 (mntC S m)) m.b m.n else chgT S 0 0 0 (mntC S m))
 else mountT S (mntP S m).1.no m.b m.n
theorem Plt.mnt {c:Nat} {S:TreeD} (h:Plt c S) (m:MntD):Plt (c+2) (mntT S m):=by
 unfold mntT;split
 ·exact h.mono (by omega)
 ·split
  ·have h1:=h.chg 0 0 0 (mntC S m) (fun _ _ _ _ e=>by cases e)
   split
   ·exact h1.mount _ _ _
   ·exact h1.mono (by omega)
  ·exact (h.mount _ _ _).mono (by omega)
def topB (m:MntD):Bool:=m.path == [47]
def mntsT (S:TreeD) (l:List MntD):TreeD:=l.foldl (fun S m=>if topB m=true then S else mntT S m) S
theorem Plt.mnts {c:Nat} {S:TreeD} (h:Plt c S) (l:List MntD):Plt (c+2*l.length) (mntsT S l):=by
 unfold mntsT
 induction l generalizing c S with
 | nil=>exact h
 | cons m l ih =>
  rw [List.foldl_cons];have h1:Plt (c+2) (if topB m=true then S else mntT S m):=by
   split
   ·exact h.mono (by omega)
   ·exact h.mnt m
  exact (ih h1).mono (by rw[List.length_cons];omega)
def itmP (S:TreeD) (it:ItmD):FndD×Int:=pathF S 0 0 it.path false
def itmL (S:TreeD) (it:ItmD):FndD×Int:=pathF S 0 0 it.data false
def itmC (S:TreeD) (it:ItmD):Option Chg:=
 if (itmP S it).2≠0 then none
 else if (itmP S it).1.no≠0 then none
 else if it.kind=1 then some (.mkdir (itmP S it).1.dir (itmP S it).1.name 493)
 else if it.kind=2 then some (.create (itmP S it).1.dir (itmP S it).1.name 420 it.data)
 else if it.kind=3 then some (.symlink (itmP S it).1.dir (itmP S it).1.name it.data)
 else if it.kind=4 then (if (itmL S it).2=0 then some (.link (itmL S it).1.no (itmP S it).1.dir (itmP S it).1.name) else none)
 else none
def itmT (S:TreeD) (it:ItmD):TreeD:=match itmC S it with|some x=>chgT S 0 0 0 x|none=>S
def itmN (S:TreeD) (it:ItmD):Int:=
 match itmC S it with
 | some x=>chgN S 0 0 0 x
 | none=>if (itmP S it).2=0∧(itmP S it).1.no≠0∧it.kind=1∧(getN S.nodes (itmP S it).1.no).kind=1 then (itmP S it).1.no else 0
theorem itmC_no {S:TreeD} {it:ItmD} {x:Chg} (h:itmC S it=some x):∀fr a to_ b,x≠.rename fr a to_ b:=by
 intro fr a to_ b e;subst e;unfold itmC at h;split at h
 ·cases h
 split at h
 ·cases h
 split at h
 ·cases h
 split at h
 ·cases h
 split at h
 ·cases h
 split at h
 ·split at h<;>cases h
 ·cases h
theorem Plt.itm {c:Nat} {S:TreeD} (h:Plt c S) (it:ItmD):Plt (c+1) (itmT S it):=by
 unfold itmT;split
 ·rename_i x hx;exact h.chg _ _ _ _ (itmC_no hx)
 ·exact h.mono (by omega)
def dressT (S:TreeD) (no:Int) (it:ItmD):TreeD:=if no≠0 then modeT (ownrT S 0 0 no it.uid it.gid) 0 0 no it.mode else S
theorem Plt.dress {c:Nat} {S:TreeD} (h:Plt c S) (no:Int) (it:ItmD):Plt (c+2) (dressT S no it):=by
 unfold dressT;split
 ·exact (h.chg 0 0 0 (.chown no it.uid it.gid) (fun _ _ _ _ e=>by cases e)).chg 0 0 0 (.chmod no it.mode) (fun _ _ _ _ e=>by cases e)
 ·exact h.mono (by omega)
def itemS (p:TreeD×List Int) (it:ItmD):TreeD×List Int:=(dressT (itmT p.1 it) (itmN p.1 it) it,p.2++[itmN p.1 it])
def itemsS (p:TreeD×List Int) (l:List ItmD):TreeD×List Int:=l.foldl itemS p
theorem Plt.items {c:Nat} (l:List ItmD) (p:TreeD×List Int) (h:Plt c p.1):Plt (c+3*l.length) (itemsS p l).1∧(itemsS p l).2.length=p.2.length+l.length:=by
 unfold itemsS
 induction l generalizing c p with
 | nil=>exact⟨h,rfl⟩
 | cons m l ih =>
  rw [List.foldl_cons];have h1:Plt (c+3) (itemS p m).1:=(h.itm m).dress _ _;obtain ⟨k1,k2⟩:=ih _ h1;refine ⟨k1.mono (by rw[List.length_cons];omega),?_⟩;rw [k2];unfold itemS;simp only[List.length_append,List.length_cons,List.length_nil];omega
def timeS (S:TreeD) (x:Int×ItmD):TreeD:=if x.1≠0 then timeT S 0 0 x.1 x.2.mtime else S
def timesT (S:TreeD) (l:List (Int×ItmD)):TreeD:=l.foldl timeS S
theorem Plt.times {c:Nat} (l:List (Int×ItmD)) {S:TreeD} (h:Plt c S):Plt (c+l.length) (timesT S l):=by
 unfold timesT
 induction l generalizing c S with
 | nil=>exact h
 | cons x l ih =>
  rw [List.foldl_cons];have h1:Plt (c+1) (timeS S x):=by
   unfold timeS;split
   ·exact h.chg 0 0 0 (.utime x.1 x.2.mtime) (fun _ _ _ _ e=>by cases e)
   ·exact h.mono (by omega)
  exact (ih h1).mono (by rw[List.length_cons];omega)
def seedB (l:List MntD):Int×Int:=match l.find? (fun m=>topB m&&limitsF m.b m.n) with|some m=>(m.b,m.n)|none=>(65536,65536)
theorem seedB_ok (l:List MntD):limitsF (seedB l).1 (seedB l).2=true:=by
 unfold seedB;split
 ·rename_i m hm
  have:=List.find?_some hm;simp only[Bool.and_eq_true]at this;exact this.2
 ·decide
def seed0 (ms:List MntD):TreeD:=rootT emptyT 0 (seedB ms).1 (seedB ms).2
def seed2 (ms:List MntD) (is:List ItmD):TreeD×List Int:=itemsS (mntsT (seed0 ms) ms,[]) is
def plantT (ms:List MntD) (is:List ItmD):TreeD:=timesT (seed2 ms is).1 ((seed2 ms is).2.zip is)
def sumE (ns:List NodeD):Nat:=(ns.map fun n=>n.ents.length).sum
theorem sumE_append (a b:List NodeD):sumE (a++b)=sumE a+sumE b:=by unfold sumE;rw[List.map_append,List.sum_append]
theorem setN_none {ns:List NodeD} {n:NodeD} (h:∀m∈ns,m.no≠n.no):setN ns n=ns:=by
 unfold setN;have:ns.map (fun m=>if m.no == n.no then n else m)=ns.map id:=by
  apply List.map_congr_left;intro m hm;have:=h m hm;rw [if_neg (by simpa using this)];rfl
 rw [this,List.map_id]
theorem ens_setN {ns:List NodeD} (hp:ns.Pairwise (fun a b=>a.no<b.no)) {n:NodeD} {d:Nat} (hle:n.ents.length≤(getN ns n.no).ents.length+d):sumE (setN ns n)≤sumE ns+d:=by
 induction ns with
 | nil=>exact Nat.zero_le _
 | cons a ns ih =>
  rw [List.pairwise_cons]at hp
  by_cases he:a.no=n.no
  ·have h1:setN ns n=ns:=setN_none fun m hm=>by have:=hp.1 m hm;omega
   have h2:getN (a::ns) n.no=a:=by unfold getN getO;rw[List.find?_cons];simp[he]
   have h3:setN (a::ns) n=n::setN ns n:=by unfold setN;rw[List.map_cons,if_pos (by simpa using he)]
   rw [h3,h1];rw [h2]at hle;unfold sumE;rw [List.map_cons,List.sum_cons,List.map_cons,List.sum_cons];omega
  ·have h2:getN (a::ns) n.no=getN ns n.no:=by
    unfold getN getO;rw [List.find?_cons];have:(a.no == n.no)=false:=by simpa using he
    rw [this]
   have h3:setN (a::ns) n=a::setN ns n:=by unfold setN;rw[List.map_cons,if_neg (by simpa using he)]
   rw [h2]at hle;have:=ih hp.2 hle;rw [h3];unfold sumE at this⊢;rw [List.map_cons,List.sum_cons,List.map_cons,List.sum_cons];omega
theorem entsN_sum (S:TreeD):entsN S=sumE S.nodes:=rfl
theorem ens_setT {S:TreeD} (hu:NosUp S.nodes S.last) {n:NodeD} {d:Nat} (hle:n.ents.length≤(getN S.nodes n.no).ents.length+d):entsN (setT S n)≤entsN S+d:=ens_setN hu.1 hle
theorem ens_same {S:TreeD} (hu:NosUp S.nodes S.last) {no:Int} (hi:isN S.nodes no=true) {n:NodeD} (hno:n.no=(getN S.nodes no).no) (he:n.ents=(getN S.nodes no).ents):entsN (setT S n)≤entsN S:=by
 have h1:n.no=no:=hno.trans (isN_true hi).2.1;have:=ens_setT (d:=0) hu (n:=n) (by rw[h1,he];omega);omega
theorem ens_come {S:TreeD} {c:Nat} (hT:Tre c S) (cu cg now dir:Int) (nm:List UInt8) (n:NodeD) (hn:n.ents=[]):entsN (comeT S cu cg now dir nm n)≤entsN S+1:=by
 unfold comeT;split
 case isFalse=>omega
 rename_i h0;obtain ⟨h1,_,h3⟩:=comeE_zero h0;obtain ⟨p1,p2,_⟩:=placeE_zero h1;obtain ⟨_,hno,hmem⟩:=isN_true p1;have hmk:(makeT S (newN S cu cg now dir n)).nodes=S.nodes++[{newN S cu cg now dir n with no:=S.last+1}]:=by unfold makeT;rw[if_pos h3]
 have hml:(makeT S (newN S cu cg now dir n)).last=S.last+1:=by unfold makeT;rw[if_pos h3]
 have hg:=getN_make hT.nos (newN S cu cg now dir n) p1;have hu:NosUp (makeT S (newN S cu cg now dir n)).nodes (makeT S (newN S cu cg now dir n)).last:=by rw[hmk,hml];exact hT.nos.add _ rfl (by have:=hT.last;omega)
 have e1:entsN (makeT S (newN S cu cg now dir n))=entsN S:=by
  rw [entsN_sum,hmk,sumE_append];have:sumE [{newN S cu cg now dir n with no:=S.last+1}]=0:=by
   show (([n.ents.length]:List Nat)).sum=0;rw [hn];rfl
  rw [this];rfl
 rw [←e1];refine ens_setT hu ?_;show (putF (getN S.nodes dir).ents (nm,S.last+1)).length≤(getN (makeT S (newN S cu cg now dir n)).nodes (getN (makeT S (newN S cu cg now dir n)).nodes dir).no).ents.length+1;rw [hg.1,hno,hg.1];exact putF_len _ _
theorem ens_pre {S T:TreeD} {p:Int} {k:Nat} (h:entsN T≤entsN S+k):entsN (preT p S T)≤entsN S+k:=by unfold preT;split;omega;exact h
theorem ens_hard {S:TreeD} {c:Nat} (hT:Tre c S) (cu cg now no dir:Int) (nm:List UInt8):entsN (hardT S cu cg now no dir nm)≤entsN S+1:=by
 unfold hardT;split
 case isFalse=>omega
 rename_i h0;obtain ⟨hp,hi,hk,_⟩:=hardE_zero h0;obtain ⟨hid,hkd,_⟩:=placeE_zero hp;obtain ⟨_,hno,hmem⟩:=isN_true hi;obtain ⟨_,hnod,hmemd⟩:=isN_true hid;have hne:dir≠no:=fun e=>by subst e;exact hk hkd
 have e0:(hardN S now no).no=no:=hno;obtain ⟨g1,g2⟩:=setN_get (S:=S) (n:=hardN S now no) (no:=dir) (by rw[e0];exact hne);have a1:entsN (setT S (hardN S now no))≤entsN S:=ens_same hT.nos hi rfl rfl;have a2:entsN (touchT (setT S (hardN S now no)) dir now (putF (getN S.nodes dir).ents (nm,no)))≤entsN (setT S (hardN S now no))+1:=by
  refine ens_setT (S:=setT S (hardN S now no)) (hT.nos.set _) ?_;show (putF (getN S.nodes dir).ents (nm,no)).length≤(getN (setT S (hardN S now no)).nodes (getN (setT S (hardN S now no)).nodes dir).no).ents.length+1;rw [g1,hnod,g1];exact putF_len _ _
 omega
theorem ens_mode {S:TreeD} {c:Nat} (hT:Tre c S) (cu now no m:Int):entsN (modeT S cu now no m)≤entsN S:=by
 unfold modeT;split
 ·rename_i h0
  unfold modeE at h0;split at h0
  ·rename_i h1;exact absurd h0 h1
  ·rename_i h1;exact ens_same hT.nos (ownE_is (Decidable.not_not.1 h1)) rfl rfl
 ·omega
theorem ens_ownr {S:TreeD} {c:Nat} (hT:Tre c S) (cu now no u g:Int):entsN (ownrT S cu now no u g)≤entsN S:=by
 unfold ownrT;split
 ·rename_i h0
  unfold ownrE at h0;split at h0
  ·rename_i h1;exact absurd h0 h1
  ·rename_i h1;exact ens_same hT.nos (ownE_is (Decidable.not_not.1 h1)) rfl rfl
 ·omega
theorem ens_time {S:TreeD} {c:Nat} (hT:Tre c S) (cu now no t:Int):entsN (timeT S cu now no t)≤entsN S:=by
 unfold timeT;split
 ·rename_i h0
  unfold timeE at h0;split at h0
  ·rename_i h1;exact absurd h0 h1
  ·rename_i h1;exact ens_same hT.nos (ownE_is (Decidable.not_not.1 h1)) rfl rfl
 ·omega
theorem ens_mount (S:TreeD) (a b n:Int):entsN (mountT S a b n)≤entsN S:=by
 unfold mountT;split
 ·rw [entsN_sum,entsN_sum]
  show sumE (S.nodes++[rootNode S])≤_;rw [sumE_append];have:sumE [rootNode S]=0:=rfl;omega
 ·omega
structure PlE (c:Nat) (S:TreeD):Prop where
 plt:Plt c S
 ens:entsN S≤c
theorem PlE.mono {c d:Nat} {S:TreeD} (h:PlE c S) (hcd:c≤d):PlE d S:=⟨h.plt.mono hcd,by have:=h.ens;omega⟩
theorem PlE.mount {c:Nat} {S:TreeD} (h:PlE c S) (a b n:Int):PlE (c+1) (mountT S a b n):=⟨h.plt.mount a b n,by have:=ens_mount S a b n;have:=h.ens;omega⟩
theorem PlE.first {b n:Int} (hl:limitsF b n=true):PlE 0 (rootT emptyT 0 b n):=⟨.first hl,Nat.le_refl _⟩
theorem PlE.dir {c:Nat} {S:TreeD} (h:PlE c S) (cu cg now dir:Int) (nm:List UInt8) (mode:Int):PlE (c+1) (chgT S cu cg now (.mkdir dir nm mode)):=
 ⟨h.plt.chg _ _ _ _ (fun _ _ _ _ e=>by cases e),by have:=ens_pre (p:=dirP mode) (ens_come h.plt.tre cu cg now dir nm (dirZ mode dir) rfl);have:=h.ens;show entsN (preT _ _ _)≤_;omega⟩
theorem PlE.file {c:Nat} {S:TreeD} (h:PlE c S) (cu cg now dir:Int) (nm:List UInt8) (mode:Int) (data:List UInt8):PlE (c+1) (chgT S cu cg now (.create dir nm mode data)):=
 ⟨h.plt.chg _ _ _ _ (fun _ _ _ _ e=>by cases e),by have:=ens_pre (p:=fileP mode data.length) (ens_come h.plt.tre cu cg now dir nm (fileZ mode data) rfl);have:=h.ens;show entsN (preT _ _ _)≤_;omega⟩
theorem PlE.sym {c:Nat} {S:TreeD} (h:PlE c S) (cu cg now dir:Int) (nm text:List UInt8):PlE (c+1) (chgT S cu cg now (.symlink dir nm text)):=
 ⟨h.plt.chg _ _ _ _ (fun _ _ _ _ e=>by cases e),by have:=ens_pre (p:=symP text) (ens_come h.plt.tre cu cg now dir nm (symZ text) rfl);have:=h.ens;show entsN (preT _ _ _)≤_;omega⟩
theorem PlE.hard {c:Nat} {S:TreeD} (h:PlE c S) (cu cg now no dir:Int) (nm:List UInt8):PlE (c+1) (chgT S cu cg now (.link no dir nm)):=
 ⟨h.plt.chg _ _ _ _ (fun _ _ _ _ e=>by cases e),by have:=ens_hard h.plt.tre cu cg now no dir nm;have:=h.ens;show entsN (hardT ..)≤_;omega⟩
theorem PlE.mode {c:Nat} {S:TreeD} (h:PlE c S) (cu cg now no m:Int):PlE (c+1) (chgT S cu cg now (.chmod no m)):=
 ⟨h.plt.chg _ _ _ _ (fun _ _ _ _ e=>by cases e),by have:=ens_mode h.plt.tre cu now no m;have:=h.ens;show entsN (modeT ..)≤_;omega⟩
theorem PlE.ownr {c:Nat} {S:TreeD} (h:PlE c S) (cu cg now no u g:Int):PlE (c+1) (chgT S cu cg now (.chown no u g)):=
 ⟨h.plt.chg _ _ _ _ (fun _ _ _ _ e=>by cases e),by have:=ens_ownr h.plt.tre cu now no u g;have:=h.ens;show entsN (ownrT ..)≤_;omega⟩
theorem PlE.time {c:Nat} {S:TreeD} (h:PlE c S) (cu cg now no t:Int):PlE (c+1) (chgT S cu cg now (.utime no t)):=
 ⟨h.plt.chg _ _ _ _ (fun _ _ _ _ e=>by cases e),by have:=ens_time h.plt.tre cu now no t;have:=h.ens;show entsN (timeT ..)≤_;omega⟩
theorem PlE.mnt {c:Nat} {S:TreeD} (h:PlE c S) (m:MntD):PlE (c+2) (mntT S m):=by
 unfold mntT;split
 ·exact h.mono (by omega)
 ·split
  ·have h1:=h.dir 0 0 0 (mntP S m).1.dir (mntP S m).1.name 493
   split
   ·exact h1.mount _ _ _
   ·exact h1.mono (by omega)
  ·exact (h.mount _ _ _).mono (by omega)
theorem PlE.mnts {c:Nat} {S:TreeD} (h:PlE c S) (l:List MntD):PlE (c+2*l.length) (mntsT S l):=by
 unfold mntsT
 induction l generalizing c S with
 | nil=>exact h
 | cons m l ih =>
  rw [List.foldl_cons];have h1:PlE (c+2) (if topB m=true then S else mntT S m):=by
   split
   ·exact h.mono (by omega)
   ·exact h.mnt m
  exact (ih h1).mono (by rw[List.length_cons];omega)
theorem PlE.itm {c:Nat} {S:TreeD} (h:PlE c S) (it:ItmD):PlE (c+1) (itmT S it):=by
 unfold itmT;split
 ·rename_i x hx
  unfold itmC at hx;split at hx
  ·cases hx
  split at hx
  ·cases hx
  split at hx
  ·injection hx with hx;subst hx;exact h.dir ..
  split at hx
  ·injection hx with hx;subst hx;exact h.file ..
  split at hx
  ·injection hx with hx;subst hx;exact h.sym ..
  split at hx
  ·split at hx
   ·injection hx with hx;subst hx;exact h.hard ..
   ·cases hx
  ·cases hx
 ·exact h.mono (by omega)
theorem PlE.dress {c:Nat} {S:TreeD} (h:PlE c S) (no:Int) (it:ItmD):PlE (c+2) (dressT S no it):=by
 unfold dressT;split
 ·exact (h.ownr 0 0 0 no it.uid it.gid).mode 0 0 0 no it.mode
 ·exact h.mono (by omega)
theorem PlE.item {c:Nat} {p:TreeD×List Int} (h:PlE c p.1) (it:ItmD):PlE (c+3) (itemS p it).1:=(h.itm it).dress _ _
theorem PlE.items {c:Nat} (l:List ItmD) (p:TreeD×List Int) (h:PlE c p.1):PlE (c+3*l.length) (itemsS p l).1:=by
 unfold itemsS
 induction l generalizing c p with
 | nil=>exact h
 | cons m l ih =>
  rw [List.foldl_cons];exact (ih _ (h.item m)).mono (by rw[List.length_cons];omega)
theorem PlE.times {c:Nat} (l:List (Int×ItmD)) {S:TreeD} (h:PlE c S):PlE (c+l.length) (timesT S l):=by
 unfold timesT
 induction l generalizing c S with
 | nil=>exact h
 | cons x l ih =>
  rw [List.foldl_cons];have h1:PlE (c+1) (timeS S x):=by
   unfold timeS;split
   ·exact h.time 0 0 0 x.1 x.2.mtime
   ·exact h.mono (by omega)
  exact (ih h1).mono (by rw[List.length_cons];omega)
theorem plant_ple {ms:List MntD} {is:List ItmD} (h1:ms.length≤10) (h2:is.length≤30):PlE 140 (plantT ms is):=by
 have a:=(PlE.first (seedB_ok ms)).mnts ms;have b1:=PlE.items is (mntsT (seed0 ms) ms,[]) a;have c:=b1.times ((seed2 ms is).2.zip is);refine c.mono ?_;have:((seed2 ms is).2.zip is).length≤is.length:=by rw[List.length_zip];omega
 omega
theorem stepE_len {S:TreeD} {cu cg at_:Int} {p:List UInt8} (h:¬stepE S cu cg at_ p≠0) (h2:p≠[46,46]):p.length≤255:=by
 have h:=Decidable.not_not.1 h;unfold stepE at h;split at h
 ·cases h
 split at h
 ·cases h
 split at h
 ·cases h
 ·omega
theorem seek_name (S:TreeD) (cu cg:Int) (fol:Bool):∀l h,∀at_ m,(seekF S cu cg fol at_ l h m).1.name.length≤255:=by
 refine seek_ind (fun l h ih=>?_);intro at_ m
 cases l with
 | nil=>rw[seek_nil];exact Nat.zero_le _
 | cons p l =>
  rw [seekF];split
  ·exact Nat.zero_le _
  rename_i h1;split
  ·exact ih _ _ (.inr ⟨rfl,by simp⟩) _ _
  rename_i h2;split
  ·split
   ·exact stepE_len h1 h2
   ·exact Nat.zero_le _
  split
  ·split
   ·exact Nat.zero_le _
   ·split
    ·exact Nat.zero_le _
    ·exact ih _ _ (.inl ⟨by omega,by omega⟩) _ _
  split
  ·exact Nat.zero_le _
  split
  ·exact stepE_len h1 h2
  ·exact ih _ _ (.inr ⟨rfl,by simp⟩) _ _
theorem path_name (S:TreeD) (cu cg:Int) (p:List UInt8) (fol:Bool):(pathF S cu cg p fol).1.name.length≤255:=by
 unfold pathF;split
 ·exact seek_name ..
 ·exact Nat.zero_le _
open Go.ChangeShapes Go.WideShapes Go.ChangeAt Go.RowKit
def PIn (w:World) (B b:Nat) (g:GhW) (c:Nat) (S:TreeD):Prop:=∃n:Int,0≤n∧n≤c∧PS w B b g ⟨S,0,n,[],false⟩
def PTo (w:World) (B b:Nat) (g:GhW) (c:Nat) (S:TreeD) (w':World):Prop:=∃g',GhW.on g' g w∧PIn w' B b g' c S∧Only (b::g.list) w w'
def RIn (w:World) (B:Nat) (f:GhF) (S:TreeD):Prop:=RS w B f ⟨S,0,0,[],false⟩
def RTp (w:World) (B:Nat) (f:GhF) (S:TreeD) (w':World):Prop:=RTo w B f ⟨S,0,0,[],false⟩ w'
theorem pl_goE (S:TreeD) (n:Int):goE ⟨S,0,n,[],false⟩=0:=rfl
theorem pl_chS (S:TreeD) (n:Int) (x:Chg):chS ⟨S,0,n,[],false⟩ 0 0 x=⟨chgT S 0 0 0 x,0,n+1,[],false⟩:=by
 unfold chS;rw[if_neg (by rw[pl_goE];decide),(goS_alive (pl_goE S n)).2]
theorem pl_chE (S:TreeD) (n:Int) (x:Chg):chE ⟨S,0,n,[],false⟩ 0 0 x=chgE S 0 0 0 x:=by unfold chE;rw[if_neg (by rw[pl_goE];decide)]
theorem pl_chN (S:TreeD) (n:Int) (x:Chg):chN ⟨S,0,n,[],false⟩ 0 0 x=chgN S 0 0 0 x:=by unfold chN;rw[if_neg (by rw[pl_goE];decide)]
theorem Plt.sane {c:Nat} {S:TreeD} (k:Plt c S) {n:Int} (h0:0≤n) (h1:n≤c):Sane c ⟨S,0,n,[],false⟩:=⟨k.tre,k.noe,k.last,h0,h1,Nat.zero_le _⟩
section
variable {w:World} {B b:Nat} {g:GhW} {c:Nat} {S:TreeD}
theorem PIn.ext {w':World} (h:PIn w B b g c S) (k:Ext w w'):PIn w' B b g c S:=by obtain⟨n,h1,h2,h3⟩:=h;exact⟨n,h1,h2,h3.ext k⟩
theorem PIn.mono {d:Nat} (h:PIn w B b g c S) (k:c≤d):PIn w B b g d S:=by obtain⟨n,h1,h2,h3⟩:=h;exact⟨n,h1,by omega,h3⟩
theorem PIn.lt (h:PIn w B b g c S):∀x∈b::g.list,x<w.heap.size:=by obtain⟨n,h1,h2,h3⟩:=h;exact h3.lt
theorem PIn.free2 (h:PIn w B b g c S):Free2 w B (b::g.list):=by obtain⟨n,h1,h2,h3⟩:=h;exact h3.free2
theorem PIn.only {w':World} {L:List Nat} (h:PIn w B b g c S) (o:Only L w w') (ha:Free2 w B L) (hn:∀x∈b::g.list,x∉L):PIn w' B b g c S:=by obtain⟨n,h1,h2,h3⟩:=h;exact⟨n,h1,h2,h3.only o ha hn⟩
theorem PIn.sys (h:PIn w B b g c S):∃n A cap,Has w b (.cells #[.pointer (some ⟨g.bW,0,none⟩),.int .i64 0,.int .i64 n,.slice A 0 cap,.bool false] 102):=by
 obtain ⟨n,_,_,A,cap,_,h2,_⟩:=h;exact ⟨n,A,cap,h2⟩
theorem PIn.off (h:PIn w B b g c S) {x:Nat} {cs:Array Value} {t:TypeId} (hx:Has w x (.cells cs t)) (h1:t≠102) (h2:t≠106) (h3:t≠157) (h4:t≠205):x∉b::g.list:=by
 obtain ⟨n,_,_,A,cap,⟨_,⟨_,_,k2,es,cl,k3,_⟩,cd,k4,k5⟩,a2,_⟩:=h;obtain ⟨_,cur,k6⟩:=k5.has;intro hb;simp only[GhW.list,List.mem_cons,List.not_mem_nil,or_false]at hb;unfold SAt at a2;unfold Has at *;rcases hb with rfl|rfl|rfl|rfl|rfl
 ·rw[hx]at a2;injection a2 with e;injection e with _ e;exact h1 e
 ·rw[hx]at k4;injection k4 with e;injection e with _ e;exact h2 e
 ·rw[hx]at k2;injection k2 with e;injection e with _ e;exact h3 e
 ·rw[hx]at k3;injection k3 with e;cases e
 ·rw[hx]at k6;injection k6 with e;injection e with _ e;exact h4 e
theorem PTo.mono {d:Nat} {T:TreeD} {w':World} (h:PTo w B b g c T w') (k:c≤d):PTo w B b g d T w':=by obtain⟨g',h1,h2,h3⟩:=h;exact⟨g',h1,h2.mono k,h3⟩
theorem PTo.pre {T:TreeD} {w1 w':World} (k:Ext w w1) (h:PTo w1 B b g c T w'):PTo w B b g c T w':=by
 obtain ⟨g',h1,h2,h3⟩:=h;have hs:=k.size;exact ⟨g',⟨h1.1,fun x hx=>(h1.2 x hx).imp id fun e=>by omega⟩,h2,Only.pre k h3⟩
theorem PTo.has {T:TreeD} {w':World} {x:Nat} {o:Obj} (h:PTo w B b g c T w') (k:Has w x o) (hx:x∉b::g.list):Has w' x o:=by obtain⟨_,_,_,h3⟩:=h;exact h3.has k hx
theorem PTo.refl (h:PIn w B b g c S) {w':World} (k:Ext w w'):PTo w B b g c S w':=⟨g,GhW.on_refl _ _,h.ext k,Only.of_ext k⟩
theorem PTo.trans {c2:Nat} {T:TreeD} {w1 w':World} {g1:GhW} (h1:GhW.on g1 g w) (o:Only (b::g.list) w w1) (k:PTo w1 B b g1 c2 T w'):PTo w B b g c2 T w':=by
 obtain ⟨g2,k1,k2,k3⟩:=k;refine ⟨g2,GhW.on_trans h1 k1 o.size,k2,o.trans k3 fun x hx=>?_⟩;rcases List.mem_cons.1 hx with rfl|hx
 ·exact .inl (List.mem_cons_self ..)
 ·rcases h1.2 x hx with e|e
  ·exact .inl (List.mem_cons_of_mem _ e)
  ·exact .inr e
theorem PTo.after {c2:Nat} {T:TreeD} {w0 w':World} (h:PTo w B b g c2 T w') (k:PIn w B b g c S) (hE:Ext w0 w) (hB:w0.heap.size≤B):Ext w0 w':=by
 obtain ⟨_,_,_,h3⟩:=h;exact h3.after hE fun x hx=>by have:=(k.free2 x hx).1;omega
theorem pto1 {n:Int} (h0:0≤n) (h1:n≤c) {x:Chg} {e:Ending} {w':World} (k:Ch1 w B b g ⟨S,0,n,[],false⟩ 0 0 x e w'):e=.returned (.int .i64 (chgE S 0 0 0 x))∧PTo w B b g (c+1) (chgT S 0 0 0 x) w':=by
 obtain ⟨k1,k2,k3⟩:=k;rw [pl_chE]at k1;rw [pl_chS]at k2;exact ⟨k1,g,GhW.on_refl _ _,⟨n+1,by omega,by omega,k2⟩,k3⟩
theorem pto2 {n:Int} (h0:0≤n) (h1:n≤c) {x:Chg} {e:Ending} {w':World} (k:Ch2 w B b g ⟨S,0,n,[],false⟩ 0 0 x e w'):e=.returned (.tuple #[.int .i64 (chgN S 0 0 0 x),.int .i64 (chgE S 0 0 0 x)])∧PTo w B b g (c+1) (chgT S 0 0 0 x) w':=by
 obtain ⟨k1,k2,k3⟩:=k;rw [pl_chN,pl_chE]at k1;rw [pl_chS]at k2;exact ⟨k1,g,GhW.on_refl _ _,⟨n+1,by omega,by omega,k2⟩,k3⟩
abbrev cred0:Value:=.agg #[.int .i64 0,.int .i64 0]
theorem PIn.find (h:PIn w B b g c S) (k:Plt c S) (hc:c≤900) (p:List UInt8) (fol:Bool) (hp:p.length≤1000000) :
  Calls Tryz.prog 110 #[.pointer (some ⟨b,0,none⟩),cred0,.string (bs p),.bool fol] w (FndR w (pathF S 0 0 p fol)):=by
 obtain ⟨n,h0,h1,h2⟩:=h;exact h2.find (k.sane h0 h1) hc 0 0 p fol hp
theorem PIn.stat (h:PIn w B b g c S) (k:Plt c S) (no:Int) :
  Calls Tryz.prog 45 #[.pointer (some ⟨b,0,none⟩),.int .i64 no] w (Ret w (.tuple #[statV (getN S.nodes no),.int .i64 (statE S no)])):=by
 obtain ⟨n,h0,h1,h2⟩:=h;exact h2.stat (k.sane h0 h1) no
theorem PIn.mkdir (h:PIn w B b g c S) (k:Plt c S) (hc:c≤900) (dir:Int) (nm:List UInt8) (mode:Int) :
  Calls Tryz.prog 111 #[.pointer (some ⟨b,0,none⟩),cred0,.int .i64 dir,.string (bs nm),.int .i64 mode] w (fun e w'=>e=.returned (.tuple #[.int .i64 (chgN S 0 0 0 (.mkdir dir nm mode)),.int .i64 (chgE S 0 0 0 (.mkdir dir nm mode))])∧PTo w B b g (c+1) (chgT S 0 0 0 (.mkdir dir nm mode)) w'):=by
 obtain ⟨n,h0,h1,h2⟩:=h;exact (h2.mkdir (k.sane h0 h1) hc rfl 0 0 dir nm mode).mono fun _ _ q=>pto2 h0 h1 q
theorem PIn.create (h:PIn w B b g c S) (k:Plt c S) (hc:c≤900) (dir:Int) (nm:List UInt8) (mode:Int) (data:List UInt8) (hdl:data.length≤1000000000) :
  Calls Tryz.prog 113 #[.pointer (some ⟨b,0,none⟩),cred0,.int .i64 dir,.string (bs nm),.int .i64 mode,.string (bs data)] w (fun e w'=>e=.returned (.tuple #[.int .i64 (chgN S 0 0 0 (.create dir nm mode data)),.int .i64 (chgE S 0 0 0 (.create dir nm mode data))])∧PTo w B b g (c+1) (chgT S 0 0 0 (.create dir nm mode data)) w'):=by
 obtain ⟨n,h0,h1,h2⟩:=h;exact (h2.create (k.sane h0 h1) hc rfl 0 0 dir nm mode data hdl).mono fun _ _ q=>pto2 h0 h1 q
theorem PIn.symlink (h:PIn w B b g c S) (k:Plt c S) (hc:c≤900) (dir:Int) (nm text:List UInt8) (hdl:text.length≤1000000000) :
  Calls Tryz.prog 114 #[.pointer (some ⟨b,0,none⟩),cred0,.int .i64 dir,.string (bs nm),.string (bs text)] w (fun e w'=>e=.returned (.tuple #[.int .i64 (chgN S 0 0 0 (.symlink dir nm text)),.int .i64 (chgE S 0 0 0 (.symlink dir nm text))])∧PTo w B b g (c+1) (chgT S 0 0 0 (.symlink dir nm text)) w'):=by
 obtain ⟨n,h0,h1,h2⟩:=h;exact (h2.symlink (k.sane h0 h1) hc rfl 0 0 dir nm text hdl).mono fun _ _ q=>pto2 h0 h1 q
theorem PIn.link (h:PIn w B b g c S) (k:Plt c S) (hc:c≤900) (no dir:Int) (nm:List UInt8) :
  Calls Tryz.prog 115 #[.pointer (some ⟨b,0,none⟩),cred0,.int .i64 no,.int .i64 dir,.string (bs nm)] w (fun e w'=>e=.returned (.int .i64 (chgE S 0 0 0 (.link no dir nm)))∧PTo w B b g (c+1) (chgT S 0 0 0 (.link no dir nm)) w'):=by
 obtain ⟨n,h0,h1,h2⟩:=h;exact (h2.link (k.sane h0 h1) hc rfl 0 0 no dir nm).mono fun _ _ q=>pto1 h0 h1 q
theorem PIn.chmod (h:PIn w B b g c S) (k:Plt c S) (hc:c≤900) (no mode:Int) :
  Calls Tryz.prog 68 #[.pointer (some ⟨b,0,none⟩),cred0,.int .i64 no,.int .i64 mode] w (fun e w'=>e=.returned (.int .i64 (chgE S 0 0 0 (.chmod no mode)))∧PTo w B b g (c+1) (chgT S 0 0 0 (.chmod no mode)) w'):=by
 obtain ⟨n,h0,h1,h2⟩:=h;exact (h2.chmod (k.sane h0 h1) hc rfl 0 0 no mode).mono fun _ _ q=>pto1 h0 h1 q
theorem PIn.chown (h:PIn w B b g c S) (k:Plt c S) (hc:c≤900) (no uid gid:Int) :
  Calls Tryz.prog 67 #[.pointer (some ⟨b,0,none⟩),cred0,.int .i64 no,.int .i64 uid,.int .i64 gid] w (fun e w'=>e=.returned (.int .i64 (chgE S 0 0 0 (.chown no uid gid)))∧PTo w B b g (c+1) (chgT S 0 0 0 (.chown no uid gid)) w'):=by
 obtain ⟨n,h0,h1,h2⟩:=h;exact (h2.chown (k.sane h0 h1) hc rfl 0 0 no uid gid).mono fun _ _ q=>pto1 h0 h1 q
theorem PIn.utime (h:PIn w B b g c S) (k:Plt c S) (hc:c≤900) (no mt:Int) :
  Calls Tryz.prog 69 #[.pointer (some ⟨b,0,none⟩),cred0,.int .i64 no,.int .i64 mt] w (fun e w'=>e=.returned (.int .i64 (chgE S 0 0 0 (.utime no mt)))∧PTo w B b g (c+1) (chgT S 0 0 0 (.utime no mt)) w'):=by
 obtain ⟨n,h0,h1,h2⟩:=h;exact (h2.utime (k.sane h0 h1) hc rfl 0 0 no mt).mono fun _ _ q=>pto1 h0 h1 q
theorem PIn.mount (h:PIn w B b g c S) (k:Plt c S) (hc:c≤900) (at_ bl nd:Int) :
  Calls Tryz.prog 112 #[.pointer (some ⟨g.bW,0,none⟩),.int .i64 at_,.int .i64 bl,.int .i64 nd] w (fun e w'=>(∃v,e=.returned v)∧PTo w B b g c (mountT S at_ bl nd) w'):=by
 obtain ⟨n,h0,h1,h2⟩:=h;have hn:=h2.notin;obtain ⟨A,cap,a1,a2,a3,a4,a5⟩:=h2;refine (pmount_any B g S at_ bl nd w a1 k.tre.devs k.tre.eight k.tre.nos (by have:=k.tre.last;omega) (by have:=k.last;omega)).mono ?_;rintro e w' ⟨rfl,bD,K,O,hD⟩;refine ⟨⟨_,rfl⟩,⟨g.bW,g.bT,g.bM,bD⟩,⟨rfl,fun x hx=>?_⟩,⟨n,h0,h1,A,cap,K,SAt.only a2 O hn,a3.only O a1.free2,a4,a5⟩,O.mono fun y hy=>List.mem_cons_of_mem _ hy⟩;simp only[GhW.list,List.mem_cons,List.not_mem_nil,or_false]at hx⊢;rcases hx with rfl|rfl|rfl|rfl
 ·exact .inl (.inl rfl)
 ·exact .inl (.inr (.inl rfl))
 ·exact .inl (.inr (.inr (.inl rfl)))
 ·rcases hD with e|e
  ·exact .inl (.inr (.inr (.inr e)))
  ·exact .inr e
end
section
variable {w:World} {B:Nat} {f:GhF} {c:Nat} {S:TreeD}
theorem RIn.ext {w':World} (h:RIn w B f S) (k:Ext w w'):RIn w' B f S:=RS.ext h k
theorem RIn.lt (h:RIn w B f S):∀x∈f.list,x<w.heap.size:=RS.lt h
theorem RIn.free2 (h:RIn w B f S):Free2 w B f.list:=RS.free2 h
theorem RIn.only {w':World} {L:List Nat} (h:RIn w B f S) (o:Only L w w') (ha:Free2 w B L) (hn:∀x∈f.list,x∉L):RIn w' B f S:=RS.only h o ha hn
theorem RIn.off (h:RIn w B f S) {x:Nat} {cs:Array Value} {t:TypeId} (hx:Has w x (.cells cs t)) (h1:t≠78) (h2:t≠66) (h3:t≠191):x∉f.list:=by
 obtain ⟨A,cap,⟨_,cn,ce,k2,⟨xs,k3,_⟩,k4⟩,_⟩:=h;obtain ⟨_,cur1,k5⟩:=ownsRow_has k3;obtain ⟨_,cur2,k6⟩:=ownsRow_has k4;intro hb;simp only[GhF.list,List.mem_cons,List.not_mem_nil,or_false]at hb;unfold Has at *;rcases hb with rfl|rfl|rfl
 ·rw[hx]at k2;injection k2 with e;injection e with _ e;exact h1 e
 ·rw[hx]at k5;injection k5 with e;injection e with _ e;exact h2 e
 ·rw[hx]at k6;injection k6 with e;injection e with _ e;exact h3 e
theorem RTp.pre {T:TreeD} {w1 w':World} (k:Ext w w1) (h:RTp w1 B f T w'):RTp w B f T w':=by
 obtain ⟨f',h1,h2,h3⟩:=h;have hs:=k.size;exact ⟨f',h1,Only.pre k h2,⟨h3.1,fun x hx=>(h3.2 x hx).imp id fun e=>by omega⟩⟩
theorem RTp.has {T:TreeD} {w':World} {x:Nat} {o:Obj} (h:RTp w B f T w') (k:Has w x o) (hx:x∉f.list):Has w' x o:=by obtain⟨_,_,h3,_⟩:=h;exact h3.has k hx
theorem RTp.refl (h:RIn w B f S) {w':World} (k:Ext w w'):RTp w B f S w':=⟨f,h.ext k,Only.of_ext k,GhF.on_refl _ _⟩
theorem RTp.trans {T:TreeD} {w1 w':World} {f1:GhF} (h1:GhF.on f1 f w) (o:Only f.list w w1) (k:RTp w1 B f1 T w'):RTp w B f T w':=by
 obtain ⟨f2,k1,k3,k2⟩:=k;refine ⟨f2,k1,o.trans k3 fun x hx=>?_,GhF.on_trans h1 k2 o.size⟩;rcases h1.2 x hx with e|e
 ·exact .inl e
 ·exact .inr e
theorem RIn.find (h:RIn w B f S) (k:Plt c S) (hc:c≤900) (p:List UInt8) (fol:Bool) (hp:p.length≤1000000) :
  Calls Tryz.prog 40 #[.pointer (some ⟨f.bF,0,none⟩),cred0,.string (bs p),.bool fol] w (FndR w (pathF S 0 0 p fol)):=by
 obtain ⟨X,F⟩:=RS.fat h;exact rpath15_any B f S X 0 0 p fol w F k.tre (by omega) (by have:=k.last;omega) hp
theorem RIn.get (h:RIn w B f S) (k:Plt c S) (hc:c≤900) (no:Int) :
  Calls Tryz.prog 30 #[.pointer (some ⟨f.bF,0,none⟩),.int .i64 no] w (GetF w B S.nodes no):=by
 obtain ⟨X,F⟩:=RS.fat h;exact rget_any B f S X no w F (by have:=k.tre.count;have:=k.last;omega) k.tre.nos
theorem RIn.mkdir (h:RIn w B f S) (k:Plt c S) (hc:c≤900) (dir:Int) (nm:List UInt8) (mode:Int) (hnm:nm.length≤1000000) :
  Calls Tryz.prog 122 #[.pointer (some ⟨f.bF,0,none⟩),cred0,.int .i64 dir,.string (bs nm),.int .i64 mode] w (fun e w'=>e=.returned (.tuple #[.int .i64 (chgN S 0 0 0 (.mkdir dir nm mode)),.int .i64 (chgE S 0 0 0 (.mkdir dir nm mode))])∧RTp w B f (chgT S 0 0 0 (.mkdir dir nm mode)) w'):=
 RS.mkdir h (k.sane (Int.le_refl _) (by omega)) hc 0 0 dir nm mode hnm
theorem RIn.create (h:RIn w B f S) (k:Plt c S) (hc:c≤900) (dir:Int) (nm:List UInt8) (mode:Int) (data:List UInt8) (hnm:nm.length≤1000000) (hdl:data.length≤1000000000) :
  Calls Tryz.prog 124 #[.pointer (some ⟨f.bF,0,none⟩),cred0,.int .i64 dir,.string (bs nm),.int .i64 mode,.string (bs data)] w (fun e w'=>e=.returned (.tuple #[.int .i64 (chgN S 0 0 0 (.create dir nm mode data)),.int .i64 (chgE S 0 0 0 (.create dir nm mode data))])∧RTp w B f (chgT S 0 0 0 (.create dir nm mode data)) w'):=
 RS.create h (k.sane (Int.le_refl _) (by omega)) hc 0 0 dir nm mode data hnm hdl
theorem RIn.symlink (h:RIn w B f S) (k:Plt c S) (hc:c≤900) (dir:Int) (nm text:List UInt8) (hnm:nm.length≤1000000) (hdl:text.length≤1000000) :
  Calls Tryz.prog 125 #[.pointer (some ⟨f.bF,0,none⟩),cred0,.int .i64 dir,.string (bs nm),.string (bs text)] w (fun e w'=>e=.returned (.tuple #[.int .i64 (chgN S 0 0 0 (.symlink dir nm text)),.int .i64 (chgE S 0 0 0 (.symlink dir nm text))])∧RTp w B f (chgT S 0 0 0 (.symlink dir nm text)) w'):=
 RS.symlink h (k.sane (Int.le_refl _) (by omega)) hc 0 0 dir nm text hnm hdl
theorem RIn.link (h:RIn w B f S) (k:Plt c S) (hc:c≤900) (no dir:Int) (nm:List UInt8) (hnm:nm.length≤1000000) :
  Calls Tryz.prog 126 #[.pointer (some ⟨f.bF,0,none⟩),cred0,.int .i64 no,.int .i64 dir,.string (bs nm)] w (fun e w'=>e=.returned (.int .i64 (chgE S 0 0 0 (.link no dir nm)))∧RTp w B f (chgT S 0 0 0 (.link no dir nm)) w'):=
 RS.link h (k.sane (Int.le_refl _) (by omega)) hc 0 0 no dir nm hnm
theorem RIn.chmod (h:RIn w B f S) (k:Plt c S) (hc:c≤900) (no mode:Int) :
  Calls Tryz.prog 76 #[.pointer (some ⟨f.bF,0,none⟩),cred0,.int .i64 no,.int .i64 mode] w (fun e w'=>e=.returned (.int .i64 (chgE S 0 0 0 (.chmod no mode)))∧RTp w B f (chgT S 0 0 0 (.chmod no mode)) w'):=
 RS.chmod h (k.sane (Int.le_refl _) (by omega)) hc 0 0 no mode
theorem RIn.chown (h:RIn w B f S) (k:Plt c S) (hc:c≤900) (no uid gid:Int) :
  Calls Tryz.prog 75 #[.pointer (some ⟨f.bF,0,none⟩),cred0,.int .i64 no,.int .i64 uid,.int .i64 gid] w (fun e w'=>e=.returned (.int .i64 (chgE S 0 0 0 (.chown no uid gid)))∧RTp w B f (chgT S 0 0 0 (.chown no uid gid)) w'):=
 RS.chown h (k.sane (Int.le_refl _) (by omega)) hc 0 0 no uid gid
theorem RIn.utime (h:RIn w B f S) (k:Plt c S) (hc:c≤900) (no mt:Int) :
  Calls Tryz.prog 77 #[.pointer (some ⟨f.bF,0,none⟩),cred0,.int .i64 no,.int .i64 mt] w (fun e w'=>e=.returned (.int .i64 (chgE S 0 0 0 (.utime no mt)))∧RTp w B f (chgT S 0 0 0 (.utime no mt)) w'):=
 RS.utime h (k.sane (Int.le_refl _) (by omega)) hc 0 0 no mt
theorem RIn.mount (h:RIn w B f S) (k:Plt c S) (hc:c≤900) (at_ bl nd:Int) :
  Calls Tryz.prog 123 #[.pointer (some ⟨f.bF,0,none⟩),.int .i64 at_,.int .i64 bl,.int .i64 nd] w (fun e w'=>(∃v,e=.returned v)∧RTp w B f (mountT S at_ bl nd) w'):=by
 obtain ⟨A,cap,F,P⟩:=h;refine (rmount_any B f S _ at_ bl nd w F k.tre.eight k.tre.nos (by have:=k.tre.last;omega) (by have:=k.last;omega) (by have:=k.tre.count;have:=k.last;omega)).mono ?_;rintro e w' ⟨rfl,bN,bE,K,O,h1,h2⟩;refine ⟨⟨_,rfl⟩,⟨f.bF,bN,bE⟩,⟨A,cap,K,P.only O F.free2⟩,O,rfl,fun x hx=>?_⟩;simp only[GhF.list,List.mem_cons,List.not_mem_nil,or_false]at hx⊢;rcases hx with rfl|rfl|rfl
 ·exact .inl (.inl rfl)
 ·rcases h1 with e|e
  ·exact .inl (.inr (.inl e))
  ·exact .inr e
 ·rcases h2 with e|e
  ·exact .inl (.inr (.inr e))
  ·exact .inr e
end
end Go.Proofs.YtpibnfdolojpcaaGreat
namespace Go.Proofs.YtpibnfdolojpcaaGreat
open Go.ChangeShapes Go.WideShapes Go.ChangeAt Go.RowKit
def rowM:RowK MntD:=⟨22,119,3,32,.agg #[.string ⟨#[]⟩,.int .i64 0,.int .i64 0],fun x=>[.string (bs x.path),.int .i64 x.b,.int .i64 x.n],by decide,Tryz.underlying22,by kernel_rfl,rfl,fun _=>rfl,fun x u hu=>by
 simp only[List.mem_cons,List.not_mem_nil,or_false]at hu;rcases hu with rfl|rfl|rfl<;>rfl,by decide⟩
def rowT:RowK ItmD:=⟨23,72,7,72,.agg #[.string ⟨#[]⟩,.int .i64 0,.int .i64 0,.int .i64 0,.int .i64 0,.int .i64 0,.string ⟨#[]⟩],fun x=>[.string (bs x.path),.int .i64 x.kind,.int .i64 x.mode,.int .i64 x.uid,.int .i64 x.gid,.int .i64 x.mtime,.string (bs x.data)],by decide,Tryz.underlying23,by kernel_rfl,rfl,fun _=>rfl,fun x u hu=>by
 simp only[List.mem_cons,List.not_mem_nil,or_false]at hu;rcases hu with rfl|rfl|rfl|rfl|rfl|rfl|rfl<;>rfl,by decide⟩
theorem RowAt.mnt {w:World} {A:Option Addr} {l:List MntD} (h:RowAt rowM w A l) {k:Nat} (hk:k<l.length):∃b o,A=some ⟨b,o,none⟩∧b<w.heap.size∧w.cell? ⟨b,o+k*3,none⟩=some (.string (bs l[k].path))∧w.cell? ⟨b,o+k*3+1,none⟩=some (.int .i64 l[k].b)∧w.cell? ⟨b,o+k*3+2,none⟩=some (.int .i64 l[k].n):=by
 rcases h with h|⟨b,o,hA,hb,hc⟩
 ·rw[h]at hk;cases hk
 ·exact⟨b,o,hA,hb,hc k hk 0 (by decide),hc k hk 1 (by decide),hc k hk 2 (by decide)⟩
theorem RowAt.itm {w:World} {A:Option Addr} {l:List ItmD} (h:RowAt rowT w A l) {k:Nat} (hk:k<l.length):∃b o,A=some ⟨b,o,none⟩∧b<w.heap.size∧w.cell? ⟨b,o+k*7,none⟩=some (.string (bs l[k].path))∧w.cell? ⟨b,o+k*7+1,none⟩=some (.int .i64 l[k].kind)∧w.cell? ⟨b,o+k*7+2,none⟩=some (.int .i64 l[k].mode) ∧
  w.cell? ⟨b,o+k*7+3,none⟩=some (.int .i64 l[k].uid)∧w.cell? ⟨b,o+k*7+4,none⟩=some (.int .i64 l[k].gid)∧w.cell? ⟨b,o+k*7+5,none⟩=some (.int .i64 l[k].mtime)∧w.cell? ⟨b,o+k*7+6,none⟩=some (.string (bs l[k].data)):=by
 rcases h with h|⟨b,o,hA,hb,hc⟩
 ·rw[h]at hk;cases hk
 ·exact⟨b,o,hA,hb,hc k hk 0 (by decide),hc k hk 1 (by decide),hc k hk 2 (by decide),hc k hk 3 (by decide),hc k hk 4 (by decide),hc k hk 5 (by decide),hc k hk 6 (by decide)⟩
theorem seedB_nil:seedB []=(65536,65536):=rfl
theorem seedB_yes {m:MntD} {t:List MntD} (h1:topB m=true) (h2:limitsF m.b m.n=true):seedB (m::t)=(m.b,m.n):=by unfold seedB;rw[List.find?_cons,h1,h2];rfl
theorem seedB_no {m:MntD} {t:List MntD} (h:topB m=false∨limitsF m.b m.n=false):seedB (m::t)=seedB t:=by
 have e:(topB m&&limitsF m.b m.n)=false:=by rcases h with h|h<;>rw[h]<;>simp
 unfold seedB;rw[List.find?_cons,e]
theorem top_test (p:List UInt8):((bs p).toList == [47])=(p == [47]):=by rw[bs_toList]
section
variable {S:TreeD} {it:ItmD}
theorem itmT_some {x:Chg} (h:itmC S it=some x):itmT S it=chgT S 0 0 0 x:=by unfold itmT;rw[h]
theorem itmN_some {x:Chg} (h:itmC S it=some x):itmN S it=chgN S 0 0 0 x:=by unfold itmN;rw[h]
theorem itmT_none (h:itmC S it=none):itmT S it=S:=by unfold itmT;rw[h]
theorem itmN_none (h:itmC S it=none):itmN S it=if (itmP S it).2=0∧(itmP S it).1.no≠0∧it.kind=1∧(getN S.nodes (itmP S it).1.no).kind=1 then (itmP S it).1.no else 0:=by unfold itmN;rw[h]
theorem itm_err (h:(itmP S it).2≠0):itmT S it=S∧itmN S it=0:=by
 have hc:itmC S it=none:=by unfold itmC;rw[if_pos h]
 exact ⟨itmT_none hc,by rw[itmN_none hc,if_neg (fun k=>h k.1)]⟩
theorem itm_there (h:(itmP S it).2=0) (h1:(itmP S it).1.no≠0):itmT S it=S∧itmN S it=if it.kind=1∧(getN S.nodes (itmP S it).1.no).kind=1 then (itmP S it).1.no else 0:=by
 have hc:itmC S it=none:=by unfold itmC;rw[if_neg (fun k=>k h),if_pos h1]
 refine ⟨itmT_none hc,?_⟩;rw [itmN_none hc]
 by_cases h2:it.kind=1∧(getN S.nodes (itmP S it).1.no).kind=1
 ·rw[if_pos ⟨h,h1,h2⟩,if_pos h2]
 ·rw[if_neg (fun k=>h2 k.2.2),if_neg h2]
theorem itm_new (h:(itmP S it).2=0) (h1:(itmP S it).1.no=0):itmC S it=if it.kind=1 then some (.mkdir (itmP S it).1.dir (itmP S it).1.name 493)
 else if it.kind=2 then some (.create (itmP S it).1.dir (itmP S it).1.name 420 it.data)
 else if it.kind=3 then some (.symlink (itmP S it).1.dir (itmP S it).1.name it.data)
 else if it.kind=4 then (if (itmL S it).2=0 then some (.link (itmL S it).1.no (itmP S it).1.dir (itmP S it).1.name) else none)
 else none:=by
 unfold itmC;rw[if_neg (fun k=>k h),if_neg (fun k=>k h1)]
theorem itm_new0 (h1:(itmP S it).1.no=0) (h:itmC S it=none):itmT S it=S∧itmN S it=0:=⟨itmT_none h,by rw[itmN_none h,if_neg (fun k=>k.2.1 h1)]⟩
end
theorem pnod_any {w:World} {B b:Nat} {g:GhW} {c:Nat} {S:TreeD} (h:PIn w B b g c S) (k:Plt c S) (hc:c≤890) (it:ItmD) (hp:it.path.length≤1000000) (hd:it.data.length≤1000000) :
  Calls Tryz.prog 66 #[.pointer (some ⟨b,0,none⟩),.agg #[.string (bs it.path),.int .i64 it.kind,.int .i64 it.mode,.int .i64 it.uid,.int .i64 it.gid,.int .i64 it.mtime,.string (bs it.data)]] w (fun e w'=>e=.returned (.int .i64 (itmN S it))∧PTo w B b g (c+1) (itmT S it) w'):=by
 obtain ⟨W1,hW1⟩:∃W,W=w.alloc (.cells #[.string (bs it.path),.int .i64 it.kind,.int .i64 it.mode,.int .i64 it.uid,.int .i64 it.gid,.int .i64 it.mtime,.string (bs it.data)] 72):=⟨_,rfl⟩;obtain ⟨b3,hb3⟩:∃b,b=w.heap.size:=⟨_,rfl⟩;have E1:Ext w W1:=by rw[hW1];exact (Ext.refl _).alloc _
 have B1:Has W1 b3 (.cells #[.string (bs it.path),.int .i64 it.kind,.int .i64 it.mode,.int .i64 it.uid,.int .i64 it.gid,.int .i64 it.mtime,.string (bs it.data)] 72):=by rw[hW1,hb3];exact Has.new _ _
 have KF:=zH ((h.ext E1).find k (by omega) it.path false hp);obtain ⟨r,hr⟩:∃r,r=itmP S it:=⟨_,rfl⟩;rw [show pathF S 0 0 it.path false=r from hr.symm]at KF;have KF2:Hid (Calls Tryz.prog 110 #[.pointer (some ⟨b,0,none⟩),.agg #[.int .i64 0,.int .i64 0],.string (bs it.path),.bool false] W1 (Ret W1 (.tuple #[.agg #[.int .i64 r.1.dir,.string (bs r.1.name),.int .i64 r.1.no,.bool r.1.slash],.int .i64 r.2]))):=KF.out;have HR:=zH hr;have c0:=B1.cell 0;have cz:=B1.lt;simp only[gA,gB]at c0;have HB1:=zH B1;have H1:=zH (h.ext E1);have H0:=zH h;clear h KF hr B1;go_enter Tryz.func66,Tryz.ntmps66;go_upto_region 1 with fail;rw [←hW1,←hb3];clear hW1 hb3;go_wp2_with fail;refine KF2.out.mono ?_;rintro e w1 ⟨rfl,b1⟩;clear KF2 c0 cz;go_upto_region 2 with fail;obtain ⟨W2,hW2⟩:∃W,W=w1.alloc (.cells #[.int .i64 r.1.dir,.string (bs r.1.name),.int .i64 r.1.no,.bool r.1.slash] 82):=⟨_,rfl⟩;obtain ⟨b4,hb4⟩:∃b,b=w1.heap.size:=⟨_,rfl⟩;have E2:Ext W1 W2:=by rw[hW2];exact b1.alloc _
 have X2:Has W2 b4 (.cells #[.int .i64 r.1.dir,.string (bs r.1.name),.int .i64 r.1.no,.bool r.1.slash] 82):=by rw[hW2,hb4];exact Has.new _ _
 rw [←hW2,←hb4];clear hW2 hb4 b1;obtain ⟨m1,hm1⟩:∃m,m=getN S.nodes r.1.no:=⟨_,rfl⟩;have KS:=zH ((H1.out.ext E2).stat k r.1.no);rw [←hm1]at KS;have HM1:=zH hm1;obtain ⟨es,hes⟩:∃e,e=statE S r.1.no:=⟨_,rfl⟩;rw [←hes]at KS;unfold statV at KS;have HX2:=zH X2;have x2:=X2.cell 2;have xz:=X2.lt;simp only[gA,gB,gC]at x2;clear hm1 hes X2;go_wp2_with fail;refine KS.out.mono ?_;rintro e w3 ⟨rfl,b3'⟩;clear KS x2 xz;go_upto_block 0 with fail;obtain ⟨W3,hW3⟩:∃W,W=w3.alloc (.cells #[.int .i64 m1.no,.int .i64 m1.dev,.int .i64 m1.kind,.int .i64 m1.mode,.int .i64 m1.uid,.int .i64 m1.gid,.int .i64 m1.links,.int .i64 m1.data.length,.int .i64 m1.mtime,.int .i64 m1.ctime] 95):=⟨_,rfl⟩;obtain ⟨b7,hb7⟩:∃b,b=w3.heap.size:=⟨_,rfl⟩;have E3:Ext W2 W3:=by rw[hW3];exact b3'.alloc _
 have S3:Has W3 b7 (.cells #[.int .i64 m1.no,.int .i64 m1.dev,.int .i64 m1.kind,.int .i64 m1.mode,.int .i64 m1.uid,.int .i64 m1.gid,.int .i64 m1.links,.int .i64 m1.data.length,.int .i64 m1.mtime,.int .i64 m1.ctime] 95):=by rw[hW3,hb7];exact Has.new _ _
 rw [←hW3,←hb7];clear hW3 hb7 b3';have X3:=HX2.out.ext E3;have B3:=HB1.out.ext (E2.trans E3);have P3:=H1.out.ext (E2.trans E3);have E03:=(E1.trans E2).trans E3;have x0:=X3.cell 0;have x1:=X3.cell 1;have x2:=X3.cell 2;have xz:=X3.lt;have d1:=B3.cell 1;have d6:=B3.cell 6;have dz:=B3.lt;have s2:=S3.cell 2;have sz:=S3.lt;simp only[gA,gB,gC]at x0 x1 x2 d1 d6 s2;clear X3 B3 S3
 by_cases he:r.2=0
 case neg =>
  have t1:(r.2 != 0)=true:=by simpa using he
  have hT:Hid (itmT S it=S∧itmN S it=0):=itm_err (by rw[←HR.out];exact he);clear he P3;go_wp2_with fail;go_ret;exact ⟨by rw[hT.out.2];rfl,by rw[hT.out.1];exact (PTo.refl H0.out E03).mono (by omega)⟩
 have t1:(r.2 != 0)=false:=by simpa using he
 have HE:=zH he
 by_cases hno:r.1.no=0
 case neg =>
  have t2:(r.1.no != 0)=true:=by simpa using hno
  have hT:Hid (itmT S it=S∧itmN S it=if it.kind=1∧m1.kind=1 then r.1.no else 0):=by show _∧_;rw[HM1.out,HR.out];exact itm_there (by rw[←HR.out];exact HE.out) (by rw[←HR.out];exact hno)
  clear he hno P3
  by_cases hk:it.kind=1∧m1.kind=1
  ·have t3:(it.kind == 1)=true:=by simpa using hk.1
   have t4:(m1.kind == 1)=true:=by simpa using hk.2
   have hT2:Hid (itmN S it=r.1.no):=by show _=_;rw[hT.out.2,if_pos hk]
   clear hk;go_wp2_with fail;go_ret;exact ⟨by rw[hT2.out];rfl,by rw[hT.out.1];exact (PTo.refl H0.out E03).mono (by omega)⟩
  ·have hT2:Hid (itmN S it=0):=by show _=_;rw[hT.out.2,if_neg hk]
   by_cases hk1:it.kind=1
   ·have t3:(it.kind == 1)=true:=by simpa using hk1
    have t4:(m1.kind == 1)=false:=by simpa using fun q=>hk ⟨hk1,q⟩
    clear hk hk1;go_wp2_with fail;go_ret;exact ⟨by rw[hT2.out];rfl,by rw[hT.out.1];exact (PTo.refl H0.out E03).mono (by omega)⟩
   ·have t3:(it.kind == 1)=false:=by simpa using hk1
    clear hk hk1;go_wp2_with fail;go_ret;exact ⟨by rw[hT2.out];rfl,by rw[hT.out.1];exact (PTo.refl H0.out E03).mono (by omega)⟩
 have t2:(r.1.no != 0)=false:=by simpa using hno
 have hC:Hid (itmC S it=if it.kind=1 then some (.mkdir r.1.dir r.1.name 493) else if it.kind=2 then some (.create r.1.dir r.1.name 420 it.data) else if it.kind=3 then some (.symlink r.1.dir r.1.name it.data)
   else if it.kind=4 then (if (itmL S it).2=0 then some (.link (itmL S it).1.no r.1.dir r.1.name) else none) else none):=by show _=_;rw[HR.out];exact itm_new (by rw[←HR.out];exact HE.out) (by rw[←HR.out];exact hno)
 have HN0:Hid ((itmP S it).1.no=0):=by show _=_;rw[←HR.out];exact hno
 clear he hno
 by_cases k1:it.kind=1
 ·have t3:(it.kind == 1)=true:=by simpa using k1
  obtain ⟨X,hX⟩:∃X:Chg,X=.mkdir r.1.dir r.1.name 493:=⟨_,rfl⟩;have hCX:itmC S it=some X:=by rw[hC.out,if_pos k1,hX]
  have KC:=zH (P3.mkdir k (by omega) r.1.dir r.1.name 493);rw [←hX,←itmT_some hCX,←itmN_some hCX]at KC;clear k1 hX hCX hC P3;go_wp2_with fail;refine KC.out.mono ?_;rintro e w5 ⟨rfl,T5⟩;go_wp2_with fail;go_ret;exact ⟨rfl,T5.pre E03⟩
 have t3:(it.kind == 1)=false:=by simpa using k1
 by_cases k2:it.kind=2
 ·have t4:(it.kind == 2)=true:=by simpa using k2
  obtain ⟨X,hX⟩:∃X:Chg,X=.create r.1.dir r.1.name 420 it.data:=⟨_,rfl⟩;have hCX:itmC S it=some X:=by rw[hC.out,if_neg k1,if_pos k2,hX]
  have KC:=zH (P3.create k (by omega) r.1.dir r.1.name 420 it.data (by omega));rw [←hX,←itmT_some hCX,←itmN_some hCX]at KC;clear k1 k2 hX hCX hC P3;go_wp2_with fail;refine KC.out.mono ?_;rintro e w5 ⟨rfl,T5⟩;go_wp2_with fail;go_ret;exact ⟨rfl,T5.pre E03⟩
 have t4:(it.kind == 2)=false:=by simpa using k2
 by_cases k3:it.kind=3
 ·have t5:(it.kind == 3)=true:=by simpa using k3
  obtain ⟨X,hX⟩:∃X:Chg,X=.symlink r.1.dir r.1.name it.data:=⟨_,rfl⟩;have hCX:itmC S it=some X:=by rw[hC.out,if_neg k1,if_neg k2,if_pos k3,hX]
  have KC:=zH (P3.symlink k (by omega) r.1.dir r.1.name it.data (by omega));rw [←hX,←itmT_some hCX,←itmN_some hCX]at KC;clear k1 k2 k3 hX hCX hC P3;go_wp2_with fail;refine KC.out.mono ?_;rintro e w5 ⟨rfl,T5⟩;go_wp2_with fail;go_ret;exact ⟨rfl,T5.pre E03⟩
 have t5:(it.kind == 3)=false:=by simpa using k3
 by_cases k4:it.kind=4
 case neg =>
  have t6:(it.kind == 4)=false:=by simpa using k4
  have hT:Hid (itmT S it=S∧itmN S it=0):=itm_new0 HN0.out (by rw[hC.out,if_neg k1,if_neg k2,if_neg k3,if_neg k4]);clear k1 k2 k3 k4 hC P3;go_wp2_with fail;go_ret;exact ⟨by rw[hT.out.2];rfl,by rw[hT.out.1];exact (PTo.refl H0.out E03).mono (by omega)⟩
 have t6:(it.kind == 4)=true:=by simpa using k4
 obtain ⟨y,hy⟩:∃y,y=itmL S it:=⟨_,rfl⟩;have hC4:Hid (itmC S it=if y.2=0 then some (.link y.1.no r.1.dir r.1.name) else none):=by show _=_;rw[hC.out,if_neg k1,if_neg k2,if_neg k3,if_pos k4,hy]
 have KF:=zH (P3.find k (by omega) it.data false hd);rw [show pathF S 0 0 it.data false=y from hy.symm]at KF;have KF3:Hid (Calls Tryz.prog 110 #[.pointer (some ⟨b,0,none⟩),.agg #[.int .i64 0,.int .i64 0],.string (bs it.data),.bool false] W3 (Ret W3 (.tuple #[.agg #[.int .i64 y.1.dir,.string (bs y.1.name),.int .i64 y.1.no,.bool y.1.slash],.int .i64 y.2]))):=KF.out;have HP3:=zH P3;have HX3:=zH (HX2.out.ext E3);clear k1 k2 k3 k4 hC hy KF P3 s2 sz;go_wp2_with fail;refine KF3.out.mono ?_;rintro e w4 ⟨rfl,b4'⟩;clear KF3 x0 x1 x2 xz d1 d6 dz;go_upto_region 19 with fail;obtain ⟨W4,hW4⟩:∃W,W=w4.alloc (.cells #[.int .i64 y.1.dir,.string (bs y.1.name),.int .i64 y.1.no,.bool y.1.slash] 82):=⟨_,rfl⟩;obtain ⟨b10,hb10⟩:∃b,b=w4.heap.size:=⟨_,rfl⟩;have E4:Ext W3 W4:=by rw[hW4];exact b4'.alloc _
 have Y4:Has W4 b10 (.cells #[.int .i64 y.1.dir,.string (bs y.1.name),.int .i64 y.1.no,.bool y.1.slash] 82):=by rw[hW4,hb10];exact Has.new _ _
 rw [←hW4,←hb10];clear hW4 hb10 b4';have X4:=HX3.out.ext E4;have P4:=HP3.out.ext E4;have x0:=X4.cell 0;have x1:=X4.cell 1;have xz:=X4.lt;have y2:=Y4.cell 2;have yz:=Y4.lt;simp only[gA,gB,gC]at x0 x1 y2;clear X4 Y4
 by_cases k5:y.2=0
 ·have t7:(y.2 == 0)=true:=by simpa using k5
  obtain ⟨X,hX⟩:∃X:Chg,X=.link y.1.no r.1.dir r.1.name:=⟨_,rfl⟩;have hCX:itmC S it=some X:=by rw[hC4.out,if_pos k5,hX]
  have hN:Hid (itmN S it=0):=by show _=_;rw[itmN_some hCX,hX];rfl
  have KC:=zH (P4.link k (by omega) y.1.no r.1.dir r.1.name);rw [←hX,←itmT_some hCX]at KC;clear k5 hX hCX hC4 P4;go_wp2_with fail;refine KC.out.mono ?_;rintro e w5 ⟨rfl,T5⟩;go_wp2_with fail;go_ret;exact ⟨by rw[hN.out];rfl,T5.pre (E03.trans E4)⟩
 ·have t7:(y.2 == 0)=false:=by simpa using k5
  have hT:Hid (itmT S it=S∧itmN S it=0):=itm_new0 HN0.out (by rw[hC4.out,if_neg k5]);clear k5 hC4 P4;go_wp2_with fail;go_ret;exact ⟨by rw[hT.out.2];rfl,by rw[hT.out.1];exact (PTo.refl H0.out (E03.trans E4)).mono (by omega)⟩
end Go.Proofs.YtpibnfdolojpcaaGreat
namespace Go.Proofs.YtpibnfdolojpcaaGreat
open Go.ChangeShapes Go.WideShapes Go.ChangeAt Go.RowKit
theorem plim_any (A:Option Addr) (l:List MntD) (cap:Nat) (A2:Option Addr) (n2 c2:Nat) (w:World) (hA:RowAt rowM w A l) (hl:l.length≤9223372036854775807) :
  Calls Tryz.prog 64 #[.agg #[.slice A l.length cap,.slice A2 n2 c2]] w (Ret w (.tuple #[.int .i64 (seedB l).1,.int .i64 (seedB l).2])):=by
 obtain ⟨n,hn⟩:∃n,n=l.length:=⟨_,rfl⟩;obtain ⟨R,hR⟩:∃R,R=seedB l:=⟨_,rfl⟩;rw [←hn]at hl⊢;rw [←hR];have HN:=zH hn;have HR:=zH hR;obtain ⟨W1,hW1⟩:∃W,W=w.alloc (.cells #[.slice A n cap,.slice A2 n2 c2] 25):=⟨_,rfl⟩;obtain ⟨b1,hb1⟩:∃b,b=w.heap.size:=⟨_,rfl⟩;have E1:Ext w W1:=by rw[hW1];exact (Ext.refl _).alloc _
 have B1:Has W1 b1 (.cells #[.slice A n cap,.slice A2 n2 c2] 25):=by rw[hW1,hb1];exact Has.new _ _
 have c0:=B1.cell 0;have cz:=B1.lt;simp only[gA,gB]at c0;have HA:=zH (hA.ext E1);clear hn hR hA;go_enter Tryz.func64,Tryz.ntmps64;go_upto_region 1 with fail;rw [←hW1,←hb1];clear hW1 hb1;go_wp2_with fail;clear c0 cz;go_loopw [9] (fun vi wr=>∃k:Nat,vi=.int .i64 k∧k≤n∧Ext W1 wr∧seedB (l.drop k)=R) (fun vi _=>n-(intOf vi).toNat)
 case atStart=>exact⟨0,rfl,Nat.zero_le _,Ext.refl _,by rw[List.drop_zero,HR.out]⟩
 case round =>
  obtain ⟨k,rfl,hk,hE,hS⟩:=hrel;have k0:(0:Int)≤(k:Int):=Int.natCast_nonneg _;have HE:=zH hE
  by_cases hlt:(k:Int)<n
  case neg =>
   have hd:l.drop k=[]:=List.drop_eq_nil_of_le (by have:=HN.out;omega);have hS2:Hid (R=(65536,65536)):=by show _=_;rw[←hS,hd,seedB_nil]
   clear hS hd hE;go_wp2_with fail;go_ret2;exact Ret.mk (by rw[hS2.out];rfl) (E1.trans HE.out)
  case pos =>
   have hkl:k<l.length:=by have:=HN.out;omega
   obtain ⟨ba,o,rfl,hba,q0,q1,q2⟩:=(HA.out.ext hE).mnt hkl;have w1w:IntKind.i64.wrap ((k:Int)+1)=(k:Int)+1:=IntWalk.i64_in _ (by omega);rw [List.drop_eq_getElem_cons hkl]at hS;obtain ⟨m,hm⟩:∃m,m=l[k]:=⟨_,rfl⟩;rw [←hm]at q0 q1 q2 hS;obtain ⟨P,hP⟩:∃P,P=bs m.path:=⟨_,rfl⟩;have tp:(P.toList == [47])=topB m:=by rw[hP];exact top_test _
   rw [←hP]at q0;obtain ⟨mb,hmb⟩:∃x,x=m.b:=⟨_,rfl⟩;obtain ⟨mn,hmn⟩:∃x,x=m.n:=⟨_,rfl⟩;have HS:=zH hS;have HMB:=zH hmb;have HMN:=zH hmn;have hlim:=limits_cases mb mn;rw [←hmb]at q1;rw [←hmn]at q2;clear hS hm hP hE hmb hmn
   cases ht:topB m with
   | false =>
    rw [ht]at tp;have hS3:Hid (seedB (l.drop (k+1))=R):=by show _=_;rw[←HS.out,seedB_no (.inl ht)]
    clear ht hlim;go_wp2_with fail;go_roundw
    case rel=>exact⟨k+1,by go_num,by omega,HE.out.alloc _,hS3.out⟩
    case measure=>simp[intOf];omega
   | true =>
    rw [ht]at tp;have HT:=zH ht;clear ht;rcases hlim with⟨h1,h2,h3,h4,h0⟩|⟨h0,h1|⟨h1,h2⟩|⟨h1,h2,h3⟩|⟨h1,h2,h3,h4⟩⟩
    case inl =>
     have hS3:Hid (R=(mb,mn)):=by show _=_;rw[←HS.out,seedB_yes HT.out (by rw[←HMB.out,←HMN.out];exact h0),HMB.out,HMN.out]
     clear h0;go_upto_region 5 with fail;go_quiet (fail);go_wp2_with fail;go_ret2;exact Ret.mk (by rw[hS3.out];rfl) (E1.trans ((HE.out.alloc _).drewN nq))
    all_goals
     have hS3:Hid (seedB (l.drop (k+1))=R):=by show _=_;rw[←HS.out,seedB_no (.inr (by rw[←HMB.out,←HMN.out];exact h0))]
     clear h0;go_wp2_with fail;go_roundw
     case rel=>exact⟨k+1,by go_num,by omega,HE.out.alloc _,hS3.out⟩
     case measure=>simp[intOf];omega
theorem rlim22_any (A:Option Addr) (l:List MntD) (cap:Nat) (A2:Option Addr) (n2 c2:Nat) (w:World) (hA:RowAt rowM w A l) (hl:l.length≤1000000) :
  Calls Tryz.prog 71 #[.agg #[.slice A l.length cap,.slice A2 n2 c2]] w (Ret w (.tuple #[.int .i64 (seedB l).1,.int .i64 (seedB l).2])):=by
 obtain ⟨n,hn⟩:∃n,n=l.length:=⟨_,rfl⟩;obtain ⟨R,hR⟩:∃R,R=seedB l:=⟨_,rfl⟩;rw [←hn]at hl⊢;rw [←hR];have HN:=zH hn;have HR:=zH hR;obtain ⟨W1,hW1⟩:∃W,W=w.alloc (.cells #[.slice A n cap,.slice A2 n2 c2] 25):=⟨_,rfl⟩;obtain ⟨b1,hb1⟩:∃b,b=w.heap.size:=⟨_,rfl⟩;have E1:Ext w W1:=by rw[hW1];exact (Ext.refl _).alloc _
 have B1:Has W1 b1 (.cells #[.slice A n cap,.slice A2 n2 c2] 25):=by rw[hW1,hb1];exact Has.new _ _
 have HB1:=zH B1;have HA:=zH (hA.ext E1);clear hn hR hA B1;go_enter Tryz.func71,Tryz.ntmps71;go_upto_region 1 with fail;rw [←hW1,←hb1];clear hW1 hb1;go_wp2_with fail;go_loopw [4] (fun vi wr=>∃k:Nat,vi=.int .i64 k∧k≤n∧Ext W1 wr∧seedB (l.drop k)=R) (fun vi _=>n-(intOf vi).toNat)
 case atStart=>exact⟨0,rfl,Nat.zero_le _,Ext.refl _,by rw[List.drop_zero,HR.out]⟩
 case round =>
  obtain ⟨k,rfl,hk,hE,hS⟩:=hrel;have k0:(0:Int)≤(k:Int):=Int.natCast_nonneg _;have HE:=zH hE;have B2:=HB1.out.ext hE;have c0:=B2.cell 0;have cz:=B2.lt;simp only[gA,gB]at c0;clear B2
  by_cases hlt:(k:Int)<n
  case neg =>
   have hd:l.drop k=[]:=List.drop_eq_nil_of_le (by have:=HN.out;omega);have hS2:Hid (R=(65536,65536)):=by show _=_;rw[←hS,hd,seedB_nil]
   clear hS hd hE;go_wp2_with fail;go_ret2;exact Ret.mk (by rw[hS2.out];rfl) (E1.trans HE.out)
  case pos =>
   have hkl:k<l.length:=by have:=HN.out;omega
   obtain ⟨ba,o,rfl,hba,q0,q1,q2⟩:=(HA.out.ext hE).mnt hkl;have w1w:IntKind.i64.wrap ((k:Int)+1)=(k:Int)+1:=IntWalk.i64_in _ (by omega);rw [List.drop_eq_getElem_cons hkl]at hS;obtain ⟨m,hm⟩:∃m,m=l[k]:=⟨_,rfl⟩;rw [←hm]at q0 q1 q2 hS;obtain ⟨P,hP⟩:∃P,P=bs m.path:=⟨_,rfl⟩;have tp:(P.toList == [47])=topB m:=by rw[hP];exact top_test _
   rw [←hP]at q0;obtain ⟨mb,hmb⟩:∃x,x=m.b:=⟨_,rfl⟩;obtain ⟨mn,hmn⟩:∃x,x=m.n:=⟨_,rfl⟩;have HS:=zH hS;have HMB:=zH hmb;have HMN:=zH hmn;rw [←hmb]at q1;rw [←hmn]at q2;clear hS hm hP hE hmb hmn
   cases ht:topB m with
   | false =>
    rw [ht]at tp;have hS3:Hid (seedB (l.drop (k+1))=R):=by show _=_;rw[←HS.out,seedB_no (.inl ht)]
    clear ht;go_wp2_with fail;go_roundw
    case rel=>exact⟨k+1,by go_num,by omega,HE.out.alloc _,hS3.out⟩
    case measure=>simp[intOf];omega
   | true =>
    rw [ht]at tp;have HT:=zH ht;obtain ⟨u,hu⟩:∃u,u=limitsF mb mn:=⟨_,rfl⟩;have hyes:Hid (u=true→R=(mb,mn)):=fun h0=>by rw[←HS.out,seedB_yes HT.out (by rw[←HMB.out,←HMN.out,←hu];exact h0),HMB.out,HMN.out]
    have hno:Hid (u=false→seedB (l.drop (k+1))=R):=fun h0=>by rw[←HS.out,seedB_no (.inr (by rw[←HMB.out,←HMN.out,←hu];exact h0))]
    obtain ⟨W3,hW3⟩:∃W,W=wr.alloc (.cells #[.string P,.int .i64 mb,.int .i64 mn] 119):=⟨_,rfl⟩;obtain ⟨b3,hb3⟩:∃b,b=wr.heap.size:=⟨_,rfl⟩;have E3:Ext W1 W3:=by rw[hW3];exact HE.out.alloc _
    have B3:Has W3 b3 (.cells #[.string P,.int .i64 mb,.int .i64 mn] 119):=by rw[hW3,hb3];exact Has.new _ _
    have KL:Hid (Calls Tryz.prog 120 #[.int .i64 mb,.int .i64 mn] W3 (Ret W3 (.bool u))):=by
     show Calls _ _ _ _ _;rw [hu];exact rlimits_any mb mn W3
    have r0:=B3.cell 0;have r1:=B3.cell 1;have r2:=B3.cell 2;have rz:=B3.lt;simp only[gA,gB,gC]at r0 r1 r2;have HB3:=zH B3;clear ht hu B3;go_upto_region 5 with fail;rw [←hW3,←hb3];clear hW3 hb3 c0 cz q0 q1 q2 hba;go_wp2_with fail;refine KL.out.mono ?_;rintro e w4 ⟨rfl,b4⟩;have B4:=HB3.out.ext b4;clear r0 r1 r2 rz;have r1:=B4.cell 1;have r2:=B4.cell 2;have rz:=B4.lt;simp only[gA,gB,gC]at r1 r2;clear KL B4
    cases u with
    | false =>
     have HNN:=zH (hno.out rfl);clear hno hyes;go_wp2_with fail;go_roundw
     case rel=>exact⟨k+1,by go_num,by omega,E3.trans b4,HNN.out⟩
     case measure=>simp[intOf];omega
    | true =>
     have HYY:=zH (hyes.out rfl);clear hno hyes;go_upto_region 6 with fail;go_quiet (fail);go_wp2_with fail;go_ret2;exact Ret.mk (by rw[HYY.out];rfl) (E1.trans ((E3.trans b4).drewN nq))
theorem mntT_err {S:TreeD} {m:MntD} (h:(mntP S m).2≠0):mntT S m=S:=by unfold mntT;rw[if_pos h]
theorem mntT_there {S:TreeD} {m:MntD} (h:(mntP S m).2=0) (h2:(mntP S m).1.no≠0):mntT S m=mountT S (mntP S m).1.no m.b m.n:=by unfold mntT;rw[if_neg (by rw[h];decide),if_neg h2]
theorem mntT_new {S:TreeD} {m:MntD} (h:(mntP S m).2=0) (h2:(mntP S m).1.no=0):mntT S m=if chgE S 0 0 0 (mntC S m)=0 then mountT (chgT S 0 0 0 (mntC S m)) (chgN S 0 0 0 (mntC S m)) m.b m.n else chgT S 0 0 0 (mntC S m):=by unfold mntT;rw[if_neg (by rw[h];decide),if_pos h2]
theorem pmnt_any {w:World} {B b:Nat} {g:GhW} {c:Nat} {S:TreeD} (h:PIn w B b g c S) (k:Plt c S) (hc:c≤890) (m:MntD) (hp:m.path.length≤1000000) :
  Calls Tryz.prog 65 #[.pointer (some ⟨b,0,none⟩),.agg #[.string (bs m.path),.int .i64 m.b,.int .i64 m.n]] w (fun e w'=>(∃v,e=.returned v)∧PTo w B b g (c+1) (mntT S m) w'):=by
 obtain ⟨W1,hW1⟩:∃W,W=w.alloc (.cells #[.string (bs m.path),.int .i64 m.b,.int .i64 m.n] 119):=⟨_,rfl⟩;obtain ⟨b3,hb3⟩:∃b,b=w.heap.size:=⟨_,rfl⟩;have E1:Ext w W1:=by rw[hW1];exact (Ext.refl _).alloc _
 have B1:Has W1 b3 (.cells #[.string (bs m.path),.int .i64 m.b,.int .i64 m.n] 119):=by rw[hW1,hb3];exact Has.new _ _
 have hlt:=h.lt;have hb3w:w.heap.size≤b3:=by omega
 have KF:=zH ((h.ext E1).find k (by omega) m.path false hp);obtain ⟨r,hr⟩:∃r,r=mntP S m:=⟨_,rfl⟩;rw [show pathF S 0 0 m.path false=r from hr.symm]at KF;have KF2:Hid (Calls Tryz.prog 110 #[.pointer (some ⟨b,0,none⟩),.agg #[.int .i64 0,.int .i64 0],.string (bs m.path),.bool false] W1 (Ret W1 (.tuple #[.agg #[.int .i64 r.1.dir,.string (bs r.1.name),.int .i64 r.1.no,.bool r.1.slash],.int .i64 r.2]))):=KF.out;have HR:=zH hr;have c0:=B1.cell 0;have cz:=B1.lt;simp only[gA,gB]at c0;have HB1:=zH B1;have H1:=zH (h.ext E1);have H0:=zH h;clear h KF hr B1;go_enter Tryz.func65,Tryz.ntmps65;go_upto_region 1 with fail;rw [←hW1,←hb3];clear hW1 hb3;go_wp2_with fail;refine KF2.out.mono ?_;rintro e w1 ⟨rfl,b1⟩;clear KF2 c0 cz;go_upto_region 2 with fail;obtain ⟨W2,hW2⟩:∃W,W=w1.alloc (.cells #[.int .i64 r.1.dir,.string (bs r.1.name),.int .i64 r.1.no,.bool r.1.slash] 82):=⟨_,rfl⟩;obtain ⟨b4,hb4⟩:∃b,b=w1.heap.size:=⟨_,rfl⟩;have E2:Ext W1 W2:=by rw[hW2];exact b1.alloc _
 have X2:Has W2 b4 (.cells #[.int .i64 r.1.dir,.string (bs r.1.name),.int .i64 r.1.no,.bool r.1.slash] 82):=by rw[hW2,hb4];exact Has.new _ _
 rw [←hW2,←hb4];have hb4w:W1.heap.size≤b4:=by have:=b1.size;omega
 clear hW2 hb4 b1;have P2:=H1.out.ext E2;have B2:=HB1.out.ext E2;have hlt1:=H1.out.lt;have HP2:=zH P2;have HX2:=zH X2;have HB2:=zH B2;have x0:=X2.cell 0;have x1:=X2.cell 1;have x2:=X2.cell 2;have xz:=X2.lt;simp only[gA,gB,gC]at x0 x1 x2
 by_cases he:r.2=0
 case neg =>
  have t1:(r.2 == 0)=false:=by simpa using he
  have hT:Hid (mntT S m=S):=mntT_err (by rw[←HR.out];exact he);clear he P2 X2 B2;go_wp2_with fail;go_end0;refine ⟨⟨_,rfl⟩,?_⟩;rw [hT.out];exact (PTo.refl H0.out (E1.trans E2)).mono (by omega)
 have t1:(r.2 == 0)=true:=by simpa using he
 have HE:=zH he;obtain ⟨nS,AS,cS,S2⟩:=P2.sys
 by_cases hno:r.1.no=0
 case neg =>
  have t2:(r.1.no == 0)=false:=by simpa using hno
  have hT:Hid (mntT S m=mountT S r.1.no m.b m.n):=by show _=_;rw[HR.out];exact mntT_there (by rw[←HR.out];exact HE.out) (by rw[←HR.out];exact hno)
  have d1:=B2.cell 1;have d2:=B2.cell 2;have dz:=B2.lt;simp only[gA,gB,gC]at d1 d2;have s0:=S2.cell 0;have sz:=S2.lt;simp only[gA,gB]at s0;have KM:=zH (fun u (hu:Ext W2 u)=>(P2.ext hu).mount k (by omega) r.1.no m.b m.n);have KD:=zH ((Ext.refl W2).drew);clear he hno P2 X2 B2 S2 x0 x1 xz;have x2:=HX2.out.cell 2;have xz:=HX2.out.lt;simp only[gA,gB,gC]at x2;go_upto_region 5 with fail;go_still_tail 10,(by kernel_rfl);change wpList _ _ _ _ _ W2.drew;go_wp2_with fail;refine (KM.out _ KD.out).mono ?_;rintro e w3 ⟨⟨v3,rfl⟩,T3⟩;go_wp2_with fail;go_end0;refine ⟨⟨_,rfl⟩,?_⟩;rw [hT.out];exact (T3.pre ((E1.trans E2).trans KD.out)).mono (by omega)
 have t2:(r.1.no == 0)=true:=by simpa using hno
 obtain ⟨X,hX⟩:∃X:Chg,X=mntC S m:=⟨_,rfl⟩;have hX':X=.mkdir r.1.dir r.1.name 493:=by rw[hX,HR.out];rfl
 have hT:Hid (mntT S m=if chgE S 0 0 0 X=0 then mountT (chgT S 0 0 0 X) (chgN S 0 0 0 X) m.b m.n else chgT S 0 0 0 X):=by show _=_;rw[hX];exact mntT_new (by rw[←HR.out];exact HE.out) (by rw[←HR.out];exact hno)
 have KC:=zH (P2.mkdir k (by omega) r.1.dir r.1.name 493);rw [←hX']at KC;have k1:Plt (c+1) (chgT S 0 0 0 X):=by rw[hX'];exact k.chg 0 0 0 _ (fun _ _ _ _ e=>by cases e)
 obtain ⟨N,hN⟩:∃N,N=chgN S 0 0 0 X:=⟨_,rfl⟩;obtain ⟨e2,he2⟩:∃e,e=chgE S 0 0 0 X:=⟨_,rfl⟩;obtain ⟨T,hTT⟩:∃T,T=chgT S 0 0 0 X:=⟨_,rfl⟩;rw [←hN,←he2,←hTT]at KC hT;rw [←hTT]at k1;clear he hno P2 X2 B2 hX hX' hN he2 hTT S2;go_wp2_with fail;refine KC.out.mono ?_;rintro e w3 ⟨rfl,T3⟩;have X3:=T3.has HX2.out (fun hm=>by have:=hlt1 _ hm;omega);have B3:=T3.has HB2.out (fun hm=>by have:=hlt _ hm;omega);clear KC x0 x1 x2 xz;have f2:=Has.free X3 2;have xz:=X3.lt;have x2:=X3.cell 2;simp only[gA,gB,gC]at x2;obtain ⟨W4,hW4⟩:∃W,W=w3.setCell ⟨b4,2,none⟩ (.int .i64 N):=⟨_,rfl⟩;have X4:Has W4 b4 (.cells #[.int .i64 r.1.dir,.string (bs r.1.name),.int .i64 N,.bool r.1.slash] 82):=by rw[hW4];exact Has.setCell X3 2 (.int .i64 N)
 have O4:Only [b4] w3 W4:=by rw[hW4];exact Only.setCell _ _ _ _
 obtain ⟨g3,on3,P3,O3⟩:=T3;have F4:Free2 w3 B [b4]:=fun x hx=>by
  rw [List.mem_singleton]at hx;subst hx;have hB:=(H0.out.free2 b (List.mem_cons_self ..));have hbl:=hlt b (List.mem_cons_self ..);have:=E1.size;refine ⟨by omega,?_,?_⟩
  ·rintro⟨cs,fr,e⟩;unfold Has at X3;rw[X3]at e;injection e with e;injection e with _ e;exact absurd e (by decide)
  ·rintro⟨cs,fr,e⟩;unfold Has at X3;rw[X3]at e;injection e with e;injection e with _ e;exact absurd e (by decide)
 have hn4:∀x∈b::g3.list,x∉[b4]:=fun x hx hm=>by
  rw [List.mem_singleton]at hm;subst hm;exact P3.off X3 (by decide) (by decide) (by decide) (by decide) hx
 have P4:=P3.only O4 F4 hn4;have B4:=O4.has B3 (by rw[List.mem_singleton];have:=HB1.out.lt;omega);have on0:GhW.on g3 g w:=⟨on3.1,fun x hx=>(on3.2 x hx).imp id fun e=>by have:=E1.size;have:=E2.size;omega⟩;have O0:Only (b::g.list) w W4:=(Only.pre (E1.trans E2) O3).trans O4 (fun x hx=>by rw[List.mem_singleton]at hx;subst hx;exact .inr (by have:=E1.size;omega));have HP4:=zH P4;have HON:=zH on0;have HO0:=zH O0;have HX4:=zH X4;have HB4:=zH B4;obtain ⟨nS,AS,cS,S2⟩:=P4.sys;clear P3 O3 on3 F4 hn4 P4 on0 O0 X4 B4 O4 X3 B3
 by_cases h2:e2=0
 case neg =>
  have t3:(e2 == 0)=false:=by simpa using h2
  have hT2:Hid (mntT S m=T):=by show _=_;rw[hT.out,if_neg h2]
  clear h2 S2;go_upto_region 4 with fail;rw [←hW4];clear hW4;go_wp2_with fail;go_end0;refine ⟨⟨_,rfl⟩,?_⟩;rw [hT2.out];exact ⟨g3,HON.out,HP4.out,HO0.out⟩
 case pos =>
  have t3:(e2 == 0)=true:=by simpa using h2
  have hT2:Hid (mntT S m=mountT T N m.b m.n):=by show _=_;rw[hT.out,if_pos h2]
  have s0:=S2.cell 0;have sz:=S2.lt;simp only[gA,gB]at s0;have KM:=zH (fun u (hu:Ext W4 u)=>(HP4.out.ext hu).mount k1 (by omega) N m.b m.n);have KD:=zH ((Ext.refl W4).drew);clear h2 S2;go_upto_region 4 with fail;rw [←hW4];clear hW4 x2 xz f2;have x2:=HX4.out.cell 2;have xz:=HX4.out.lt;have d1:=HB4.out.cell 1;have d2:=HB4.out.cell 2;have dz:=HB4.out.lt;simp only[gA,gB,gC]at x2 d1 d2;go_upto_region 5 with fail;go_still_tail 10,(by kernel_rfl);change wpList _ _ _ _ _ W4.drew;go_wp2_with fail;refine (KM.out _ KD.out).mono ?_;rintro e w5 ⟨⟨v5,rfl⟩,T5⟩;go_wp2_with fail;go_end0;refine ⟨⟨_,rfl⟩,?_⟩;rw [hT2.out];exact PTo.trans HON.out HO0.out (T5.pre KD.out)
theorem PS.plan_ {w:World} {B b:Nat} {g:GhW} {s:SysD} (h:PS w B b g s) (A0:Option Addr) (l:List (Int×Int)) (cap0:Nat) (hp:PlanAt w A0 l) (hA:A0=none→cap0=0) (ho:l≠[]→PlanOff A0 b) (hl:l.length≤1000000) :
  Calls Tryz.prog 38 #[.pointer (some ⟨b,0,none⟩),.slice A0 l.length cap0] w (fun e w'=>(∃v,e=.returned v)∧PS w' B b g {s with plan:=l,count:=0}∧Only [b] w w'):=by
 obtain ⟨A,cap,h⟩:=h;have hn:=h.notin;obtain ⟨h1,h2,h3,h4,h5⟩:=h;refine (planAny A0 l cap0 w h2 hp hA ho hl).mono ?_;rintro e w' ⟨hv,A',cap',k1,k2,k3,k4,O⟩;refine ⟨hv,⟨A',cap',h1.offS h2 h5 hn O,k1,?_,k3,h5⟩,O⟩;rcases k2 with k2|⟨b2,o2,e2,hb2,hc2⟩
 ·exact .inl k2
 ·exact .inr ⟨b2,o2,e2,hb2,.inr (k4 _ e2),hc2⟩
theorem Duo.planP {w0 w:World} {B b:Nat} {g:GhW} {f:GhF} {s r:SysD} (h:Duo w0 B b g f s r w) (A0:Option Addr) (l:List (Int×Int)) (cap0:Nat) (hp:PlanAt w A0 l) (hA:A0=none→cap0=0) (ho:l≠[]→PlanOff A0 b) (hl:l.length≤1000000) :
  Calls Tryz.prog 38 #[.pointer (some ⟨b,0,none⟩),.slice A0 l.length cap0] w (fun e w'=>(∃v,e=.returned v)∧Duo w0 B b g f {s with plan:=l,count:=0} r w'):=by
 obtain ⟨g1,f1,h1,h2,h3,h4,h5⟩:=h;refine (h3.plan_ A0 l cap0 hp hA ho hl).mono ?_;rintro e w' ⟨hv,k,O⟩;exact ⟨hv,Duo.prog h1 h2 h3 h4 h5 k (O.mono (by simp))⟩
theorem foldl_take {α β:Type} (f:β→α→β) (z:β) (l:List α) {k:Nat} (hk:k<l.length):(l.take (k+1)).foldl f z=f ((l.take k).foldl f z) l[k]:=by
 rw [List.take_succ_eq_append_getElem hk,List.foldl_append];rfl
theorem mntsT_take (S:TreeD) (l:List MntD) {k:Nat} (hk:k<l.length):mntsT S (l.take (k+1))=if topB l[k]=true then mntsT S (l.take k) else mntT (mntsT S (l.take k)) l[k]:=by unfold mntsT;rw[foldl_take _ _ _ hk]
theorem itemsS_take (p:TreeD×List Int) (l:List ItmD) {k:Nat} (hk:k<l.length):itemsS p (l.take (k+1))=itemS (itemsS p (l.take k)) l[k]:=by unfold itemsS;rw[foldl_take _ _ _ hk]
theorem timesT_take (S:TreeD) (l:List (Int×ItmD)) {k:Nat} (hk:k<l.length):timesT S (l.take (k+1))=timeS (timesT S (l.take k)) l[k]:=by unfold timesT;rw[foldl_take _ _ _ hk]
theorem PIn.offG {α:Type} {R:RowK α} {w:World} {B b:Nat} {g:GhW} {c:Nat} {S:TreeD} {base:Nat} {v:Value} {l:List α} (h:PIn w B b g c S) (k:OwnG R w base v l) (h1:R.t≠102) (h2:R.t≠106) (h3:R.t≠157) (h4:R.t≠205):∀x,v.ownBlock=some x→x∉b::g.list:=by
 intro x hx;rcases k.cases with⟨rfl,_⟩|⟨g',cap,cur,rfl,_,h5,_⟩
 ·cases hx
 ·injection hx with hx
  subst hx;exact h.off h5 h1 h2 h3 h4
theorem OwnG.free2 {α:Type} {R:RowK α} {w:World} {base B:Nat} {v:Value} {l:List α} (k:OwnG R w base v l) (hB:B≤base) (h1:R.t≠153) (h2:R.t≠216):Free2 w B v.ownBlock.toList:=by
 intro x hx;have hx:=Option.mem_toList.1 hx;rcases k.cases with⟨rfl,_⟩|⟨g',cap,cur,rfl,hb,h5,_⟩
 ·cases hx
 ·have hx:g'=x:=Option.some.inj hx
  subst hx;unfold Has at h5;refine ⟨by omega,?_,?_⟩
  ·rintro⟨cs,fr,e⟩;rw[h5]at e;injection e with e;injection e with _ e;exact h1 e
  ·rintro⟨cs,fr,e⟩;rw[h5]at e;injection e with e;injection e with _ e;exact h2 e
theorem OwnG.empty {α:Type} (R:RowK α) {w:World} {base g:Nat} (hb:base≤g) (h:Has w g (.cells #[] R.t)):OwnG R w base (.slice (some ⟨g,0,none⟩) 0 0) []:=
 ⟨by simp[RowK.cells],.inr ⟨g,0,#[],rfl,hb,h,Nat.le_refl _,Nat.zero_le _,by simp,by simp[RowK.cells]⟩⟩
theorem OwnG.notHas {α:Type} {R:RowK α} {w:World} {base x:Nat} {v:Value} {l:List α} {cs:Array Value} {t:TypeId} (k:OwnG R w base v l) (hx:Has w x (.cells cs t)) (hne:t≠R.t):x∉v.ownBlock.toList:=by
 intro hm;obtain ⟨cs2,fr,e⟩:=k.tag (Option.mem_toList.1 hm);unfold Has at hx;rw [hx]at e;injection e with e;injection e with _ e;exact hne e
theorem PIn.wake {w:World} {B b:Nat} {g:GhW} {c:Nat} {S:TreeD} (h:PIn w B b g c S) :
  Calls Tryz.prog 70 #[.pointer (some ⟨b,0,none⟩)] w (fun e w'=>(∃v,e=.returned v)∧PS w' B b g ⟨S,0,0,[],false⟩∧Only (b::g.list) w w'):=by
 obtain ⟨n,_,_,h⟩:=h;have hh:=h;obtain ⟨A,cap,a1,a2,a3,a4,a5⟩:=hh;have HH:=zH h;have hn:=h.notin;have KN:Hid (Calls Tryz.prog 78 #[.pointer (some ⟨b,0,none⟩)] w (Ret w (.bool false))):=noneS w a2;clear h a1 a3 a4;go_enter Tryz.func70,Tryz.ntmps70;go_wp2_with fail;refine KN.out.mono ?_;rintro e w1 ⟨rfl,b1⟩;have h1:=HH.out.ext b1;obtain ⟨A1,cap1,k1,k2,k3,k4,k5⟩:=id h1;have c4:=Has.cell k2 4;have f4:=Has.free k2 4;have z4:=Has.lt k2;simp only[gA,gB,gC]at c4;obtain ⟨W2,hW2⟩:∃W,W=w1.setCell ⟨b,4,none⟩ (.bool false):=⟨_,rfl⟩;have S2:SAt W2 b g 0 n A1 0 cap1 false:=by rw[hW2];exact Has.setCell k2 4 (.bool false)
 have O2:Only [b] w1 W2:=by rw[hW2];exact Only.setCell _ _ _ _
 have P2:PS W2 B b g ⟨S,0,n,[],false⟩:=⟨A1,cap1,k1.offS k2 k5 hn O2,S2,.inl rfl,k4,k5⟩;have KP:=zH (P2.plan_ none [] 0 (.inl rfl) (fun _=>rfl) (fun h=>absurd rfl h) (Nat.zero_le _));clear k1 k2 k3 k4 S2 KN;go_upto_region 2 with fail;rw [←hW2];clear hW2 c4 f4 z4;go_wp2_with fail;refine KP.out.mono ?_;rintro e w3 ⟨⟨v,rfl⟩,P3,O3⟩;go_wp2_with fail;go_end0;refine ⟨⟨_,rfl⟩,P3,(Only.pre b1 (O2.mono (fun x hx=>by rw[List.mem_singleton]at hx;subst hx;exact List.mem_cons_self ..))).then (O3.mono (fun x hx=>by rw[List.mem_singleton]at hx;subst hx;exact List.mem_cons_self ..))⟩
theorem pplant_any (Am:Option Addr) (ms:List MntD) (cm:Nat) (Ai:Option Addr) (is:List ItmD) (ci:Nat) (w:World) (hM:RowAt rowM w Am ms) (hI:RowAt rowT w Ai is) (h1:ms.length≤10) (h2:is.length≤30)
  (h3:∀m∈ms,m.path.length≤1000000) (h4:∀it∈is,it.path.length≤1000000∧it.data.length≤1000000) :
  Calls Tryz.prog 36 #[.agg #[.slice Am ms.length cm,.slice Ai is.length ci]] w (fun e w'=>∃(b B:Nat) (g:GhW),e=.returned (.pointer (some ⟨b,0,none⟩))∧w.heap.size≤B∧PS w' B b g ⟨plantT ms is,0,0,[],false⟩∧Ext w w'):=by
 obtain ⟨nm,hnm⟩:∃n,n=ms.length:=⟨_,rfl⟩;obtain ⟨ni,hni⟩:∃n,n=is.length:=⟨_,rfl⟩;obtain ⟨W1,hW1⟩:∃W,W=w.alloc (.cells #[.slice Am nm cm,.slice Ai ni ci] 25):=⟨_,rfl⟩;obtain ⟨b1,hb1⟩:∃b,b=w.heap.size:=⟨_,rfl⟩;have E1:Ext w W1:=by rw[hW1];exact (Ext.refl _).alloc _
 have B1:Has W1 b1 (.cells #[.slice Am nm cm,.slice Ai ni ci] 25):=by rw[hW1,hb1];exact Has.new _ _
 have KL:Hid (Calls Tryz.prog 64 #[.agg #[.slice Am nm cm,.slice Ai ni ci]] W1 (Ret W1 (.tuple #[.int .i64 (seedB ms).1,.int .i64 (seedB ms).2]))):=by
  show Calls _ _ _ _ _;rw [hnm];exact plim_any Am ms cm Ai ni ci W1 (hM.ext E1) (by omega)
 rw [←hnm]at h1⊢;rw [←hni]at h2⊢;have HNM:=zH hnm;have HNI:=zH hni;have HM:=zH (hM.ext E1);have HI:=zH (hI.ext E1);have HB1:=zH B1;have c0:=B1.cell 0;have c1:=B1.cell 1;have cz:=B1.lt;simp only[gA,gB,gC]at c0 c1;clear hnm hni hM hI B1;go_enter Tryz.func36,Tryz.ntmps36;go_upto_region 1 with fail;rw [←hW1,←hb1];clear hW1 hb1;go_wp2_with fail;refine KL.out.mono ?_;rintro e w2 ⟨rfl,E2⟩;clear KL c0 c1 cz;go_wp2_with fail;refine (newS (seedB ms).1 (seedB ms).2 w2 (seedB_ok ms)).mono ?_;rintro e w3 ⟨g0,B,b,hB,hbB,rfl,K3,S3,_,E3⟩;have P3:PIn w3 B b g0 0 (mntsT (seed0 ms) (ms.take 0)):=⟨0,Int.le_refl _,Int.le_refl _,none,0,K3,S3,.inl rfl,(fun x hx=>by cases hx),hbB⟩;have E13:Ext W1 w3:=E2.trans E3;have hB1:W1.heap.size≤B:=by have:=E2.size;omega
 have B3:=HB1.out.ext E13;have c0:=B3.cell 0;have cz:=B3.lt;simp only[gA,gB]at c0;have HP3:=zH P3;clear K3 S3 P3 B3 E2 E3 hB;go_wp2_with fail;clear c0 cz;go_loopw [26] (fun vi wr=>∃(k:Nat) (g:GhW),vi=.int .i64 k∧k≤nm∧PIn wr B b g (2*k) (mntsT (seed0 ms) (ms.take k))∧Ext W1 wr) (fun vi _=>nm-(intOf vi).toNat)
 case atStart=>exact⟨0,g0,rfl,Nat.zero_le _,HP3.out,E13⟩
 case round =>
  clear HP3;obtain ⟨k,g,rfl,hk,hP,hE⟩:=hrel;have k0:(0:Int)≤(k:Int):=Int.natCast_nonneg _;have HP:=zH hP;have HE:=zH hE
  by_cases hlt:(k:Int)<nm
  case pos =>
   have hkl:k<ms.length:=by have:=HNM.out;omega
   obtain ⟨ba,o,rfl,hba,q0,q1,q2⟩:=(HM.out.ext hE).mnt hkl;have w1w:IntKind.i64.wrap ((k:Int)+1)=(k:Int)+1:=IntWalk.i64_in _ (by omega);have hst:=mntsT_take (seed0 ms) ms hkl;have hpl:=h3 ms[k] (List.getElem_mem hkl);have hplt:Plt (2*k) (mntsT (seed0 ms) (ms.take k)):=(((Plt.first (seedB_ok ms)).mnts (ms.take k))).mono (by rw[List.length_take];omega);obtain ⟨m,hm⟩:∃m,m=ms[k]:=⟨_,rfl⟩;rw [←hm]at q0 q1 q2 hst hpl;obtain ⟨W4,hW4⟩:∃W,W=wr.alloc (.cells #[.string (bs m.path),.int .i64 m.b,.int .i64 m.n] 119):=⟨_,rfl⟩;obtain ⟨b6,hb6⟩:∃b,b=wr.heap.size:=⟨_,rfl⟩;have E4:Ext wr W4:=by rw[hW4];exact (Ext.refl _).alloc _
   have B4:Has W4 b6 (.cells #[.string (bs m.path),.int .i64 m.b,.int .i64 m.n] 119):=by rw[hW4,hb6];exact Has.new _ _
   have tp:=top_test m.path;have KM:=zH (pmnt_any (HP.out.ext E4) hplt (by omega) m hpl);have r0:=B4.cell 0;have r1:=B4.cell 1;have r2:=B4.cell 2;have rz:=B4.lt;simp only[gA,gB,gC]at r0 r1 r2;have HST:=zH hst;clear hP hE hm hst hpl hplt B4;go_upto_region 7 with fail;rw [←hW4,←hb6];clear hW4 hb6 q0 q1 q2 hba;obtain ⟨P,hPP⟩:∃P,P=bs m.path:=⟨_,rfl⟩;rw [←hPP]at r0 tp KM;clear hPP;have tt:topB m=(m.path == [47]):=rfl;rw [←tt]at tp;clear tt
   cases ht:topB m with
   | true =>
    rw [ht]at tp;have hS2:Hid (mntsT (seed0 ms) (ms.take (k+1))=mntsT (seed0 ms) (ms.take k)):=by show _=_;rw[HST.out,if_pos ht]
    clear ht;go_wp2_with fail;go_roundw
    case rel=>exact⟨k+1,g,by go_num,by omega,by rw[hS2.out];exact (HP.out.ext E4).mono (by omega),HE.out.trans E4⟩
    case measure=>simp[intOf];omega
   | false =>
    rw [ht]at tp;have hS2:Hid (mntsT (seed0 ms) (ms.take (k+1))=mntT (mntsT (seed0 ms) (ms.take k)) m):=by show _=_;rw[HST.out,if_neg (by rw[ht];decide)]
    clear ht;go_wp2_with fail;refine KM.out.mono ?_;rintro e w5 ⟨⟨v5,rfl⟩,T5⟩;have E5:Ext W1 w5:=T5.after (HP.out.ext E4) (HE.out.trans E4) hB1;obtain ⟨g5,_,P5,_⟩:=T5;have HP5:=zH P5;clear P5 KM r0 r1 r2 rz;go_wp2_with fail;go_roundw
    case rel=>exact⟨k+1,g5,by go_num,by omega,by rw[hS2.out];exact HP5.out.mono (by omega),E5⟩
    case measure=>simp[intOf];omega
  case neg =>
   have htk:ms.take k=ms:=List.take_of_length_le (by have:=HNM.out;omega);have hP2:=HP.out;rw [htk]at hP2;have hpl1:Plt 20 (mntsT (seed0 ms) ms):=((Plt.first (seedB_ok ms)).mnts ms).mono (by have:=HNM.out;omega);obtain ⟨S1,hS1⟩:∃S,S=mntsT (seed0 ms) ms:=⟨_,rfl⟩;rw [←hS1]at hP2 hpl1;have hgoal:Hid (plantT ms is=timesT (itemsS (S1,[]) is).1 ((itemsS (S1,[]) is).2.zip is)):=by show _=_;rw[hS1];rfl
   have HP2:=zH (hP2.mono (show 2*k≤20 by omega));have HPL1:=zH hpl1;have B3:=HB1.out.ext hE;have c1:=B3.cell 1;have cz:=B3.lt;simp only[gA,gB,gC]at c1;clear hP hE HP hP2 hpl1 htk hS1 B3 HM E13;go_upto_region 11 with fail;obtain ⟨W6,hW6⟩:∃W,W=wr.alloc (.cells #[] 3):=⟨_,rfl⟩;obtain ⟨b7,hb7⟩:∃b,b=wr.heap.size:=⟨_,rfl⟩;have E6:Ext wr W6:=by rw[hW6];exact (Ext.refl _).alloc _
   have M6:Has W6 b7 (.cells #[] 3):=by rw[hW6,hb7];exact Has.new _ _
   have hN6:W6.heap.size=wr.heap.size+1:=by rw[hW6];simp
   rw [←hW6,←hb7];have hb7l:wr.heap.size≤b7:=by omega
   have hP6:=HP2.out.ext E6;have O6:OwnG rowI W6 wr.heap.size (.slice (some ⟨b7,0,none⟩) 0 0) []:=OwnG.empty rowI hb7l M6;have hBwr:B≤wr.heap.size:=by have h7:=HP2.out.lt b (List.mem_cons_self ..);omega
   obtain ⟨N0,hN0⟩:∃N,N=wr.heap.size:=⟨_,rfl⟩;rw [←hN0]at O6 hBwr;have HO6:=zH O6;have HP6:=zH hP6;have HE6:=zH (HE.out.trans E6);have hN6l:N0≤W6.heap.size:=by have:=E6.size;omega
   have c1':=(E6.cell cz).trans c1;have cz':b1<W6.heap.size:=by have:=E6.size;omega
   clear hW6 hb7 M6 E6 hN6 O6 hP6 c1 cz hN0 hlt hk k0 HP2 HE;go_wp2_with fail;clear c1' cz';go_loopw [7,41] (fun vm vi wr=>∃(k:Nat) (g:GhW),vi=.int .i64 k∧k≤ni∧PIn wr B b g (20+3*k) (itemsS (S1,[]) (is.take k)).1∧OwnG rowI wr N0 vm (itemsS (S1,[]) (is.take k)).2∧N0≤wr.heap.size∧Ext W1 wr) (fun _ vi _=>ni-(intOf vi).toNat)
   case atStart=>exact⟨0,g,rfl,Nat.zero_le _,HP6.out,HO6.out,hN6l,HE6.out⟩
   case round =>
    clear HP6 HO6 HE6 hb7l hN6l g;obtain ⟨k,g,rfl,hk,hP,hO,hNl,hE⟩:=hrel;have k0:(0:Int)≤(k:Int):=Int.natCast_nonneg _
    by_cases hlt:(k:Int)<ni
    case pos =>
     have hkl:k<is.length:=by have:=HNI.out;omega
     obtain ⟨ba,o,rfl,hba,q0,q1,q2,q3,q4,q5,q6⟩:=(HI.out.ext hE).itm hkl;have w1w:IntKind.i64.wrap ((k:Int)+1)=(k:Int)+1:=IntWalk.i64_in _ (by omega);have hst:=itemsS_take (S1,[]) is hkl;have hil:=h4 is[k] (List.getElem_mem hkl);have hplt0:=Plt.items (is.take k) (S1,[]) HPL1.out;have htl:(is.take k).length=k:=by rw[List.length_take];omega
     rw [htl]at hplt0;obtain ⟨it,hit⟩:∃m,m=is[k]:=⟨_,rfl⟩;rw [←hit]at q0 q1 q2 q3 q4 q5 q6 hst hil;obtain ⟨p,hpp⟩:∃p,p=itemsS (S1,[]) (is.take k):=⟨_,rfl⟩;rw [←hpp]at hst hP hO hplt0;have hol:=hplt0.2;simp only[List.length_nil,Nat.zero_add]at hol;have HPLT:=zH hplt0.1;obtain ⟨W8,hW8⟩:∃W,W=wr.alloc (.cells #[.string (bs it.path),.int .i64 it.kind,.int .i64 it.mode,.int .i64 it.uid,.int .i64 it.gid,.int .i64 it.mtime,.string (bs it.data)] 72):=⟨_,rfl⟩;obtain ⟨b9,hb9⟩:∃b,b=wr.heap.size:=⟨_,rfl⟩;have E8:Ext wr W8:=by rw[hW8];exact (Ext.refl _).alloc _
     have B8:Has W8 b9 (.cells #[.string (bs it.path),.int .i64 it.kind,.int .i64 it.mode,.int .i64 it.uid,.int .i64 it.gid,.int .i64 it.mtime,.string (bs it.data)] 72):=by rw[hW8,hb9];exact Has.new _ _
     have P8:=hP.ext E8;have O8:=hO.ext E8;have hlt8:=hP.lt;have hb9l:wr.heap.size≤b9:=by omega
     have KN:=zH (pnod_any P8 hplt0.1 (by omega) it hil.1 hil.2);obtain ⟨T,hT⟩:∃T,T=itmT p.1 it:=⟨_,rfl⟩;obtain ⟨no,hno⟩:∃n,n=itmN p.1 it:=⟨_,rfl⟩;rw [←hT,←hno]at KN;have hst2:itemsS (S1,[]) (is.take (k+1))=(dressT T no it,p.2++[no]):=by rw[hst,hT,hno];rfl
     have hplT:Plt (20+3*k+1) T:=by rw[hT];exact hplt0.1.itm it
     have HST:=zH hst2;have HPT:=zH hplT;have HP8:=zH P8;have HO8:=zH O8;have HB8:=zH B8;have HE8:=zH (hE.trans E8);have r0:=B8.cell 0;have r1:=B8.cell 1;have r2:=B8.cell 2;have r3:=B8.cell 3;have r4:=B8.cell 4;have r5:=B8.cell 5;have r6:=B8.cell 6;have rz:=B8.lt;simp only[gA,gB,gC]at r0 r1 r2 r3 r4 r5 r6;clear hst hil hplt0 hpp hP hO hE hit hT hno hst2 hplT P8 O8 B8 htl;go_upto_region 14 with fail;rw [←hW8,←hb9];clear hW8 hb9 q0 q1 q2 q3 q4 q5 q6 hba;go_wp2_with fail;refine KN.out.mono ?_;rintro e w9 ⟨rfl,T9⟩;have E9:Ext W1 w9:=T9.after HP8.out HE8.out hB1;have B9:=T9.has HB8.out (fun hm=>by have:=hlt8 _ hm;omega);have hoff:=HP8.out.offG HO8.out (by decide) (by decide) (by decide) (by decide);obtain ⟨g9,on9,P9,o9⟩:=T9;have O9:=HO8.out.only o9 hoff;have hsz9:N0≤w9.heap.size:=by have:=o9.size;have:=E8.size;omega
     obtain ⟨v10,w10,hr10,hO10,hg10,_⟩:=app_g rowI w9 O9 hsz9 no (by omega);have hW1N:W1.heap.size≤N0:=by omega
     have E10:Ext W1 w10:=(E9.alloc _).grown hg10 (fun g hv=>by have:=(O9.lt hv).1;omega);have o10:Only u7.ownBlock.toList w9 w10:=(Only.allocN _ _ _).then (Only.of_grownBy hg10 (fun g hv=>Option.mem_toList.2 hv));have P10:=P9.only o10 (O9.free2 hBwr (by decide) (by decide)) (fun x hx hm=>P9.offG O9 (by decide) (by decide) (by decide) (by decide) x (Option.mem_toList.1 hm) hx);have B10:=o10.has B9 (O9.notHas B9 (by decide));have hsz10:N0≤w10.heap.size:=by have:=o10.size;omega
     have HR10:=zH hr10;have HP10:=zH P10;have HO10:=zH hO10;have HB10:=zH B10;have HE10:=zH E10;clear E9 B9 hoff P9 o9 on9 O9 hr10 hO10 hg10 E10 o10 P10 B10 KN r0 r1 r2 r3 r4 r5 r6 rz hsz9
     by_cases hno0:no=0
     case pos =>
      have t1:(no != 0)=false:=by simpa using hno0
      have hD:Hid (dressT T no it=T):=by show _=_;unfold dressT;rw[if_neg (fun q=>q hno0)]
      clear hno0;go_wp2_with (at_builtin;refine Lib.wpList_append_run _ rfl _ _ 124 124 rfl _ _ rfl rfl _ _ HR10.out ?_);go_roundw
      case rel=>exact⟨k+1,g9,by go_num,by omega,by rw[HST.out,hD.out];exact HP10.out.mono (by omega),by rw[HST.out];exact HO10.out,hsz10,HE10.out⟩
      case measure=>simp[intOf];omega
     case neg =>
      have t1:(no != 0)=true:=by simpa using hno0
      have hD:Hid (dressT T no it=chgT (chgT T 0 0 0 (.chown no it.uid it.gid)) 0 0 0 (.chmod no it.mode)):=by show _=_;unfold dressT;rw[if_pos hno0];rfl
      have KC:=zH (HP10.out.chown HPT.out (by omega) no it.uid it.gid);have hplU:Plt (20+3*k+1+1) (chgT T 0 0 0 (.chown no it.uid it.gid)):=HPT.out.chg 0 0 0 _ (fun _ _ _ _ e=>by cases e);obtain ⟨U,hU⟩:∃U,U=chgT T 0 0 0 (.chown no it.uid it.gid):=⟨_,rfl⟩;obtain ⟨ec,hec⟩:∃e,e=chgE T 0 0 0 (.chown no it.uid it.gid):=⟨_,rfl⟩;rw [←hU,←hec]at KC;rw [←hU]at hD hplU;have HPU:=zH hplU;clear hno0 hU hec hplU;have r3:=HB10.out.cell 3;have r4:=HB10.out.cell 4;have rz:=HB10.out.lt;simp only[gA,gB,gC]at r3 r4;go_wp2_with (at_builtin;refine Lib.wpList_append_run _ rfl _ _ 124 124 rfl _ _ rfl rfl _ _ HR10.out ?_);refine KC.out.mono ?_;rintro e w11 ⟨rfl,T11⟩;have hlt10:=HP10.out.lt;have E11:Ext W1 w11:=T11.after HP10.out HE10.out hB1;have B11:=T11.has HB10.out (HP10.out.off HB10.out (by decide) (by decide) (by decide) (by decide));have hoff:=HP10.out.offG HO10.out (by decide) (by decide) (by decide) (by decide);obtain ⟨g11,on11,P11,o11⟩:=T11;have O11:=HO10.out.only o11 hoff;have hsz11:N0≤w11.heap.size:=by have:=o11.size;omega
      have KM:=zH (P11.chmod HPU.out (by omega) no it.mode);obtain ⟨V,hV⟩:∃V,V=chgT U 0 0 0 (.chmod no it.mode):=⟨_,rfl⟩;obtain ⟨ed,hed⟩:∃e,e=chgE U 0 0 0 (.chmod no it.mode):=⟨_,rfl⟩;rw [←hV,←hed]at KM;rw [←hV]at hD;have HP11:=zH P11;have HO11:=zH O11;have HE11:=zH E11;clear r3 r4 rz KC hV hed on11 o11 hoff P11 O11 E11;have r2:=B11.cell 2;have rz:=B11.lt;simp only[gA,gB,gC]at r2;clear B11;go_wp2_with fail;refine KM.out.mono ?_;rintro e w12 ⟨rfl,T12⟩;have E12:Ext W1 w12:=T12.after HP11.out HE11.out hB1;have hoff:=HP11.out.offG HO11.out (by decide) (by decide) (by decide) (by decide);obtain ⟨g12,on12,P12,o12⟩:=T12;have O12:=HO11.out.only o12 hoff;have hsz12:N0≤w12.heap.size:=by have:=o12.size;omega
      have HP12:=zH P12;have HO12:=zH O12;have HE12:=zH E12;clear r2 rz KM on12 o12 hoff P12 O12 E12;go_wp2_with fail;go_roundw
      case rel=>exact⟨k+1,g12,by go_num,by omega,by rw[HST.out,hD.out];exact HP12.out.mono (by omega),by rw[HST.out];exact HO12.out,hsz12,HE12.out⟩
      case measure=>simp[intOf];omega
    case neg =>
     have htk:is.take k=is:=List.take_of_length_le (by have:=HNI.out;omega);rw [htk]at hP hO;have hplt0:=Plt.items is (S1,[]) HPL1.out;have hni:=HNI.out;obtain ⟨p,hpp⟩:∃p,p=itemsS (S1,[]) is:=⟨_,rfl⟩;rw [←hpp]at hP hO hplt0;have hg2:Hid (plantT ms is=timesT p.1 (p.2.zip is)):=by show _=_;rw[hgoal.out,hpp]
     have hol:p.2.length=ni:=by have:=hplt0.2;simp only[List.length_nil,Nat.zero_add]at this;omega
     have HOL:=zH hol;have hzl:Hid ((p.2.zip is).length=ni):=by show _=_;rw[List.length_zip];omega
     have HPL2:=zH (hplt0.1.mono (show 20+3*is.length≤110 by omega));have HP:=zH (hP.mono (show 20+3*k≤110 by omega));obtain ⟨Am,cm',hvm,_,_,hmat,_⟩:=hO.at_;rw [hol]at hvm;have HO:=zH hO;have HE:=zH hE;have HMAT:=zH hmat;have B3:=HB1.out.ext hE;have c1:=B3.cell 1;have cz:=B3.lt;simp only[gA,gB,gC]at c1;subst hvm;clear hP hO hE htk hplt0 hni hpp hol hmat B3;go_wp2_with fail;clear c1 cz hlt hk k0;go_loopw [72] (fun vi wr=>∃(k:Nat) (g:GhW),vi=.int .i64 k∧k≤ni∧PIn wr B b g (110+k) (timesT p.1 ((p.2.zip is).take k))∧OwnG rowI wr N0 (.slice Am ni cm') p.2∧Ext W1 wr) (fun vi _=>ni-(intOf vi).toNat)
     case atStart=>exact⟨0,g,rfl,Nat.zero_le _,HP.out,HO.out,HE.out⟩
     case round =>
      clear HP HO HE hNl g HMAT;obtain ⟨k,g,rfl,hk,hP,hO,hE⟩:=hrel;have k0:(0:Int)≤(k:Int):=Int.natCast_nonneg _
      by_cases hlt:(k:Int)<ni
      case pos =>
       have hkl:k<is.length:=by have:=HNI.out;omega
       have hkp:k<p.2.length:=by have:=HOL.out;omega
       have hkz:k<(p.2.zip is).length:=by have:=hzl.out;omega
       obtain ⟨ba,o,rfl,hba,q0,q1,q2,q3,q4,q5,q6⟩:=(HI.out.ext hE).itm hkl;obtain ⟨gm,hgm,hgml,qm⟩:∃gm,Am=some ⟨gm,0,none⟩∧gm<wr.heap.size∧wr.cell? ⟨gm,k,none⟩=some (.int .i64 p.2[k]):=by
        rcases hO.cases with⟨_,h2⟩|⟨gm,cap,cur,h2,_,h3,_,_,h4⟩
        ·rw[h2]at hkp;cases hkp
        ·injection h2 with h2
         have:=h4 k hkp 0 (by decide);exact ⟨gm,h2,h3.lt,by simpa [rowI]using this⟩
       subst hgm;have w1w:IntKind.i64.wrap ((k:Int)+1)=(k:Int)+1:=IntWalk.i64_in _ (by omega);have hst:=timesT_take p.1 (p.2.zip is) hkz;rw [List.getElem_zip]at hst;have hplt:Plt (110+k) (timesT p.1 ((p.2.zip is).take k)):=(Plt.times ((p.2.zip is).take k) HPL2.out).mono (by rw[List.length_take];omega);obtain ⟨it,hit⟩:∃m,m=is[k]:=⟨_,rfl⟩;obtain ⟨no,hno⟩:∃m,m=p.2[k]:=⟨_,rfl⟩;rw [←hit]at q0 q1 q2 q3 q4 q5 q6 hst;rw [←hno]at qm hst;obtain ⟨S3,hS3⟩:∃S,S=timesT p.1 ((p.2.zip is).take k):=⟨_,rfl⟩;rw [←hS3]at hst hplt hP;obtain ⟨W8,hW8⟩:∃W,W=wr.alloc (.cells #[.string (bs it.path),.int .i64 it.kind,.int .i64 it.mode,.int .i64 it.uid,.int .i64 it.gid,.int .i64 it.mtime,.string (bs it.data)] 72):=⟨_,rfl⟩;obtain ⟨b9,hb9⟩:∃b,b=wr.heap.size:=⟨_,rfl⟩;have E8:Ext wr W8:=by rw[hW8];exact (Ext.refl _).alloc _
       have B8:Has W8 b9 (.cells #[.string (bs it.path),.int .i64 it.kind,.int .i64 it.mode,.int .i64 it.uid,.int .i64 it.gid,.int .i64 it.mtime,.string (bs it.data)] 72):=by rw[hW8,hb9];exact Has.new _ _
       have P8:=hP.ext E8;have O8:=hO.ext E8;have qm':=(E8.cell hgml).trans qm;have qz':gm<W8.heap.size:=by have:=E8.size;omega
       have HST:=zH hst;have HP8:=zH P8;have HO8:=zH O8;have HE8:=zH (hE.trans E8);have r5:=B8.cell 5;have rz:=B8.lt;simp only[gA,gB,gC]at r5;have HPLT:=zH hplt;clear hst hP hO hE hit hno hS3 P8 O8 B8 hplt qm hkp hkz;go_upto_region 23 with fail;rw [←hW8,←hb9];clear hW8 hb9 q0 q1 q2 q3 q4 q5 q6 hba hgml
       by_cases hno0:no=0
       case pos =>
        have t1:(no != 0)=false:=by simpa using hno0
        have hD:Hid (timesT p.1 ((p.2.zip is).take (k+1))=S3):=by show _=_;rw[HST.out];unfold timeS;rw[if_neg (fun q=>q hno0)]
        clear hno0;go_wp2_with fail;go_roundw
        case rel=>exact⟨k+1,g,by go_num,by omega,by rw[hD.out];exact HP8.out.mono (by omega),HO8.out,HE8.out⟩
        case measure=>simp[intOf];omega
       case neg =>
        have t1:(no != 0)=true:=by simpa using hno0
        have hD:Hid (timesT p.1 ((p.2.zip is).take (k+1))=chgT S3 0 0 0 (.utime no it.mtime)):=by show _=_;rw[HST.out];unfold timeS;rw[if_pos hno0];rfl
        have hDr:=(Ext.refl W8).drew;have KC:=zH ((HP8.out.ext hDr).utime HPLT.out (by omega) no it.mtime);have HDR:=zH hDr;clear hno0 hDr;go_upto_region 24 with fail;go_still_tail 8,(by kernel_rfl);change wpList _ _ _ _ _ W8.drew;go_wp2_with fail;refine KC.out.mono ?_;rintro e w11 ⟨rfl,T11⟩;have E11:Ext W1 w11:=T11.after (HP8.out.ext HDR.out) (HE8.out.trans HDR.out) hB1;have hoff:=(HP8.out.ext HDR.out).offG (HO8.out.ext HDR.out) (by decide) (by decide) (by decide) (by decide);obtain ⟨g11,on11,P11,o11⟩:=T11;have O11:=(HO8.out.ext HDR.out).only o11 hoff;have HP11:=zH P11;have HO11:=zH O11;have HE11:=zH E11;clear r5 rz KC on11 o11 hoff P11 O11 E11 qm' qz';go_wp2_with fail;go_roundw
        case rel=>exact⟨k+1,g11,by go_num,by omega,by rw[hD.out];exact HP11.out.mono (by omega),HO11.out,HE11.out⟩
        case measure=>simp[intOf];omega
      case neg =>
       have htk:(p.2.zip is).take k=p.2.zip is:=List.take_of_length_le (by have:=hzl.out;omega);rw [htk,←hg2.out]at hP;have HP:=zH hP;have HE:=zH hE;have KW:=zH hP.wake;clear htk hP hE hO;go_wp2_with fail;refine KW.out.mono ?_;rintro e w9 ⟨⟨v9,rfl⟩,P9,o9⟩;have E9:Ext W1 w9:=o9.after HE.out (fun x hx=>by have:=(HP.out.free2 x hx).1;omega);have HP9:=zH P9;clear P9 o9 KW;go_wp2_with fail;go_ret;exact ⟨b,B,g,rfl,by have:=E1.size;omega,HP9.out,E1.trans E9⟩
end Go.Proofs.YtpibnfdolojpcaaGreat
