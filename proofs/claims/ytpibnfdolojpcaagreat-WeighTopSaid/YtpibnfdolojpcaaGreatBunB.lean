import Derived.Test.YtpibnfdolojpcaaGreatBunA
import Derived.Laws.OwnMore
import Derived.Laws.AppendOwn
import Derived.Deep.RegionHeld3
import Derived.Outline
import Derived.Deep.MidRow
import Derived.MapKept
import Derived.StillTailTactics
import Derived.WalkSpells
import Derived.Deep.AppendLies
import Derived.Deep.RegionLaw
set_option maxHeartbeats 4000000
set_option maxRecDepth 100000
namespace Go.Proofs.YtpibnfdolojpcaaGreat
structure NodeD where
 no:Int
 dev:Int
 kind:Int
 mode:Int
 uid:Int
 gid:Int
 mtime:Int
 ctime:Int
 links:Int
 up:Int
 data:List UInt8
 ents:List EntD
def nodeZ:NodeD:=⟨0,0,0,0,0,0,0,0,0,0,[],[]⟩
structure SpaceD where
 blocks:Int
 nodes:Int
 mostB:Int
 mostN:Int
def spaceZ:SpaceD:=⟨0,0,0,0⟩
structure DevD where
 root:Int
 over:Int
 q : SpaceD
def devZ:DevD:=⟨0,0,spaceZ⟩
structure TreeD where
 nodes:List NodeD
 devs:List DevD
 last:Int
def NosUp (ns:List NodeD) (last:Int):Prop:=ns.Pairwise (fun a b=>a.no<b.no)∧∀n∈ns,1≤n.no∧n.no≤last
def getO (ns:List NodeD) (no:Int):Option NodeD:=ns.find? fun n=>n.no == no
def getN (ns:List NodeD) (no:Int):NodeD:=(getO ns no).getD nodeZ
def isN (ns:List NodeD) (no:Int):Bool:=(getO ns no).isSome
def setN (ns:List NodeD) (n:NodeD):List NodeD:=ns.map fun m=>if m.no == n.no then n else m
def dropN (ns:List NodeD) (no:Int):List NodeD:=ns.filter fun m=>!(m.no == no)
theorem getO_some {ns:List NodeD} {no:Int} {n:NodeD} (h:getO ns no=some n):n.no=no∧n∈ns:=by
 unfold getO at h;exact ⟨by simpa using List.find?_some h,List.mem_of_find?_eq_some h⟩
theorem getO_none {ns:List NodeD} {no:Int} (h:getO ns no=none):∀n∈ns,n.no≠no:=by
 unfold getO at h;rw [List.find?_eq_none]at h;intro n hn e;exact h n hn (by simpa using e)
theorem getO_at {ns:List NodeD} {k:Nat} {last:Int} (hu:NosUp ns last) (hk:k<ns.length):getO ns (ns[k]).no=some ns[k]:=by
 unfold getO;rw [List.find?_eq_some_iff_getElem];refine ⟨by simp,k,hk,rfl,fun j hj=>?_⟩;have:=List.pairwise_iff_getElem.1 hu.1 j k (by omega) hk hj;simp;omega
theorem nos_inj {ns:List NodeD} {last:Int} (hu:NosUp ns last) {j k:Nat} (hj:j<ns.length) (hk:k<ns.length) (h:ns[j].no=ns[k].no):j=k:=by
 rcases Nat.lt_trichotomy j k with g|g|g
 ·have:=List.pairwise_iff_getElem.1 hu.1 j k hj hk g;omega
 ·exact g
 ·have:=List.pairwise_iff_getElem.1 hu.1 k j hk hj g;omega
theorem isN_iff {ns:List NodeD} {no:Int}:isN ns no=true↔∃k,∃h:k<ns.length,ns[k].no=no:=by
 unfold isN
 constructor
 ·intro h
  obtain ⟨n,hn⟩:=Option.isSome_iff_exists.1 h;obtain ⟨h1,h2⟩:=getO_some hn;obtain ⟨k,hk,e⟩:=List.getElem_of_mem h2;exact ⟨k,hk,by rw[e];exact h1⟩
 ·rintro ⟨k,hk,e⟩
  unfold getO;rw [List.find?_isSome];exact ⟨ns[k],List.getElem_mem hk,by simpa using e⟩
theorem isN_false {ns:List NodeD} {no:Int} (h:isN ns no=false):getN ns no=nodeZ∧∀n∈ns,n.no≠no:=by
 unfold isN at h;rw [Option.isSome_eq_false_iff,Option.isNone_iff_eq_none]at h;exact ⟨by unfold getN;rw[h];rfl,getO_none h⟩
theorem isN_true {ns:List NodeD} {no:Int} (h:isN ns no=true):getO ns no=some (getN ns no)∧(getN ns no).no=no∧getN ns no∈ns:=by
 unfold isN at h;obtain ⟨n,hn⟩:=Option.isSome_iff_exists.1 h;have e:getN ns no=n:=by unfold getN;rw[hn];rfl
 rw [e];exact ⟨hn,(getO_some hn).1,(getO_some hn).2⟩
theorem setN_len (ns:List NodeD) (n:NodeD):(setN ns n).length=ns.length:=by simp[setN]
theorem setN_at {ns:List NodeD} {n:NodeD} {last:Int} (hu:NosUp ns last) {k:Nat} (hk:k<ns.length) (h:ns[k].no=n.no):setN ns n=ns.set k n:=by
 apply List.ext_getElem
 ·simp[setN]
 ·intro i h1 h2
  simp only[setN,List.getElem_map,List.getElem_set];rw [List.length_set]at h2
  by_cases e:k=i
  ·subst e;simp[h]
  ·rw [if_neg e,if_neg]
   intro e2;rw [beq_iff_eq]at e2;exact e (nos_inj hu hk h2 (by rw[h,e2]))
theorem setN_not {ns:List NodeD} {n:NodeD} (h:∀m∈ns,m.no≠n.no):setN ns n=ns:=by
 unfold setN
 conv=>rhs;rw[←List.map_id ns]
 apply List.map_congr_left;intro m hm;rw [if_neg];rfl;simpa using h m hm
theorem setN_nos (ns:List NodeD) (n:NodeD):(setN ns n).map (·.no)=ns.map (·.no):=by
 unfold setN;rw [List.map_map];apply List.map_congr_left;intro m _;simp only[Function.comp];split
 ·rename_i h;rw[beq_iff_eq]at h;exact h.symm
 ·rfl
theorem NosUp.of_map {ns ms:List NodeD} {last:Int} (h:NosUp ns last) (e:ms.map (·.no)=ns.map (·.no)):NosUp ms last:=by
 obtain ⟨h1,h2⟩:=h;refine ⟨?_,?_⟩
 ·have:(ns.map (·.no)).Pairwise (· < ·):=List.pairwise_map.2 h1
  rw [←e]at this;exact List.pairwise_map.1 this
 ·intro m hm
  have:m.no∈ms.map (·.no):=List.mem_map_of_mem hm;rw [e,List.mem_map]at this;obtain ⟨n,hn,e2⟩:=this;rw [←e2];exact h2 n hn
theorem NosUp.set {ns:List NodeD} {last:Int} (h:NosUp ns last) (n:NodeD):NosUp (setN ns n) last:=h.of_map (setN_nos ns n)
theorem NosUp.add {ns:List NodeD} {last:Int} (h:NosUp ns last) (n:NodeD) (hn:n.no=last+1) (h0:0≤last):NosUp (ns++[n]) (last+1):=by
 refine ⟨?_,?_⟩
 ·rw [List.pairwise_append]
  refine ⟨h.1,List.pairwise_singleton ..,fun a ha b hb=>?_⟩;rw [List.mem_singleton]at hb;subst hb;have:=(h.2 a ha).2;omega
 ·intro m hm
  rcases List.mem_append.1 hm with hm|hm
  ·have:=h.2 m hm;omega
  ·rw[List.mem_singleton]at hm;subst hm;omega
theorem NosUp.drop {ns:List NodeD} {last:Int} (h:NosUp ns last) (no:Int):NosUp (dropN ns no) last:=
 ⟨h.1.sublist List.filter_sublist,fun n hn=>h.2 n (List.mem_filter.1 hn).1⟩
theorem NosUp.nil (last:Int):NosUp [] last:=⟨List.Pairwise.nil,fun _ h=>by cases h⟩
theorem NosUp.zero {ns:List NodeD} {last:Int} (h:NosUp ns last) {no:Int} (h0:no<1∨last<no):isN ns no=false:=by
 cases e:isN ns no
 ·rfl
 ·obtain ⟨k,hk,e2⟩:=isN_iff.1 e
  have:=h.2 _ (List.getElem_mem hk);omega
def blocksF (kind size:Int):Int:=if kind=1 then 1 else if kind=2∧0<size then (size-1) / 512+1 else 0
def fineF (q:SpaceD):Bool:=decide (0≤q.blocks)&&decide (0≤q.nodes)&&decide (q.blocks≤q.mostB)&&decide (q.nodes≤q.mostN)&&decide (q.mostB≤1073741824)&&decide (q.mostN≤65536)
def Fine (q:SpaceD):Prop:=0≤q.blocks∧0≤q.nodes∧q.blocks≤q.mostB∧q.nodes≤q.mostN∧q.mostB≤1073741824∧q.mostN≤65536
theorem fineF_iff (q:SpaceD):fineF q=true↔Fine q:=by unfold fineF Fine;simp only[Bool.and_eq_true,decide_eq_true_eq];constructor<;>(intro h;omega)
def inR (b n:Int):Prop:=-1073741824≤b∧b≤1073741824∧-1073741824≤n∧n≤1073741824
instance (b n:Int):Decidable (inR b n):=by unfold inR;exact inferInstance
def moreQ (q:SpaceD) (b n:Int):SpaceD:=⟨q.blocks+b,q.nodes+n,q.mostB,q.mostN⟩
def takeE (q:SpaceD) (b n:Int):Int:=
 if fineF q=true∧inR b n then
  if q.mostN<q.nodes+n then 15 else if q.mostB<q.blocks+b then 14 else if q.nodes+n<0∨q.blocks+b<0 then 1 else 0
 else 1
def takeQ (q:SpaceD) (b n:Int):SpaceD:=if takeE q b n=0 then moreQ q b n else q
theorem takeQ_fine {q:SpaceD} {b n:Int} (h:Fine q):Fine (takeQ q b n):=by
 unfold takeQ;split
 ·rename_i he
  unfold takeE at he;split at he
  ·split at he
   ·cases he
   ·split at he
    ·cases he
    ·split at he
     ·cases he
     ·unfold Fine moreQ at *;simp only;omega
  ·cases he
 ·exact h
def limitsF (b n:Int):Bool:=decide (1≤b)&&decide (b≤1073741824)&&decide (1≤n)&&decide (n≤65536)
def overF (ds:List DevD) (no:Int):Int:=if 0<no then (match ds.find? (fun d=>d.over == no) with|some d=>d.root|none=>no) else no
def devN (ds:List DevD) (d:Int):DevD:=ds.getD (d-1).toNat devZ
def hasD (ds:List DevD) (d:Int):Bool:=decide (1≤d)&&decide (d≤ds.length)
def rootF (ds:List DevD) (d:Int):Int:=if hasD ds d=true then (devN ds d).root else 0
def useF (ds:List DevD) (d:Int):SpaceD:=if hasD ds d=true then (devN ds d).q else spaceZ
def setQ (ds:List DevD) (d:Int) (q:SpaceD):List DevD:=ds.modify (d-1).toNat fun x=>{x with q:=q}
def RootsOk (ds:List DevD):Prop:=∀d∈ds,0<d.root∧Fine d.q
def setT (S:TreeD) (n:NodeD):TreeD:=⟨setN S.nodes n,S.devs,S.last⟩
def rootNode (S:TreeD):NodeD:={nodeZ with no:=S.last+1,dev:=S.devs.length+1,kind:=1,mode:=493,links:=1,up:=S.last+1}
def rootT (S:TreeD) (over b n:Int):TreeD:=⟨S.nodes++[rootNode S],S.devs++[⟨S.last+1,over,⟨1,1,b,n⟩⟩],S.last+1⟩
def mountE (S:TreeD) (at_ b n:Int):Int:=
 if isN S.nodes at_=false then 5 else if (getN S.nodes at_).kind≠1 then 9
 else if overF S.devs at_≠at_∨rootF S.devs (getN S.nodes at_).dev=at_ then 16
 else if 8≤S.devs.length∨limitsF b n=false then 3 else 0
def mountT (S:TreeD) (at_ b n:Int):TreeD:=if mountE S at_ b n=0 then rootT S at_ b n else S
def mountN (S:TreeD) (at_ b n:Int):Int:=if mountE S at_ b n=0 then S.last+1 else 0
def makeE (S:TreeD) (n:NodeD):Int:=if rootF S.devs n.dev=0 then 1 else takeE (devN S.devs n.dev).q (blocksF n.kind n.data.length) 1
def makeT (S:TreeD) (n:NodeD):TreeD:=
 if makeE S n=0 then⟨S.nodes++[{n with no:=S.last+1}],setQ S.devs n.dev (takeQ (devN S.devs n.dev).q (blocksF n.kind n.data.length) 1),S.last+1⟩ else S
def makeN (S:TreeD) (n:NodeD):Int:=if makeE S n=0 then S.last+1 else 0
open Go.ChangeShapes Go.WideShapes Go.ChangeAt Go.RowKit
abbrev Txt:=List UInt8
def TxtAt (w:World) (A:Option Addr) (l:List Txt):Prop:=
 l = []∨∃b o,A=some ⟨b,o,none⟩∧b<w.heap.size∧∀k,(h:k<l.length)→w.cell? ⟨b,o+k,none⟩=some (.string (bs l[k]))
theorem TxtAt.ext {w w':World} {A:Option Addr} {l:List Txt} (h:TxtAt w A l) (k:Ext w w'):TxtAt w' A l:=by
 rcases h with h|⟨b,o,hA,hb,hc⟩
 ·exact .inl h
 ·refine .inr ⟨b,o,hA,by have:=k.size;omega,fun i hi=>?_⟩
  rw [k.cell hb];exact hc i hi
theorem TxtAt.at_ {w w':World} {A:Option Addr} {l:List Txt} (h:TxtAt w A l) (hE:Ext w w') (k:Nat) (hk:k<l.length):∃b o,A=some ⟨b,o,none⟩∧b<w'.heap.size∧w'.cell? ⟨b,o+k,none⟩=some (.string (bs l[k])):=by
 rcases h.ext hE with h0|⟨b,o,hA,hb,hc⟩
 ·subst h0;simp at hk
 ·exact⟨b,o,hA,hb,hc k hk⟩
def txtCells (l:List Txt):List Value:=l.map fun x=>.string (bs x)
theorem txtCells_len (l:List Txt):(txtCells l).length=l.length:=by simp[txtCells]
theorem txtCells_append (a b:List Txt):txtCells (a++b)=txtCells a++txtCells b:=by simp[txtCells]
theorem txtCells_one (l:List Txt):∀u∈txtCells l,u.oneCell'=true:=by
 intro u hu;unfold txtCells at hu;rw [List.mem_map]at hu;obtain ⟨x,_,rfl⟩:=hu;rfl
theorem txtCells_get (l:List Txt) (k:Nat) (h:k<l.length):(txtCells l)[k]?=some (.string (bs l[k])):=by simp[txtCells,h]
def OwnT (w:World) (base:Nat) (v:Value) (l:List Txt):Prop:=w.ownsRow base 9 1 v l.length (txtCells l)
theorem OwnT.at_ {w:World} {base:Nat} {v:Value} {l:List Txt} (h:OwnT w base v l):∃A cap,v=.slice A l.length cap∧l.length≤cap∧cap≤maxLen∧TxtAt w A l∧(A=none→cap=0):=by
 unfold OwnT at h;rcases h.2 with⟨rfl,h0⟩|⟨g,cap,cur,rfl,_,hg,hn,hm,hsz,htake⟩
 ·have:l=[]:=List.eq_nil_of_length_eq_zero h0
  subst this;exact ⟨none,0,rfl,Nat.le_refl _,by decide,.inl rfl,fun _=>rfl⟩
 ·refine ⟨_,cap,rfl,hn,hm,.inr ⟨g,0,rfl,?_,fun k hk=>?_⟩,fun h=>by cases h⟩
  ·rcases Nat.lt_or_ge g w.heap.size with h'|h'
   ·exact h'
   ·simp[Array.getElem?_eq_none h']at hg
  ·have h1:=h.cells (g:=g) rfl _ _ (txtCells_get l k hk)
   simp only[Addr.add_lit]at h1;exact h1
theorem infoStr:(Tryz.prog.info? 9).map (fun i=>(i.zero,i.size,i.bytes))=some (some (.string ⟨#[]⟩),1,16):=by kernel_rfl
theorem txt_news (wr:World) (x:Txt):∀j u,(txtCells [x])[j]?=some u→(wr.alloc (.cells #[.string (bs x)] 9)).cell? ((⟨wr.heap.size,0,none⟩:Addr).add j)=some u:=by
 intro j u hu;have hj:j=0:=by
  rcases Nat.eq_zero_or_pos j with h|h
  ·exact h
  ·rw[List.getElem?_eq_none (by rw[txtCells_len];simp;omega)]at hu;cases hu
 subst hj;rw [txtCells_get [x] 0 (by simp)]at hu;injection hu with hu;subst hu;rw [Addr.add_lit];exact (Has.new wr _).cell 0
theorem txt_app {w wr w2:World} {v v':Value} {P:List Txt} {x:Txt} {o:Obj} (h:wr.ownsRow w.heap.size 9 1 v P.length (txtCells P)) (hE:Ext w wr) (h2:w2.ownsRow w.heap.size 9 1 v' (P.length+1) (txtCells P++txtCells [x])) (hg:(wr.alloc o).grownBy w2 v.ownBlock):OwnT w2 w.heap.size v' (P++[x])∧Ext w w2:=by
 refine ⟨?_,(hE.alloc o).grown hg (fun g hv=>(h.lt g hv).1)⟩;unfold OwnT;rw [txtCells_append,List.length_append];exact h2
structure Only (L:List Nat) (w w':World):Prop where
 os:w'.os=w.os
 tape:w'.tape=w.tape
 output:w'.output=w.output
 size:w.heap.size≤w'.heap.size
 block:∀k,k<w.heap.size→k∉L→w'.heap[k]?=w.heap[k]?
theorem Only.refl (L:List Nat) (w:World):Only L w w:=⟨rfl,rfl,rfl,Nat.le_refl _,fun _ _ _=>rfl⟩
theorem Only.of_ext {L:List Nat} {w w':World} (h:Ext w w'):Only L w w':=⟨h.os,h.tape,h.output,h.size,fun k hk _=>Below.block h k hk⟩
theorem Only.trans {L L':List Nat} {a b c:World} (h:Only L a b) (k:Only L' b c) (hL:∀x∈L',x∈L∨a.heap.size≤x):Only L a c:=
 ⟨k.os.trans h.os,k.tape.trans h.tape,k.output.trans h.output,Nat.le_trans h.size k.size,fun i hi hn =>
  (k.block i (Nat.lt_of_lt_of_le hi h.size) (fun hx=>by rcases hL i hx with g|g;exact hn g;omega)).trans (h.block i hi hn)⟩
theorem Only.then {L:List Nat} {a b c:World} (h:Only L a b) (k:Only L b c):Only L a c:=h.trans k fun _ hx=>.inl hx
theorem Only.ext {L:List Nat} {a b c:World} (h:Only L a b) (k:Ext b c):Only L a c:=h.then (Only.of_ext k)
theorem Only.pre {L:List Nat} {a b c:World} (h:Ext a b) (k:Only L b c):Only L a c:=(Only.of_ext h).then k
theorem Only.below {L:List Nat} {w w':World} {B:Nat} (h:Only L w w') (hB:B≤w.heap.size) (hL:∀x∈L,B≤x):Below B w w':=
 ⟨h.os,h.tape,h.output,h.size,fun k hk=>h.block k (by omega) (fun hx=>by have:=hL k hx;omega)⟩
theorem Only.after {L:List Nat} {w0 w w':World} (h:Only L w w') (hE:Ext w0 w) (hL:∀x∈L,w0.heap.size≤x):Ext w0 w':=Below.trans hE (h.below hE.size hL)
theorem Only.mono {L L':List Nat} {w w':World} (h:Only L w w') (hL:∀x∈L,x∈L'):Only L' w w':=⟨h.os,h.tape,h.output,h.size,fun k hk hn=>h.block k hk fun hx=>hn (hL k hx)⟩
theorem Only.has {L:List Nat} {w w':World} {b:Nat} {o:Obj} (h:Only L w w') (hb:Has w b o) (hn:b∉L):Has w' b o:=(h.block b hb.lt hn).trans hb
def putB (w:World) (b:Nat) (o:Obj):World:={w with heap:=w.heap.setIfInBounds b o}
theorem Only.putB (w:World) (b:Nat) (o:Obj):Only [b] w (putB w b o):=by
 refine ⟨rfl,rfl,rfl,by simp[Go.Proofs.YtpibnfdolojpcaaGreat.putB],fun k _ hn=>?_⟩;have:b≠k:=fun e=>hn (by simp[e])
 simp [Go.Proofs.YtpibnfdolojpcaaGreat.putB,this]
theorem Has.putB {w:World} {b:Nat} (o:Obj) (hb:b<w.heap.size):Has (putB w b o) b o:=by
 simp [Has,Go.Proofs.YtpibnfdolojpcaaGreat.putB,hb]
theorem Only.setCell (w:World) (b i:Nat) (v:Value):Only [b] w (w.setCell ⟨b,i,none⟩ v):=by
 refine ⟨rfl,rfl,rfl,by simp,fun k _ hn=>?_⟩;have:k≠b:=fun e=>hn (by simp[e])
 exact heap_setCell_other w ⟨b,i,none⟩ k v this
theorem Has.setCell {w:World} {b:Nat} {C:Array Value} {t:TypeId} (h:Has w b (.cells C t)) (i:Nat) (v:Value):Has (w.setCell ⟨b,i,none⟩ v) b (.cells (C.setIfInBounds i v) t):=heap_setCell_same w b i C t v h
def HasTag (w:World) (b:Nat) (t:TypeId):Prop:=∃cur fr,w.heap[b]?=some (.cells cur t fr)
def EntsT (w:World) (B:Nat) (A:Option Addr) (l:List EntD):Prop:=
 l = []∨∃b o,A=some ⟨b,o,none⟩∧b<w.heap.size∧(b<B∨HasTag w b 153)∧∀k,(h:k<l.length)→w.cell? ⟨b,o+k*2,none⟩=some (.string (bs l[k].1))∧w.cell? ⟨b,o+k*2+1,none⟩=some (.int .i64 l[k].2)
theorem EntsT.ents {w:World} {B:Nat} {A:Option Addr} {l:List EntD} (h:EntsT w B A l):EntsAt w A l:=by
 rcases h with h|⟨b,o,hA,hb,_,hc⟩
 ·exact .inl h
 ·exact .inr ⟨b,o,hA,hb,hc⟩
def Apart (w:World) (B:Nat) (L:List Nat):Prop:=∀b∈L,B≤b∧¬HasTag w b 153
theorem EntsT.only {w w':World} {B:Nat} {A:Option Addr} {l:List EntD} {L:List Nat} (h:EntsT w B A l) (o:Only L w w') (ha:Apart w B L):EntsT w' B A l:=by
 rcases h with h|⟨b,f,hA,hb,ht,hc⟩
 ·exact .inl h
 ·have hn:b∉L:=fun hx=>by
   rcases ht with ht|ht
   ·have:=(ha b hx).1;omega
   ·exact (ha b hx).2 ht
  have hk:=o.block b hb hn;have hcell:∀i,w'.cell? ⟨b,i,none⟩=w.cell? ⟨b,i,none⟩:=fun i=>by simp only[World.cell?,hk]
  refine .inr ⟨b,f,hA,by have:=o.size;omega,?_,fun k hkl=>by rw[hcell,hcell];exact hc k hkl⟩;rcases ht with ht|⟨cur,fr,ht⟩
  ·exact .inl ht
  ·exact .inr ⟨cur,fr,hk.trans ht⟩
theorem EntsT.ext {w w':World} {B:Nat} {A:Option Addr} {l:List EntD} (h:EntsT w B A l) (o:Ext w w'):EntsT w' B A l:=h.only (Only.of_ext (L:=[]) o) (fun b hb=>by cases hb)
theorem EntsT.nil (w:World) (B:Nat) (A:Option Addr):EntsT w B A []:=.inl rfl
theorem OwnE.entsT {w:World} {base B:Nat} {v:Value} {l:List EntD} (h:OwnE w base v l):∃A cap,v=.slice A l.length cap∧l.length≤cap∧cap≤maxLen∧EntsT w B A l∧(A=none→cap=0):=by
 obtain ⟨A,cap,rfl,h1,h2,h3⟩:=h.at_;refine ⟨A,cap,rfl,h1,h2,?_,?_⟩
 ·rcases h3 with h3|⟨b,o,rfl,hb,hc⟩
  ·exact .inl h3
  ·refine .inr ⟨b,o,rfl,hb,.inr ?_,hc⟩
   unfold OwnE at h;rcases h.2 with⟨h,h0⟩|⟨g,cap',cur,h,_,hg,_⟩
   ·cases h
   ·injection h with h
    injection h with h;injection h with h;subst h;exact ⟨_,_,hg⟩
 ·rintro rfl
  unfold OwnE at h;rcases h.2 with⟨h,h0⟩|⟨g,cap',cur,h,_⟩
  ·injection h
  ·injection h with h;cases h
def nodeL (n:NodeD) (A:Option Addr) (c:Nat):List Value:=[.int .i64 n.no,.int .i64 n.dev,.int .i64 n.kind,.int .i64 n.mode,.int .i64 n.uid,.int .i64 n.gid,.int .i64 n.mtime,.int .i64 n.ctime,.int .i64 n.links,.int .i64 n.up,.string (bs n.data),.slice A n.ents.length c]
structure NodeOk (w:World) (B:Nat) (n:NodeD) (A:Option Addr) (c:Nat):Prop where
 ents:EntsT w B A n.ents
 cap:n.ents.length≤c
 max:c≤maxLen
 nil:A=none→c=0
theorem NodeOk.only {w w':World} {B:Nat} {n:NodeD} {A:Option Addr} {c:Nat} {L:List Nat} (h:NodeOk w B n A c) (o:Only L w w') (ha:Apart w B L):NodeOk w' B n A c:=⟨h.ents.only o ha,h.cap,h.max,h.nil⟩
theorem NodeOk.ext {w w':World} {B:Nat} {n:NodeD} {A:Option Addr} {c:Nat} (h:NodeOk w B n A c) (o:Ext w w'):NodeOk w' B n A c:=⟨h.ents.ext o,h.cap,h.max,h.nil⟩
theorem NodeOk.zero (w:World) (B:Nat):NodeOk w B nodeZ none 0:=⟨.nil _ _ _,Nat.le_refl _,Nat.zero_le _,fun _=>rfl⟩
theorem NodeOk.same {w:World} {B:Nat} {n m:NodeD} {A:Option Addr} {c:Nat} (h:NodeOk w B n A c) (e:m.ents=n.ents):NodeOk w B m A c:=⟨by rw[e];exact h.ents,by rw[e];exact h.cap,h.max,h.nil⟩
def MapIs (w:World) (B:Nat) (es:List MapEntry) (ns:List NodeD):Prop:=
 es.length=ns.length∧∀k,(h:k<ns.length)→∃e A c,es[k]?=some e∧e.key=.int .i64 ns[k].no∧e.val=.agg #[.int .i64 (ns[k]).no,.int .i64 (ns[k]).dev,.int .i64 (ns[k]).kind,.int .i64 (ns[k]).mode,.int .i64 (ns[k]).uid,.int .i64 (ns[k]).gid,.int .i64 (ns[k]).mtime,.int .i64 (ns[k]).ctime,.int .i64 (ns[k]).links,.int .i64 (ns[k]).up,.string (bs (ns[k]).data),.slice A (ns[k]).ents.length c]∧NodeOk w B ns[k] A c
theorem MapIs.only {w w':World} {B:Nat} {es:List MapEntry} {ns:List NodeD} {L:List Nat} (h:MapIs w B es ns) (o:Only L w w') (ha:Apart w B L):MapIs w' B es ns:=
 ⟨h.1,fun k hk=>by obtain⟨e,A,c,h1,h2,h3,h4⟩:=h.2 k hk;exact⟨e,A,c,h1,h2,h3,h4.only o ha⟩⟩
theorem MapIs.ext {w w':World} {B:Nat} {es:List MapEntry} {ns:List NodeD} (h:MapIs w B es ns) (o:Ext w w'):MapIs w' B es ns:=h.only (Only.of_ext (L:=[]) o) (fun b hb=>by cases hb)
def TAt (w:World) (B bT bM:Nat) (ns:List NodeD) (last:Int):Prop:=
 B≤bT∧B≤bM∧Has w bT (.cells #[.map (some bM),.int .i64 last] 157)∧∃es clock,Has w bM (.map es clock)∧MapIs w B es.toList ns
theorem Has.noTag {w:World} {b:Nat} {cur:Array Value} {t:TypeId} (h:Has w b (.cells cur t)) (hne:t≠153):¬HasTag w b 153:=by
 rintro ⟨c,f,g⟩;unfold Has at h;rw [h]at g;injection g with g;injection g with g1 g2;exact hne g2
theorem Has.noTagM {w:World} {b:Nat} {es:Array MapEntry} {cl:Nat} (h:Has w b (.map es cl)) (t:TypeId):¬HasTag w b t:=by
 rintro ⟨c,f,g⟩;unfold Has at h;rw [h]at g;injection g with g
 cases g
theorem TAt.apart {w:World} {B bT bM:Nat} {ns:List NodeD} {last:Int} (h:TAt w B bT bM ns last):Apart w B [bT,bM]:=by
 obtain ⟨h1,h2,h3,es,cl,h4,_⟩:=h;intro b hb;rcases List.mem_cons.1 hb with rfl|hb
 ·exact⟨h1,h3.noTag (by decide)⟩
 ·rw[List.mem_singleton]at hb;subst hb;exact⟨h2,h4.noTagM _⟩
theorem TAt.only {w w':World} {B bT bM:Nat} {ns:List NodeD} {last:Int} {L:List Nat} (h:TAt w B bT bM ns last) (o:Only L w w') (ha:Apart w B L) (hT:bT∉L) (hM:bM∉L):TAt w' B bT bM ns last:=by
 obtain ⟨h1,h2,h3,es,cl,h4,h5⟩:=h;exact ⟨h1,h2,o.has h3 hT,es,cl,o.has h4 hM,h5.only o ha⟩
theorem TAt.ext {w w':World} {B bT bM:Nat} {ns:List NodeD} {last:Int} (h:TAt w B bT bM ns last) (o:Ext w w'):TAt w' B bT bM ns last:=
 h.only (Only.of_ext (L:=[]) o) (fun b hb=>by cases hb) (by simp) (by simp)
theorem findNow_nodes (no:Int):∀(es:List MapEntry) (ns:List NodeD) (i:Nat),es.length=ns.length→(∀k,(h:k<ns.length)→∃e,es[k]?=some e∧e.key=.int .i64 ns[k].no) →
  (isN ns no=false∧Instr.findNow (.int .i64) (.int .i64 no) es i=some none)∨(∃k e,k<ns.length∧es[k]?=some e∧Instr.findNow (.int .i64) (.int .i64 no) es i=some (some (i+k,e.val))∧getO ns no=ns[k]?):=by
 intro es
 induction es with
 | nil =>
  intro ns i hl hk;obtain rfl:ns=[]:=List.eq_nil_of_length_eq_zero hl.symm;exact .inl ⟨rfl,rfl⟩
 | cons e es ih =>
  intro ns i hl hk
  cases ns with
  | nil=>simp at hl
  | cons n ns =>
   obtain ⟨e',h1,h2⟩:=hk 0 (by simp);simp at h1;subst h1;simp at h2;have hs:Instr.sameNow (.int .i64) (.int .i64 no) e.key=some (no == n.no):=by rw[h2];simp[Instr.sameNow]
   by_cases hq:no=n.no
   ·right
    refine ⟨0,e,by simp,rfl,?_,?_⟩
    ·unfold Instr.findNow
     rw [hs];simp [hq]
    ·unfold getO
     rw [List.find?_cons];simp [hq]
   ·have hb:(no == n.no)=false:=by simpa using hq
    have hb2:(n.no == no)=false:=by simpa using fun e=>hq e.symm
    have hstep:Instr.findNow (.int .i64) (.int .i64 no) (e::es) i=Instr.findNow (.int .i64) (.int .i64 no) es (i+1):=by
     conv=>lhs;unfold Instr.findNow
     rw [hs,hb]
    have hg:getO (n::ns) no=getO ns no:=by
     unfold getO;rw [List.find?_cons];simp [hb2]
    rcases ih ns (i+1) (by simpa using hl) (fun k h=>by
     obtain ⟨x,hx1,hx2⟩:=hk (k+1) (by simpa using h);exact ⟨x,by simpa using hx1,by simpa using hx2⟩) with⟨g1,g2⟩|⟨k,x,g1,g2,g3,g4⟩
    ·exact .inl ⟨by unfold isN at g1⊢;rw[hg];exact g1,hstep.trans g2⟩
    ·refine .inr ⟨k+1,x,by simpa using g1,by simpa using g2,?_,by rw[hg,g4];simp⟩
     rw [hstep,g3]
     congr 3
     omega
theorem run_checkInt (e:Bool) (no:Int) (w:World):(Instr.checkKey e 10000 3 (.int .i64 no)).run Tryz.prog w=.ok () w:=by
 have h:∀d:Nat,(Instr.checkKey e (d+1) 3 (.int .i64 no)).run Tryz.prog w=.ok () w:=fun d=>by simp[Instr.checkKey,run_underlying Tryz.underlying3]
 exact h 9999
theorem run_get {w w0:World} {B bM:Nat} {es:Array MapEntry} {clock:Nat} {ns:List NodeD} (hm:Has w bM (.map es clock)) (h:MapIs w0 B es.toList ns) (no:Int) :
  ∃ A c,(Instr.lookup 155 (.map (some bM)) (.int .i64 no) true).run Tryz.prog w=.ok (.tuple #[.agg #[.int .i64 (getN ns no).no,.int .i64 (getN ns no).dev,.int .i64 (getN ns no).kind,.int .i64 (getN ns no).mode,.int .i64 (getN ns no).uid,.int .i64 (getN ns no).gid,.int .i64 (getN ns no).mtime,.int .i64 (getN ns no).ctime,.int .i64 (getN ns no).links,.int .i64 (getN ns no).up,.string (bs (getN ns no).data),.slice A (getN ns no).ents.length c],.bool (isN ns no)]) w∧NodeOk w0 B (getN ns no) A c:=by
 have hk:∀r,Instr.findNow (.int .i64) (.int .i64 no) es.toList 0=some r→(Instr.findKey 3 (.int .i64 no) es.toList).run Tryz.prog w=.ok r w:=fun r hr=>by
  unfold Instr.findKey;rw [Sem.run_bind,run_underlying Tryz.underlying3];simp [hr]
 rcases findNow_nodes no es.toList ns 0 h.1 (fun k hk=>by obtain⟨e,A,c,h1,h2,_⟩:=h.2 k hk;exact⟨e,h1,h2⟩) with⟨g1,g2⟩|⟨k,e,g1,g2,g3,g4⟩
 ·refine ⟨none,0,?_,?_⟩
  ·have hz:=(isN_false g1).1
   simp [Instr.lookup,run_underlying Tryz.underlying155,MapKept.run_getObj_map hm,run_checkInt,hk _ g2,hz,g1];exact ⟨rfl,rfl,rfl,rfl,rfl,rfl,rfl,rfl,rfl,rfl,rfl,rfl⟩
  ·rw[(isN_false g1).1];exact NodeOk.zero w0 B
 ·obtain ⟨e',A,c,h1,_,h3,h4⟩:=h.2 k g1
  rw [h1]at g2;injection g2 with g2;subst g2;have e1:getN ns no=ns[k]:=by unfold getN;rw[g4,List.getElem?_eq_getElem g1];rfl
  have e2:isN ns no=true:=by unfold isN;rw[g4,List.getElem?_eq_getElem g1];rfl
  refine ⟨A,c,?_,by rw[e1];exact h4⟩;rw [e1,e2];simp [Instr.lookup,run_underlying Tryz.underlying155,MapKept.run_getObj_map hm,run_checkInt,hk _ g3,h3]
theorem keyStays (w:World) (no:Int):(Instr.keyThatStays (.int .i64 no) (.int .i64 no)).run Tryz.prog w=.ok (.int .i64 no) w:=by
 have h:∀d:Nat,Instr.sameBits (d+1) (.int .i64 no) (.int .i64 no)=true:=fun d=>by simp[Instr.sameBits]
 unfold Instr.keyThatStays;rw [if_pos (h 9999)];rfl
theorem mapIs_set {w:World} {B:Nat} {es:Array MapEntry} {ns:List NodeD} {n:NodeD} {A:Option Addr} {c:Nat} (h:MapIs w B es.toList ns) (hn:NodeOk w B n A c) {k:Nat} (hk:k<ns.length) (_hno:ns[k].no=n.no) :
  MapIs w B (es.modify k fun e=>{e with key:=.int .i64 n.no,val:=.agg #[.int .i64 n.no,.int .i64 n.dev,.int .i64 n.kind,.int .i64 n.mode,.int .i64 n.uid,.int .i64 n.gid,.int .i64 n.mtime,.int .i64 n.ctime,.int .i64 n.links,.int .i64 n.up,.string (bs n.data),.slice A n.ents.length c]}).toList (ns.set k n):=by
 refine ⟨by simp;simpa using h.1,fun j hj=>?_⟩;rw [List.length_set]at hj;obtain ⟨e,A',c',h1,h2,h3,h4⟩:=h.2 j hj;rw [Array.getElem?_toList]at h1;rw [Array.getElem?_toList,Array.getElem?_modify,h1]
 by_cases e:k=j
 ·subst e
  refine ⟨{e with key:=.int .i64 n.no,val:=.agg #[.int .i64 n.no,.int .i64 n.dev,.int .i64 n.kind,.int .i64 n.mode,.int .i64 n.uid,.int .i64 n.gid,.int .i64 n.mtime,.int .i64 n.ctime,.int .i64 n.links,.int .i64 n.up,.string (bs n.data),.slice A n.ents.length c]},A,c,by rw[if_pos rfl];rfl,?_⟩;rw [List.getElem_set_self];exact ⟨rfl,rfl,hn⟩
 ·refine ⟨_,A',c',by rw[if_neg e],?_⟩
  rw [List.getElem_set_ne e];exact ⟨h2,h3,h4⟩
theorem mapIs_add {w:World} {B:Nat} {es:Array MapEntry} {ns:List NodeD} {n:NodeD} {A:Option Addr} {c clock:Nat} (h:MapIs w B es.toList ns) (hn:NodeOk w B n A c) :
  MapIs w B (es.push ⟨.int .i64 n.no,.agg #[.int .i64 n.no,.int .i64 n.dev,.int .i64 n.kind,.int .i64 n.mode,.int .i64 n.uid,.int .i64 n.gid,.int .i64 n.mtime,.int .i64 n.ctime,.int .i64 n.links,.int .i64 n.up,.string (bs n.data),.slice A n.ents.length c],clock⟩).toList (ns++[n]):=by
 refine ⟨by simp;simpa using h.1,fun j hj=>?_⟩;have hl:es.size=ns.length:=by simpa using h.1
 rw [List.length_append,List.length_singleton]at hj;rw [Array.getElem?_toList,Array.getElem?_push,hl]
 by_cases e:j=ns.length
 ·subst e
  refine ⟨⟨.int .i64 n.no,.agg #[.int .i64 n.no,.int .i64 n.dev,.int .i64 n.kind,.int .i64 n.mode,.int .i64 n.uid,.int .i64 n.gid,.int .i64 n.mtime,.int .i64 n.ctime,.int .i64 n.links,.int .i64 n.up,.string (bs n.data),.slice A n.ents.length c],clock⟩,A,c,by rw[if_pos rfl],?_⟩;rw [List.getElem_append_right (Nat.le_refl _)];simp only[Nat.sub_self,List.getElem_singleton];exact ⟨trivial,trivial,hn⟩
 ·obtain ⟨e',A',c',h1,h2,h3,h4⟩:=h.2 j (by omega)
  rw [Array.getElem?_toList]at h1;refine ⟨e',A',c',by rw[if_neg e];exact h1,?_⟩;rw [List.getElem_append_left (by omega)];exact ⟨h2,h3,h4⟩
theorem run_put {w w0:World} {B bM:Nat} {es:Array MapEntry} {clock:Nat} {ns:List NodeD} {n:NodeD} {A:Option Addr} {c:Nat} (hm:Has w bM (.map es clock)) (h:MapIs w0 B es.toList ns) (hn:NodeOk w0 B n A c) :
  ∃ es' clock',(Instr.mapUpdate 155 (.map (some bM)) (.int .i64 n.no) (.agg #[.int .i64 n.no,.int .i64 n.dev,.int .i64 n.kind,.int .i64 n.mode,.int .i64 n.uid,.int .i64 n.gid,.int .i64 n.mtime,.int .i64 n.ctime,.int .i64 n.links,.int .i64 n.up,.string (bs n.data),.slice A n.ents.length c])).run Tryz.prog w=.ok () (putB w bM (.map es' clock')) ∧
   ((isN ns n.no=false∧MapIs w0 B es'.toList (ns++[n]))∨(∃k,∃hk:k<ns.length,ns[k].no=n.no∧isN ns n.no=true∧MapIs w0 B es'.toList (ns.set k n))):=by
 have hk:∀r,Instr.findNow (.int .i64) (.int .i64 n.no) es.toList 0=some r→(Instr.findKey 3 (.int .i64 n.no) es.toList).run Tryz.prog w=.ok r w:=fun r hr=>by
  unfold Instr.findKey;rw [Sem.run_bind,run_underlying Tryz.underlying3];simp [hr]
 rcases findNow_nodes n.no es.toList ns 0 h.1 (fun k hk=>by obtain⟨e,A,c,h1,h2,_⟩:=h.2 k hk;exact⟨e,h1,h2⟩) with⟨g1,g2⟩|⟨k,e,g1,g2,g3,g4⟩
 ·refine ⟨_,clock+1,?_,.inl ⟨g1,mapIs_add (clock:=clock) h hn⟩⟩
  simp [Instr.mapUpdate,run_underlying Tryz.underlying155,MapKept.run_getObj_map hm,run_checkInt,hk _ g2,MapKept.run_setObj_map _ hm,Result.andThen,putB]
 ·obtain ⟨e',A',c',h1,h2,h3,h4⟩:=h.2 k g1
  rw [h1]at g2;injection g2 with g2;subst g2;have e0:getO ns n.no=some ns[k]:=by rw[g4,List.getElem?_eq_getElem g1]
  have hno:ns[k].no=n.no:=(getO_some e0).1;refine ⟨_,clock,?_,.inr ⟨k,g1,hno,by unfold isN;rw[e0];rfl,mapIs_set h hn g1 hno⟩⟩;rw [Array.getElem?_toList]at h1;simp [Instr.mapUpdate,run_underlying Tryz.underlying155,MapKept.run_getObj_map hm,run_checkInt,hk _ g3,MapKept.run_setObj_map _ hm,Result.andThen,putB,h1,h2,hno,keyStays]
theorem Has.node12 {w:World} {b:Nat} {n:NodeD} {A:Option Addr} {c:Nat} (h:Has w b (.cells #[.int .i64 n.no,.int .i64 n.dev,.int .i64 n.kind,.int .i64 n.mode,.int .i64 n.uid,.int .i64 n.gid,.int .i64 n.mtime,.int .i64 n.ctime,.int .i64 n.links,.int .i64 n.up,.string (bs n.data),.slice A n.ents.length c] 66)) :
  w.cell? ⟨b,0,none⟩=some (.int .i64 n.no)∧w.cell? ⟨b,1,none⟩=some (.int .i64 n.dev)∧w.cell? ⟨b,2,none⟩=some (.int .i64 n.kind)∧w.cell? ⟨b,3,none⟩=some (.int .i64 n.mode)∧w.cell? ⟨b,4,none⟩=some (.int .i64 n.uid)∧w.cell? ⟨b,5,none⟩=some (.int .i64 n.gid) ∧
  w.cell? ⟨b,6,none⟩=some (.int .i64 n.mtime)∧w.cell? ⟨b,7,none⟩=some (.int .i64 n.ctime)∧w.cell? ⟨b,8,none⟩=some (.int .i64 n.links)∧w.cell? ⟨b,9,none⟩=some (.int .i64 n.up)∧w.cell? ⟨b,10,none⟩=some (.string (bs n.data))∧w.cell? ⟨b,11,none⟩=some (.slice A n.ents.length c):=
 ⟨h.cell 0,h.cell 1,h.cell 2,h.cell 3,h.cell 4,h.cell 5,h.cell 6,h.cell 7,h.cell 8,h.cell 9,h.cell 10,h.cell 11⟩
theorem TAt.ne {w:World} {B bT bM:Nat} {ns:List NodeD} {last:Int} (h:TAt w B bT bM ns last):bT≠bM:=by
 obtain ⟨_,_,h3,es,cl,h4,_⟩:=h;rintro rfl;unfold Has at h3 h4;rw [h3]at h4;cases h4
theorem Apart.sub {w:World} {B:Nat} {L L':List Nat} (h:Apart w B L) (hs:∀x∈L',x∈L):Apart w B L':=fun b hb=>h b (hs b hb)
theorem TAt.putMap {w:World} {B bT bM:Nat} {ns ms:List NodeD} {last:Int} (h:TAt w B bT bM ns last) {es:Array MapEntry} {cl:Nat} (hm:MapIs w B es.toList ms):TAt (putB w bM (.map es cl)) B bT bM ms last:=by
 have hne:=h.ne;have ha:=h.apart.sub (L':=[bM]) (by simp);obtain ⟨h1,h2,h3,es0,cl0,h4,h5⟩:=h;exact ⟨h1,h2,(Only.putB w bM _).has h3 (by simpa using hne),es,cl,Has.putB _ h4.lt,hm.only (Only.putB w bM _) ha⟩
theorem TAt.setLast {w:World} {B bT bM:Nat} {ns:List NodeD} {last:Int} (h:TAt w B bT bM ns last) (x:Int):TAt (w.setCell ⟨bT,1,none⟩ (.int .i64 x)) B bT bM ns x:=by
 have hne:=h.ne;have ha:=h.apart.sub (L':=[bT]) (by simp);obtain ⟨h1,h2,h3,es0,cl0,h4,h5⟩:=h;have o:=Only.setCell w bT 1 (.int .i64 x);exact ⟨h1,h2,h3.setCell 1 _,es0,cl0,o.has h4 (by simpa using hne.symm),h5.only o ha⟩
theorem Ext.cells {w w':World} (h:Ext w w'):(∀b o,b<w.heap.size→w'.cell? ⟨b,o,none⟩=w.cell? ⟨b,o,none⟩)∧(∀b o,b<w.heap.size→w'.frozen? ⟨b,o,none⟩=w.frozen? ⟨b,o,none⟩):=
 ⟨fun _ _ hb=>h.cell hb,fun _ _ hb=>h.frozen hb⟩
def GetR (w:World) (B:Nat) (ns:List NodeD) (no:Int) (e:Ending) (w':World):Prop:=
 ∃ A c,e=.returned (.tuple #[.agg #[.int .i64 (getN ns no).no,.int .i64 (getN ns no).dev,.int .i64 (getN ns no).kind,.int .i64 (getN ns no).mode,.int .i64 (getN ns no).uid,.int .i64 (getN ns no).gid,.int .i64 (getN ns no).mtime,.int .i64 (getN ns no).ctime,.int .i64 (getN ns no).links,.int .i64 (getN ns no).up,.string (bs (getN ns no).data),.slice A (getN ns no).ents.length c],.bool (isN ns no)])∧NodeOk w' B (getN ns no) A c∧Ext w w'
theorem tget_any (B bT bM:Nat) (ns:List NodeD) (last no:Int) (w:World) (h:TAt w B bT bM ns last):Calls Tryz.prog 50 #[.pointer (some ⟨bT,0,none⟩),.int .i64 no] w (GetR w B ns no):=by
 obtain ⟨h1,h2,h3,es,cl,h4,h5⟩:=h;have c0:w.cell? ⟨bT,0,none⟩=some (.map (some bM)):=h3.cell 0;have hbT:=h3.lt;obtain ⟨A,c,hr,hok⟩:=run_get (w:=w.alloc (.cells #[.int .i64 0,.int .i64 0,.int .i64 0,.int .i64 0,.int .i64 0,.int .i64 0,.int .i64 0,.int .i64 0,.int .i64 0,.int .i64 0,.string ⟨#[]⟩,.slice none 0 0] 66)) (h4.alloc _) h5 no;go_enter Tryz.func50,Tryz.ntmps50;go_wp2_with fail;refine bodyPost_ret (v:=.tuple #[.agg #[.int .i64 (getN ns no).no,.int .i64 (getN ns no).dev,.int .i64 (getN ns no).kind,.int .i64 (getN ns no).mode,.int .i64 (getN ns no).uid,.int .i64 (getN ns no).gid,.int .i64 (getN ns no).mtime,.int .i64 (getN ns no).ctime,.int .i64 (getN ns no).links,.int .i64 (getN ns no).up,.string (bs (getN ns no).data),.slice A (getN ns no).ents.length c],.bool (isN ns no)]) (by simp[results,Tryz.results50,go_sem]) rfl ⟨A,c,rfl,hok.ext (((Ext.refl _).alloc _).alloc _),((Ext.refl _).alloc _).alloc _⟩
def TSetR (w:World) (B bT bM:Nat) (ns:List NodeD) (last:Int) (n:NodeD) (e:Ending) (w':World):Prop:=
 e = .returned (.bool (isN ns n.no))∧TAt w' B bT bM (setN ns n) last∧Only [bT,bM] w w'
theorem tset_any (B bT bM:Nat) (ns:List NodeD) (last:Int) (n:NodeD) (A:Option Addr) (c:Nat) (w:World) (h:TAt w B bT bM ns last) (hu:NosUp ns last) (hn:NodeOk w B n A c) :
  Calls Tryz.prog 162 #[.pointer (some ⟨bT,0,none⟩),.agg #[.int .i64 n.no,.int .i64 n.dev,.int .i64 n.kind,.int .i64 n.mode,.int .i64 n.uid,.int .i64 n.gid,.int .i64 n.mtime,.int .i64 n.ctime,.int .i64 n.links,.int .i64 n.up,.string (bs n.data),.slice A n.ents.length c]] w (TSetR w B bT bM ns last n):=by
 have hbT:=h.2.2.1.lt;go_enter Tryz.func162,Tryz.ntmps162;go_wp2_with fail;refine (tget_any B bT bM ns last n.no _ (h.ext ((Ext.refl _).alloc _))).mono ?_;rintro e w1 ⟨A1,c1,rfl,ho1,hE1⟩
 generalize getN ns n.no=m at ho1⊢
 cases hi:isN ns n.no
 ·have hset:Hid (setN ns n=ns):=setN_not (isN_false hi).2
  have HI:=zH hi;clear hi;go_wp2_with fail;go_ret;exact ⟨ret_bool HI.out.symm,by rw[hset.out];exact ((h.ext ((Ext.refl _).alloc _)).ext hE1).ext ((Ext.refl _).alloc _),(Only.of_ext (((Ext.refl _).alloc _).trans (hE1.alloc _)))⟩
 ·go_wp2_with fail
  obtain ⟨W2,hW2⟩:∃W2,W2=w1.alloc (.cells #[.int .i64 m.no,.int .i64 m.dev,.int .i64 m.kind,.int .i64 m.mode,.int .i64 m.uid,.int .i64 m.gid,.int .i64 m.mtime,.int .i64 m.ctime,.int .i64 m.links,.int .i64 m.up,.string (bs m.data),.slice A1 m.ents.length c1] 66):=⟨_,rfl⟩;rw [←hW2];have E1:Ext (w.alloc (.cells #[.int .i64 n.no,.int .i64 n.dev,.int .i64 n.kind,.int .i64 n.mode,.int .i64 n.uid,.int .i64 n.gid,.int .i64 n.mtime,.int .i64 n.ctime,.int .i64 n.links,.int .i64 n.up,.string (bs n.data),.slice A n.ents.length c] 66)) W2:=by rw[hW2];exact hE1.alloc _
  have hb:=(Has.new w (.cells #[.int .i64 n.no,.int .i64 n.dev,.int .i64 n.kind,.int .i64 n.mode,.int .i64 n.uid,.int .i64 n.gid,.int .i64 n.mtime,.int .i64 n.ctime,.int .i64 n.links,.int .i64 n.up,.string (bs n.data),.slice A n.ents.length c] 66)).ext E1;have E2:Ext w W2:=((Ext.refl _).alloc _).trans E1;obtain ⟨h1,h2,h3,es,cl,h4,h5⟩:=h.ext E2;have c0:W2.cell? ⟨bT,0,none⟩=some (.map (some bM)):=h3.cell 0;have hbT2:=h3.lt;obtain ⟨x0,x1,x2,x3,x4,x5,x6,x7,x8,x9,x10,x11⟩:=hb.node12;have hbx:=hb.lt;clear hW2;obtain ⟨es',cl',hr,hor⟩:=run_put (w:=W2.drew) (show Has W2.drew bM _ from h4) h5 (hn.ext E2);have HO:=zH hor;have HI:=zH hi;clear hor hi;go_still_tail 7,(by kernel_rfl);change wpList _ _ _ _ _ W2.drew;go_wp2_with fail;go_ret;refine ⟨ret_bool HI.out.symm,?_,?_⟩
  ·refine TAt.putMap (w:=W2.drew) (ns:=ns) ⟨h1,h2,h3,es,cl,h4,h5.ext ((Ext.refl _).drew)⟩ ?_
   rcases HO.out with⟨g,_⟩|⟨k,hk,g1,_,g2⟩
   ·rw[HI.out]at g;cases g
   ·rw[setN_at hu hk g1];exact g2.ext ((Ext.refl _).drew)
  ·exact ((Only.of_ext (E2.drew)).then ((Only.putB W2.drew bM _).mono (by simp)))
def TAddR (w:World) (B bT bM:Nat) (ns:List NodeD) (last:Int) (n:NodeD) (e:Ending) (w':World):Prop:=
 e = .returned (.int .i64 (last+1))∧TAt w' B bT bM (ns++[{n with no:=last+1}]) (last+1)∧Only [bT,bM] w w'
theorem tadd_any (B bT bM:Nat) (ns:List NodeD) (last:Int) (n:NodeD) (A:Option Addr) (c:Nat) (w:World) (h:TAt w B bT bM ns last) (hu:NosUp ns last) (h0:0≤last) (hl:last≤1000000) (hn:NodeOk w B n A c) :
  Calls Tryz.prog 184 #[.pointer (some ⟨bT,0,none⟩),.agg #[.int .i64 n.no,.int .i64 n.dev,.int .i64 n.kind,.int .i64 n.mode,.int .i64 n.uid,.int .i64 n.gid,.int .i64 n.mtime,.int .i64 n.ctime,.int .i64 n.links,.int .i64 n.up,.string (bs n.data),.slice A n.ents.length c]] w (TAddR w B bT bM ns last n):=by
 have hbT:=h.2.2.1.lt;have hbM:bM<w.heap.size:=by obtain⟨_,_,_,_,_,h4,_⟩:=h;exact h4.lt
 have c0:w.cell? ⟨bT,0,none⟩=some (.map (some bM)):=h.2.2.1.cell 0;have c1:w.cell? ⟨bT,1,none⟩=some (.int .i64 last):=h.2.2.1.cell 1;have f1:w.frozen? ⟨bT,1,none⟩=false:=h.2.2.1.free 1;have hq:∀W:World,(binOp .eql 155 (.map (some bM)) (.map none)).run Tryz.prog W=.ok (.bool false) W:=fun W=>run_eql_map_nil W _ _ _ _ Tryz.underlying155
 go_enter Tryz.func184,Tryz.ntmps184;go_wp2_with fail;obtain ⟨m,hm⟩:∃m:NodeD,m={n with no:=last+1}:=⟨_,rfl⟩;obtain ⟨W2,hW2⟩:∃W2,W2=(w.setCell ⟨bT,1,none⟩ (.int .i64 (last+1))).alloc (.cells #[.int .i64 m.no,.int .i64 m.dev,.int .i64 m.kind,.int .i64 m.mode,.int .i64 m.uid,.int .i64 m.gid,.int .i64 m.mtime,.int .i64 m.ctime,.int .i64 m.links,.int .i64 m.up,.string (bs m.data),.slice A m.ents.length c] 66):=⟨_,rfl⟩;have hT:=h.setLast (last+1);have hn2:NodeOk (w.setCell ⟨bT,1,none⟩ (.int .i64 (last+1))) B m A c:=(hn.only (Only.setCell w bT 1 _) (h.apart.sub (by simp))).same (by rw[hm]);have hO:Only [bT,bM] w W2:=by rw[hW2];exact ((Only.setCell w bT 1 _).mono (by simp)).ext ((Ext.refl _).alloc _)
 have E2:Ext (w.setCell ⟨bT,1,none⟩ (.int .i64 (last+1))) W2:=by rw[hW2];exact (Ext.refl _).alloc _
 have hb:=Has.new (w.setCell ⟨bT,1,none⟩ (.int .i64 (last+1))) (.cells #[.int .i64 m.no,.int .i64 m.dev,.int .i64 m.kind,.int .i64 m.mode,.int .i64 m.uid,.int .i64 m.gid,.int .i64 m.mtime,.int .i64 m.ctime,.int .i64 m.links,.int .i64 m.up,.string (bs m.data),.slice A m.ents.length c] 66);rw [World.size_setCell,←hW2]at hb;have hno:m.no=last+1:=by rw[hm]
 have hW3:=hW2;rw [hm]at hW3;rw [←hW3];have HM:Hid (TAddR w B bT bM ns last n=fun e w'=>e=.returned (.int .i64 (last+1))∧TAt w' B bT bM (ns++[m]) (last+1)∧Only [bT,bM] w w'):=by rw[hm];rfl
 clear hm hW3 hW2 c0 c1 f1;obtain ⟨h1,h2,h3,es,cl,h4,h5⟩:=hT.ext E2;have c0:W2.cell? ⟨bT,0,none⟩=some (.map (some bM)):=h3.cell 0;have hbT2:=h3.lt;obtain ⟨x0,x1,x2,x3,x4,x5,x6,x7,x8,x9,x10,x11⟩:=hb.node12;have hbx:=hb.lt;rw [hno]at x0;obtain ⟨es',cl',hr,hor⟩:=run_put (w:=W2.drew) (show Has W2.drew bM _ from h4) h5 (hn2.ext E2);rw [hno]at hr;have HO:=zH hor;have y0:(putB W2.drew bM (.map es' cl')).cell? ⟨w.heap.size,0,none⟩=some (.int .i64 m.no):=((Only.putB W2.drew bM (.map es' cl')).has (show Has W2.drew w.heap.size _ from hb) (by simp;omega)).cell 0;rw [hno]at y0;have HN:=zH hno;clear hor hno;go_still_tail 7,(by kernel_rfl);change wpList _ _ _ _ _ W2.drew;go_wp2_with fail;go_ret;rw [HM.out];refine ⟨rfl,?_,hO.then ((Only.of_ext ((Ext.refl _).drew)).then ((Only.putB W2.drew bM _).mono (by simp)))⟩;refine TAt.putMap (w:=W2.drew) (ns:=ns) ⟨h1,h2,h3,es,cl,h4,h5.ext ((Ext.refl _).drew)⟩ ?_;rcases HO.out with⟨_,g⟩|⟨k,hk,g1,g2,_⟩
 ·exact g.ext ((Ext.refl _).drew)
 ·have:=hu.zero (no:=m.no) (.inr (by have:=HN.out;omega))
  rw [this]at g2;cases g2
theorem tnew_any (B:Nat) (w:World) (hB:B≤w.heap.size):Calls Tryz.prog 153 #[] w (fun e w'=>∃bT bM,e=.returned (.pointer (some ⟨bT,0,none⟩))∧TAt w' B bT bM [] 0∧Ext w w'∧w.heap.size≤bT∧w.heap.size≤bM):=by
 have hmm:=@run_makeMap Tryz.prog;go_enter Tryz.func153,Tryz.ntmps153;go_wp2_with fail;go_ret;refine ⟨_,_,rfl,⟨?_,hB,?_,#[],0,(Has.new w _).alloc _,rfl,fun k hk=>by simp at hk⟩,((Ext.refl _).alloc _).alloc _,?_,Nat.le_refl _⟩
 ·omega
 ·have:=Has.new (w.alloc (.map #[] 0)) (.cells #[.map (some w.heap.size),.int .i64 0] 157)
  rwa [World.size_alloc]at this
 ·omega
theorem take_cases {q:SpaceD} {b n:Int} (h:Fine q) (hr:inR b n) :
  (q.mostN<q.nodes+n∧takeE q b n=15∧takeQ q b n=q)∨(q.nodes+n≤q.mostN∧q.mostB<q.blocks+b∧takeE q b n=14∧takeQ q b n=q) ∨
  (q.nodes+n≤q.mostN∧q.blocks+b≤q.mostB∧(q.nodes+n<0∨q.blocks+b<0)∧takeE q b n=1∧takeQ q b n=q) ∨
  (q.nodes+n≤q.mostN∧q.blocks+b≤q.mostB∧0≤q.nodes+n∧0≤q.blocks+b∧takeE q b n=0∧takeQ q b n=moreQ q b n):=by
 have hf:=(fineF_iff q).2 h
 by_cases h1:q.mostN<q.nodes+n
 ·have e:takeE q b n=15:=by unfold takeE;rw[if_pos ⟨hf,hr⟩,if_pos h1]
  exact .inl ⟨h1,e,by unfold takeQ;rw[e];rfl⟩
 ·by_cases h2:q.mostB<q.blocks+b
  ·have e:takeE q b n=14:=by unfold takeE;rw[if_pos ⟨hf,hr⟩,if_neg h1,if_pos h2]
   exact .inr (.inl ⟨by omega,h2,e,by unfold takeQ;rw[e];rfl⟩)
  ·by_cases h3:q.nodes+n<0∨q.blocks+b<0
   ·have e:takeE q b n=1:=by unfold takeE;rw[if_pos ⟨hf,hr⟩,if_neg h1,if_neg h2,if_pos h3]
    exact .inr (.inr (.inl ⟨by omega,by omega,h3,e,by unfold takeQ;rw[e];rfl⟩))
   ·have e:takeE q b n=0:=by unfold takeE;rw[if_pos ⟨hf,hr⟩,if_neg h1,if_neg h2,if_neg h3]
    exact .inr (.inr (.inr ⟨by omega,by omega,by omega,by omega,e,by unfold takeQ;rw[e];rfl⟩))
theorem pfine_yes (q:SpaceD) (h:Fine q) (w:World):Calls Tryz.prog 204 #[.agg #[.int .i64 q.blocks,.int .i64 q.nodes,.int .i64 q.mostB,.int .i64 q.mostN]] w (Ret w (.bool true)):=by
 obtain ⟨h1,h2,h3,h4,h5,h6⟩:=h;go_enter Tryz.func204,Tryz.ntmps204;go_wp2_with fail;go_ret;exact Ret.mk rfl ((Ext.refl _).alloc _)
theorem pfine_no (q:SpaceD) (h:q.nodes<0∨q.blocks<0) (w:World):Calls Tryz.prog 204 #[.agg #[.int .i64 q.blocks,.int .i64 q.nodes,.int .i64 q.mostB,.int .i64 q.mostN]] w (Ret w (.bool false)):=by
 by_cases h1:q.blocks<0
 ·go_enter Tryz.func204,Tryz.ntmps204
  go_wp2_with fail;go_ret;exact Ret.mk rfl ((Ext.refl _).alloc _)
 ·have h2:q.nodes<0:=by omega
  have h3:0≤q.blocks:=by omega
  clear h h1;go_enter Tryz.func204,Tryz.ntmps204;go_wp2_with fail;go_ret;exact Ret.mk rfl ((Ext.refl _).alloc _)
theorem rfine_yes (q:SpaceD) (h:Fine q) (w:World):Calls Tryz.prog 225 #[.agg #[.int .i64 q.blocks,.int .i64 q.nodes,.int .i64 q.mostB,.int .i64 q.mostN]] w (Ret w (.bool true)):=by
 obtain ⟨h1,h2,h3,h4,h5,h6⟩:=h;go_enter Tryz.func225,Tryz.ntmps225;go_wp2_with fail;go_ret;exact Ret.mk rfl ((Ext.refl _).alloc _)
theorem ptake_any (q:SpaceD) (b n:Int) (h:Fine q) (hr:inR b n) (w:World):Calls Tryz.prog 183 #[.agg #[.int .i64 q.blocks,.int .i64 q.nodes,.int .i64 q.mostB,.int .i64 q.mostN],.int .i64 b,.int .i64 n] w (Ret w (.tuple #[.agg #[.int .i64 (takeQ q b n).blocks,.int .i64 (takeQ q b n).nodes,.int .i64 (takeQ q b n).mostB,.int .i64 (takeQ q b n).mostN],.int .i64 (takeE q b n)])):=by
 have hq:=h;obtain ⟨r1,r2,r3,r4⟩:=hr;obtain ⟨h1,h2,h3,h4,h5,h6⟩:=h;have d1:decide (b < -1073741824)=false:=decide_eq_false (by omega);have d2:decide (1073741824<b)=false:=decide_eq_false (by omega);have d3:decide (n < -1073741824)=false:=decide_eq_false (by omega);have d4:decide (1073741824<n)=false:=decide_eq_false (by omega);rcases take_cases hq ⟨r1,r2,r3,r4⟩ with⟨g1,e1,e2⟩|⟨g1,g2,e1,e2⟩|⟨g1,g2,g3,e1,e2⟩|⟨g1,g2,g3,g4,e1,e2⟩
 ·rw [e1,e2]
  clear e1 e2;go_enter Tryz.func183,Tryz.ntmps183;go_wp2_with fail;refine (pfine_yes q hq _).mono ?_;rintro e w1 ⟨rfl,b1⟩;obtain ⟨hc,hf⟩:=b1.cells;have hz:=b1.size;simp only[World.size_alloc]at hz;have hz1:w.heap.size<w1.heap.size:=by omega
  have hz2:w.heap.size+1<w1.heap.size:=by omega
  go_wp2_with fail;refine bodyPost_ret (v:=.tuple #[.agg #[.int .i64 q.blocks,.int .i64 q.nodes,.int .i64 q.mostB,.int .i64 q.mostN],.int .i64 15]) (by simp[results,Tryz.results183,go_sem,hc,hz2]) rfl ⟨rfl,?_⟩
  repeat (first|refine Ext.alloc ?_ _|refine Ext.setCell ?_ (by simp<;>omega) _)
  exact (((Ext.refl _).alloc _).alloc _).trans b1
 ·rw [e1,e2]
  clear e1 e2;go_enter Tryz.func183,Tryz.ntmps183;go_wp2_with fail;refine (pfine_yes q hq _).mono ?_;rintro e w1 ⟨rfl,b1⟩;obtain ⟨hc,hf⟩:=b1.cells;have hz:=b1.size;simp only[World.size_alloc]at hz;have hz1:w.heap.size<w1.heap.size:=by omega
  have hz2:w.heap.size+1<w1.heap.size:=by omega
  go_wp2_with fail;refine bodyPost_ret (v:=.tuple #[.agg #[.int .i64 q.blocks,.int .i64 q.nodes,.int .i64 q.mostB,.int .i64 q.mostN],.int .i64 14]) (by simp[results,Tryz.results183,go_sem,hc,hz2]) rfl ⟨rfl,?_⟩
  repeat (first|refine Ext.alloc ?_ _|refine Ext.setCell ?_ (by simp<;>omega) _)
  exact (((Ext.refl _).alloc _).alloc _).trans b1
 ·rw [e1,e2]
  clear e1 e2;go_enter Tryz.func183,Tryz.ntmps183;go_wp2_with fail;refine (pfine_yes q hq _).mono ?_;rintro e w1 ⟨rfl,b1⟩;obtain ⟨hc,hf⟩:=b1.cells;have hz:=b1.size;simp only[World.size_alloc]at hz;have hz1:w.heap.size<w1.heap.size:=by omega
  have hz2:w.heap.size+1<w1.heap.size:=by omega
  go_wp2_with fail;refine (pfine_no (moreQ q b n) g3 _).mono ?_;rintro e w2 ⟨rfl,b2⟩;obtain ⟨hc2,hf2⟩:=b2.cells;have hy:=b2.size;simp only[World.size_alloc]at hy;have hy1:w.heap.size<w2.heap.size:=by omega
  have hy2:w.heap.size+1<w2.heap.size:=by omega
  have hy3:w1.heap.size<w2.heap.size:=by omega
  go_wp2_with fail;refine bodyPost_ret (v:=.tuple #[.agg #[.int .i64 q.blocks,.int .i64 q.nodes,.int .i64 q.mostB,.int .i64 q.mostN],.int .i64 1]) (by simp[results,Tryz.results183,go_sem,hc,hz1,hz2,hc2]) rfl ⟨rfl,?_⟩
  repeat (first|refine Ext.alloc ?_ _|refine Ext.setCell ?_ (by simp<;>omega) _)
  exact (Ext.alloc ((((Ext.refl _).alloc _).alloc _).trans b1) _).trans b2
 ·rw [e1,e2]
  clear e1 e2;go_enter Tryz.func183,Tryz.ntmps183;go_wp2_with fail;refine (pfine_yes q hq _).mono ?_;rintro e w1 ⟨rfl,b1⟩;obtain ⟨hc,hf⟩:=b1.cells;have hz:=b1.size;simp only[World.size_alloc]at hz;have hz1:w.heap.size<w1.heap.size:=by omega
  have hz2:w.heap.size+1<w1.heap.size:=by omega
  go_wp2_with fail;refine (pfine_yes (moreQ q b n) ⟨g4,g3,g2,g1,h5,h6⟩ _).mono ?_;rintro e w2 ⟨rfl,b2⟩;obtain ⟨hc2,hf2⟩:=b2.cells;have hy:=b2.size;simp only[World.size_alloc]at hy;have hy1:w.heap.size<w2.heap.size:=by omega
  have hy2:w.heap.size+1<w2.heap.size:=by omega
  have hy3:w1.heap.size<w2.heap.size:=by omega
  go_wp2_with fail;refine bodyPost_ret (v:=.tuple #[.agg #[.int .i64 (moreQ q b n).blocks,.int .i64 (moreQ q b n).nodes,.int .i64 (moreQ q b n).mostB,.int .i64 (moreQ q b n).mostN],.int .i64 0]) (by simp[results,Tryz.results183,go_sem,hc,hz1,hz2,moreQ,hc2]) rfl ⟨rfl,?_⟩
  repeat (first|refine Ext.alloc ?_ _|refine Ext.setCell ?_ (by simp<;>omega) _)
  exact (Ext.alloc ((((Ext.refl _).alloc _).alloc _).trans b1) _).trans b2
theorem rtake_any (q:SpaceD) (b n:Int) (h:Fine q) (hr:inR b n) (w:World):Calls Tryz.prog 214 #[.agg #[.int .i64 q.blocks,.int .i64 q.nodes,.int .i64 q.mostB,.int .i64 q.mostN],.int .i64 b,.int .i64 n] w (Ret w (.tuple #[.agg #[.int .i64 (takeQ q b n).blocks,.int .i64 (takeQ q b n).nodes,.int .i64 (takeQ q b n).mostB,.int .i64 (takeQ q b n).mostN],.int .i64 (takeE q b n)])):=by
 have hq:=h;obtain ⟨r1,r2,r3,r4⟩:=hr;obtain ⟨h1,h2,h3,h4,h5,h6⟩:=h;have d1:decide (b < -1073741824)=false:=decide_eq_false (by omega);have d2:decide (1073741824<b)=false:=decide_eq_false (by omega);have d3:decide (n < -1073741824)=false:=decide_eq_false (by omega);have d4:decide (1073741824<n)=false:=decide_eq_false (by omega);rcases take_cases hq ⟨r1,r2,r3,r4⟩ with⟨g1,e1,e2⟩|⟨g1,g2,e1,e2⟩|⟨g1,g2,g3,e1,e2⟩|⟨g1,g2,g3,g4,e1,e2⟩
 ·rw [e1,e2]
  clear e1 e2;go_enter Tryz.func214,Tryz.ntmps214;go_wp2_with fail;refine (rfine_yes q hq _).mono ?_;rintro e w1 ⟨rfl,b1⟩;obtain ⟨hc,hf⟩:=b1.cells;have hz:=b1.size;simp only[World.size_alloc]at hz;have hz1:w.heap.size<w1.heap.size:=by omega
  have hz2:w.heap.size+1<w1.heap.size:=by omega
  go_wp2_with fail;refine bodyPost_ret (v:=.tuple #[.agg #[.int .i64 q.blocks,.int .i64 q.nodes,.int .i64 q.mostB,.int .i64 q.mostN],.int .i64 15]) (by simp[results,Tryz.results214,go_sem,hc,hz2]) rfl ⟨rfl,?_⟩
  repeat (first|refine Ext.alloc ?_ _|refine Ext.setCell ?_ (by simp<;>omega) _)
  exact (((Ext.refl _).alloc _).alloc _).trans b1
 ·rw [e1,e2]
  clear e1 e2;go_enter Tryz.func214,Tryz.ntmps214;go_wp2_with fail;refine (rfine_yes q hq _).mono ?_;rintro e w1 ⟨rfl,b1⟩;obtain ⟨hc,hf⟩:=b1.cells;have hz:=b1.size;simp only[World.size_alloc]at hz;have hz1:w.heap.size<w1.heap.size:=by omega
  have hz2:w.heap.size+1<w1.heap.size:=by omega
  go_wp2_with fail;refine bodyPost_ret (v:=.tuple #[.agg #[.int .i64 q.blocks,.int .i64 q.nodes,.int .i64 q.mostB,.int .i64 q.mostN],.int .i64 14]) (by simp[results,Tryz.results214,go_sem,hc,hz2]) rfl ⟨rfl,?_⟩
  repeat (first|refine Ext.alloc ?_ _|refine Ext.setCell ?_ (by simp<;>omega) _)
  exact (((Ext.refl _).alloc _).alloc _).trans b1
 ·have hcase:q.nodes+n<0∨(0≤q.nodes+n∧q.blocks+b<0):=by omega
  clear g3;rcases hcase with g3|⟨g3,g4⟩
  all_goals
   rw [e1,e2];clear e1 e2;go_enter Tryz.func214,Tryz.ntmps214;go_wp2_with fail;refine (rfine_yes q hq _).mono ?_;rintro e w1 ⟨rfl,b1⟩;obtain ⟨hc,hf⟩:=b1.cells;have hz:=b1.size;simp only[World.size_alloc]at hz;have hz1:w.heap.size<w1.heap.size:=by omega
   have hz2:w.heap.size+1<w1.heap.size:=by omega
   go_wp2_with fail;refine bodyPost_ret (v:=.tuple #[.agg #[.int .i64 q.blocks,.int .i64 q.nodes,.int .i64 q.mostB,.int .i64 q.mostN],.int .i64 1]) (by simp[results,Tryz.results214,go_sem,hc,hz2]) rfl ⟨rfl,?_⟩
   repeat (first|refine Ext.alloc ?_ _|refine Ext.setCell ?_ (by simp<;>omega) _)
   exact (((Ext.refl _).alloc _).alloc _).trans b1
 ·rw [e1,e2]
  clear e1 e2;go_enter Tryz.func214,Tryz.ntmps214;go_wp2_with fail;refine (rfine_yes q hq _).mono ?_;rintro e w1 ⟨rfl,b1⟩;obtain ⟨hc,hf⟩:=b1.cells;have hz:=b1.size;simp only[World.size_alloc]at hz;have hz1:w.heap.size<w1.heap.size:=by omega
  have hz2:w.heap.size+1<w1.heap.size:=by omega
  go_wp2_with fail;refine bodyPost_ret (v:=.tuple #[.agg #[.int .i64 (moreQ q b n).blocks,.int .i64 (moreQ q b n).nodes,.int .i64 (moreQ q b n).mostB,.int .i64 (moreQ q b n).mostN],.int .i64 0]) (by simp[results,Tryz.results214,go_sem,hc,hz2,moreQ]) rfl ⟨rfl,?_⟩
  repeat (first|refine Ext.alloc ?_ _|refine Ext.setCell ?_ (by simp<;>omega) _)
  exact (((Ext.refl _).alloc _).alloc _).trans b1
theorem limits_cases (b n:Int):(1≤b∧b≤1073741824∧1≤n∧n≤65536∧limitsF b n=true)∨(limitsF b n=false∧(b<1∨(1≤b∧1073741824<b)∨(1≤b∧b≤1073741824∧n<1)∨(1≤b∧b≤1073741824∧1≤n∧65536<n))):=by
 unfold limitsF
 by_cases h1:1≤b<;>by_cases h2:b≤1073741824<;>by_cases h3:1≤n<;>by_cases h4:n≤65536<;>simp[h1,h2,h3,h4]<;>omega
theorem qnew_yes (b n:Int) (h:limitsF b n=true) (w:World):Calls Tryz.prog 182 #[.int .i64 b,.int .i64 n] w (Ret w (.tuple #[.agg #[.int .i64 0,.int .i64 0,.int .i64 b,.int .i64 n],.int .i64 0])):=by
 rcases limits_cases b n with⟨h1,h2,h3,h4,_⟩|⟨h0,_⟩
 ·clear h
  go_enter Tryz.func182,Tryz.ntmps182;go_wp2_with fail;refine bodyPost_ret (v:=.tuple #[.agg #[.int .i64 0,.int .i64 0,.int .i64 b,.int .i64 n],.int .i64 0]) (by simp[results,Tryz.results182,go_sem]) rfl ⟨rfl,?_⟩;exact (Ext.refl _).alloc _
 ·rw[h0]at h;cases h
theorem qnew_no (b n:Int) (h:limitsF b n=false) (w:World):Calls Tryz.prog 182 #[.int .i64 b,.int .i64 n] w (Ret w (.tuple #[.agg #[.int .i64 0,.int .i64 0,.int .i64 0,.int .i64 0],.int .i64 3])):=by
 rcases limits_cases b n with⟨h1,h2,h3,h4,h0⟩|⟨-,h1|⟨h1,h2⟩|⟨h1,h2,h3⟩|⟨h1,h2,h3,h4⟩⟩
 ·rw[h0]at h;cases h
 all_goals
  clear h;go_enter Tryz.func182,Tryz.ntmps182;go_wp2_with fail;refine bodyPost_ret (v:=.tuple #[.agg #[.int .i64 0,.int .i64 0,.int .i64 0,.int .i64 0],.int .i64 3]) (by simp[results,Tryz.results182,go_sem]) rfl ⟨rfl,?_⟩;exact (Ext.refl _).alloc _
theorem rlimits_any (b n:Int) (w:World):Calls Tryz.prog 120 #[.int .i64 b,.int .i64 n] w (Ret w (.bool (limitsF b n))):=by
 rcases limits_cases b n with⟨h1,h2,h3,h4,h0⟩|⟨h0,h1|⟨h1,h2⟩|⟨h1,h2,h3⟩|⟨h1,h2,h3,h4⟩⟩
 all_goals
  rw [h0];clear h0;go_enter Tryz.func120,Tryz.ntmps120;go_wp2_with fail;go_ret;exact Ret.mk (ret_bool (by first|rfl|exact decide_eq_false (by omega))) (Ext.refl _)
theorem pblocks_same (kind size:Int) (h0:0≤size) (h1:size≤1000000000) (w:World):Calls Tryz.prog 220 #[.int .i64 kind,.int .i64 size] w (fun e w'=>e=.returned (.int .i64 (blocksF kind size))∧w'=w):=by
 by_cases hk:kind=1
 ·have hf:Hid (blocksF kind size=1):=by show _=_;unfold blocksF;rw[if_pos hk]
  have hb:(kind == 1)=true:=by rw[hk];rfl
  clear hk;go_enter Tryz.func220,Tryz.ntmps220;go_wp2_with fail;go_ret;exact ⟨(ret_int hf.out.symm),rfl⟩
 ·have hb:(kind == 1)=false:=by simpa using hk
  by_cases hk2:kind=2
  ·have hb2:(kind == 2)=true:=by rw[hk2];rfl
   by_cases hs:0<size
   ·have hf:Hid (blocksF kind size=(size-1) / 512+1):=by show _=_;unfold blocksF;rw[if_neg hk,if_pos ⟨hk2,hs⟩]
    clear hk hk2;go_enter Tryz.func220,Tryz.ntmps220;go_wp2_with fail;go_ret;exact ⟨(ret_int hf.out.symm),rfl⟩
   ·have hf:Hid (blocksF kind size=0):=by show _=_;unfold blocksF;rw[if_neg hk,if_neg (fun h=>hs h.2)]
    have hs2:size≤0:=by omega
    clear hk hk2 hs;go_enter Tryz.func220,Tryz.ntmps220;go_wp2_with fail;go_ret;exact ⟨(ret_int hf.out.symm),rfl⟩
  ·have hf:Hid (blocksF kind size=0):=by show _=_;unfold blocksF;rw[if_neg hk,if_neg (fun h=>hk2 h.1)]
   have hb2:(kind == 2)=false:=by simpa using hk2
   clear hk hk2;go_enter Tryz.func220,Tryz.ntmps220;go_wp2_with fail;go_ret;exact ⟨(ret_int hf.out.symm),rfl⟩
theorem rblocks_same (kind size:Int) (h0:0≤size) (h1:size≤1000000000) (w:World):Calls Tryz.prog 215 #[.int .i64 kind,.int .i64 size] w (fun e w'=>e=.returned (.int .i64 (blocksF kind size))∧w'=w):=by
 by_cases hk:kind=1
 ·have hf:Hid (blocksF kind size=1):=by show _=_;unfold blocksF;rw[if_pos hk]
  have hb:(kind == 1)=true:=by rw[hk];rfl
  clear hk;go_enter Tryz.func215,Tryz.ntmps215;go_wp2_with fail;go_ret;exact ⟨(ret_int hf.out.symm),rfl⟩
 ·have hb : (kind == 1)=false:=by simpa using hk
  by_cases hk2:kind=2
  ·have hb2:(kind == 2)=true:=by rw[hk2];rfl
   have hf:∀k:Int,0≤k→size≤512*k→(k=0∨512*(k-1)<size)→blocksF kind size=k:=by
    intro k a b c;unfold blocksF;rw [if_neg hk]
    by_cases hs:0<size
    ·rw[if_pos ⟨hk2,hs⟩];omega
    ·rw[if_neg (fun h=>hs h.2)];omega
   have HF:=zH hf;clear hk hk2 hf;go_enter Tryz.func215,Tryz.ntmps215;go_wp2_with fail;go_loop [5] (fun i=>∃k:Int,0≤k∧k≤2000000∧i=.int .i64 k∧Hid (k=0∨512*(k-1)<size)) (fun i=>(size-512*intOf i+512).toNat)
   case atStart=>exact⟨0,by omega,by omega,rfl,.inl rfl⟩
   case round =>
    obtain ⟨k,g1,g2,rfl,g3⟩:=hrel
    by_cases hlt:512*k<size
    ·go_wp2_with fail
     go_round
     case rel=>exact⟨k+1,by omega,by omega,rfl,.inr (by omega)⟩
     case measure=>simp[intOf];omega
    ·have hle:size≤512*k:=by omega
     go_wp2_with fail;go_ret;exact ⟨(ret_int (HF.out k g1 hle g3.out).symm),rfl⟩
  ·have hf:Hid (blocksF kind size=0):=by show _=_;unfold blocksF;rw[if_neg hk,if_neg (fun h=>hk2 h.1)]
   have hb2:(kind == 2)=false:=by simpa using hk2
   clear hk hk2;go_enter Tryz.func215,Tryz.ntmps215;go_wp2_with fail;go_loop [5] (fun i=>i=.int .i64 0) (fun i=>0)
   case atStart=>rfl
   case round =>
    subst hrel;go_wp2_with fail;go_ret;exact ⟨(ret_int hf.out.symm),rfl⟩
def devCells (ds:List DevD):List Value:=ds.flatMap fun d=>[.int .i64 d.root,.int .i64 d.over,.int .i64 d.q.blocks,.int .i64 d.q.nodes,.int .i64 d.q.mostB,.int .i64 d.q.mostN]
theorem devCells_len (ds:List DevD):(devCells ds).length=ds.length*6:=by
 unfold devCells
 induction ds with
 | nil=>rfl
 | cons d ds ih=>rw[List.flatMap_cons,List.length_append,ih];simp;omega
theorem devCells_append (a b:List DevD):devCells (a++b)=devCells a++devCells b:=by unfold devCells;rw[List.flatMap_append]
theorem devCells_get (ds:List DevD):∀k,(h:k<ds.length)→∀j,j<6→(devCells ds)[k*6+j]?=[.int .i64 (ds[k]).root,.int .i64 (ds[k]).over,.int .i64 (ds[k]).q.blocks,.int .i64 (ds[k]).q.nodes,.int .i64 (ds[k]).q.mostB,.int .i64 (ds[k]).q.mostN][j]?:=by
 induction ds with
 | nil=>intro k h;cases h
 | cons d ds ih =>
  intro k h j hj;have e:devCells (d::ds)=[.int .i64 d.root,.int .i64 d.over,.int .i64 d.q.blocks,.int .i64 d.q.nodes,.int .i64 d.q.mostB,.int .i64 d.q.mostN]++devCells ds:=rfl;rw [e]
  cases k with
  | zero =>
   simp only[Nat.zero_mul,Nat.zero_add,List.getElem_cons_zero];rw [List.getElem?_append_left (by simpa using hj)]
  | succ k =>
   have:=ih k (by simpa using h) j hj;rw [List.getElem?_append_right (by simp;omega)];simp only[List.length_cons,List.length_nil,List.getElem_cons_succ];rw [show (k+1)*6+j-(0+1+1+1+1+1+1)=k*6+j by omega];exact this
theorem devCells_one (ds:List DevD):∀u∈devCells ds,u.oneCell'=true:=by
 intro u hu;unfold devCells at hu;rw [List.mem_flatMap]at hu;obtain ⟨d,_,hx⟩:=hu;simp at hx;rcases hx with rfl|rfl|rfl|rfl|rfl|rfl<;>rfl
def RowD (w:World) (B:Nat) (t:TypeId) (v:Value) (ds:List DevD):Prop:=w.ownsRow B t 6 v ds.length (devCells ds)
theorem RowD.at_ {w:World} {B:Nat} {t:TypeId} {g cap:Nat} {ds:List DevD} (h:RowD w B t (.slice (some ⟨g,0,none⟩) ds.length cap) ds) (k:Nat) (hk:k<ds.length) :
  w.cell? ⟨g,k*6,none⟩=some (.int .i64 ds[k].root)∧w.cell? ⟨g,k*6+1,none⟩=some (.int .i64 ds[k].over)∧w.cell? ⟨g,k*6+2,none⟩=some (.int .i64 ds[k].q.blocks)∧w.cell? ⟨g,k*6+3,none⟩=some (.int .i64 ds[k].q.nodes)∧w.cell? ⟨g,k*6+4,none⟩=some (.int .i64 ds[k].q.mostB)∧w.cell? ⟨g,k*6+5,none⟩=some (.int .i64 ds[k].q.mostN):=by
 have hc:=fun j (hj:j<6)=>(World.ownsRow.cellAt h (k*6+j) (by omega)).trans (devCells_get ds k hk j hj)
 exact ⟨hc 0 (by omega),hc 1 (by omega),hc 2 (by omega),hc 3 (by omega),hc 4 (by omega),hc 5 (by omega)⟩
theorem ownsRow_only {w w':World} {L:List Nat} {B size n:Nat} {e:TypeId} {v:Value} {xs:List Value} (h:w.ownsRow B e size v n xs) (o:Only L w w') (hn:∀g,v.ownBlock=some g→g∉L):w'.ownsRow B e size v n xs:=by
 refine ⟨h.1,?_⟩;rcases h.2 with h0|⟨g,cap,cur,rfl,hb,hg,h1,h2,h3,h4⟩
 ·exact .inl h0
 ·exact .inr ⟨g,cap,cur,rfl,hb,o.has hg (hn g rfl),h1,h2,h3,h4⟩
theorem RowD.has {w:World} {B:Nat} {t:TypeId} {g cap:Nat} {ds:List DevD} (h:RowD w B t (.slice (some ⟨g,0,none⟩) ds.length cap) ds):B≤g∧∃cur,Has w g (.cells cur t):=by
 rcases h.2 with⟨h0,_⟩|⟨g',cap',cur,h0,hb,hg,_⟩
 ·cases h0
 ·injection h0 with h0
  injection h0 with h0;injection h0 with h0;subst h0;exact ⟨hb,cur,hg⟩
structure GhW where
 bW:Nat
 bT:Nat
 bM:Nat
 bD:Nat
abbrev GhW.list (g:GhW):List Nat:=[g.bW,g.bT,g.bM,g.bD]
def WAt (w:World) (B:Nat) (g:GhW) (S:TreeD):Prop:=
 B≤g.bW∧TAt w B g.bT g.bM S.nodes S.last∧∃cd,Has w g.bW (.cells #[.pointer (some ⟨g.bT,0,none⟩),.slice (some ⟨g.bD,0,none⟩) S.devs.length cd] 106)∧RowD w B 205 (.slice (some ⟨g.bD,0,none⟩) S.devs.length cd) S.devs
theorem WAt.apart {w:World} {B:Nat} {g:GhW} {S:TreeD} (h:WAt w B g S):Apart w B g.list:=by
 obtain ⟨h1,h2,cd,h3,h4⟩:=h;obtain ⟨h5,cur,h6⟩:=h4.has;have ha:=h2.apart;intro b hb;simp only[GhW.list,List.mem_cons,List.not_mem_nil,or_false]at hb;rcases hb with rfl|rfl|rfl|rfl
 ·exact⟨h1,h3.noTag (by decide)⟩
 ·exact ha _ (by simp)
 ·exact ha _ (by simp)
 ·exact⟨h5,h6.noTag (by decide)⟩
theorem WAt.lt {w:World} {B:Nat} {g:GhW} {S:TreeD} (h:WAt w B g S):g.bW<w.heap.size∧g.bT<w.heap.size∧g.bM<w.heap.size∧g.bD<w.heap.size:=by
 obtain ⟨h1,⟨_,_,h2,es,cl,h3,_⟩,cd,h4,h5⟩:=h;obtain ⟨_,cur,h6⟩:=h5.has;exact ⟨h4.lt,h2.lt,h3.lt,h6.lt⟩
theorem WAt.only {w w':World} {B:Nat} {g:GhW} {S:TreeD} {L:List Nat} (h:WAt w B g S) (o:Only L w w') (ha:Apart w B L) (hn:∀b∈g.list,b∉L):WAt w' B g S:=by
 obtain ⟨h1,h2,cd,h3,h4⟩:=h;refine ⟨h1,h2.only o ha (hn _ (by simp)) (hn _ (by simp)),cd,o.has h3 (hn _ (by simp)),ownsRow_only h4 o fun b hb=>?_⟩;injection hb with hb;subst hb;exact hn _ (by simp)
theorem WAt.ext {w w':World} {B:Nat} {g:GhW} {S:TreeD} (h:WAt w B g S) (o:Ext w w'):WAt w' B g S:=h.only (Only.of_ext (L:=[]) o) (fun b hb=>by cases hb) (by simp)
theorem has_ne {w:World} {b c:Nat} {C D:Array Value} {t u:TypeId} (h:Has w b (.cells C t)) (k:Has w c (.cells D u)) (hne:t≠u):b≠c:=by
 rintro rfl;unfold Has at h k;rw [h]at k;injection k with k;injection k with _ k;exact hne k
theorem has_neM {w:World} {b c:Nat} {C:Array Value} {t:TypeId} {es:Array MapEntry} {cl:Nat} (h:Has w b (.cells C t)) (k:Has w c (.map es cl)):b≠c:=by
 rintro rfl;unfold Has at h k;rw [h]at k
 cases k
theorem WAt.ne {w:World} {B:Nat} {g:GhW} {S:TreeD} (h:WAt w B g S):g.bW≠g.bT∧g.bW≠g.bM∧g.bW≠g.bD∧g.bT≠g.bM∧g.bT≠g.bD∧g.bM≠g.bD:=by
 obtain ⟨h1,⟨_,_,h2,es,cl,h3,_⟩,cd,h4,h5⟩:=h;obtain ⟨_,cur,h6⟩:=h5.has;exact ⟨has_ne h4 h2 (by decide),has_neM h4 h3,has_ne h4 h6 (by decide),has_neM h2 h3,has_ne h2 h6 (by decide),(has_neM h6 h3).symm⟩
theorem WAt.table {w w':World} {B:Nat} {g:GhW} {S:TreeD} {ns:List NodeD} {last:Int} (h:WAt w B g S) (o:Only [g.bT,g.bM] w w') (ht:TAt w' B g.bT g.bM ns last):WAt w' B g ⟨ns,S.devs,last⟩:=by
 obtain ⟨n1,n2,n3,n4,n5,n6⟩:=h.ne;obtain ⟨h1,h2,cd,h3,h4⟩:=h;refine ⟨h1,ht,cd,o.has h3 (by simp;exact⟨n1,n2⟩),ownsRow_only h4 o fun b hb=>?_⟩;injection hb with hb;subst hb;simp;exact⟨n5.symm,n6.symm⟩
theorem pnone_any (B:Nat) (g:GhW) (S:TreeD) (w:World) (h:WAt w B g S) (hd:0<S.devs.length):Calls Tryz.prog 149 #[.pointer (some ⟨g.bW,0,none⟩)] w (Ret w (.bool false)):=by
 obtain ⟨h1,h2,cd,h3,h4⟩:=h;have hW:=h3.lt;have c1:=h3.cell 1;simp only[gA,gC,gB]at c1;have hz:((S.devs.length:Int) == 0)=false:=by simpa using (show ¬(S.devs.length:Int)=0 by omega)
 clear h4;go_enter Tryz.func149,Tryz.ntmps149;go_wp2_with fail;go_ret;exact Ret.mk rfl (Ext.refl _)
theorem pdevs_any (B:Nat) (g:GhW) (S:TreeD) (w:World) (h:WAt w B g S) (hd:0<S.devs.length):Calls Tryz.prog 137 #[.pointer (some ⟨g.bW,0,none⟩)] w (Ret w (.int .i64 S.devs.length)):=by
 have h0:=h;obtain ⟨h1,h2,cd,h3,h4⟩:=h;go_enter Tryz.func137,Tryz.ntmps137;go_wp2_with fail;refine (pnone_any B g S _ h0 hd).mono ?_;rintro e w1 ⟨rfl,b1⟩;have hW:=(h3.ext b1).lt;have c1:=(h3.ext b1).cell 1;simp only[gA,gC,gB]at c1;go_wp2_with fail;go_ret;exact Ret.mk rfl b1
theorem proot_any (B:Nat) (g:GhW) (S:TreeD) (d:Int) (w:World) (h:WAt w B g S) (hd:0<S.devs.length) (hl:S.devs.length≤1000):Calls Tryz.prog 138 #[.pointer (some ⟨g.bW,0,none⟩),.int .i64 d] w (Ret w (.int .i64 (rootF S.devs d))):=by
 have h0:=h;obtain ⟨h1,h2,cd,h3,h4⟩:=h
 by_cases hd1:d<1
 ·have hf:Hid (rootF S.devs d=0):=by show _=_;unfold rootF hasD;rw[if_neg (by simp;omega)]
  go_enter Tryz.func138,Tryz.ntmps138;go_wp2_with fail;refine (pnone_any B g S _ h0 hd).mono ?_;rintro e w1 ⟨rfl,b1⟩;go_wp2_with fail;go_ret;exact Ret.mk (ret_int hf.out.symm) b1
 ·by_cases hd2:(S.devs.length:Int)<d
  ·have hf:Hid (rootF S.devs d=0):=by show _=_;unfold rootF hasD;rw[if_neg (by simp;omega)]
   go_enter Tryz.func138,Tryz.ntmps138;go_wp2_with fail;refine (pnone_any B g S _ h0 hd).mono ?_;rintro e w1 ⟨rfl,b1⟩;have hW:=(h3.ext b1).lt;have c1:=(h3.ext b1).cell 1;simp only[gA,gC,gB]at c1;go_wp2_with fail;go_ret;exact Ret.mk (ret_int hf.out.symm) b1
  ·obtain ⟨k,hk⟩:∃k:Nat,d=(k:Int)+1:=⟨(d-1).toNat,by omega⟩
   subst hk;have hkl:k<S.devs.length:=by omega
   have hf:Hid (rootF S.devs ((k:Int)+1)=S.devs[k].root):=by
    show _=_;unfold rootF hasD devN;rw [if_pos (by simp;omega),show ((k:Int)+1-1).toNat=k by omega,List.getD_eq_getElem?_getD,List.getElem?_eq_getElem hkl];rfl
   go_enter Tryz.func138,Tryz.ntmps138;go_wp2_with fail;refine (pnone_any B g S _ h0 hd).mono ?_;rintro e w1 ⟨rfl,b1⟩;have hW:=(h3.ext b1).lt;have c1:=(h3.ext b1).cell 1;simp only[gA,gC,gB]at c1;obtain ⟨d0,d1,d2,d3,d4,d5⟩:=RowD.at_ (show RowD w1 B 205 _ S.devs from ownsRow_only h4 (Only.of_ext (L:=[]) b1) (by simp)) k hkl
   generalize S.devs[k]=x at hf d0 d1 d2 d3 d4 d5
   go_wp2_with fail;go_ret;exact Ret.mk (ret_int hf.out.symm) b1
theorem over_at {ds:List DevD} {no:Int} {k:Nat} (hk:k<ds.length) (h0:0<no) (h:∀j,(hj:j<ds.length)→j<k→ds[j].over≠no) (he:ds[k].over=no):overF ds no=ds[k].root:=by
 unfold overF;have:ds.find? (fun d=>d.over == no)=some ds[k]:=by
  rw [List.find?_eq_some_iff_getElem];exact ⟨by simpa using he,k,hk,rfl,fun j hj=>by simpa using h j (by omega) hj⟩
 rw [if_pos h0,this]
theorem over_no {ds:List DevD} {no:Int} (h:∀j,(hj:j<ds.length)→ds[j].over≠no):overF ds no=no:=by
 unfold overF;have:ds.find? (fun d=>d.over == no)=none:=by
  rw [List.find?_eq_none];intro x hx;obtain ⟨k,hk,rfl⟩:=List.getElem_of_mem hx;simpa using h k hk
 rw [this];split<;>rfl
theorem pover_any (B:Nat) (g:GhW) (S:TreeD) (no:Int) (w:World) (h:WAt w B g S) (hd:0<S.devs.length) (hl:S.devs.length≤1000):Calls Tryz.prog 101 #[.pointer (some ⟨g.bW,0,none⟩),.int .i64 no] w (Ret w (.int .i64 (overF S.devs no))):=by
 have h0:=h;obtain ⟨h1,h2,cd,h3,h4⟩:=h;obtain ⟨n,hn⟩:∃n,n=S.devs.length:=⟨_,rfl⟩
 by_cases hno:no≤0
 ·have hf:Hid (overF S.devs no=no):=by show _=_;unfold overF;rw[if_neg (by omega)]
  clear hn;go_enter Tryz.func101,Tryz.ntmps101;go_wp2_with fail;refine (pnone_any B g S _ h0 hd).mono ?_;rintro e w1 ⟨rfl,b1⟩;go_wp2_with fail;go_ret;exact Ret.mk (ret_int hf.out.symm) b1
 ·have hno2 : 0<no:=by omega
  rw [←hn]at h3 hl;have HN:=zH hn;clear hn;go_enter Tryz.func101,Tryz.ntmps101;go_wp2_with fail;refine (pnone_any B g S _ h0 hd).mono ?_;rintro e w1 ⟨rfl,b1⟩;have hW:=(h3.ext b1).lt;have c1:=(h3.ext b1).cell 1;simp only[gA,gC,gB]at c1;go_wp2_with fail;go_loopw [19] (fun i wr=>∃k:Nat,k≤n∧i=.int .i64 k∧Hid (∀j,(hj:j<S.devs.length)→j<k→S.devs[j].over≠no)∧Ext w wr) (fun i _=>n-(intOf i).toNat)
  case atStart=>exact⟨0,Nat.zero_le _,rfl,fun j _ h=>by omega,b1⟩
  case round =>
   obtain ⟨k,hk,rfl,ha,hE⟩:=hrel
   by_cases hlt:(k:Int)<n
   ·have hkl:k<S.devs.length:=by have:=HN.out;omega
    obtain ⟨d0,d1,d2,d3,d4,d5⟩:=RowD.at_ (show RowD wr B 205 _ S.devs from ownsRow_only h4 (Only.of_ext (L:=[]) hE) (by simp)) k hkl;have hbD:g.bD<wr.heap.size:=(h0.ext hE).lt.2.2.2
    generalize hx:S.devs[k]=x at d0 d1 d2 d3 d4 d5
    by_cases he:x.over=no
    ·have hf:Hid (overF S.devs no=x.root):=by show _=_;rw[←hx];exact over_at hkl hno2 ha.out (by rw[hx];exact he)
     have hb:(x.over == no)=true:=by simpa using he
     clear hx he;go_wp2_with fail;go_ret;exact Ret.mk (ret_int hf.out.symm) (hE.alloc _)
    ·have ha2:Hid (∀j,(hj:j<S.devs.length)→j<k+1→S.devs[j].over≠no):=by
      show ∀j,(hj:j<S.devs.length)→j<k+1→S.devs[j].over≠no;intro j hj hj2
      by_cases e:j=k
      ·subst e;rw[hx];exact he
      ·exact ha.out j hj (by omega)
     have hb:(x.over == no)=false:=by simpa using he
     clear hx he;go_wp2_with fail;go_roundw
     case rel=>exact⟨k+1,by omega,by go_num,ha2,hE.alloc _⟩
     case measure=>simp[intOf];omega
   ·have hf:Hid (overF S.devs no=no):=by show _=_;exact over_no fun j hj=>ha.out j hj (by have:=HN.out;omega)
    go_wp2_with fail;go_ret;exact Ret.mk (ret_int hf.out.symm) hE
theorem infoDev:(Tryz.prog.info? 205).map (fun i=>(i.zero,i.size,i.bytes))=some (some (.agg #[.int .i64 0,.int .i64 0,.int .i64 0,.int .i64 0,.int .i64 0,.int .i64 0]),6,48):=by kernel_rfl
theorem take_root {b n:Int} (h:limitsF b n=true):Fine ⟨0,0,b,n⟩∧takeE ⟨0,0,b,n⟩ 1 1=0∧takeQ ⟨0,0,b,n⟩ 1 1=⟨1,1,b,n⟩:=by
 rcases limits_cases b n with⟨h1,h2,h3,h4,_⟩|⟨h0,_⟩
 ·have hf:Fine ⟨0,0,b,n⟩:=⟨by simp,by simp,by simp;omega,by simp;omega,by simpa using h2,by simpa using h4⟩
  rcases take_cases (b:=1) (n:=1) hf ⟨by omega,by omega,by omega,by omega⟩ with⟨g1,_⟩|⟨_,g1,_⟩|⟨_,_,g1,_⟩|⟨_,_,_,_,g1,g2⟩
  ·simp at g1;omega
  ·simp at g1;omega
  ·simp at g1
  ·exact⟨hf,g1,by rw[g2];rfl⟩
 ·rw[h0]at h;cases h
theorem row_ne {w:World} {B size n b:Nat} {e t:TypeId} {v:Value} {xs:List Value} {C:Array Value} (h:w.ownsRow B e size v n xs) (k:Has w b (.cells C t)) (hne:t≠e):v.ownBlock≠some b:=by
 rcases h.2 with⟨rfl,_⟩|⟨g,cap,cur,rfl,_,hg,_⟩
 ·simp[Value.ownBlock]
 ·intro e1
  have:g=b:=by simpa [Value.ownBlock]using e1
  subst this;unfold Has at k;rw [hg]at k;injection k with k;injection k with _ k;exact hne k.symm
theorem row_neM {w:World} {B size n b:Nat} {e:TypeId} {v:Value} {xs:List Value} {es:Array MapEntry} {cl:Nat} (h:w.ownsRow B e size v n xs) (k:Has w b (.map es cl)):v.ownBlock≠some b:=by
 rcases h.2 with⟨rfl,_⟩|⟨g,cap,cur,rfl,_,hg,_⟩
 ·simp[Value.ownBlock]
 ·intro e1
  have:g=b:=by simpa [Value.ownBlock]using e1
  subst this;unfold Has at k;rw [hg]at k
  cases k
theorem Apart.row {w:World} {B size n:Nat} {e:TypeId} {v:Value} {xs:List Value} (h:w.ownsRow B e size v n xs) (hne:e≠153):Apart w B v.ownBlock.toList:=by
 intro b hb;rcases h.2 with⟨rfl,_⟩|⟨g,cap,cur,rfl,h1,hg,_⟩
 ·simp[Value.ownBlock]at hb
 ·have:b=g:=by simpa [Value.ownBlock]using hb
  subst this;exact ⟨h1,Has.noTag (show Has w b _ from hg) hne⟩
theorem Apart.cons {w:World} {B b:Nat} {L:List Nat} (h:Apart w B L) (h1:B≤b) (h2:¬HasTag w b 153):Apart w B (b::L):=by
 intro x hx;rcases List.mem_cons.1 hx with rfl|hx
 ·exact⟨h1,h2⟩
 ·exact h x hx
theorem Only.grown {w w':World} {row:Option Nat} (h:w.grownBy w' row):Only row.toList w w':=⟨h.os,h.tape,h.output,h.size,fun k hk hn=>h.block k hk (fun e=>hn (by rw[←e];simp))⟩
theorem getN_last {ns:List NodeD} {last:Int} (hu:NosUp ns last) (n:NodeD) (hn:n.no=last+1):getN (ns++[n]) (last+1)=n∧isN (ns++[n]) (last+1)=true:=by
 have h0:=hu.zero (no:=last+1) (.inr (by omega));have h1:getO ns (last+1)=none:=by
  unfold isN at h0
  rwa [Option.isSome_eq_false_iff,Option.isNone_iff_eq_none]at h0
 have h2:getO (ns++[n]) (last+1)=some n:=by
  unfold getO at h1⊢;rw [List.find?_append,h1];simp [hn]
 exact ⟨by unfold getN;rw[h2];rfl,by unfold isN;rw[h2];rfl⟩
theorem setN_last {ns:List NodeD} {last:Int} (hu:NosUp ns last) (n m:NodeD) (hn:n.no=last+1) (hm:m.no=last+1):setN (ns++[n]) m=ns++[m]:=by
 have h:setN ns m=ns:=setN_not fun x hx=>by have:=(hu.2 x hx).2;omega
 unfold setN at h⊢;rw [List.map_append,h];simp [hn,hm]
theorem devCells_root (ds:List DevD) (d:DevD) (r:Int):(devCells ds++devCells [d]).set (ds.length*6) (.int .i64 r)=devCells (ds++[{d with root:=r}]):=by
 rw [devCells_append,List.set_append_right _ _ (by rw[devCells_len];exact Nat.le_refl _),devCells_len,Nat.sub_self];rfl
def AddR (w:World) (B bW bT bM:Nat) (v:Value) (S:TreeD) (e:Ending) (w':World):Prop:=
 e = .returned (.int .i64 0)∧∃bD,WAt w' B ⟨bW,bT,bM,bD⟩ S∧Only (bW::bT::bM::v.ownBlock.toList) w w'∧(v.ownBlock=some bD∨w.heap.size≤bD)
theorem padd_core (B bW bT bM:Nat) (v:Value) (S:TreeD) (over b n:Int) (w:World) (hl:limitsF b n=true) (hb:B≤bW) (hT:TAt w B bT bM S.nodes S.last) (hW:Has w bW (.cells #[.pointer (some ⟨bT,0,none⟩),v] 106)) (hD:RowD w B 205 v S.devs)
  (hv:∃A c,v=.slice A S.devs.length c) (hlen:S.devs.length≤1000) (hu:NosUp S.nodes S.last) (hl0:0≤S.last) (hl1:S.last≤1000000) :
  Calls Tryz.prog 154 #[.pointer (some ⟨bW,0,none⟩),.int .i64 over,.int .i64 b,.int .i64 n] w (AddR w B bW bT bM v (rootT S over b n)):=by
 obtain ⟨t1,t2,t3⟩:=take_root hl;obtain ⟨A,c,rfl⟩:=hv;go_enter Tryz.func154,Tryz.ntmps154;go_wp2_with fail;refine (qnew_yes b n hl _).mono ?_;rintro e w1 ⟨rfl,b1⟩;go_wp2_with fail;refine (ptake_any ⟨0,0,b,n⟩ 1 1 t1 ⟨by decide,by decide,by decide,by decide⟩ _).mono ?_;rw [t2,t3];rintro e w2 ⟨rfl,b2⟩;obtain ⟨hc,hf⟩:=b2.cells;have hz:=b2.size;simp only[World.size_alloc]at hz;go_wp2_with fail;obtain ⟨W3,hW3⟩:∃W3,W3=(((w2.setCell ⟨w1.heap.size,0,none⟩ (.int .i64 1)).setCell ⟨w1.heap.size,1,none⟩ (.int .i64 1)).setCell ⟨w1.heap.size,2,none⟩ (.int .i64 b)).setCell ⟨w1.heap.size,3,none⟩ (.int .i64 n):=⟨_,rfl⟩;rw [←hW3];have E3:Ext w W3:=by
  rw [hW3];have z1:=b1.size
  repeat (refine Ext.setCell ?_ (by simp at z1⊢;omega) _)
  exact (b1.alloc _).trans b2
 have H3:Has W3 w1.heap.size (.cells #[.int .i64 1,.int .i64 1,.int .i64 b,.int .i64 n] 189):=by
  rw [hW3];have:=((((((Has.new w1 (.cells #[.int .i64 0,.int .i64 0,.int .i64 b,.int .i64 n] 189)).ext b2).setCell 0 (.int .i64 1)).setCell 1 (.int .i64 1)).setCell 2 (.int .i64 b)).setCell 3 (.int .i64 n));exact this
 clear hW3 hc hf;have q0:W3.cell? ⟨w1.heap.size,0,none⟩=some (.int .i64 1):=H3.cell 0;have q1:W3.cell? ⟨w1.heap.size,1,none⟩=some (.int .i64 1):=H3.cell 1;have q2:W3.cell? ⟨w1.heap.size,2,none⟩=some (.int .i64 b):=H3.cell 2;have q3:W3.cell? ⟨w1.heap.size,3,none⟩=some (.int .i64 n):=H3.cell 3;have v1:W3.cell? ⟨bW,1,none⟩=some (.slice A S.devs.length c):=(hW.ext E3).cell 1;have f1:W3.frozen? ⟨bW,1,none⟩=false:=(hW.ext E3).free 1;have z3:=(hW.ext E3).lt;obtain ⟨i0,hi,hz0,hz1,hz2⟩:=info_parts infoDev;have hD3:W3.ownsRow B 205 6 (.slice A S.devs.length c) S.devs.length (devCells S.devs):=ownsRow_only hD (Only.of_ext (L:=[]) E3) (by simp);have hag:(Value.slice A S.devs.length c).ownBlock≠some bW:=row_ne hD3 (hW.ext E3) (by decide);have hBW:B≤W3.heap.size:=by omega
 go_region_law (first|(refine step_append_lies _ (by rfl) _ _ _ (by rfl) B 205 i0 _ 6 48 Tryz.underlying104 hi hz0 hz1 hz2 rfl (by omega) _ S.devs.length (devCells S.devs) (by rfl) ((hD3.alloc _).drew) ⟨W3.heap.size,0,none⟩ 1 1 (devCells [⟨0,over,⟨1,1,b,n⟩⟩]) (by rfl) (by rfl) (World.news_of_block (cs:=#[.int .i64 0,.int .i64 over,.int .i64 1,.int .i64 1,.int .i64 b,.int .i64 n]) (t:=205) (fr:=(0,0)) (heap_alloc_new W3 _)) (devCells_one _) (by omega) (by unfold maxLen;omega) (by omega) (by simp;omega) (W3.heap.size+1) (by simp) ?_;intro gg cap w4 hown4 hgrow hat hlt;have v4:w4.cell? ⟨bW,1,none⟩=some (.slice A S.devs.length c):=((hgrow.cell_far ⟨bW,1,none⟩ (by simp;omega) (Ne.symm hag)).trans (((hW.ext E3).alloc _).cell 1));have f4:w4.frozen? ⟨bW,1,none⟩=false:=((hgrow.frozen_far ⟨bW,1,none⟩ (by simp;omega) (Ne.symm hag)).trans (((hW.ext E3).alloc _).free 1))))
 all_goals
  have O4:Only (Value.slice A S.devs.length c).ownBlock.toList w w4:=(Only.of_ext (E3.trans ((Ext.refl _).alloc _ |>.drew))).then (Only.grown hgrow);have H4:Has w4 bW (.cells #[.pointer (some ⟨bT,0,none⟩),.slice A S.devs.length c] 106):=O4.has hW (by simpa using fun e=>hag e);obtain ⟨W5,hW5⟩:∃W5,W5=w4.setCell ⟨bW,1,none⟩ (.slice (some ⟨gg,0,none⟩) (S.devs.length+1) cap):=⟨_,rfl⟩;rw [←hW5];have H5:Has W5 bW (.cells #[.pointer (some ⟨bT,0,none⟩),.slice (some ⟨gg,0,none⟩) (S.devs.length+1) cap] 106):=by rw[hW5];exact H4.setCell 1 _
  have hgb:gg≠bW:=fun e=>row_ne hown4 H4 (by decide) (by rw[e];rfl)
  have D5:W5.ownsRow B 205 6 (.slice (some ⟨gg,0,none⟩) (S.devs.length+1) cap) (S.devs.length+1) (devCells S.devs++devCells [⟨0,over,⟨1,1,b,n⟩⟩]):=by rw[hW5];exact ownsRow_only hown4 (Only.setCell w4 bW 1 _) (fun x hx=>by simp[Value.ownBlock]at hx;subst hx;simpa using hgb)
  obtain ⟨L,hL⟩:∃L,L=bW::(Value.slice A S.devs.length c).ownBlock.toList:=⟨_,rfl⟩;have O5:Only L w W5:=by rw[hW5,hL];exact (O4.mono (fun x hx=>List.mem_cons_of_mem _ hx)).then ((Only.setCell w4 bW 1 _).mono (by simp))
  have aL:Apart w B L:=by rw[hL];exact (Apart.row hD (by decide)).cons hb (hW.noTag (by decide))
  obtain ⟨tb1,tb2,tb3,es0,cl0,tb4,-⟩:=id hT;have nT:bT∉L:=by rw[hL];simp;exact⟨fun e=>has_ne hW tb3 (by decide) e.symm,fun e=>row_ne hD tb3 (by decide) e⟩
  have nM:bM∉L:=by rw[hL];simp;exact⟨fun e=>has_neM hW tb4 e.symm,fun e=>row_neM hD tb4 e⟩
  have T5:TAt W5 B bT bM S.nodes S.last:=hT.only O5 aL nT nM;clear hW5 v4 f4 hgrow hown4;have v0:W5.cell? ⟨bW,0,none⟩=some (.pointer (some ⟨bT,0,none⟩)):=H5.cell 0;have v5:W5.cell? ⟨bW,1,none⟩=some (.slice (some ⟨gg,0,none⟩) (S.devs.length+1) cap):=H5.cell 1;have z5:=H5.lt;go_wp2_with fail;refine (tadd_any B bT bM S.nodes S.last ⟨0,(S.devs.length:Int)+1,1,493,0,0,0,0,1,0,[],[]⟩ none 0 W5 T5 hu hl0 hl1 ⟨.nil _ _ _,Nat.le_refl _,Nat.zero_le _,fun _=>rfl⟩).mono ?_;rintro e w6 ⟨rfl,T6,O6⟩;obtain ⟨n1,hn1⟩:∃n1:NodeD,n1=⟨S.last+1,(S.devs.length:Int)+1,1,493,0,0,0,0,1,0,[],[]⟩:=⟨_,rfl⟩;have nW:bW∉[bT,bM]:=by simp;exact⟨has_ne hW tb3 (by decide),has_neM hW tb4⟩
  have nG:∀x,(Value.slice (some ⟨gg,0,none⟩) (S.devs.length+1) cap).ownBlock=some x→x∉[bT,bM]:=fun x hx=>by
   obtain ⟨_,_,k3,_,_,k4,_⟩:=T5;simp;exact ⟨fun e=>row_ne D5 k3 (by decide) (by rw[hx,e]),fun e=>row_neM D5 k4 (by rw[hx,e])⟩
  have H6:=O6.has H5 nW;have D6:=ownsRow_only D5 O6 nG;have T6':TAt w6 B bT bM (S.nodes++[n1]) (S.last+1):=by rw[hn1];exact T6
  have u6:NosUp (S.nodes++[n1]) (S.last+1):=hu.add n1 (by rw[hn1]) hl0;obtain ⟨g1,g2⟩:=getN_last hu n1 (by rw[hn1]);clear T6 v0 v5 z5;have v0:w6.cell? ⟨bW,0,none⟩=some (.pointer (some ⟨bT,0,none⟩)):=H6.cell 0;have z6:=H6.lt;have G1:=zH g1;have G2:=zH g2;have N1:=zH hn1;clear g1 g2 hn1;go_wp2_with fail;refine (tget_any B bT bM _ _ (S.last+1) w6 T6').mono ?_;rintro e w7 ⟨A7,c7,rfl,ok7,E7⟩;rw [G1.out]at ok7⊢;rw [G2.out];have v7:w7.cell? ⟨bW,0,none⟩=some (.pointer (some ⟨bT,0,none⟩)):=(H6.ext E7).cell 0;have z7:=(H6.ext E7).lt;clear v0;go_wp2_with fail;obtain ⟨n2,hn2⟩:∃n2:NodeD,n2={n1 with up:=S.last+1}:=⟨_,rfl⟩;obtain ⟨W8,hW8⟩:∃W8,W8=w7.alloc (.cells #[.int .i64 n2.no,.int .i64 n2.dev,.int .i64 n2.kind,.int .i64 n2.mode,.int .i64 n2.uid,.int .i64 n2.gid,.int .i64 n2.mtime,.int .i64 n2.ctime,.int .i64 n2.links,.int .i64 n2.up,.string (bs n2.data),.slice A7 n2.ents.length c7] 66):=⟨_,rfl⟩;have hW9:=hW8;rw [hn2]at hW9;rw [←hW9];have E8:Ext w7 W8:=by rw[hW8];exact (Ext.refl _).alloc _
  have B8:Has W8 w7.heap.size (.cells #[.int .i64 n2.no,.int .i64 n2.dev,.int .i64 n2.kind,.int .i64 n2.mode,.int .i64 n2.uid,.int .i64 n2.gid,.int .i64 n2.mtime,.int .i64 n2.ctime,.int .i64 n2.links,.int .i64 n2.up,.string (bs n2.data),.slice A7 n2.ents.length c7] 66):=by rw[hW8];exact Has.new _ _
  have ok8:NodeOk W8 B n2 A7 c7:=(ok7.ext E8).same (by rw[hn2]);have T8:=T6'.ext (E7.trans E8);have H8:=(H6.ext E7).ext E8;obtain ⟨x0,x1,x2,x3,x4,x5,x6,x7,x8,x9,x10,x11⟩:=B8.node12;have xz:=B8.lt;have v8:W8.cell? ⟨bW,0,none⟩=some (.pointer (some ⟨bT,0,none⟩)):=H8.cell 0;have z8:=H8.lt;have hs2:setN (S.nodes++[n1]) n2=S.nodes++[n2]:=setN_last hu n1 n2 (by rw[N1.out]) (by rw[hn2,N1.out]);have hr2:n2=rootNode S:=by rw[hn2,N1.out];rfl
  have HS:=zH hs2;have HR:=zH hr2;clear hW8 hW9 hn2 v7 hs2 hr2 q0 q1 q2 q3 v1 f1;go_still_tail 5,(by kernel_rfl);change wpList _ _ _ _ _ W8.drew;go_wp2_with fail;refine (tset_any B bT bM (S.nodes++[n1]) (S.last+1) n2 A7 c7 W8.drew (T8.ext ((Ext.refl _).drew)) u6 (ok8.ext ((Ext.refl _).drew))).mono ?_;rintro e w9 ⟨rfl,T9,O9⟩;have H9:=O9.has (H8.ext ((Ext.refl _).drew)) nW;have D9:=ownsRow_only (ownsRow_only D6 (Only.of_ext (L:=[]) ((E7.trans E8).drew)) (by simp)) O9 nG;have v9:w9.cell? ⟨bW,1,none⟩=some (.slice (some ⟨gg,0,none⟩) (S.devs.length+1) cap):=H9.cell 1;have z9:=H9.lt;have dc:=D9.cellAt (S.devs.length*6) (by omega);rw [List.getElem?_append_right (by rw[devCells_len];exact Nat.le_refl _),devCells_len,Nat.sub_self]at dc;have dc2:w9.cell? ⟨gg,S.devs.length*6,none⟩=some (.int .i64 0):=dc;have df:=D9.frozenAt (S.devs.length*6);have y1:(0:Int)≤(S.devs.length:Int):=Int.natCast_nonneg _;have y2:((S.devs.length:Int)+1-1)=S.devs.length:=by omega
  clear dc x0 x1 x2 x3 x4 x5 x6 x7 x8 x9 x10 x11 v8;go_wp2_with fail;go_ret;have oS:=Only.setCell w9 gg (S.devs.length*6) (.int .i64 (S.last+1));have aG:Apart w9 B [gg]:=(Apart.row D9 (by decide)).sub (by simp[Value.ownBlock]);have hO:Only (bW::bT::bM::(Value.slice A S.devs.length c).ownBlock.toList) w w9:=by
   rw [hL]at O5;exact (((O5.mono (by intro x hx;simp at hx⊢;rcases hx with h|h;exact .inl h;exact .inr (.inr (.inr h)))).then (O6.mono (by intro x hx;simp at hx⊢;rcases hx with h|h;exact .inr (.inl h);exact .inr (.inr (.inl h))))).ext ((E7.trans E8).drew)).then (O9.mono (by intro x hx;simp at hx⊢;rcases hx with h|h;exact .inr (.inl h);exact .inr (.inr (.inl h))))
  have hfresh:(Value.slice A S.devs.length c).ownBlock=some gg∨w.heap.size≤gg:=by
   rcases hat with h|h
   ·exact .inl h
   ·exact .inr (by have:=E3.size;omega)
  refine ⟨rfl,gg,⟨hb,?_,cap,?_,?_⟩,?_,hfresh⟩
  ·rw [HS.out,HR.out]at T9
   exact T9.only oS aG (by have:=nG gg rfl;simp at this⊢;exact fun e=>this.1 e.symm) (by have:=nG gg rfl;simp at this⊢;exact fun e=>this.2 e.symm)
  ·have:=oS.has H9 (by simpa using hgb.symm)
   simpa [rootT]using this
  ·have:=(D9.stored (S.devs.length*6) (.int .i64 (S.last+1))).1
   rw [devCells_root]at this;unfold RowD rootT;simpa using this
  ·exact hO.trans oS fun x hx=>by
    rw [List.mem_singleton]at hx;subst hx;rcases hfresh with h|h
    ·exact .inl (by simp[h])
    ·exact .inr h
theorem padd_no (bW:Nat) (over b n:Int) (w:World) (hl:limitsF b n=false):Calls Tryz.prog 154 #[.pointer (some ⟨bW,0,none⟩),.int .i64 over,.int .i64 b,.int .i64 n] w (Ret w (.int .i64 3)):=by
 go_enter Tryz.func154,Tryz.ntmps154;go_wp2_with fail;refine (qnew_no b n hl _).mono ?_;rintro e w1 ⟨rfl,b1⟩;go_wp2_with fail;go_ret;exact Ret.mk rfl (b1.alloc _)
def emptyT:TreeD:=⟨[],[],0⟩
def NewR (w:World) (B:Nat) (b n:Int) (e:Ending) (w':World):Prop:=
 ∃ g,e=.returned (.tuple #[.pointer (some ⟨g.bW,0,none⟩),.int .i64 0])∧WAt w' B g (rootT emptyT 0 b n)∧Ext w w'
theorem pnew_any (B:Nat) (b n:Int) (w:World) (hB:B≤w.heap.size) (hl:limitsF b n=true):Calls Tryz.prog 109 #[.int .i64 b,.int .i64 n] w (NewR w B b n):=by
 go_enter Tryz.func109,Tryz.ntmps109;go_wp2_with fail;refine (tnew_any B _ hB).mono ?_;rintro e w1 ⟨bT,bM,rfl,T1,b1,k1,k2⟩;have hz:=b1.size;have lT:=T1.2.2.1.lt;go_wp2_with fail;refine (padd_core B w1.heap.size bT bM (.slice none 0 0) emptyT 0 b n _ hl (by omega) (T1.ext ((Ext.refl _).alloc _)) (Has.new w1 _) (World.ownsRow_nil _ _ _ _) ⟨none,0,rfl⟩ (by decide) (NosUp.nil 0) (by decide) (by decide)).mono ?_;rintro e w2 ⟨rfl,bD,W2,O2,h2⟩;go_wp2_with fail;go_ret2;refine ⟨⟨_,bT,bM,bD⟩,rfl,W2,O2.after (b1.alloc _) ?_⟩;intro x hx;simp [Value.ownBlock]at hx;rcases hx with rfl|rfl|rfl<;>omega
def MountR (w:World) (B:Nat) (g:GhW) (S:TreeD) (at_ b n:Int) (e:Ending) (w':World):Prop:=
 e = .returned (.tuple #[.int .i64 (mountN S at_ b n),.int .i64 (mountE S at_ b n)])∧∃bD,WAt w' B ⟨g.bW,g.bT,g.bM,bD⟩ (mountT S at_ b n)∧Only g.list w w'∧(bD=g.bD∨w.heap.size≤bD)
theorem mountR_same {w w':World} {B:Nat} {g:GhW} {S:TreeD} {at_ b n x:Int} (h:WAt w B g S) (hE:Ext w w') (hx:mountE S at_ b n=x) (h0:x≠0):MountR w B g S at_ b n (.returned (.tuple #[.int .i64 0,.int .i64 x])) w':=by
 refine ⟨?_,g.bD,?_,Only.of_ext hE,.inl rfl⟩
 ·unfold mountN;rw[hx,if_neg h0]
 ·unfold mountT;rw[hx,if_neg h0];exact h.ext hE
theorem rootT_rootF (S:TreeD) (over b n:Int):rootF (rootT S over b n).devs ((S.devs.length:Int)+1)=S.last+1:=by
 unfold rootF hasD devN rootT;simp;intro h;omega
theorem pmount_any (B:Nat) (g:GhW) (S:TreeD) (at_ b n:Int) (w:World) (h:WAt w B g S) (hd:0<S.devs.length) (hd2:S.devs.length≤8) (hu:NosUp S.nodes S.last) (hl0:0≤S.last) (hl1:S.last≤1000000) :
  Calls Tryz.prog 112 #[.pointer (some ⟨g.bW,0,none⟩),.int .i64 at_,.int .i64 b,.int .i64 n] w (MountR w B g S at_ b n):=by
 have h0:=h;obtain ⟨h1,h2,cd,h3,h4⟩:=h;have hin:∀w1,Ext w w1→w1.cell? ⟨g.bW,0,none⟩=some (.pointer (some ⟨g.bT,0,none⟩))∧w1.cell? ⟨g.bW,1,none⟩=some (.slice (some ⟨g.bD,0,none⟩) S.devs.length cd)∧g.bW<w1.heap.size:=fun w1 b1=>⟨(h3.ext b1).cell 0,(h3.ext b1).cell 1,(h3.ext b1).lt⟩
 have HI:=zH hin;clear hin;go_enter Tryz.func112,Tryz.ntmps112;go_wp2_with fail;refine (pnone_any B g S _ h0 hd).mono ?_;rintro e w1 ⟨rfl,b1⟩;obtain ⟨c0,c1,cz⟩:=HI.out w1 b1;go_wp2_with fail;refine (tget_any B g.bT g.bM S.nodes S.last at_ _ (h2.ext b1)).mono ?_;rintro e w2 ⟨A2,k2,rfl,ok2,b2⟩
 cases hi:isN S.nodes at_
 ·have hE:mountE S at_ b n=5:=by unfold mountE;rw[if_pos hi]
  have HE:=zH hE;clear hi hE c0 c1;go_wp2_with fail;go_ret2;exact mountR_same h0 ((b1.trans b2).alloc _) HE.out (by decide)
 ·obtain ⟨m, hm⟩:∃m,m=getN S.nodes at_:=⟨_,rfl⟩
  rw [←hm]at ok2⊢
  by_cases hk:m.kind=1
  ·have hk1 : (m.kind == 1)=true:=by simpa using hk
   have hk2:(m.kind != 1)=false:=by simpa using hk
   have e0:mountE S at_ b n=if overF S.devs at_≠at_∨rootF S.devs m.dev=at_ then 16 else if 8≤S.devs.length∨limitsF b n=false then 3 else 0:=by
    unfold mountE;rw[if_neg (by rw[hi];decide),←hm,if_neg (by rw[hk];decide)]
   by_cases ho:overF S.devs at_=at_
   ·have ho1 : (overF S.devs at_ == at_)=true:=by simpa using ho
    have ho2:(overF S.devs at_ != at_)=false:=by simpa using ho
    by_cases hr:rootF S.devs m.dev=at_
    ·have hE:mountE S at_ b n=16:=by rw[e0,if_pos (.inr hr)]
     have HE:=zH hE;have hr1:(rootF S.devs m.dev == at_)=true:=by simpa using hr
     clear hi hE hm hk ho hr e0;have W3:=h0.ext ((b1.trans b2).alloc (.cells #[.int .i64 m.no,.int .i64 m.dev,.int .i64 m.kind,.int .i64 m.mode,.int .i64 m.uid,.int .i64 m.gid,.int .i64 m.mtime,.int .i64 m.ctime,.int .i64 m.links,.int .i64 m.up,.string (bs m.data),.slice A2 m.ents.length k2] 66));go_wp2_with fail;refine (pover_any B g S at_ _ W3 hd (by omega)).mono ?_;rintro e w3 ⟨rfl,b3⟩;obtain ⟨hc,hf⟩:=b3.cells;have hz:w2.heap.size<w3.heap.size:=by have:=b3.size;simp at this;omega
     go_wp2_with fail;refine (proot_any B g S m.dev _ (W3.ext b3) hd (by omega)).mono ?_;rintro e w4 ⟨rfl,b4⟩;go_wp2_with fail;go_ret2;exact mountR_same h0 ((((b1.trans b2).alloc _).trans b3).trans b4) HE.out (by decide)
    ·have hr1:(rootF S.devs m.dev == at_)=false:=by simpa using hr
     rw [if_neg (fun h=>by rcases h with h|h;exact h ho;exact hr h)]at e0
     by_cases h8:8≤S.devs.length
     ·have hE:mountE S at_ b n=3:=by rw[e0,if_pos (.inl h8)]
      have HE:=zH hE;have h81:(8:Int)≤(S.devs.length:Int):=by omega
      clear hi hE hm hk ho hr e0;have W3:=h0.ext ((b1.trans b2).alloc (.cells #[.int .i64 m.no,.int .i64 m.dev,.int .i64 m.kind,.int .i64 m.mode,.int .i64 m.uid,.int .i64 m.gid,.int .i64 m.mtime,.int .i64 m.ctime,.int .i64 m.links,.int .i64 m.up,.string (bs m.data),.slice A2 m.ents.length k2] 66));go_wp2_with fail;refine (pover_any B g S at_ _ W3 hd (by omega)).mono ?_;rintro e w3 ⟨rfl,b3⟩;obtain ⟨hc,hf⟩:=b3.cells;have hz:w2.heap.size<w3.heap.size:=by have:=b3.size;simp at this;omega
      go_wp2_with fail;refine (proot_any B g S m.dev _ (W3.ext b3) hd (by omega)).mono ?_;rintro e w4 ⟨rfl,b4⟩;have E4:=(((b1.trans b2).alloc (.cells #[.int .i64 m.no,.int .i64 m.dev,.int .i64 m.kind,.int .i64 m.mode,.int .i64 m.uid,.int .i64 m.gid,.int .i64 m.mtime,.int .i64 m.ctime,.int .i64 m.links,.int .i64 m.up,.string (bs m.data),.slice A2 m.ents.length k2] 66)).trans b3).trans b4;obtain ⟨-,c4,z4⟩:=HI.out w4 E4;clear hc hf;go_wp2_with fail;go_ret2;exact mountR_same h0 E4 HE.out (by decide)
     ·have h81:(S.devs.length:Int)<8:=by omega
      cases hlim:limitsF b n
      ·have hE:mountE S at_ b n=3:=by rw[e0,if_pos (.inr hlim)]
       have HE:=zH hE;clear hi hE hm hk ho hr e0 h8;have W3:=h0.ext ((b1.trans b2).alloc (.cells #[.int .i64 m.no,.int .i64 m.dev,.int .i64 m.kind,.int .i64 m.mode,.int .i64 m.uid,.int .i64 m.gid,.int .i64 m.mtime,.int .i64 m.ctime,.int .i64 m.links,.int .i64 m.up,.string (bs m.data),.slice A2 m.ents.length k2] 66));have HL:=zH hlim;clear hlim;go_wp2_with fail;refine (pover_any B g S at_ _ W3 hd (by omega)).mono ?_;rintro e w3 ⟨rfl,b3⟩;obtain ⟨hc,hf⟩:=b3.cells;have hz:w2.heap.size<w3.heap.size:=by have:=b3.size;simp at this;omega
       go_wp2_with fail;refine (proot_any B g S m.dev _ (W3.ext b3) hd (by omega)).mono ?_;rintro e w4 ⟨rfl,b4⟩;have E4:=(((b1.trans b2).alloc (.cells #[.int .i64 m.no,.int .i64 m.dev,.int .i64 m.kind,.int .i64 m.mode,.int .i64 m.uid,.int .i64 m.gid,.int .i64 m.mtime,.int .i64 m.ctime,.int .i64 m.links,.int .i64 m.up,.string (bs m.data),.slice A2 m.ents.length k2] 66)).trans b3).trans b4;obtain ⟨-,c4,z4⟩:=HI.out w4 E4;clear hc hf;go_wp2_with fail;refine (padd_no g.bW at_ b n _ HL.out).mono ?_;rintro e w5 ⟨rfl,b5⟩;go_wp2_with fail;go_ret2;exact mountR_same h0 (E4.trans b5) HE.out (by decide)
      ·have hE:mountE S at_ b n=0:=by rw[e0,if_neg (fun h=>by rcases h with h|h;exact h8 h;rw[hlim]at h;cases h)]
       have HE:=zH hE;clear hi hE hm hk ho hr e0 h8;have W3:=h0.ext ((b1.trans b2).alloc (.cells #[.int .i64 m.no,.int .i64 m.dev,.int .i64 m.kind,.int .i64 m.mode,.int .i64 m.uid,.int .i64 m.gid,.int .i64 m.mtime,.int .i64 m.ctime,.int .i64 m.links,.int .i64 m.up,.string (bs m.data),.slice A2 m.ents.length k2] 66));have HL:=zH hlim;clear hlim;go_wp2_with fail;refine (pover_any B g S at_ _ W3 hd (by omega)).mono ?_;rintro e w3 ⟨rfl,b3⟩;obtain ⟨hc,hf⟩:=b3.cells;have hz:w2.heap.size<w3.heap.size:=by have:=b3.size;simp at this;omega
       go_wp2_with fail;refine (proot_any B g S m.dev _ (W3.ext b3) hd (by omega)).mono ?_;rintro e w4 ⟨rfl,b4⟩;have E4:=(((b1.trans b2).alloc (.cells #[.int .i64 m.no,.int .i64 m.dev,.int .i64 m.kind,.int .i64 m.mode,.int .i64 m.uid,.int .i64 m.gid,.int .i64 m.mtime,.int .i64 m.ctime,.int .i64 m.links,.int .i64 m.up,.string (bs m.data),.slice A2 m.ents.length k2] 66)).trans b3).trans b4;obtain ⟨-,c4,z4⟩:=HI.out w4 E4;clear hc hf;go_wp2_with fail;refine (padd_core B g.bW g.bT g.bM (.slice (some ⟨g.bD,0,none⟩) S.devs.length cd) S at_ b n _ HL.out h1 (h2.ext E4) (h3.ext E4) (ownsRow_only h4 (Only.of_ext (L:=[]) E4) (by simp)) ⟨_,_,rfl⟩ (by omega) hu hl0 hl1).mono ?_;rintro e w5 ⟨rfl,bD,W5,O5,h5⟩;have hr5:=rootT_rootF S at_ b n;have l5:(rootT S at_ b n).devs.length=S.devs.length+1:=by simp[rootT]
       obtain ⟨k1,k2,cd5,k3,k4⟩:=id W5;rw [l5]at k3;have c5:w5.cell? ⟨g.bW,1,none⟩=some (.slice (some ⟨bD,0,none⟩) (S.devs.length+1) cd5):=k3.cell 1;have z5:=k3.lt;have HR:=zH hr5;have HL5:=zH l5;clear hr5 l5 k4 c4;go_wp2_with fail;refine (proot_any B ⟨g.bW,g.bT,g.bM,bD⟩ (rootT S at_ b n) ((S.devs.length:Int)+1) _ W5 (by rw[HL5.out];omega) (by rw[HL5.out];omega)).mono ?_;rw [HR.out];rintro e w6 ⟨rfl,b6⟩;go_wp2_with fail;go_ret2;refine ⟨?_,bD,?_,?_,?_⟩
       ·unfold mountN;rw[HE.out];rfl
       ·unfold mountT;rw[HE.out];exact W5.ext b6
       ·exact (Only.pre E4 (O5.mono (by intro x hx;simp[Value.ownBlock]at hx⊢;exact hx))).ext b6
       ·rcases h5 with h5|h5
        ·exact .inl (by simpa [Value.ownBlock]using h5.symm)
        ·exact .inr (by have:=E4.size;omega)
   ·have hE:mountE S at_ b n=16:=by rw[e0,if_pos (.inl ho)]
    have HE:=zH hE;have ho1:(overF S.devs at_ == at_)=false:=by simpa using ho
    have ho2:(overF S.devs at_ != at_)=true:=by simpa using ho
    clear hi hE hm hk ho e0;have W3:=h0.ext ((b1.trans b2).alloc (.cells #[.int .i64 m.no,.int .i64 m.dev,.int .i64 m.kind,.int .i64 m.mode,.int .i64 m.uid,.int .i64 m.gid,.int .i64 m.mtime,.int .i64 m.ctime,.int .i64 m.links,.int .i64 m.up,.string (bs m.data),.slice A2 m.ents.length k2] 66));go_wp2_with fail;refine (pover_any B g S at_ _ W3 hd (by omega)).mono ?_;rintro e w3 ⟨rfl,b3⟩;go_wp2_with fail;go_ret2;exact mountR_same h0 (((b1.trans b2).alloc _).trans b3) HE.out (by decide)
  ·have hE:mountE S at_ b n=9:=by unfold mountE;rw[if_neg (by rw[hi];decide),if_pos (by rw[←hm];exact hk)]
   have HE:=zH hE;have hkb:(m.kind == 1)=false:=by simpa using hk
   have hkb2:(m.kind != 1)=true:=by simpa using hk
   clear hi hE c0 c1 hm hk;go_wp2_with fail;go_ret2;exact mountR_same h0 ((b1.trans b2).alloc _) HE.out (by decide)
def MakeR (w:World) (B:Nat) (g:GhW) (S:TreeD) (n:NodeD) (e:Ending) (w':World):Prop:=
 e = .returned (.tuple #[.int .i64 (makeN S n),.int .i64 (makeE S n)])∧WAt w' B g (makeT S n)∧Only g.list w w'
theorem makeR_same {w w':World} {B:Nat} {g:GhW} {S:TreeD} {n:NodeD} {x:Int} (h:WAt w B g S) (hE:Ext w w') (hx:makeE S n=x) (h0:x≠0):MakeR w B g S n (.returned (.tuple #[.int .i64 0,.int .i64 x])) w':=by
 refine ⟨?_,?_,Only.of_ext hE⟩
 ·unfold makeN;rw[hx,if_neg h0]
 ·unfold makeT;rw[hx,if_neg h0];exact h.ext hE
theorem blocks_bd {k s:Int} (h0:0≤s) (h1:s≤1000000000):0≤blocksF k s∧blocksF k s≤2000000:=by
 unfold blocksF;split
 ·omega
 ·split<;>omega
theorem rootF_zero {ds:List DevD} (hr:RootsOk ds) (d:Int):(rootF ds d=0∧hasD ds d=false)∨(∃k:Nat,∃hk:k<ds.length,d=k+1∧hasD ds d=true∧devN ds d=ds[k]∧rootF ds d=ds[k].root∧0<ds[k].root∧Fine ds[k].q):=by
 cases hd:hasD ds d
 ·left;exact⟨by unfold rootF;rw[hd];rfl,rfl⟩
 ·right
  have h2:1≤d∧d≤ds.length:=by unfold hasD at hd;simpa using hd
  have hk:(d-1).toNat<ds.length:=by omega
  have e:devN ds d=ds[(d-1).toNat]:=by unfold devN;rw[List.getD_eq_getElem?_getD,List.getElem?_eq_getElem hk];rfl
  have:=hr _ (List.getElem_mem hk);exact ⟨(d-1).toNat,hk,by omega,rfl,e,by unfold rootF;rw[hd,e];rfl,this.1,this.2⟩
theorem devCells_split (ds:List DevD) (k:Nat) (hk:k<ds.length):devCells ds=devCells (ds.take k)++([.int .i64 (ds[k]).root,.int .i64 (ds[k]).over,.int .i64 (ds[k]).q.blocks,.int .i64 (ds[k]).q.nodes,.int .i64 (ds[k]).q.mostB,.int .i64 (ds[k]).q.mostN]++devCells (ds.drop (k+1))):=by
 conv=>lhs;rw[←List.take_append_drop k ds,List.drop_eq_getElem_cons hk,devCells_append]
 rfl
theorem devCells_setQ (ds:List DevD) (k:Nat) (hk:k<ds.length) (q:SpaceD) :
  ((((devCells ds).set (k*6+2) (.int .i64 q.blocks)).set (k*6+3) (.int .i64 q.nodes)).set (k*6+4) (.int .i64 q.mostB)).set (k*6+5) (.int .i64 q.mostN)=devCells (setQ ds ((k:Int)+1) q):=by
 have hl:(devCells (ds.take k)).length=k*6:=by rw[devCells_len,List.length_take];omega
 have e:setQ ds ((k:Int)+1) q=ds.take k++({ds[k]with q:=q}::ds.drop (k+1)):=by
  unfold setQ;rw [show ((k:Int)+1-1).toNat=k by omega];rw [List.modify_eq_take_cons_drop hk]
 rw [e,devCells_append,devCells_split ds k hk];rw [List.set_append_right _ _ (by omega),List.set_append_right _ _ (by omega),List.set_append_right _ _ (by omega),List.set_append_right _ _ (by omega),hl];rw [show k*6+2-k*6=2 by omega,show k*6+3-k*6=3 by omega,show k*6+4-k*6=4 by omega,show k*6+5-k*6=5 by omega];rfl
theorem setQ_len (ds:List DevD) (d:Int) (q:SpaceD):(setQ ds d q).length=ds.length:=by simp[setQ]
theorem ext_alloc_drew (w:World) (o:Obj):Ext w.drew (w.alloc o).drew:=(Ext.refl w.drew).alloc o
theorem keepMk {V w':World} {b1 b2 b3 o1 o2 o3 o4:Nat} {C1 C2:Array Value} {v1 v2 v3 v4:Value} (hb:Ext V w') (h:b1<V.heap.size∧b2<V.heap.size∧b3<V.heap.size)
  (k:(∀i,V.cell? ⟨b1,i,none⟩=C1[i]?)∧(∀i,V.cell? ⟨b2,i,none⟩=C2[i]?)∧V.cell? ⟨b3,o1,none⟩=some v1∧V.cell? ⟨b3,o2,none⟩=some v2∧V.cell? ⟨b3,o3,none⟩=some v3∧V.cell? ⟨b3,o4,none⟩=some v4) :
  Ext V w'∧(∀i,w'.cell? ⟨b1,i,none⟩=C1[i]?)∧(∀i,w'.cell? ⟨b2,i,none⟩=C2[i]?)∧w'.cell? ⟨b3,o1,none⟩=some v1∧w'.cell? ⟨b3,o2,none⟩=some v2∧w'.cell? ⟨b3,o3,none⟩=some v3∧w'.cell? ⟨b3,o4,none⟩=some v4:=by
 obtain ⟨k1,k2,k3,k4,k5,k6⟩:=k;refine ⟨hb,fun i=>?_,fun i=>?_,?_,?_,?_,?_⟩
 ·rw[hb.cell h.1];exact k1 i
 ·rw[hb.cell h.2.1];exact k2 i
 all_goals (rw[hb.cell h.2.2];assumption)
theorem pmake_any (B:Nat) (g:GhW) (S:TreeD) (n:NodeD) (A:Option Addr) (c:Nat) (w:World) (h:WAt w B g S) (hn:NodeOk w B n A c) (hr:RootsOk S.devs) (hd:0<S.devs.length) (hd2:S.devs.length≤8) (hu:NosUp S.nodes S.last) (hl0:0≤S.last) (hl1:S.last≤1000000) (hdl:n.data.length≤1000000000) :
    Calls Tryz.prog 208 #[.pointer (some ⟨g.bW,0,none⟩),.agg #[.int .i64 n.no,.int .i64 n.dev,.int .i64 n.kind,.int .i64 n.mode,.int .i64 n.uid,.int .i64 n.gid,.int .i64 n.mtime,.int .i64 n.ctime,.int .i64 n.links,.int .i64 n.up,.string (bs n.data),.slice A n.ents.length c]] w (MakeR w B g S n):=by
  have h0:=h
  obtain ⟨h1,h2,cd,h3,h4⟩:=h
  obtain ⟨W1,hW1⟩:∃W1,W1=w.alloc (.cells #[.int .i64 n.no,.int .i64 n.dev,.int .i64 n.kind,.int .i64 n.mode,.int .i64 n.uid,.int .i64 n.gid,.int .i64 n.mtime,.int .i64 n.ctime,.int .i64 n.links,.int .i64 n.up,.string (bs n.data),.slice A n.ents.length c] 66):=⟨_,rfl⟩
  have E1:Ext w W1:=by rw[hW1];exact (Ext.refl _).alloc _
  have B1:Has W1 w.heap.size (.cells #[.int .i64 n.no,.int .i64 n.dev,.int .i64 n.kind,.int .i64 n.mode,.int .i64 n.uid,.int .i64 n.gid,.int .i64 n.mtime,.int .i64 n.ctime,.int .i64 n.links,.int .i64 n.up,.string (bs n.data),.slice A n.ents.length c] 66):=by rw[hW1];exact Has.new _ _
  rcases rootF_zero hr n.dev with⟨e1,e2⟩|⟨k,hk,e1,e2,e3,e4,e5,e6⟩
  · have HE:Hid (makeE S n=1):=by show _=_;unfold makeE;rw[if_pos e1]
    have e1b:(rootF S.devs n.dev == 0)=true:=by rw[e1];rfl
    clear e1 e2
    go_enter Tryz.func208,Tryz.ntmps208
    go_wp2_with fail
    rw [←hW1]
    refine (proot_any B g S n.dev _ (h0.ext E1) hd (by omega)).mono ?_
    rintro e w2 ⟨rfl,b2⟩
    go_wp2_with fail
    go_ret2
    exact makeR_same h0 (E1.trans b2) HE.out (by decide)
  · have e0 : makeE S n=takeE S.devs[k].q (blocksF n.kind n.data.length) 1:=by unfold makeE;rw[if_neg (by rw[e4];omega),e3]
    have e1b:(rootF S.devs n.dev == 0)=false:=by rw[e4];simpa using (show ¬S.devs[k].root=0 by omega)
    obtain ⟨bl,hbl⟩:∃bl,bl=blocksF n.kind n.data.length:=⟨_,rfl⟩
    have hbb:=blocks_bd (k:=n.kind) (s:=n.data.length) (by omega) (by omega)
    rw [←hbl]at hbb e0
    obtain ⟨q,hq⟩:∃q,q=S.devs[k].q:=⟨_,rfl⟩
    rw [←hq]at e6 e0
    have inr:inR bl 1:=⟨by omega,by omega,by omega,by omega⟩
    obtain ⟨d0,d1,d2,d3,d4,d5⟩:=RowD.at_ h4 k hk
    rw [←hq]at d2 d3 d4 d5
    have HB:=zH hbl
    have HE0:=zH e0
    have HQ:=zH hq
    have H3:=zH e3
    have HD:=zH e1
    have hsz:((bs n.data).size:Int)=n.data.length:=by rw[bs_size]
    clear e0 hq e1 e3 e4 e2 hbl d0 d1
    go_enter Tryz.func208,Tryz.ntmps208
    go_wp2_with fail
    rw [←hW1]
    refine (proot_any B g S n.dev _ (h0.ext E1) hd (by omega)).mono ?_
    rintro e w2 ⟨rfl,b2⟩
    have E2:=E1.trans b2
    have x0:w2.cell? ⟨w.heap.size,0,none⟩=some (.int .i64 n.no):=(B1.ext b2).cell 0
    have x1:w2.cell? ⟨w.heap.size,1,none⟩=some (.int .i64 n.dev):=(B1.ext b2).cell 1
    have xz:=(B1.ext b2).lt
    go_wp2_with fail
    have y0:(0:Int)≤n.dev-1:=by rw[HD.out];omega
    have y1:n.dev-1<(S.devs.length:Int):=by rw[HD.out];omega
    have y2:(n.dev-1).toNat=k:=by rw[HD.out];omega
    have y3:IntKind.i64.wrap (n.dev-1)=n.dev-1:=wrap_i64_in (by omega) (by omega)
    have y4:1≤n.dev:=by omega
    have y5:n.dev.toNat-1=k:=by omega
    obtain ⟨V,hV⟩:∃V,V=w2.drew:=⟨_,rfl⟩
    have hl:=h0.lt
    have EV:Ext w V:=by rw[hV];exact E2.drew
    have zV:g.bW<V.heap.size∧w.heap.size<V.heap.size∧g.bD<V.heap.size:=⟨(h3.ext EV).lt,by rw[hV];exact xz,by have:=EV.size;omega⟩
    have S0:(∀i,V.cell? ⟨g.bW,i,none⟩=(#[.pointer (some ⟨g.bT,0,none⟩),.slice (some ⟨g.bD,0,none⟩) S.devs.length cd]:Array Value)[i]?)∧(∀i,V.cell? ⟨w.heap.size,i,none⟩=(#[.int .i64 n.no,.int .i64 n.dev,.int .i64 n.kind,.int .i64 n.mode,.int .i64 n.uid,.int .i64 n.gid,.int .i64 n.mtime,.int .i64 n.ctime,.int .i64 n.links,.int .i64 n.up,.string (bs n.data),.slice A n.ents.length c]:Array Value)[i]?)∧V.cell? ⟨g.bD,k*6+2,none⟩=some (.int .i64 q.blocks)∧V.cell? ⟨g.bD,k*6+3,none⟩=some (.int .i64 q.nodes)∧V.cell? ⟨g.bD,k*6+4,none⟩=some (.int .i64 q.mostB)∧V.cell? ⟨g.bD,k*6+5,none⟩=some (.int .i64 q.mostN):=by
      refine ⟨fun i=>(h3.ext EV).cell i,fun i=>(by rw[hV];exact (B1.ext b2).cell i),?_,?_,?_,?_⟩
      · exact (EV.cell hl.2.2.2).trans d2
      · exact (EV.cell hl.2.2.2).trans d3
      · exact (EV.cell hl.2.2.2).trans d4
      · exact (EV.cell hl.2.2.2).trans d5
    have HS0:=zH S0
    have HV:=zH hV
    have hVz:V.heap.size=w2.heap.size:=by rw[hV];rfl
    have HVz:=zH hVz
    have hzW:w2.heap.size≤w2.heap.size:=Nat.le_refl _
    clear d2 d3 d4 d5 x0 x1 S0 hV hVz
    go_region_held3 (fun w'=>Ext V w'∧(∀i,w'.cell? ⟨g.bW,i,none⟩=(#[.pointer (some ⟨g.bT,0,none⟩),.slice (some ⟨g.bD,0,none⟩) S.devs.length cd]:Array Value)[i]?)∧(∀i,w'.cell? ⟨w.heap.size,i,none⟩=(#[.int .i64 n.no,.int .i64 n.dev,.int .i64 n.kind,.int .i64 n.mode,.int .i64 n.uid,.int .i64 n.gid,.int .i64 n.mtime,.int .i64 n.ctime,.int .i64 n.links,.int .i64 n.up,.string (bs n.data),.slice A n.ents.length c]:Array Value)[i]?)∧w'.cell? ⟨g.bD,k*6+2,none⟩=some (.int .i64 q.blocks)∧w'.cell? ⟨g.bD,k*6+3,none⟩=some (.int .i64 q.nodes)∧w'.cell? ⟨g.bD,k*6+4,none⟩=some (.int .i64 q.mostB)∧w'.cell? ⟨g.bD,k*6+5,none⟩=some (.int .i64 q.mostN))
      ((first
        | exact keepMk (by rw[HV.out];exact Ext.refl _) zV HS0.out
        | exact keepMk (by rw[HV.out];exact (Ext.refl _).alloc _) zV HS0.out
        | exact keepMk (by rw[HV.out];exact hb') zV HS0.out
        | exact keepMk (by rw[HV.out];exact hb'.alloc _) zV HS0.out
        | exact keepMk (by rw[HV.out];exact (ext_alloc_drew _ _).trans hb') zV HS0.out
        | exact keepMk (by rw[HV.out];exact (((((ext_alloc_drew _ _).trans hb').setCell (Nat.le_refl _) _).setCell (Nat.le_refl _) _).setCell (Nat.le_refl _) _).setCell (Nat.le_refl _) _) zV HS0.out))
      ((first|(go_at_call 220;refine (pblocks_same n.kind n.data.length (by omega) (by omega) _).mono ?_;rw[←HB.out];rintro e w1 ⟨rfl,rfl⟩)|(go_at_call 183;refine (ptake_any q bl 1 e6 inr _).mono ?_;rintro e w1 ⟨rfl,hb'⟩;obtain⟨hc',hf'⟩:=hb'.cells;have hz':=hb'.size;(try simp only[World.size_alloc,Nat.add_one_le_iff]at hz'))))
    all_goals
      first
        | (obtain ⟨V2,hV2⟩:∃V2,V2=w1.alloc (.cells #[.int .i64 (takeQ q bl 1).blocks,.int .i64 (takeQ q bl 1).nodes,.int .i64 (takeQ q bl 1).mostB,.int .i64 (takeQ q bl 1).mostN] 189):=⟨_,rfl⟩
           rw [←hV2]
           have Z:Ext w2 V2:=by rw[hV2];exact ((Ext.refl w2).drew.trans hb').alloc _
           have X:Has V2 w1.heap.size (.cells #[.int .i64 (takeQ q bl 1).blocks,.int .i64 (takeQ q bl 1).nodes,.int .i64 (takeQ q bl 1).mostB,.int .i64 (takeQ q bl 1).mostN] 189):=by rw[hV2];exact Has.new _ _
           obtain ⟨bx,hbx⟩:∃bx,bx=w1.heap.size:=⟨_,rfl⟩
           rw [←hbx]at X⊢)
        | (obtain ⟨V2,hV2⟩:∃V2,V2=(((w1.setCell ⟨w2.heap.size,0,none⟩ (.int .i64 (takeQ q bl 1).blocks)).setCell ⟨w2.heap.size,1,none⟩ (.int .i64 (takeQ q bl 1).nodes)).setCell ⟨w2.heap.size,2,none⟩ (.int .i64 (takeQ q bl 1).mostB)).setCell ⟨w2.heap.size,3,none⟩ (.int .i64 (takeQ q bl 1).mostN):=⟨_,rfl⟩
           rw [←hV2]
           have Z:Ext w2 V2:=by rw[hV2];exact (Ext.refl w2).drew.trans (((((ext_alloc_drew _ _).trans hb').setCell (Nat.le_refl _) _).setCell (Nat.le_refl _) _).setCell (Nat.le_refl _) _ |>.setCell (Nat.le_refl _) _)
           have X:Has V2 w2.heap.size (.cells #[.int .i64 (takeQ q bl 1).blocks,.int .i64 (takeQ q bl 1).nodes,.int .i64 (takeQ q bl 1).mostB,.int .i64 (takeQ q bl 1).mostN] 189):=by
             rw [hV2]
             have t0:=(show Has (w2.alloc (.cells #[.int .i64 0,.int .i64 0,.int .i64 0,.int .i64 0] 189)).drew w2.heap.size _ from Has.new w2 _).ext hb'
             exact (((t0.setCell 0 _).setCell 1 _).setCell 2 _).setCell 3 _
           obtain ⟨bx,hbx⟩:∃bx,bx=w2.heap.size:=⟨_,rfl⟩
           rw [←hbx]at X⊢)
      clear hV2 hbx hc' hf' hz' hb'
      rename_i hHeld
      clear hHeld
      have Y:Ext w V2:=E2.trans Z
      have B2:=(B1.ext b2).ext Z
      have W2:=h0.ext Y
      by_cases hz:takeE q bl 1=0
      · have hzb:(takeE q bl 1 == 0)=true:=by rw[hz];rfl
        have hzb2:(takeE q bl 1 != 0)=false:=by rw[hz];rfl
        have HZ:=zH hz
        have cW:=(h3.ext Y).lt
        have c1:V2.cell? ⟨g.bW,1,none⟩=some (.slice (some ⟨g.bD,0,none⟩) S.devs.length cd):=(h3.ext Y).cell 1
        have x1:V2.cell? ⟨w.heap.size,1,none⟩=some (.int .i64 n.dev):=B2.cell 1
        have xz2:=B2.lt
        have q0:V2.cell? ⟨bx,0,none⟩=some (.int .i64 (takeQ q bl 1).blocks):=X.cell 0
        have q1:V2.cell? ⟨bx,1,none⟩=some (.int .i64 (takeQ q bl 1).nodes):=X.cell 1
        have q2:V2.cell? ⟨bx,2,none⟩=some (.int .i64 (takeQ q bl 1).mostB):=X.cell 2
        have q3:V2.cell? ⟨bx,3,none⟩=some (.int .i64 (takeQ q bl 1).mostN):=X.cell 3
        have hD2:V2.ownsRow B 205 6 (.slice (some ⟨g.bD,0,none⟩) S.devs.length cd) S.devs.length (devCells S.devs):=ownsRow_only h4 (Only.of_ext (L:=[]) Y) (by simp)
        obtain ⟨_,_,d2,d3,d4,d5⟩:=RowD.at_ (show RowD V2 B _ _ S.devs from hD2) k hk
        have f2:=hD2.frozenAt (k*6+2)
        have f3:=hD2.frozenAt (k*6+3)
        have f4:=hD2.frozenAt (k*6+4)
        have f5:=hD2.frozenAt (k*6+5)
        clear hz
        go_wp2_with fail
        go_still_tail 10,(by kernel_rfl)
        change wpList _ _ _ _ _ V2.drew
        go_wp2_with fail
        obtain ⟨V3,hV3⟩:∃V3,V3=(((V2.setCell ⟨g.bD,k*6+2,none⟩ (.int .i64 (takeQ q bl 1).blocks)).setCell ⟨g.bD,k*6+2+1,none⟩ (.int .i64 (takeQ q bl 1).nodes)).setCell ⟨g.bD,k*6+2+2,none⟩ (.int .i64 (takeQ q bl 1).mostB)).setCell ⟨g.bD,k*6+2+3,none⟩ (.int .i64 (takeQ q bl 1).mostN):=⟨_,rfl⟩
        rw [←hV3]
        obtain ⟨V4,hV4⟩:∃V4,V4=V3.drew:=⟨_,rfl⟩
        rw [←hV4]
        have E4:Ext V3 V4:=by rw[hV4];exact (Ext.refl V3).drew
        have O3:Only [g.bD] V2 V3:=by rw[hV3];exact (((Only.setCell _ _ _ _).then (Only.setCell _ _ _ _)).then (Only.setCell _ _ _ _)).then (Only.setCell _ _ _ _)
        have D3:V3.ownsRow B 205 6 (.slice (some ⟨g.bD,0,none⟩) S.devs.length cd) S.devs.length (devCells (setQ S.devs ((k:Int)+1) (takeQ q bl 1))):=by
          rw [hV3,←devCells_setQ S.devs k hk]
          exact (World.ownsRow.stored (World.ownsRow.stored (World.ownsRow.stored (World.ownsRow.stored hD2 (k*6+2) _).1 (k*6+3) _).1 (k*6+4) _).1 (k*6+5) _).1
        have W2a:=W2.apart
        obtain ⟨m1,m2,m3,m4,m5,m6⟩:=W2.ne
        have H3':=O3.has (h3.ext Y) (by simpa using m3)
        have T3:TAt V3 B g.bT g.bM S.nodes S.last:=(h2.ext Y).only O3 (W2a.sub (by simp)) (by simpa using m5) (by simpa using m6)
        have hxD:w.heap.size≠g.bD:=by have:=hl.2.2.2;omega
        have B3:=O3.has B2 (by simpa using hxD)
        have n3:NodeOk V3 B n A c:=(hn.ext Y).only O3 (W2a.sub (by simp))
        obtain ⟨x0,x1',x2,x3,x4,x5,x6,x7,x8,x9,x10,x11⟩:=(B3.ext E4).node12
        have xz3:=(B3.ext E4).lt
        have v0:V4.cell? ⟨g.bW,0,none⟩=some (.pointer (some ⟨g.bT,0,none⟩)):=(H3'.ext E4).cell 0
        have vz:=(H3'.ext E4).lt
        have E5:Ext V3 V4.drew:=E4.drew
        clear hV4 hV3 c1 x1 q0 q1 q2 q3 d2 d3 d4 d5 f2 f3 f4 f5
        go_still_tail 5,(by kernel_rfl)
        change wpList _ _ _ _ _ V4.drew
        go_wp2_with fail
        refine (tadd_any B g.bT g.bM S.nodes S.last n A c _ (T3.ext E5) hu hl0 hl1 (n3.ext E5)).mono ?_
        rintro e w5 ⟨rfl,T5,O5⟩
        go_wp2_with fail
        go_ret2
        have O35:Only [g.bT,g.bM] V3 w5:=Only.pre E5 O5
        have eM:makeE S n=0:=by rw[HE0.out];exact HZ.out
        have eT:makeT S n=⟨S.nodes++[{n with no:=S.last+1}],setQ S.devs ((k:Int)+1) (takeQ q bl 1),S.last+1⟩:=by
          unfold makeT
          rw [if_pos eM,H3.out,←HQ.out,←HB.out,HD.out]
        refine ⟨?_,?_,?_⟩
        · unfold makeN;rw[eM];rfl
        · rw [eT]
          refine ⟨h1,T5,cd,?_,?_⟩
          · have:=O35.has H3' (by simp;exact⟨m1,m2⟩)
            simpa [setQ_len]using this
          · unfold RowD
            simp only[setQ_len]
            exact ownsRow_only D3 O35 (fun b hb=>by simp[Value.ownBlock]at hb;subst hb;simp;exact⟨m5.symm,m6.symm⟩)
        · exact (Only.pre Y (O3.mono (by simp))).then (O35.mono (by simp))
      · have hzb:(takeE q bl 1 == 0)=false:=by simpa using hz
        have hzb2:(takeE q bl 1 != 0)=true:=by simpa using hz
        have HZ:=zH hz
        clear hz
        go_wp2_with fail
        go_ret2
        exact makeR_same h0 Y HE0.out HZ.out
end Go.Proofs.YtpibnfdolojpcaaGreat
