import Derived.Test.YtblbohcaphcobaaGreatDoorBunA
import Derived.Laws.OwnMore
import Derived.Laws.AppendOwn
import Derived.Deep.RegionHeld3
import Derived.Outline
import Derived.Deep.MidRow
import Derived.MapKept
import Derived.StillTailTactics
import Derived.WalkSpells
import Derived.Deep.AppendLies
import Derived.Deep.RegionLaw
set_option maxHeartbeats 4000000
set_option maxRecDepth 100000
namespace Go.Proofs.YtblbohcaphcobaaGreatDoor
structure ai where
 no:Int
 dev:Int
 kind:Int
 mode:Int
 uid:Int
 gid:Int
 mtime:Int
 ctime:Int
 ah:Int
 up:Int
 data:List UInt8
 ae:List ax
def ag:ai:=⟨0,0,0,0,0,0,0,0,0,0,[],[]⟩
structure dH where
 blocks:Int
 nodes:Int
 bX:Int
 bR:Int
def St:dH:=⟨0,0,0,0⟩
structure eC where
 root:Int
 over:Int
 q : dH
def aah:eC:=⟨0,0,St⟩
structure ac where
 nodes:List ai
 af:List eC
 last:Int
def aI (ns:List ai) (last:Int):Prop:=ns.Pairwise (fun a b=>a.no<b.no)/\∀n∈ns,1<=n.no/\n.no<=last
def eY (ns:List ai) (no:Int):Option ai:=ns.find? fun n=>n.no == no
def aa (ns:List ai) (no:Int):ai:=(eY ns no).getD ag
def aQ (ns:List ai) (no:Int):Bool:=(eY ns no).isSome
def bn (ns:List ai) (n:ai):List ai:=ns.map fun m=>if m.no == n.no then n else m
def kJ (ns:List ai) (no:Int):List ai:=ns.filter fun m=>!(m.no == no)
theorem kB {ns:List ai} {no:Int} {n:ai} (h:eY ns no=some n):n.no=no/\n∈ns:=by
 unfold eY at h;exact ⟨by simpa using List.find?_some h,List.mem_of_find?_eq_some h⟩
theorem FY {ns:List ai} {no:Int} (h:eY ns no=none):∀n∈ns,n.no≠no:=by
 unfold eY at h;rw [List.find?_eq_none]at h;intro n hn e;exact h n hn (by simpa using e)
theorem yi {ns:List ai} {k:Nat} {last:Int} (hu:aI ns last) (hk:k<ns.length):eY ns (ns[k]).no=some ns[k]:=by
 unfold eY;rw [List.find?_eq_some_iff_getElem];refine ⟨by simp,k,hk,rfl,fun j hj=>?_⟩;have:=List.pairwise_iff_getElem.1 hu.1 j k (by omega) hk hj;simp;omega
theorem EF {ns:List ai} {last:Int} (hu:aI ns last) {j k:Nat} (hj:j<ns.length) (hk:k<ns.length) (h:ns[j].no=ns[k].no):j=k:=by
 rcases Nat.lt_trichotomy j k with g|g|g
 ·have:=List.pairwise_iff_getElem.1 hu.1 j k hj hk g;omega
 ·exact g
 ·have:=List.pairwise_iff_getElem.1 hu.1 k j hk hj g;omega
theorem l_ {ns:List ai} {no:Int}:aQ ns no=true↔∃k,∃h:k<ns.length,ns[k].no=no:=by
 unfold aQ
 constructor
 ·intro h
  obtain ⟨n,hn⟩:=Option.isSome_iff_exists.1 h;obtain ⟨h1,h2⟩:=kB hn;obtain ⟨k,hk,e⟩:=List.getElem_of_mem h2;exact ⟨k,hk,by rw[e];exact h1⟩
 ·rintro ⟨k,hk,e⟩
  unfold eY;rw [List.find?_isSome];exact ⟨ns[k],List.getElem_mem hk,by simpa using e⟩
theorem aV {ns:List ai} {no:Int} (h:aQ ns no=false):aa ns no=ag/\∀n∈ns,n.no≠no:=by
 unfold aQ at h;rw [Option.isSome_eq_false_iff,Option.isNone_iff_eq_none]at h;exact ⟨by unfold aa;rw[h];rfl,FY h⟩
theorem aj {ns:List ai} {no:Int} (h:aQ ns no=true):eY ns no=some (aa ns no)/\(aa ns no).no=no/\aa ns no∈ns:=by
 unfold aQ at h;obtain ⟨n,hn⟩:=Option.isSome_iff_exists.1 h;have e:aa ns no=n:=by unfold aa;rw[hn];rfl
 rw [e];exact ⟨hn,(kB hn).1,(kB hn).2⟩
theorem pK (ns:List ai) (n:ai):(bn ns n).length=ns.length:=by simp[bn]
theorem EH {ns:List ai} {n:ai} {last:Int} (hu:aI ns last) {k:Nat} (hk:k<ns.length) (h:ns[k].no=n.no):bn ns n=ns.set k n:=by
 apply List.ext_getElem
 ·simp[bn]
 ·intro i h1 h2
  simp only[bn,List.getElem_map,List.getElem_set];rw [List.length_set]at h2
  by_cases e:k=i
  ·subst e;simp[h]
  ·rw [if_neg e,if_neg]
   intro e2;rw [beq_iff_eq]at e2;exact e (EF hu hk h2 (by rw[h,e2]))
theorem tG {ns:List ai} {n:ai} (h:∀m∈ns,m.no≠n.no):bn ns n=ns:=by
 unfold bn
 conv=>rhs;rw[<-List.map_id ns]
 apply List.map_congr_left;intro m hm;rw [if_neg];rfl;simpa using h m hm
theorem Js (ns:List ai) (n:ai):(bn ns n).map (·.no)=ns.map (·.no):=by
 unfold bn;rw [List.map_map];apply List.map_congr_left;intro m _;simp only[Function.comp];split
 ·rename_i h;rw[beq_iff_eq]at h;exact h.symm
 ·rfl
theorem aI.of_map {ns ms:List ai} {last:Int} (h:aI ns last) (e:ms.map (·.no)=ns.map (·.no)):aI ms last:=by
 obtain ⟨h1,h2⟩:=h;refine ⟨?_,?_⟩
 ·have:(ns.map (·.no)).Pairwise (· < ·):=List.pairwise_map.2 h1
  rw [<-e]at this;exact List.pairwise_map.1 this
 ·intro m hm
  have:m.no∈ms.map (·.no):=List.mem_map_of_mem hm;rw [e,List.mem_map]at this;obtain ⟨n,hn,e2⟩:=this;rw [<-e2];exact h2 n hn
theorem aI.set {ns:List ai} {last:Int} (h:aI ns last) (n:ai):aI (bn ns n) last:=h.of_map (Js ns n)
theorem aI.add {ns:List ai} {last:Int} (h:aI ns last) (n:ai) (hn:n.no=last+1) (h0:0<=last):aI (ns++[n]) (last+1):=by
 refine ⟨?_,?_⟩
 ·rw [List.pairwise_append]
  refine ⟨h.1,List.pairwise_singleton ..,fun a ha b hb=>?_⟩;rw [List.mem_singleton]at hb;subst hb;have:=(h.2 a ha).2;omega
 ·intro m hm
  rcases List.mem_append.1 hm with hm|hm
  ·have:=h.2 m hm;omega
  ·rw[List.mem_singleton]at hm;subst hm;omega
theorem aI.drop {ns:List ai} {last:Int} (h:aI ns last) (no:Int):aI (kJ ns no) last:=
 ⟨h.1.sublist List.filter_sublist,fun n hn=>h.2 n (List.mem_filter.1 hn).1⟩
theorem aI.nil (last:Int):aI [] last:=⟨List.Pairwise.nil,fun _ h=>by cases h⟩
theorem aI.zero {ns:List ai} {last:Int} (h:aI ns last) {no:Int} (h0:no<1\/last<no):aQ ns no=false:=by
 cases e:aQ ns no
 ·rfl
 ·obtain ⟨k,hk,e2⟩:=l_.1 e
  have:=h.2 _ (List.getElem_mem hk);omega
def bC (kind size:Int):Int:=if kind=1 then 1 else if kind=2/\0<size then (size-1) / 512+1 else 0
def Jt (q:dH):Bool:=decide (0<=q.blocks)&&decide (0<=q.nodes)&&decide (q.blocks<=q.bX)&&decide (q.nodes<=q.bR)&&decide (q.bX<=1073741824)&&decide (q.bR<=65536)
def ma (q:dH):Prop:=0<=q.blocks/\0<=q.nodes/\q.blocks<=q.bX/\q.nodes<=q.bR/\q.bX<=1073741824/\q.bR<=65536
theorem FZ (q:dH):Jt q=true↔ma q:=by unfold Jt ma;simp only[Bool.and_eq_true,decide_eq_true_eq];constructor<;>(intro h;omega)
def Q8 (b n:Int):Prop:=-1073741824<=b/\b<=1073741824/\-1073741824<=n/\n<=1073741824
instance (b n:Int):Decidable (Q8 b n):=by unfold Q8;exact inferInstance
def kK (q:dH) (b n:Int):dH:=⟨q.blocks+b,q.nodes+n,q.bX,q.bR⟩
def eu (q:dH) (b n:Int):Int:=
 if Jt q=true/\Q8 b n then
  if q.bR<q.nodes+n then 15 else if q.bX<q.blocks+b then 14 else if q.nodes+n<0\/q.blocks+b<0 then 1 else 0
 else 1
def aT (q:dH) (b n:Int):dH:=if eu q b n=0 then kK q b n else q
theorem oV {q:dH} {b n:Int} (h:ma q):ma (aT q b n):=by
 unfold aT;split
 ·rename_i he
  unfold eu at he;split at he
  ·split at he
   ·cases he
   ·split at he
    ·cases he
    ·split at he
     ·cases he
     ·unfold ma kK at *;simp only;omega
  ·cases he
 ·exact h
def cA (b n:Int):Bool:=decide (1<=b)&&decide (b<=1073741824)&&decide (1<=n)&&decide (n<=65536)
def ak (ds:List eC) (no:Int):Int:=if 0<no then (match ds.find? (fun d=>d.over == no) with|some d=>d.root|none=>no) else no
def i_ (ds:List eC) (d:Int):eC:=ds.getD (d-1).toNat aah
def fY (ds:List eC) (d:Int):Bool:=decide (1<=d)&&decide (d<=ds.length)
def aE (ds:List eC) (d:Int):Int:=if fY ds d=true then (i_ ds d).root else 0
def ja (ds:List eC) (d:Int) (q:dH):List eC:=ds.modify (d-1).toNat fun x=>{x with q:=q}
def h_ (ds:List eC):Prop:=∀d∈ds,0<d.root/\ma d.q
def aK (S:ac) (n:ai):ac:=⟨bn S.nodes n,S.af,S.last⟩
def bo (S:ac):ai:={ag with no:=S.last+1,dev:=S.af.length+1,kind:=1,mode:=493,ah:=1,up:=S.last+1}
def cr (S:ac) (over b n:Int):ac:=⟨S.nodes++[bo S],S.af++[⟨S.last+1,over,⟨1,1,b,n⟩⟩],S.last+1⟩
def cX (S:ac) (at_ b n:Int):Int:=
 if aQ S.nodes at_=false then 5 else if (aa S.nodes at_).kind≠1 then 9
 else if ak S.af at_≠at_\/aE S.af (aa S.nodes at_).dev=at_ then 16
 else if 8<=S.af.length\/cA b n=false then 3 else 0
def ct (S:ac) (at_ b n:Int):ac:=if cX S at_ b n=0 then cr S at_ b n else S
def qH (S:ac) (at_ b n:Int):Int:=if cX S at_ b n=0 then S.last+1 else 0
def eO (S:ac) (n:ai):Int:=if aE S.af n.dev=0 then 1 else eu (i_ S.af n.dev).q (bC n.kind n.data.length) 1
def bj (S:ac) (n:ai):ac:=
 if eO S n=0 then⟨S.nodes++[{n with no:=S.last+1}],ja S.af n.dev (aT (i_ S.af n.dev).q (bC n.kind n.data.length) 1),S.last+1⟩ else S
def mz (S:ac) (n:ai):Int:=if eO S n=0 then S.last+1 else 0
open Go.ChangeShapes Go.WideShapes Go.ChangeAt Go.RowKit
abbrev vR:=List UInt8
def iy (w:World) (A:Option Addr) (l:List vR):Prop:=
 l = []\/∃b o,A=some ⟨b,o,none⟩/\b<w.heap.size/\∀k,(h:k<l.length)->w.cell? ⟨b,o+k,none⟩=some (.string (bs l[k]))
theorem iy.ext {w w':World} {A:Option Addr} {l:List vR} (h:iy w A l) (k:Ext w w'):iy w' A l:=by
 rcases h with h|⟨b,o,hA,hb,hc⟩
 ·exact .inl h
 ·refine .inr ⟨b,o,hA,by have:=k.size;omega,fun i hi=>?_⟩
  rw [k.cell hb];exact hc i hi
theorem iy.at_ {w w':World} {A:Option Addr} {l:List vR} (h:iy w A l) (hE:Ext w w') (k:Nat) (hk:k<l.length):∃b o,A=some ⟨b,o,none⟩/\b<w'.heap.size/\w'.cell? ⟨b,o+k,none⟩=some (.string (bs l[k])):=by
 rcases h.ext hE with h0|⟨b,o,hA,hb,hc⟩
 ·subst h0;simp at hk
 ·exact⟨b,o,hA,hb,hc k hk⟩
def bG (l:List vR):List Value:=l.map fun x=>.string (bs x)
theorem mc (l:List vR):(bG l).length=l.length:=by simp[bG]
theorem jN (a b:List vR):bG (a++b)=bG a++bG b:=by simp[bG]
theorem kn (l:List vR):∀u∈bG l,u.oneCell'=true:=by
 intro u hu;unfold bG at hu;rw [List.mem_map]at hu;obtain ⟨x,_,rfl⟩:=hu;rfl
theorem kp (l:List vR) (k:Nat) (h:k<l.length):(bG l)[k]?=some (.string (bs l[k])):=by simp[bG,h]
def jO (w:World) (base:Nat) (v:Value) (l:List vR):Prop:=w.ownsRow base 9 1 v l.length (bG l)
theorem jO.at_ {w:World} {base:Nat} {v:Value} {l:List vR} (h:jO w base v l):∃A cap,v=.slice A l.length cap/\l.length<=cap/\cap<=maxLen/\iy w A l/\(A=none->cap=0):=by
 unfold jO at h;rcases h.2 with⟨rfl,h0⟩|⟨g,cap,cur,rfl,_,hg,hn,hm,hsz,htake⟩
 ·have:l=[]:=List.eq_nil_of_length_eq_zero h0
  subst this;exact ⟨none,0,rfl,Nat.le_refl _,by decide,.inl rfl,fun _=>rfl⟩
 ·refine ⟨_,cap,rfl,hn,hm,.inr ⟨g,0,rfl,?_,fun k hk=>?_⟩,fun h=>by cases h⟩
  ·rcases Nat.lt_or_ge g w.heap.size with h'|h'
   ·exact h'
   ·simp[Array.getElem?_eq_none h']at hg
  ·have h1:=h.cells (g:=g) rfl _ _ (kp l k hk)
   simp only[Addr.add_lit]at h1;exact h1
theorem sW:(Tryz.prog.info? 9).map (fun i=>(i.zero,i.size,i.bytes))=some (some (.string ⟨#[]⟩),1,16):=by kernel_rfl
theorem tH (wr:World) (x:vR):∀j u,(bG [x])[j]?=some u->(wr.alloc (.cells #[bs x] 9)).cell? ((⟨wr.heap.size,0,none⟩:Addr).add j)=some u:=by
 intro j u hu;have hj:j=0:=by
  rcases Nat.eq_zero_or_pos j with h|h
  ·exact h
  ·rw[List.getElem?_eq_none (by rw[mc];simp;omega)]at hu;cases hu
 subst hj;rw [kp [x] 0 (by simp)]at hu;injection hu with hu;subst hu;rw [Addr.add_lit];exact (Has.new wr _).cell 0
theorem EI {w wr w2:World} {v v':Value} {P:List vR} {x:vR} {o:Obj} (h:wr.ownsRow w.heap.size 9 1 v P.length (bG P)) (hE:Ext w wr) (h2:w2.ownsRow w.heap.size 9 1 v' (P.length+1) (bG P++bG [x])) (hg:(wr.alloc o).grownBy w2 v.ownBlock):jO w2 w.heap.size v' (P++[x])/\Ext w w2:=by
 refine ⟨?_,(hE.alloc o).grown hg (fun g hv=>(h.lt g hv).1)⟩;unfold jO;rw [jN,List.length_append];exact h2
structure Only (L:List Nat) (w w':World):Prop where
 os:w'.os=w.os
 tape:w'.tape=w.tape
 output:w'.output=w.output
 size:w.heap.size<=w'.heap.size
 block:∀k,k<w.heap.size->k∉L->w'.heap[k]?=w.heap[k]?
theorem Only.refl (L:List Nat) (w:World):Only L w w:=⟨rfl,rfl,rfl,Nat.le_refl _,fun _ _ _=>rfl⟩
theorem Only.aw {L:List Nat} {w w':World} (h:Ext w w'):Only L w w':=⟨h.os,h.tape,h.output,h.size,fun k hk _=>Below.block h k hk⟩
theorem Only.trans {L L':List Nat} {a b c:World} (h:Only L a b) (k:Only L' b c) (hL:∀x∈L',x∈L\/a.heap.size<=x):Only L a c:=
 ⟨k.os.trans h.os,k.tape.trans h.tape,k.output.trans h.output,Nat.le_trans h.size k.size,fun i hi hn =>
  (k.block i (Nat.lt_of_lt_of_le hi h.size) (fun hx=>by rcases hL i hx with g|g;exact hn g;omega)).trans (h.block i hi hn)⟩
theorem Only.then {L:List Nat} {a b c:World} (h:Only L a b) (k:Only L b c):Only L a c:=h.trans k fun _ hx=>.inl hx
theorem Only.ext {L:List Nat} {a b c:World} (h:Only L a b) (k:Ext b c):Only L a c:=h.then (Only.aw k)
theorem Only.pre {L:List Nat} {a b c:World} (h:Ext a b) (k:Only L b c):Only L a c:=(Only.aw h).then k
theorem Only.below {L:List Nat} {w w':World} {B:Nat} (h:Only L w w') (hB:B<=w.heap.size) (hL:∀x∈L,B<=x):Below B w w':=
 ⟨h.os,h.tape,h.output,h.size,fun k hk=>h.block k (by omega) (fun hx=>by have:=hL k hx;omega)⟩
theorem Only.after {L:List Nat} {w0 w w':World} (h:Only L w w') (hE:Ext w0 w) (hL:∀x∈L,w0.heap.size<=x):Ext w0 w':=Below.trans hE (h.below hE.size hL)
theorem Only.mono {L L':List Nat} {w w':World} (h:Only L w w') (hL:∀x∈L,x∈L'):Only L' w w':=⟨h.os,h.tape,h.output,h.size,fun k hk hn=>h.block k hk fun hx=>hn (hL k hx)⟩
theorem Only.has {L:List Nat} {w w':World} {b:Nat} {o:Obj} (h:Only L w w') (hb:Has w b o) (hn:b∉L):Has w' b o:=(h.block b hb.lt hn).trans hb
def js (w:World) (b:Nat) (o:Obj):World:={w with heap:=w.heap.setIfInBounds b o}
theorem Only.js (w:World) (b:Nat) (o:Obj):Only [b] w (js w b o):=by
 refine ⟨rfl,rfl,rfl,by simp[Go.Proofs.YtblbohcaphcobaaGreatDoor.js],fun k _ hn=>?_⟩;have:b≠k:=fun e=>hn (by simp[e])
 simp [Go.Proofs.YtblbohcaphcobaaGreatDoor.js,this]
theorem Has.js {w:World} {b:Nat} (o:Obj) (hb:b<w.heap.size):Has (js w b o) b o:=by
 simp [Has,Go.Proofs.YtblbohcaphcobaaGreatDoor.js,hb]
theorem Only.setCell (w:World) (b i:Nat) (v:Value):Only [b] w (w.setCell ⟨b,i,none⟩ v):=by
 refine ⟨rfl,rfl,rfl,by simp,fun k _ hn=>?_⟩;have:k≠b:=fun e=>hn (by simp[e])
 exact heap_setCell_other w ⟨b,i,none⟩ k v this
theorem Has.setCell {w:World} {b:Nat} {C:Array Value} {t:TypeId} (h:Has w b (.cells C t)) (i:Nat) (v:Value):Has (w.setCell ⟨b,i,none⟩ v) b (.cells (C.setIfInBounds i v) t):=heap_setCell_same w b i C t v h
def gh (w:World) (b:Nat) (t:TypeId):Prop:=∃cur fr,w.heap[b]?=some (.cells cur t fr)
def kW (w:World) (B:Nat) (A:Option Addr) (l:List ax):Prop:=
 l = []\/∃b o,A=some ⟨b,o,none⟩/\b<w.heap.size/\(b<B\/gh w b 106)/\∀k,(h:k<l.length)->w.cell? ⟨b,o+k*2,none⟩=some (.string (bs l[k].1))/\w.cell? ⟨b,o+k*2+1,none⟩=some (.int .i64 l[k].2)
theorem kW.ae {w:World} {B:Nat} {A:Option Addr} {l:List ax} (h:kW w B A l):bU w A l:=by
 rcases h with h|⟨b,o,hA,hb,_,hc⟩
 ·exact .inl h
 ·exact .inr ⟨b,o,hA,hb,hc⟩
def dg (w:World) (B:Nat) (L:List Nat):Prop:=∀b∈L,B<=b/\¬gh w b 106
theorem kW.only {w w':World} {B:Nat} {A:Option Addr} {l:List ax} {L:List Nat} (h:kW w B A l) (o:Only L w w') (ha:dg w B L):kW w' B A l:=by
 rcases h with h|⟨b,f,hA,hb,ht,hc⟩
 ·exact .inl h
 ·have hn:b∉L:=fun hx=>by
   rcases ht with ht|ht
   ·have:=(ha b hx).1;omega
   ·exact (ha b hx).2 ht
  have hk:=o.block b hb hn;have hcell:∀i,w'.cell? ⟨b,i,none⟩=w.cell? ⟨b,i,none⟩:=fun i=>by simp only[World.cell?,hk]
  refine .inr ⟨b,f,hA,by have:=o.size;omega,?_,fun k dq=>by rw[hcell,hcell];exact hc k dq⟩;rcases ht with ht|⟨cur,fr,ht⟩
  ·exact .inl ht
  ·exact .inr ⟨cur,fr,hk.trans ht⟩
theorem kW.ext {w w':World} {B:Nat} {A:Option Addr} {l:List ax} (h:kW w B A l) (o:Ext w w'):kW w' B A l:=h.only (Only.aw (L:=[]) o) (fun b hb=>by cases hb)
theorem kW.nil (w:World) (B:Nat) (A:Option Addr):kW w B A []:=.inl rfl
theorem dY.EJ {w:World} {base B:Nat} {v:Value} {l:List ax} (h:dY w base v l):∃A cap,v=.slice A l.length cap/\l.length<=cap/\cap<=maxLen/\kW w B A l/\(A=none->cap=0):=by
 obtain ⟨A,cap,rfl,h1,h2,h3⟩:=h.at_;refine ⟨A,cap,rfl,h1,h2,?_,?_⟩
 ·rcases h3 with h3|⟨b,o,rfl,hb,hc⟩
  ·exact .inl h3
  ·refine .inr ⟨b,o,rfl,hb,.inr ?_,hc⟩
   unfold dY at h;rcases h.2 with⟨h,h0⟩|⟨g,cap',cur,h,_,hg,_⟩
   ·cases h
   ·injection h with h
    injection h with h;injection h with h;subst h;exact ⟨_,_,hg⟩
 ·rintro rfl
  unfold dY at h;rcases h.2 with⟨h,h0⟩|⟨g,cap',cur,h,_⟩
  ·injection h
  ·injection h with h;cases h
def fO (n:ai) (A:Option Addr) (c:Nat):List Value:=[.int .i64 n.no,.int .i64 n.dev,.int .i64 n.kind,.int .i64 n.mode,.int .i64 n.uid,.int .i64 n.gid,.int .i64 n.mtime,.int .i64 n.ctime,.int .i64 n.ah,.int .i64 n.up,.string (bs n.data),.slice A n.ae.length c]
structure ay (w:World) (B:Nat) (n:ai) (A:Option Addr) (c:Nat):Prop where
 ae:kW w B A n.ae
 cap:n.ae.length<=c
 max:c<=maxLen
 nil:A=none->c=0
theorem ay.only {w w':World} {B:Nat} {n:ai} {A:Option Addr} {c:Nat} {L:List Nat} (h:ay w B n A c) (o:Only L w w') (ha:dg w B L):ay w' B n A c:=⟨h.ae.only o ha,h.cap,h.max,h.nil⟩
theorem ay.ext {w w':World} {B:Nat} {n:ai} {A:Option Addr} {c:Nat} (h:ay w B n A c) (o:Ext w w'):ay w' B n A c:=⟨h.ae.ext o,h.cap,h.max,h.nil⟩
theorem ay.zero (w:World) (B:Nat):ay w B ag none 0:=⟨.nil _ _ _,Nat.le_refl _,Nat.zero_le _,fun _=>rfl⟩
theorem ay.same {w:World} {B:Nat} {n m:ai} {A:Option Addr} {c:Nat} (h:ay w B n A c) (e:m.ae=n.ae):ay w B m A c:=⟨by rw[e];exact h.ae,by rw[e];exact h.cap,h.max,h.nil⟩
def jG (w:World) (B:Nat) (es:List MapEntry) (ns:List ai):Prop:=
 es.length=ns.length/\∀k,(h:k<ns.length)->∃e A c,es[k]?=some e/\e.key=.int .i64 ns[k].no/\e.val=.agg #[.int .i64 (ns[k]).no,.int .i64 (ns[k]).dev,.int .i64 (ns[k]).kind,.int .i64 (ns[k]).mode,.int .i64 (ns[k]).uid,.int .i64 (ns[k]).gid,.int .i64 (ns[k]).mtime,.int .i64 (ns[k]).ctime,.int .i64 (ns[k]).ah,.int .i64 (ns[k]).up,.string (bs (ns[k]).data),.slice A (ns[k]).ae.length c]/\ay w B ns[k] A c
theorem jG.only {w w':World} {B:Nat} {es:List MapEntry} {ns:List ai} {L:List Nat} (h:jG w B es ns) (o:Only L w w') (ha:dg w B L):jG w' B es ns:=
 ⟨h.1,fun k hk=>by obtain⟨e,A,c,h1,h2,h3,h4⟩:=h.2 k hk;exact⟨e,A,c,h1,h2,h3,h4.only o ha⟩⟩
theorem jG.ext {w w':World} {B:Nat} {es:List MapEntry} {ns:List ai} (h:jG w B es ns) (o:Ext w w'):jG w' B es ns:=h.only (Only.aw (L:=[]) o) (fun b hb=>by cases hb)
def oC (w:World) (B bT bM:Nat) (ns:List ai) (last:Int):Prop:=
 B<=bT/\B<=bM/\Has w bT (.cells #[.map (some bM),.int .i64 last] 113)/\∃es clock,Has w bM (.map es clock)/\jG w B es.toList ns
theorem Has.gi {w:World} {b:Nat} {cur:Array Value} {t:TypeId} (h:Has w b (.cells cur t)) (hne:t≠106):¬gh w b 106:=by
 rintro ⟨c,f,g⟩;unfold Has at h;rw [h]at g;injection g with g;injection g with g1 g2;exact hne g2
theorem Has.Su {w:World} {b:Nat} {es:Array MapEntry} {cl:Nat} (h:Has w b (.map es cl)) (t:TypeId):¬gh w b t:=by
 rintro ⟨c,f,g⟩;unfold Has at h;rw [h]at g;injection g with g
 cases g
theorem oC.apart {w:World} {B bT bM:Nat} {ns:List ai} {last:Int} (h:oC w B bT bM ns last):dg w B [bT,bM]:=by
 obtain ⟨h1,h2,h3,es,cl,h4,_⟩:=h;intro b hb;rcases List.mem_cons.1 hb with rfl|hb
 ·exact⟨h1,h3.gi (by decide)⟩
 ·rw[List.mem_singleton]at hb;subst hb;exact⟨h2,h4.Su _⟩
theorem oC.only {w w':World} {B bT bM:Nat} {ns:List ai} {last:Int} {L:List Nat} (h:oC w B bT bM ns last) (o:Only L w w') (ha:dg w B L) (hT:bT∉L) (hM:bM∉L):oC w' B bT bM ns last:=by
 obtain ⟨h1,h2,h3,es,cl,h4,h5⟩:=h;exact ⟨h1,h2,o.has h3 hT,es,cl,o.has h4 hM,h5.only o ha⟩
theorem oC.ext {w w':World} {B bT bM:Nat} {ns:List ai} {last:Int} (h:oC w B bT bM ns last) (o:Ext w w'):oC w' B bT bM ns last:=
 h.only (Only.aw (L:=[]) o) (fun b hb=>by cases hb) (by simp) (by simp)
theorem ll (no:Int):∀(es:List MapEntry) (ns:List ai) (i:Nat),es.length=ns.length->(∀k,(h:k<ns.length)->∃e,es[k]?=some e/\e.key=.int .i64 ns[k].no) ->
  (aQ ns no=false/\Instr.findNow (.int .i64) (.int .i64 no) es i=some none)\/(∃k e,k<ns.length/\es[k]?=some e/\Instr.findNow (.int .i64) (.int .i64 no) es i=some (some (i+k,e.val))/\eY ns no=ns[k]?):=by
 intro es
 induction es with
 | nil =>
  intro ns i hl hk;obtain rfl:ns=[]:=List.eq_nil_of_length_eq_zero hl.symm;exact .inl ⟨rfl,rfl⟩
 | cons e es ih =>
  intro ns i hl hk
  cases ns with
  | nil=>simp at hl
  | cons n ns =>
   obtain ⟨e',h1,h2⟩:=hk 0 (by simp);simp at h1;subst h1;simp at h2;have hs:Instr.sameNow (.int .i64) (.int .i64 no) e.key=some (no == n.no):=by rw[h2];simp[Instr.sameNow]
   by_cases hq:no=n.no
   ·right
    refine ⟨0,e,by simp,rfl,?_,?_⟩
    ·unfold Instr.findNow
     rw [hs];simp [hq]
    ·unfold eY
     rw [List.find?_cons];simp [hq]
   ·have hb:(no == n.no)=false:=by simpa using hq
    have hb2:(n.no == no)=false:=by simpa using fun e=>hq e.symm
    have rS:Instr.findNow (.int .i64) (.int .i64 no) (e::es) i=Instr.findNow (.int .i64) (.int .i64 no) es (i+1):=by
     conv=>lhs;unfold Instr.findNow
     rw [hs,hb]
    have hg:eY (n::ns) no=eY ns no:=by
     unfold eY;rw [List.find?_cons];simp [hb2]
    rcases ih ns (i+1) (by simpa using hl) (fun k h=>by
     obtain ⟨x,hx1,hx2⟩:=hk (k+1) (by simpa using h);exact ⟨x,by simpa using hx1,by simpa using hx2⟩) with⟨g1,g2⟩|⟨k,x,g1,g2,g3,g4⟩
    ·exact .inl ⟨by unfold aQ at g1|-;rw[hg];exact g1,rS.trans g2⟩
    ·refine .inr ⟨k+1,x,by simpa using g1,by simpa using g2,?_,by rw[hg,g4];simp⟩
     rw [rS,g3]
     congr 3
     omega
theorem cT (e:Bool) (no:Int) (w:World):(Instr.checkKey e 10000 3 (.int .i64 no)).run Tryz.prog w=.ok () w:=by
 have h:∀d:Nat,(Instr.checkKey e (d+1) 3 (.int .i64 no)).run Tryz.prog w=.ok () w:=fun d=>by simp[Instr.checkKey,run_underlying Tryz.underlying3]
 exact h 9999
theorem run_get {w w0:World} {B bM:Nat} {es:Array MapEntry} {clock:Nat} {ns:List ai} (hm:Has w bM (.map es clock)) (h:jG w0 B es.toList ns) (no:Int) :
  ∃ A c,(Instr.lookup 111 (.map (some bM)) (.int .i64 no) true).run Tryz.prog w=.ok (.tuple #[.agg #[.int .i64 (aa ns no).no,.int .i64 (aa ns no).dev,.int .i64 (aa ns no).kind,.int .i64 (aa ns no).mode,.int .i64 (aa ns no).uid,.int .i64 (aa ns no).gid,.int .i64 (aa ns no).mtime,.int .i64 (aa ns no).ctime,.int .i64 (aa ns no).ah,.int .i64 (aa ns no).up,.string (bs (aa ns no).data),.slice A (aa ns no).ae.length c],.bool (aQ ns no)]) w/\ay w0 B (aa ns no) A c:=by
 have hk:∀r,Instr.findNow (.int .i64) (.int .i64 no) es.toList 0=some r->(Instr.findKey 3 (.int .i64 no) es.toList).run Tryz.prog w=.ok r w:=fun r hr=>by
  unfold Instr.findKey;rw [Sem.run_bind,run_underlying Tryz.underlying3];simp [hr]
 rcases ll no es.toList ns 0 h.1 (fun k hk=>by obtain⟨e,A,c,h1,h2,_⟩:=h.2 k hk;exact⟨e,h1,h2⟩) with⟨g1,g2⟩|⟨k,e,g1,g2,g3,g4⟩
 ·refine ⟨none,0,?_,?_⟩
  ·have hz:=(aV g1).1
   simp [Instr.lookup,run_underlying Tryz.underlying111,MapKept.run_getObj_map hm,cT,hk _ g2,hz,g1];exact ⟨rfl,rfl,rfl,rfl,rfl,rfl,rfl,rfl,rfl,rfl,rfl,rfl⟩
  ·rw[(aV g1).1];exact ay.zero w0 B
 ·obtain ⟨e',A,c,h1,_,h3,h4⟩:=h.2 k g1
  rw [h1]at g2;injection g2 with g2;subst g2;have e1:aa ns no=ns[k]:=by unfold aa;rw[g4,List.getElem?_eq_getElem g1];rfl
  have e2:aQ ns no=true:=by unfold aQ;rw[g4,List.getElem?_eq_getElem g1];rfl
  refine ⟨A,c,?_,by rw[e1];exact h4⟩;rw [e1,e2];simp [Instr.lookup,run_underlying Tryz.underlying111,MapKept.run_getObj_map hm,cT,hk _ g3,h3]
theorem Ju (w:World) (no:Int):(Instr.keyThatStays (.int .i64 no) (.int .i64 no)).run Tryz.prog w=.ok (.int .i64 no) w:=by
 have h:∀d:Nat,Instr.sameBits (d+1) (.int .i64 no) (.int .i64 no)=true:=fun d=>by simp[Instr.sameBits]
 unfold Instr.keyThatStays;rw [if_pos (h 9999)];rfl
theorem F9 {w:World} {B:Nat} {es:Array MapEntry} {ns:List ai} {n:ai} {A:Option Addr} {c:Nat} (h:jG w B es.toList ns) (hn:ay w B n A c) {k:Nat} (hk:k<ns.length) (_hno:ns[k].no=n.no) :
  jG w B (es.modify k fun e=>{e with key:=.int .i64 n.no,val:=.agg #[n.no,n.dev,n.kind,n.mode,n.uid,n.gid,n.mtime,n.ctime,n.ah,n.up,bs n.data,.slice A n.ae.length c]}).toList (ns.set k n):=by
 refine ⟨by simp;simpa using h.1,fun j hj=>?_⟩;rw [List.length_set]at hj;obtain ⟨e,A',c',h1,h2,h3,h4⟩:=h.2 j hj;rw [Array.getElem?_toList]at h1;rw [Array.getElem?_toList,Array.getElem?_modify,h1]
 by_cases e:k=j
 ·subst e
  refine ⟨{e with key:=.int .i64 n.no,val:=.agg #[n.no,n.dev,n.kind,n.mode,n.uid,n.gid,n.mtime,n.ctime,n.ah,n.up,bs n.data,.slice A n.ae.length c]},A,c,by rw[if_pos rfl];rfl,?_⟩;rw [List.getElem_set_self];exact ⟨rfl,rfl,hn⟩
 ·refine ⟨_,A',c',by rw[if_neg e],?_⟩
  rw [List.getElem_set_ne e];exact ⟨h2,h3,h4⟩
theorem F_ {w:World} {B:Nat} {es:Array MapEntry} {ns:List ai} {n:ai} {A:Option Addr} {c clock:Nat} (h:jG w B es.toList ns) (hn:ay w B n A c) :
  jG w B (es.push ⟨.int .i64 n.no,.agg #[n.no,n.dev,n.kind,n.mode,n.uid,n.gid,n.mtime,n.ctime,n.ah,n.up,bs n.data,.slice A n.ae.length c],clock⟩).toList (ns++[n]):=by
 refine ⟨by simp;simpa using h.1,fun j hj=>?_⟩;have hl:es.size=ns.length:=by simpa using h.1
 rw [List.length_append,List.length_singleton]at hj;rw [Array.getElem?_toList,Array.getElem?_push,hl]
 by_cases e:j=ns.length
 ·subst e
  refine ⟨⟨.int .i64 n.no,.agg #[n.no,n.dev,n.kind,n.mode,n.uid,n.gid,n.mtime,n.ctime,n.ah,n.up,bs n.data,.slice A n.ae.length c],clock⟩,A,c,by rw[if_pos rfl],?_⟩;rw [List.getElem_append_right (Nat.le_refl _)];simp only[Nat.sub_self,List.getElem_singleton];exact ⟨trivial,trivial,hn⟩
 ·obtain ⟨e',A',c',h1,h2,h3,h4⟩:=h.2 j (by omega)
  rw [Array.getElem?_toList]at h1;refine ⟨e',A',c',by rw[if_neg e];exact h1,?_⟩;rw [List.getElem_append_left (by omega)];exact ⟨h2,h3,h4⟩
theorem EK {w w0:World} {B bM:Nat} {es:Array MapEntry} {clock:Nat} {ns:List ai} {n:ai} {A:Option Addr} {c:Nat} (hm:Has w bM (.map es clock)) (h:jG w0 B es.toList ns) (hn:ay w0 B n A c) :
  ∃ es' clock',(Instr.mapUpdate 111 (.map (some bM)) (.int .i64 n.no) (.agg #[n.no,n.dev,n.kind,n.mode,n.uid,n.gid,n.mtime,n.ctime,n.ah,n.up,bs n.data,.slice A n.ae.length c])).run Tryz.prog w=.ok () (js w bM (.map es' clock')) /\
   ((aQ ns n.no=false/\jG w0 B es'.toList (ns++[n]))\/(∃k,∃hk:k<ns.length,ns[k].no=n.no/\aQ ns n.no=true/\jG w0 B es'.toList (ns.set k n))):=by
 have hk:∀r,Instr.findNow (.int .i64) (.int .i64 n.no) es.toList 0=some r->(Instr.findKey 3 (.int .i64 n.no) es.toList).run Tryz.prog w=.ok r w:=fun r hr=>by
  unfold Instr.findKey;rw [Sem.run_bind,run_underlying Tryz.underlying3];simp [hr]
 rcases ll n.no es.toList ns 0 h.1 (fun k hk=>by obtain⟨e,A,c,h1,h2,_⟩:=h.2 k hk;exact⟨e,h1,h2⟩) with⟨g1,g2⟩|⟨k,e,g1,g2,g3,g4⟩
 ·refine ⟨_,clock+1,?_,.inl ⟨g1,F_ (clock:=clock) h hn⟩⟩
  simp [Instr.mapUpdate,run_underlying Tryz.underlying111,MapKept.run_getObj_map hm,cT,hk _ g2,MapKept.run_setObj_map _ hm,Result.andThen,js]
 ·obtain ⟨e',A',c',h1,h2,h3,h4⟩:=h.2 k g1
  rw [h1]at g2;injection g2 with g2;subst g2;have e0:eY ns n.no=some ns[k]:=by rw[g4,List.getElem?_eq_getElem g1]
  have bc:ns[k].no=n.no:=(kB e0).1;refine ⟨_,clock,?_,.inr ⟨k,g1,bc,by unfold aQ;rw[e0];rfl,F9 h hn g1 bc⟩⟩;rw [Array.getElem?_toList]at h1;simp [Instr.mapUpdate,run_underlying Tryz.underlying111,MapKept.run_getObj_map hm,cT,hk _ g3,MapKept.run_setObj_map _ hm,Result.andThen,js,h1,h2,bc,Ju]
theorem Has.dS {w:World} {b:Nat} {n:ai} {A:Option Addr} {c:Nat} (h:Has w b (.cells #[n.no,n.dev,n.kind,n.mode,n.uid,n.gid,n.mtime,n.ctime,n.ah,n.up,bs n.data,.slice A n.ae.length c] 58)) :
  w.cell? ⟨b,0,none⟩=some (.int .i64 n.no)/\w.cell? ⟨b,1,none⟩=some (.int .i64 n.dev)/\w.cell? ⟨b,2,none⟩=some (.int .i64 n.kind)/\w.cell? ⟨b,3,none⟩=some (.int .i64 n.mode)/\w.cell? ⟨b,4,none⟩=some (.int .i64 n.uid)/\w.cell? ⟨b,5,none⟩=some (.int .i64 n.gid) /\
  w.cell? ⟨b,6,none⟩=some (.int .i64 n.mtime)/\w.cell? ⟨b,7,none⟩=some (.int .i64 n.ctime)/\w.cell? ⟨b,8,none⟩=some (.int .i64 n.ah)/\w.cell? ⟨b,9,none⟩=some (.int .i64 n.up)/\w.cell? ⟨b,10,none⟩=some (.string (bs n.data))/\w.cell? ⟨b,11,none⟩=some (.slice A n.ae.length c):=
 ⟨h.cell 0,h.cell 1,h.cell 2,h.cell 3,h.cell 4,h.cell 5,h.cell 6,h.cell 7,h.cell 8,h.cell 9,h.cell 10,h.cell 11⟩
theorem oC.ne {w:World} {B bT bM:Nat} {ns:List ai} {last:Int} (h:oC w B bT bM ns last):bT≠bM:=by
 obtain ⟨_,_,h3,es,cl,h4,_⟩:=h;rintro rfl;unfold Has at h3 h4;rw [h3]at h4;cases h4
theorem dg.sub {w:World} {B:Nat} {L L':List Nat} (h:dg w B L) (hs:∀x∈L',x∈L):dg w B L':=fun b hb=>h b (hs b hb)
theorem oC.Jv {w:World} {B bT bM:Nat} {ns ms:List ai} {last:Int} (h:oC w B bT bM ns last) {es:Array MapEntry} {cl:Nat} (hm:jG w B es.toList ms):oC (js w bM (.map es cl)) B bT bM ms last:=by
 have hne:=h.ne;have ha:=h.apart.sub (L':=[bM]) (by simp);obtain ⟨h1,h2,h3,es0,cl0,h4,h5⟩:=h;exact ⟨h1,h2,(Only.js w bM _).has h3 (by simpa using hne),es,cl,Has.js _ h4.lt,hm.only (Only.js w bM _) ha⟩
theorem oC.OQ {w:World} {B bT bM:Nat} {ns:List ai} {last:Int} (h:oC w B bT bM ns last) (x:Int):oC (w.setCell ⟨bT,1,none⟩ (.int .i64 x)) B bT bM ns x:=by
 have hne:=h.ne;have ha:=h.apart.sub (L':=[bT]) (by simp);obtain ⟨h1,h2,h3,es0,cl0,h4,h5⟩:=h;have o:=Only.setCell w bT 1 (.int .i64 x);exact ⟨h1,h2,h3.setCell 1 _,es0,cl0,o.has h4 (by simpa using hne.symm),h5.only o ha⟩
theorem Ext.cells {w w':World} (h:Ext w w'):(∀b o,b<w.heap.size->w'.cell? ⟨b,o,none⟩=w.cell? ⟨b,o,none⟩)/\(∀b o,b<w.heap.size->w'.frozen? ⟨b,o,none⟩=w.frozen? ⟨b,o,none⟩):=
 ⟨fun _ _ hb=>h.cell hb,fun _ _ hb=>h.frozen hb⟩
def aai (w:World) (B:Nat) (ns:List ai) (no:Int) (e:Ending) (w':World):Prop:=
 ∃ A c,e=.returned (.tuple #[.agg #[.int .i64 (aa ns no).no,.int .i64 (aa ns no).dev,.int .i64 (aa ns no).kind,.int .i64 (aa ns no).mode,.int .i64 (aa ns no).uid,.int .i64 (aa ns no).gid,.int .i64 (aa ns no).mtime,.int .i64 (aa ns no).ctime,.int .i64 (aa ns no).ah,.int .i64 (aa ns no).up,.string (bs (aa ns no).data),.slice A (aa ns no).ae.length c],.bool (aQ ns no)])/\ay w' B (aa ns no) A c/\Ext w w'
theorem fP (B bT bM:Nat) (ns:List ai) (last no:Int) (w:World) (h:oC w B bT bM ns last):Calls Tryz.prog 17 #[.pointer (some ⟨bT,0,none⟩),.int .i64 no] w (aai w B ns no):=by
 obtain ⟨h1,h2,h3,es,cl,h4,h5⟩:=h;have c0:w.cell? ⟨bT,0,none⟩=some (.map (some bM)):=h3.cell 0;have hbT:=h3.lt;obtain ⟨A,c,hr,hok⟩:=run_get (w:=w.alloc (.cells #[.int .i64 0,.int .i64 0,.int .i64 0,.int .i64 0,.int .i64 0,.int .i64 0,.int .i64 0,.int .i64 0,.int .i64 0,.int .i64 0,.string ⟨#[]⟩,.slice none 0 0] 58)) (h4.alloc _) h5 no;go_enter Tryz.func17,Tryz.ntmps17;go_wp2_with fail;refine bodyPost_ret (v:=.tuple #[.agg #[.int .i64 (aa ns no).no,.int .i64 (aa ns no).dev,.int .i64 (aa ns no).kind,.int .i64 (aa ns no).mode,.int .i64 (aa ns no).uid,.int .i64 (aa ns no).gid,.int .i64 (aa ns no).mtime,.int .i64 (aa ns no).ctime,.int .i64 (aa ns no).ah,.int .i64 (aa ns no).up,.string (bs (aa ns no).data),.slice A (aa ns no).ae.length c],.bool (aQ ns no)]) (by simp[results,Tryz.results17,go_sem]) rfl ⟨A,c,rfl,hok.ext (((Ext.refl _).alloc _).alloc _),((Ext.refl _).alloc _).alloc _⟩
def Wh (w:World) (B bT bM:Nat) (ns:List ai) (last:Int) (n:ai) (e:Ending) (w':World):Prop:=
 e = .returned (.bool (aQ ns n.no))/\oC w' B bT bM (bn ns n) last/\Only [bT,bM] w w'
theorem zX (B bT bM:Nat) (ns:List ai) (last:Int) (n:ai) (A:Option Addr) (c:Nat) (w:World) (h:oC w B bT bM ns last) (hu:aI ns last) (hn:ay w B n A c) :
  Calls Tryz.prog 116 #[.pointer (some ⟨bT,0,none⟩),.agg #[n.no,n.dev,n.kind,n.mode,n.uid,n.gid,n.mtime,n.ctime,n.ah,n.up,bs n.data,.slice A n.ae.length c]] w (Wh w B bT bM ns last n):=by
 have hbT:=h.2.2.1.lt;go_enter Tryz.func116,Tryz.ntmps116;go_wp2_with fail;refine (fP B bT bM ns last n.no _ (h.ext ((Ext.refl _).alloc _))).mono ?_;rintro e w1 ⟨A1,c1,rfl,Jw,EL⟩
 generalize aa ns n.no=m at Jw|-
 cases hi:aQ ns n.no
 ·have CM:Hid (bn ns n=ns):=tG (aV hi).2
  have HI:=zH hi;clear hi;go_wp2_with fail;go_ret;exact ⟨gU HI.out.symm,by rw[CM.out];exact ((h.ext ((Ext.refl _).alloc _)).ext EL).ext ((Ext.refl _).alloc _),(Only.aw (((Ext.refl _).alloc _).trans (EL.alloc _)))⟩
 ·go_wp2_with fail
  obtain⟨W2,dF⟩:=ar (w1.alloc (.cells #[m.no,m.dev,m.kind,m.mode,m.uid,m.gid,m.mtime,m.ctime,m.ah,m.up,bs m.data,.slice A1 m.ae.length c1] 58));rw [<-dF];have E1:Ext (w.alloc (.cells #[n.no,n.dev,n.kind,n.mode,n.uid,n.gid,n.mtime,n.ctime,n.ah,n.up,bs n.data,.slice A n.ae.length c] 58)) W2:=by rw[dF];exact EL.alloc _
  have hb:=(Has.new w (.cells #[n.no,n.dev,n.kind,n.mode,n.uid,n.gid,n.mtime,n.ctime,n.ah,n.up,bs n.data,.slice A n.ae.length c] 58)).ext E1;have E2:Ext w W2:=((Ext.refl _).alloc _).trans E1;obtain ⟨h1,h2,h3,es,cl,h4,h5⟩:=h.ext E2;have c0:W2.cell? ⟨bT,0,none⟩=some (.map (some bM)):=h3.cell 0;have aaj:=h3.lt;obtain ⟨x0,x1,x2,x3,x4,x5,x6,x7,x8,x9,sy,sA⟩:=hb.dS;have zY:=hb.lt;clear dF;obtain ⟨es',Ct,hr,OS⟩:=EK (w:=W2.drew) (show Has W2.drew bM _ from h4) h5 (hn.ext E2);have HO:=zH OS;have HI:=zH hi;clear OS hi;go_still_tail 7,(by kernel_rfl);change wpList _ _ _ _ _ W2.drew;go_wp2_with fail;go_ret;refine ⟨gU HI.out.symm,?_,?_⟩
  ·refine oC.Jv (w:=W2.drew) (ns:=ns) ⟨h1,h2,h3,es,cl,h4,h5.ext ((Ext.refl _).drew)⟩ ?_
   rcases HO.out with⟨g,_⟩|⟨k,hk,g1,_,g2⟩
   ·rw[HI.out]at g;cases g
   ·rw[EH hu hk g1];exact g2.ext ((Ext.refl _).drew)
  ·exact ((Only.aw (E2.drew)).then ((Only.js W2.drew bM _).mono (by simp)))
def Q9 (w:World) (B bT bM:Nat) (ns:List ai) (last:Int) (n:ai) (e:Ending) (w':World):Prop:=
 e = .returned (.int .i64 (last+1))/\oC w' B bT bM (ns++[{n with no:=last+1}]) (last+1)/\Only [bT,bM] w w'
theorem zZ (B bT bM:Nat) (ns:List ai) (last:Int) (n:ai) (A:Option Addr) (c:Nat) (w:World) (h:oC w B bT bM ns last) (hu:aI ns last) (h0:0<=last) (hl:last<=1000000) (hn:ay w B n A c) :
  Calls Tryz.prog 138 #[.pointer (some ⟨bT,0,none⟩),.agg #[n.no,n.dev,n.kind,n.mode,n.uid,n.gid,n.mtime,n.ctime,n.ah,n.up,bs n.data,.slice A n.ae.length c]] w (Q9 w B bT bM ns last n):=by
 have hbT:=h.2.2.1.lt;have OT:bM<w.heap.size:=by obtain⟨_,_,_,_,_,h4,_⟩:=h;exact h4.lt
 have c0:w.cell? ⟨bT,0,none⟩=some (.map (some bM)):=h.2.2.1.cell 0;have c1:w.cell? ⟨bT,1,none⟩=some (.int .i64 last):=h.2.2.1.cell 1;have f1:w.frozen? ⟨bT,1,none⟩=false:=h.2.2.1.free 1;have hq:∀W:World,(binOp .eql 111 (.map (some bM)) (.map none)).run Tryz.prog W=.ok (.bool false) W:=fun W=>run_eql_map_nil W _ _ _ _ Tryz.underlying111
 go_enter Tryz.func138,Tryz.ntmps138;go_wp2_with fail;obtain ⟨m,hm⟩:∃m:ai,m={n with no:=last+1}:=⟨_,rfl⟩;obtain⟨W2,dF⟩:=ar ((w.setCell ⟨bT,1,none⟩ (.int .i64 (last+1))).alloc (.cells #[m.no,m.dev,m.kind,m.mode,m.uid,m.gid,m.mtime,m.ctime,m.ah,m.up,bs m.data,.slice A m.ae.length c] 58));have hT:=h.OQ (last+1);have z_:ay (w.setCell ⟨bT,1,none⟩ (.int .i64 (last+1))) B m A c:=(hn.only (Only.setCell w bT 1 _) (h.apart.sub (by simp))).same (by rw[hm]);have hO:Only [bT,bM] w W2:=by rw[dF];exact ((Only.setCell w bT 1 _).mono (by simp)).ext ((Ext.refl _).alloc _)
 have E2:Ext (w.setCell ⟨bT,1,none⟩ (.int .i64 (last+1))) W2:=by rw[dF];exact (Ext.refl _).alloc _
 have hb:=Has.new (w.setCell ⟨bT,1,none⟩ (.int .i64 (last+1))) (.cells #[m.no,m.dev,m.kind,m.mode,m.uid,m.gid,m.mtime,m.ctime,m.ah,m.up,bs m.data,.slice A m.ae.length c] 58);rw [World.size_setCell,<-dF]at hb;have bc:m.no=last+1:=by rw[hm]
 have du:=dF;rw [hm]at du;rw [<-du];have HM:Hid (Q9 w B bT bM ns last n=fun e w'=>e=.returned (.int .i64 (last+1))/\oC w' B bT bM (ns++[m]) (last+1)/\Only [bT,bM] w w'):=by rw[hm];rfl
 clear hm du dF c0 c1 f1;obtain ⟨h1,h2,h3,es,cl,h4,h5⟩:=hT.ext E2;have c0:W2.cell? ⟨bT,0,none⟩=some (.map (some bM)):=h3.cell 0;have aaj:=h3.lt;obtain ⟨x0,x1,x2,x3,x4,x5,x6,x7,x8,x9,sy,sA⟩:=hb.dS;have zY:=hb.lt;rw [bc]at x0;obtain ⟨es',Ct,hr,OS⟩:=EK (w:=W2.drew) (show Has W2.drew bM _ from h4) h5 (z_.ext E2);rw [bc]at hr;have HO:=zH OS;have y0:(js W2.drew bM (.map es' Ct)).cell? ⟨w.heap.size,0,none⟩=some (.int .i64 m.no):=((Only.js W2.drew bM (.map es' Ct)).has (show Has W2.drew w.heap.size _ from hb) (by simp;omega)).cell 0;rw [bc]at y0;have HN:=zH bc;clear OS bc;go_still_tail 7,(by kernel_rfl);change wpList _ _ _ _ _ W2.drew;go_wp2_with fail;go_ret;rw [HM.out];refine ⟨rfl,?_,hO.then ((Only.aw ((Ext.refl _).drew)).then ((Only.js W2.drew bM _).mono (by simp)))⟩;refine oC.Jv (w:=W2.drew) (ns:=ns) ⟨h1,h2,h3,es,cl,h4,h5.ext ((Ext.refl _).drew)⟩ ?_;rcases HO.out with⟨_,g⟩|⟨k,hk,g1,g2,_⟩
 ·exact g.ext ((Ext.refl _).drew)
 ·have:=hu.zero (no:=m.no) (.inr (by have:=HN.out;omega))
  rw [this]at g2;cases g2
theorem Jy (B:Nat) (w:World) (hB:B<=w.heap.size):Calls Tryz.prog 110 #[] w (fun e w'=>∃bT bM,e=.returned (.pointer (some ⟨bT,0,none⟩))/\oC w' B bT bM [] 0/\Ext w w'/\w.heap.size<=bT/\w.heap.size<=bM):=by
 have hmm:=@run_makeMap Tryz.prog;go_enter Tryz.func110,Tryz.ntmps110;go_wp2_with fail;go_ret;refine ⟨_,_,rfl,⟨?_,hB,?_,#[],0,(Has.new w _).alloc _,rfl,fun k hk=>by simp at hk⟩,((Ext.refl _).alloc _).alloc _,?_,Nat.le_refl _⟩
 ·omega
 ·have:=Has.new (w.alloc (.map #[] 0)) (.cells #[.map (some w.heap.size),.int .i64 0] 113)
  rwa [World.size_alloc]at this
 ·omega
theorem oW {q:dH} {b n:Int} (h:ma q) (hr:Q8 b n) :
  (q.bR<q.nodes+n/\eu q b n=15/\aT q b n=q)\/(q.nodes+n<=q.bR/\q.bX<q.blocks+b/\eu q b n=14/\aT q b n=q) \/
  (q.nodes+n<=q.bR/\q.blocks+b<=q.bX/\(q.nodes+n<0\/q.blocks+b<0)/\eu q b n=1/\aT q b n=q) \/
  (q.nodes+n<=q.bR/\q.blocks+b<=q.bX/\0<=q.nodes+n/\0<=q.blocks+b/\eu q b n=0/\aT q b n=kK q b n):=by
 have hf:=(FZ q).2 h
 by_cases h1:q.bR<q.nodes+n
 ·have e:eu q b n=15:=by unfold eu;rw[if_pos ⟨hf,hr⟩,if_pos h1]
  exact .inl ⟨h1,e,by unfold aT;rw[e];rfl⟩
 ·by_cases h2:q.bX<q.blocks+b
  ·have e:eu q b n=14:=by unfold eu;rw[if_pos ⟨hf,hr⟩,if_neg h1,if_pos h2]
   exact .inr (.inl ⟨by omega,h2,e,by unfold aT;rw[e];rfl⟩)
  ·by_cases h3:q.nodes+n<0\/q.blocks+b<0
   ·have e:eu q b n=1:=by unfold eu;rw[if_pos ⟨hf,hr⟩,if_neg h1,if_neg h2,if_pos h3]
    exact .inr (.inr (.inl ⟨by omega,by omega,h3,e,by unfold aT;rw[e];rfl⟩))
   ·have e:eu q b n=0:=by unfold eu;rw[if_pos ⟨hf,hr⟩,if_neg h1,if_neg h2,if_neg h3]
    exact .inr (.inr (.inr ⟨by omega,by omega,by omega,by omega,e,by unfold aT;rw[e];rfl⟩))
theorem lH (q:dH) (h:ma q) (w:World):Calls Tryz.prog 160 #[.agg #[.int .i64 q.blocks,.int .i64 q.nodes,.int .i64 q.bX,.int .i64 q.bR]] w (aH w (.bool true)):=by
 obtain ⟨h1,h2,h3,h4,h5,h6⟩:=h;go_enter Tryz.func160,Tryz.ntmps160;go_wp2_with fail;go_ret;exact aH.mk rfl ((Ext.refl _).alloc _)
theorem Jz (q:dH) (h:q.nodes<0\/q.blocks<0) (w:World):Calls Tryz.prog 160 #[.agg #[.int .i64 q.blocks,.int .i64 q.nodes,.int .i64 q.bX,.int .i64 q.bR]] w (aH w (.bool false)):=by
 by_cases h1:q.blocks<0
 ·go_enter Tryz.func160,Tryz.ntmps160
  go_wp2_with fail;go_ret;exact aH.mk rfl ((Ext.refl _).alloc _)
 ·have h2:q.nodes<0:=by omega
  have h3:0<=q.blocks:=by omega
  clear h h1;go_enter Tryz.func160,Tryz.ntmps160;go_wp2_with fail;go_ret;exact aH.mk rfl ((Ext.refl _).alloc _)
theorem nJ (q:dH) (h:ma q) (w:World):Calls Tryz.prog 180 #[.agg #[.int .i64 q.blocks,.int .i64 q.nodes,.int .i64 q.bX,.int .i64 q.bR]] w (aH w (.bool true)):=by
 obtain ⟨h1,h2,h3,h4,h5,h6⟩:=h;go_enter Tryz.func180,Tryz.ntmps180;go_wp2_with fail;go_ret;exact aH.mk rfl ((Ext.refl _).alloc _)
theorem wP (q:dH) (b n:Int) (h:ma q) (hr:Q8 b n) (w:World):Calls Tryz.prog 137 #[.agg #[.int .i64 q.blocks,.int .i64 q.nodes,.int .i64 q.bX,.int .i64 q.bR],.int .i64 b,.int .i64 n] w (aH w (.tuple #[.agg #[.int .i64 (aT q b n).blocks,.int .i64 (aT q b n).nodes,.int .i64 (aT q b n).bX,.int .i64 (aT q b n).bR],.int .i64 (eu q b n)])):=by
 have hq:=h;obtain ⟨r1,r2,r3,r4⟩:=hr;obtain ⟨h1,h2,h3,h4,h5,h6⟩:=h;have d1:decide (b < -1073741824)=false:=decide_eq_false (by omega);have d2:decide (1073741824<b)=false:=decide_eq_false (by omega);have d3:decide (n < -1073741824)=false:=decide_eq_false (by omega);have d4:decide (1073741824<n)=false:=decide_eq_false (by omega);rcases oW hq ⟨r1,r2,r3,r4⟩ with⟨g1,e1,e2⟩|⟨g1,g2,e1,e2⟩|⟨g1,g2,g3,e1,e2⟩|⟨g1,g2,g3,g4,e1,e2⟩
 ·rw [e1,e2]
  clear e1 e2;go_enter Tryz.func137,Tryz.ntmps137;go_wp2_with fail;refine (lH q hq _).mono ?_;rintro e w1 ⟨rfl,b1⟩;obtain ⟨hc,hf⟩:=b1.cells;have hz:=b1.size;simp only[World.size_alloc]at hz;have hz1:w.heap.size<w1.heap.size:=by omega
  have hz2:w.heap.size+1<w1.heap.size:=by omega
  go_wp2_with fail;refine bodyPost_ret (v:=.tuple #[.agg #[.int .i64 q.blocks,.int .i64 q.nodes,.int .i64 q.bX,.int .i64 q.bR],.int .i64 15]) (by simp[results,Tryz.results137,go_sem,hc,hz2]) rfl ⟨rfl,?_⟩
  repeat (first|refine Ext.alloc ?_ _|refine Ext.setCell ?_ (by simp<;>omega) _)
  exact (((Ext.refl _).alloc _).alloc _).trans b1
 ·rw [e1,e2]
  clear e1 e2;go_enter Tryz.func137,Tryz.ntmps137;go_wp2_with fail;refine (lH q hq _).mono ?_;rintro e w1 ⟨rfl,b1⟩;obtain ⟨hc,hf⟩:=b1.cells;have hz:=b1.size;simp only[World.size_alloc]at hz;have hz1:w.heap.size<w1.heap.size:=by omega
  have hz2:w.heap.size+1<w1.heap.size:=by omega
  go_wp2_with fail;refine bodyPost_ret (v:=.tuple #[.agg #[.int .i64 q.blocks,.int .i64 q.nodes,.int .i64 q.bX,.int .i64 q.bR],.int .i64 14]) (by simp[results,Tryz.results137,go_sem,hc,hz2]) rfl ⟨rfl,?_⟩
  repeat (first|refine Ext.alloc ?_ _|refine Ext.setCell ?_ (by simp<;>omega) _)
  exact (((Ext.refl _).alloc _).alloc _).trans b1
 ·rw [e1,e2]
  clear e1 e2;go_enter Tryz.func137,Tryz.ntmps137;go_wp2_with fail;refine (lH q hq _).mono ?_;rintro e w1 ⟨rfl,b1⟩;obtain ⟨hc,hf⟩:=b1.cells;have hz:=b1.size;simp only[World.size_alloc]at hz;have hz1:w.heap.size<w1.heap.size:=by omega
  have hz2:w.heap.size+1<w1.heap.size:=by omega
  go_wp2_with fail;refine (Jz (kK q b n) g3 _).mono ?_;rintro e w2 ⟨rfl,b2⟩;obtain ⟨EB,JA⟩:=b2.cells;have hy:=b2.size;simp only[World.size_alloc]at hy;have hy1:w.heap.size<w2.heap.size:=by omega
  have hy2:w.heap.size+1<w2.heap.size:=by omega
  have hy3:w1.heap.size<w2.heap.size:=by omega
  go_wp2_with fail;refine bodyPost_ret (v:=.tuple #[.agg #[.int .i64 q.blocks,.int .i64 q.nodes,.int .i64 q.bX,.int .i64 q.bR],.int .i64 1]) (by simp[results,Tryz.results137,go_sem,hc,hz1,hz2,EB]) rfl ⟨rfl,?_⟩
  repeat (first|refine Ext.alloc ?_ _|refine Ext.setCell ?_ (by simp<;>omega) _)
  exact (Ext.alloc ((((Ext.refl _).alloc _).alloc _).trans b1) _).trans b2
 ·rw [e1,e2]
  clear e1 e2;go_enter Tryz.func137,Tryz.ntmps137;go_wp2_with fail;refine (lH q hq _).mono ?_;rintro e w1 ⟨rfl,b1⟩;obtain ⟨hc,hf⟩:=b1.cells;have hz:=b1.size;simp only[World.size_alloc]at hz;have hz1:w.heap.size<w1.heap.size:=by omega
  have hz2:w.heap.size+1<w1.heap.size:=by omega
  go_wp2_with fail;refine (lH (kK q b n) ⟨g4,g3,g2,g1,h5,h6⟩ _).mono ?_;rintro e w2 ⟨rfl,b2⟩;obtain ⟨EB,JA⟩:=b2.cells;have hy:=b2.size;simp only[World.size_alloc]at hy;have hy1:w.heap.size<w2.heap.size:=by omega
  have hy2:w.heap.size+1<w2.heap.size:=by omega
  have hy3:w1.heap.size<w2.heap.size:=by omega
  go_wp2_with fail;refine bodyPost_ret (v:=.tuple #[.agg #[.int .i64 (kK q b n).blocks,.int .i64 (kK q b n).nodes,.int .i64 (kK q b n).bX,.int .i64 (kK q b n).bR],.int .i64 0]) (by simp[results,Tryz.results137,go_sem,hc,hz1,hz2,kK,EB]) rfl ⟨rfl,?_⟩
  repeat (first|refine Ext.alloc ?_ _|refine Ext.setCell ?_ (by simp<;>omega) _)
  exact (Ext.alloc ((((Ext.refl _).alloc _).alloc _).trans b1) _).trans b2
theorem Ga (q:dH) (b n:Int) (h:ma q) (hr:Q8 b n) (w:World):Calls Tryz.prog 165 #[.agg #[.int .i64 q.blocks,.int .i64 q.nodes,.int .i64 q.bX,.int .i64 q.bR],.int .i64 b,.int .i64 n] w (aH w (.tuple #[.agg #[.int .i64 (aT q b n).blocks,.int .i64 (aT q b n).nodes,.int .i64 (aT q b n).bX,.int .i64 (aT q b n).bR],.int .i64 (eu q b n)])):=by
 have hq:=h;obtain ⟨r1,r2,r3,r4⟩:=hr;obtain ⟨h1,h2,h3,h4,h5,h6⟩:=h;have d1:decide (b < -1073741824)=false:=decide_eq_false (by omega);have d2:decide (1073741824<b)=false:=decide_eq_false (by omega);have d3:decide (n < -1073741824)=false:=decide_eq_false (by omega);have d4:decide (1073741824<n)=false:=decide_eq_false (by omega);rcases oW hq ⟨r1,r2,r3,r4⟩ with⟨g1,e1,e2⟩|⟨g1,g2,e1,e2⟩|⟨g1,g2,g3,e1,e2⟩|⟨g1,g2,g3,g4,e1,e2⟩
 ·rw [e1,e2]
  clear e1 e2;go_enter Tryz.func165,Tryz.ntmps165;go_wp2_with fail;refine (nJ q hq _).mono ?_;rintro e w1 ⟨rfl,b1⟩;obtain ⟨hc,hf⟩:=b1.cells;have hz:=b1.size;simp only[World.size_alloc]at hz;have hz1:w.heap.size<w1.heap.size:=by omega
  have hz2:w.heap.size+1<w1.heap.size:=by omega
  go_wp2_with fail;refine bodyPost_ret (v:=.tuple #[.agg #[.int .i64 q.blocks,.int .i64 q.nodes,.int .i64 q.bX,.int .i64 q.bR],.int .i64 15]) (by simp[results,Tryz.results165,go_sem,hc,hz2]) rfl ⟨rfl,?_⟩
  repeat (first|refine Ext.alloc ?_ _|refine Ext.setCell ?_ (by simp<;>omega) _)
  exact (((Ext.refl _).alloc _).alloc _).trans b1
 ·rw [e1,e2]
  clear e1 e2;go_enter Tryz.func165,Tryz.ntmps165;go_wp2_with fail;refine (nJ q hq _).mono ?_;rintro e w1 ⟨rfl,b1⟩;obtain ⟨hc,hf⟩:=b1.cells;have hz:=b1.size;simp only[World.size_alloc]at hz;have hz1:w.heap.size<w1.heap.size:=by omega
  have hz2:w.heap.size+1<w1.heap.size:=by omega
  go_wp2_with fail;refine bodyPost_ret (v:=.tuple #[.agg #[.int .i64 q.blocks,.int .i64 q.nodes,.int .i64 q.bX,.int .i64 q.bR],.int .i64 14]) (by simp[results,Tryz.results165,go_sem,hc,hz2]) rfl ⟨rfl,?_⟩
  repeat (first|refine Ext.alloc ?_ _|refine Ext.setCell ?_ (by simp<;>omega) _)
  exact (((Ext.refl _).alloc _).alloc _).trans b1
 ·have JB:q.nodes+n<0\/(0<=q.nodes+n/\q.blocks+b<0):=by omega
  clear g3;rcases JB with g3|⟨g3,g4⟩
  all_goals
   rw [e1,e2];clear e1 e2;go_enter Tryz.func165,Tryz.ntmps165;go_wp2_with fail;refine (nJ q hq _).mono ?_;rintro e w1 ⟨rfl,b1⟩;obtain ⟨hc,hf⟩:=b1.cells;have hz:=b1.size;simp only[World.size_alloc]at hz;have hz1:w.heap.size<w1.heap.size:=by omega
   have hz2:w.heap.size+1<w1.heap.size:=by omega
   go_wp2_with fail;refine bodyPost_ret (v:=.tuple #[.agg #[.int .i64 q.blocks,.int .i64 q.nodes,.int .i64 q.bX,.int .i64 q.bR],.int .i64 1]) (by simp[results,Tryz.results165,go_sem,hc,hz2]) rfl ⟨rfl,?_⟩
   repeat (first|refine Ext.alloc ?_ _|refine Ext.setCell ?_ (by simp<;>omega) _)
   exact (((Ext.refl _).alloc _).alloc _).trans b1
 ·rw [e1,e2]
  clear e1 e2;go_enter Tryz.func165,Tryz.ntmps165;go_wp2_with fail;refine (nJ q hq _).mono ?_;rintro e w1 ⟨rfl,b1⟩;obtain ⟨hc,hf⟩:=b1.cells;have hz:=b1.size;simp only[World.size_alloc]at hz;have hz1:w.heap.size<w1.heap.size:=by omega
  have hz2:w.heap.size+1<w1.heap.size:=by omega
  go_wp2_with fail;refine bodyPost_ret (v:=.tuple #[.agg #[.int .i64 (kK q b n).blocks,.int .i64 (kK q b n).nodes,.int .i64 (kK q b n).bX,.int .i64 (kK q b n).bR],.int .i64 0]) (by simp[results,Tryz.results165,go_sem,hc,hz2,kK]) rfl ⟨rfl,?_⟩
  repeat (first|refine Ext.alloc ?_ _|refine Ext.setCell ?_ (by simp<;>omega) _)
  exact (((Ext.refl _).alloc _).alloc _).trans b1
theorem fH (b n:Int):(1<=b/\b<=1073741824/\1<=n/\n<=65536/\cA b n=true)\/(cA b n=false/\(b<1\/(1<=b/\1073741824<b)\/(1<=b/\b<=1073741824/\n<1)\/(1<=b/\b<=1073741824/\1<=n/\65536<n))):=by
 unfold cA
 by_cases h1:1<=b<;>by_cases h2:b<=1073741824<;>by_cases h3:1<=n<;>by_cases h4:n<=65536<;>simp[h1,h2,h3,h4]<;>omega
theorem JC (b n:Int) (h:cA b n=true) (w:World):Calls Tryz.prog 136 #[.int .i64 b,.int .i64 n] w (aH w (.tuple #[.agg #[.int .i64 0,.int .i64 0,.int .i64 b,.int .i64 n],.int .i64 0])):=by
 rcases fH b n with⟨h1,h2,h3,h4,_⟩|⟨h0,_⟩
 ·clear h
  go_enter Tryz.func136,Tryz.ntmps136;go_wp2_with fail;refine bodyPost_ret (v:=.tuple #[.agg #[.int .i64 0,.int .i64 0,.int .i64 b,.int .i64 n],.int .i64 0]) (by simp[results,Tryz.results136,go_sem]) rfl ⟨rfl,?_⟩;exact (Ext.refl _).alloc _
 ·rw[h0]at h;cases h
theorem OU (b n:Int) (h:cA b n=false) (w:World):Calls Tryz.prog 136 #[.int .i64 b,.int .i64 n] w (aH w (.tuple #[.agg #[.int .i64 0,.int .i64 0,.int .i64 0,.int .i64 0],.int .i64 3])):=by
 rcases fH b n with⟨h1,h2,h3,h4,h0⟩|⟨-,h1|⟨h1,h2⟩|⟨h1,h2,h3⟩|⟨h1,h2,h3,h4⟩⟩
 ·rw[h0]at h;cases h
 all_goals
  clear h;go_enter Tryz.func136,Tryz.ntmps136;go_wp2_with fail;refine bodyPost_ret (v:=.tuple #[.agg #[.int .i64 0,.int .i64 0,.int .i64 0,.int .i64 0],.int .i64 3]) (by simp[results,Tryz.results136,go_sem]) rfl ⟨rfl,?_⟩;exact (Ext.refl _).alloc _
theorem kX (b n:Int) (w:World):Calls Tryz.prog 85 #[.int .i64 b,.int .i64 n] w (aH w (.bool (cA b n))):=by
 rcases fH b n with⟨h1,h2,h3,h4,h0⟩|⟨h0,h1|⟨h1,h2⟩|⟨h1,h2,h3⟩|⟨h1,h2,h3,h4⟩⟩
 all_goals
  rw [h0];clear h0;go_enter Tryz.func85,Tryz.ntmps85;go_wp2_with fail;go_ret;exact aH.mk (gU (by first|rfl|exact decide_eq_false (by omega))) (Ext.refl _)
theorem yj (kind size:Int) (h0:0<=size) (h1:size<=1000000000) (w:World):Calls Tryz.prog 172 #[.int .i64 kind,.int .i64 size] w (fun e w'=>e=.returned (.int .i64 (bC kind size))/\w'=w):=by
 by_cases hk:kind=1
 ·have hf:Hid (bC kind size=1):=by show _=_;unfold bC;rw[if_pos hk]
  have hb:(kind == 1)=true:=by rw[hk];rfl
  clear hk;go_enter Tryz.func172,Tryz.ntmps172;go_wp2_with fail;go_ret;exact ⟨(aB hf.out.symm),rfl⟩
 ·have hb:(kind == 1)=false:=by simpa using hk
  by_cases hk2:kind=2
  ·have hb2:(kind == 2)=true:=by rw[hk2];rfl
   by_cases hs:0<size
   ·have hf:Hid (bC kind size=(size-1) / 512+1):=by show _=_;unfold bC;rw[if_neg hk,if_pos ⟨hk2,hs⟩]
    clear hk hk2;go_enter Tryz.func172,Tryz.ntmps172;go_wp2_with fail;go_ret;exact ⟨(aB hf.out.symm),rfl⟩
   ·have hf:Hid (bC kind size=0):=by show _=_;unfold bC;rw[if_neg hk,if_neg (fun h=>hs h.2)]
    have hs2:size<=0:=by omega
    clear hk hk2 hs;go_enter Tryz.func172,Tryz.ntmps172;go_wp2_with fail;go_ret;exact ⟨(aB hf.out.symm),rfl⟩
  ·have hf:Hid (bC kind size=0):=by show _=_;unfold bC;rw[if_neg hk,if_neg (fun h=>hk2 h.1)]
   have hb2:(kind == 2)=false:=by simpa using hk2
   clear hk hk2;go_enter Tryz.func172,Tryz.ntmps172;go_wp2_with fail;go_ret;exact ⟨(aB hf.out.symm),rfl⟩
theorem yl (kind size:Int) (h0:0<=size) (h1:size<=1000000000) (w:World):Calls Tryz.prog 166 #[.int .i64 kind,.int .i64 size] w (fun e w'=>e=.returned (.int .i64 (bC kind size))/\w'=w):=by
 by_cases hk:kind=1
 ·have hf:Hid (bC kind size=1):=by show _=_;unfold bC;rw[if_pos hk]
  have hb:(kind == 1)=true:=by rw[hk];rfl
  clear hk;go_enter Tryz.func166,Tryz.ntmps166;go_wp2_with fail;go_ret;exact ⟨(aB hf.out.symm),rfl⟩
 ·have hb : (kind == 1)=false:=by simpa using hk
  by_cases hk2:kind=2
  ·have hb2:(kind == 2)=true:=by rw[hk2];rfl
   have hf:∀k:Int,0<=k->size<=512*k->(k=0\/512*(k-1)<size)->bC kind size=k:=by
    intro k a b c;unfold bC;rw [if_neg hk]
    by_cases hs:0<size
    ·rw[if_pos ⟨hk2,hs⟩];omega
    ·rw[if_neg (fun h=>hs h.2)];omega
   have HF:=zH hf;clear hk hk2 hf;go_enter Tryz.func166,Tryz.ntmps166;go_wp2_with fail;go_loop [5] (fun i=>∃k:Int,0<=k/\k<=2000000/\i=.int .i64 k/\Hid (k=0\/512*(k-1)<size)) (fun i=>(size-512*intOf i+512).toNat)
   case atStart=>exact⟨0,by omega,by omega,rfl,.inl rfl⟩
   case round =>
    obtain ⟨k,g1,g2,rfl,g3⟩:=hrel
    by_cases hlt:512*k<size
    ·go_wp2_with fail
     go_round
     case rel=>exact⟨k+1,by omega,by omega,rfl,.inr (by omega)⟩
     case measure=>simp[intOf];omega
    ·have hle:size<=512*k:=by omega
     go_wp2_with fail;go_ret;exact ⟨(aB (HF.out k g1 hle g3.out).symm),rfl⟩
  ·have hf:Hid (bC kind size=0):=by show _=_;unfold bC;rw[if_neg hk,if_neg (fun h=>hk2 h.1)]
   have hb2:(kind == 2)=false:=by simpa using hk2
   clear hk hk2;go_enter Tryz.func166,Tryz.ntmps166;go_wp2_with fail;go_loop [5] (fun i=>i=.int .i64 0) (fun i=>0)
   case atStart=>rfl
   case round =>
    subst hrel;go_wp2_with fail;go_ret;exact ⟨(aB hf.out.symm),rfl⟩
def aW (ds:List eC):List Value:=ds.flatMap fun d=>[.int .i64 d.root,.int .i64 d.over,.int .i64 d.q.blocks,.int .i64 d.q.nodes,.int .i64 d.q.bX,.int .i64 d.q.bR]
theorem jb (ds:List eC):(aW ds).length=ds.length*6:=by
 unfold aW
 induction ds with
 | nil=>rfl
 | cons d ds ih=>rw[List.flatMap_cons,List.length_append,ih];simp;omega
theorem ia (a b:List eC):aW (a++b)=aW a++aW b:=by unfold aW;rw[List.flatMap_append]
theorem ym (ds:List eC):∀k,(h:k<ds.length)->∀j,j<6->(aW ds)[k*6+j]?=[.int .i64 (ds[k]).root,.int .i64 (ds[k]).over,.int .i64 (ds[k]).q.blocks,.int .i64 (ds[k]).q.nodes,.int .i64 (ds[k]).q.bX,.int .i64 (ds[k]).q.bR][j]?:=by
 induction ds with
 | nil=>intro k h;cases h
 | cons d ds ih =>
  intro k h j hj;have e:aW (d::ds)=[.int .i64 d.root,.int .i64 d.over,.int .i64 d.q.blocks,.int .i64 d.q.nodes,.int .i64 d.q.bX,.int .i64 d.q.bR]++aW ds:=rfl;rw [e]
  cases k with
  | zero =>
   simp only[Nat.zero_mul,Nat.zero_add,List.getElem_cons_zero];rw [List.getElem?_append_left (by simpa using hj)]
  | succ k =>
   have:=ih k (by simpa using h) j hj;rw [List.getElem?_append_right (by simp;omega)];simp only[List.length_cons,List.length_nil,List.getElem_cons_succ];rw [show (k+1)*6+j-(0+1+1+1+1+1+1)=k*6+j by omega];exact this
theorem pL (ds:List eC):∀u∈aW ds,u.oneCell'=true:=by
 intro u hu;unfold aW at hu;rw [List.mem_flatMap]at hu;obtain ⟨d,_,hx⟩:=hu;simp at hx;rcases hx with rfl|rfl|rfl|rfl|rfl|rfl<;>rfl
def iT (w:World) (B:Nat) (t:TypeId) (v:Value) (ds:List eC):Prop:=w.ownsRow B t 6 v ds.length (aW ds)
theorem iT.at_ {w:World} {B:Nat} {t:TypeId} {g cap:Nat} {ds:List eC} (h:iT w B t (.slice (some ⟨g,0,none⟩) ds.length cap) ds) (k:Nat) (hk:k<ds.length) :
  w.cell? ⟨g,k*6,none⟩=some (.int .i64 ds[k].root)/\w.cell? ⟨g,k*6+1,none⟩=some (.int .i64 ds[k].over)/\w.cell? ⟨g,k*6+2,none⟩=some (.int .i64 ds[k].q.blocks)/\w.cell? ⟨g,k*6+3,none⟩=some (.int .i64 ds[k].q.nodes)/\w.cell? ⟨g,k*6+4,none⟩=some (.int .i64 ds[k].q.bX)/\w.cell? ⟨g,k*6+5,none⟩=some (.int .i64 ds[k].q.bR):=by
 have hc:=fun j (hj:j<6)=>(World.ownsRow.cellAt h (k*6+j) (by omega)).trans (ym ds k hk j hj)
 exact ⟨hc 0 (by omega),hc 1 (by omega),hc 2 (by omega),hc 3 (by omega),hc 4 (by omega),hc 5 (by omega)⟩
theorem av {w w':World} {L:List Nat} {B size n:Nat} {e:TypeId} {v:Value} {xs:List Value} (h:w.ownsRow B e size v n xs) (o:Only L w w') (hn:∀g,v.ownBlock=some g->g∉L):w'.ownsRow B e size v n xs:=by
 refine ⟨h.1,?_⟩;rcases h.2 with h0|⟨g,cap,cur,rfl,hb,hg,h1,h2,h3,h4⟩
 ·exact .inl h0
 ·exact .inr ⟨g,cap,cur,rfl,hb,o.has hg (hn g rfl),h1,h2,h3,h4⟩
theorem iT.has {w:World} {B:Nat} {t:TypeId} {g cap:Nat} {ds:List eC} (h:iT w B t (.slice (some ⟨g,0,none⟩) ds.length cap) ds):B<=g/\∃cur,Has w g (.cells cur t):=by
 rcases h.2 with⟨h0,_⟩|⟨g',cap',cur,h0,hb,hg,_⟩
 ·cases h0
 ·injection h0 with h0
  injection h0 with h0;injection h0 with h0;subst h0;exact ⟨hb,cur,hg⟩
structure bQ where
 bW:Nat
 bT:Nat
 bM:Nat
 bD:Nat
abbrev bQ.list (g:bQ):List Nat:=[g.bW,g.bT,g.bM,g.bD]
def eD (w:World) (B:Nat) (g:bQ) (S:ac):Prop:=
 B<=g.bW/\oC w B g.bT g.bM S.nodes S.last/\∃cd,Has w g.bW (.cells #[.pointer (some ⟨g.bT,0,none⟩),.slice (some ⟨g.bD,0,none⟩) S.af.length cd] 70)/\iT w B 157 (.slice (some ⟨g.bD,0,none⟩) S.af.length cd) S.af
theorem eD.apart {w:World} {B:Nat} {g:bQ} {S:ac} (h:eD w B g S):dg w B g.list:=by
 obtain ⟨h1,h2,cd,h3,h4⟩:=h;obtain ⟨h5,cur,h6⟩:=h4.has;have ha:=h2.apart;intro b hb;simp only[bQ.list,List.mem_cons,List.not_mem_nil,or_false]at hb;rcases hb with rfl|rfl|rfl|rfl
 ·exact⟨h1,h3.gi (by decide)⟩
 ·exact ha _ (by simp)
 ·exact ha _ (by simp)
 ·exact⟨h5,h6.gi (by decide)⟩
theorem eD.lt {w:World} {B:Nat} {g:bQ} {S:ac} (h:eD w B g S):g.bW<w.heap.size/\g.bT<w.heap.size/\g.bM<w.heap.size/\g.bD<w.heap.size:=by
 obtain ⟨h1,⟨_,_,h2,es,cl,h3,_⟩,cd,h4,h5⟩:=h;obtain ⟨_,cur,h6⟩:=h5.has;exact ⟨h4.lt,h2.lt,h3.lt,h6.lt⟩
theorem eD.only {w w':World} {B:Nat} {g:bQ} {S:ac} {L:List Nat} (h:eD w B g S) (o:Only L w w') (ha:dg w B L) (hn:∀b∈g.list,b∉L):eD w' B g S:=by
 obtain ⟨h1,h2,cd,h3,h4⟩:=h;refine ⟨h1,h2.only o ha (hn _ (by simp)) (hn _ (by simp)),cd,o.has h3 (hn _ (by simp)),av h4 o fun b hb=>?_⟩;injection hb with hb;subst hb;exact hn _ (by simp)
theorem eD.ext {w w':World} {B:Nat} {g:bQ} {S:ac} (h:eD w B g S) (o:Ext w w'):eD w' B g S:=h.only (Only.aw (L:=[]) o) (fun b hb=>by cases hb) (by simp)
theorem fI {w:World} {b c:Nat} {C D:Array Value} {t u:TypeId} (h:Has w b (.cells C t)) (k:Has w c (.cells D u)) (hne:t≠u):b≠c:=by
 rintro rfl;unfold Has at h k;rw [h]at k;injection k with k;injection k with _ k;exact hne k
theorem fJ {w:World} {b c:Nat} {C:Array Value} {t:TypeId} {es:Array MapEntry} {cl:Nat} (h:Has w b (.cells C t)) (k:Has w c (.map es cl)):b≠c:=by
 rintro rfl;unfold Has at h k;rw [h]at k
 cases k
theorem eD.ne {w:World} {B:Nat} {g:bQ} {S:ac} (h:eD w B g S):g.bW≠g.bT/\g.bW≠g.bM/\g.bW≠g.bD/\g.bT≠g.bM/\g.bT≠g.bD/\g.bM≠g.bD:=by
 obtain ⟨h1,⟨_,_,h2,es,cl,h3,_⟩,cd,h4,h5⟩:=h;obtain ⟨_,cur,h6⟩:=h5.has;exact ⟨fI h4 h2 (by decide),fJ h4 h3,fI h4 h6 (by decide),fJ h2 h3,fI h2 h6 (by decide),(fJ h6 h3).symm⟩
theorem eD.table {w w':World} {B:Nat} {g:bQ} {S:ac} {ns:List ai} {last:Int} (h:eD w B g S) (o:Only [g.bT,g.bM] w w') (ht:oC w' B g.bT g.bM ns last):eD w' B g ⟨ns,S.af,last⟩:=by
 obtain ⟨n1,n2,n3,n4,n5,n6⟩:=h.ne;obtain ⟨h1,h2,cd,h3,h4⟩:=h;refine ⟨h1,ht,cd,o.has h3 (by simp;exact⟨n1,n2⟩),av h4 o fun b hb=>?_⟩;injection hb with hb;subst hb;simp;exact⟨n5.symm,n6.symm⟩
theorem iz (B:Nat) (g:bQ) (S:ac) (w:World) (h:eD w B g S) (hd:0<S.af.length):Calls Tryz.prog 74 #[.pointer (some ⟨g.bW,0,none⟩)] w (aH w (.bool false)):=by
 obtain ⟨h1,h2,cd,h3,h4⟩:=h;have hW:=h3.lt;have c1:=h3.cell 1;simp only[gA,gC,gB]at c1;have hz:((S.af.length:Int) == 0)=false:=by simpa using (show ¬(S.af.length:Int)=0 by omega)
 clear h4;go_enter Tryz.func74,Tryz.ntmps74;go_wp2_with fail;go_ret;exact aH.mk rfl (Ext.refl _)
theorem lI (B:Nat) (g:bQ) (S:ac) (w:World) (h:eD w B g S) (hd:0<S.af.length):Calls Tryz.prog 72 #[.pointer (some ⟨g.bW,0,none⟩)] w (aH w (.int .i64 S.af.length)):=by
 have h0:=h;obtain ⟨h1,h2,cd,h3,h4⟩:=h;go_enter Tryz.func72,Tryz.ntmps72;go_wp2_with fail;refine (iz B g S _ h0 hd).mono ?_;rintro e w1 ⟨rfl,b1⟩;have hW:=(h3.ext b1).lt;have c1:=(h3.ext b1).cell 1;simp only[gA,gC,gB]at c1;go_wp2_with fail;go_ret;exact aH.mk rfl b1
theorem iA (B:Nat) (g:bQ) (S:ac) (d:Int) (w:World) (h:eD w B g S) (hd:0<S.af.length) (hl:S.af.length<=1000):Calls Tryz.prog 113 #[.pointer (some ⟨g.bW,0,none⟩),.int .i64 d] w (aH w (.int .i64 (aE S.af d))):=by
 have h0:=h;obtain ⟨h1,h2,cd,h3,h4⟩:=h
 by_cases Wi:d<1
 ·have hf:Hid (aE S.af d=0):=by show _=_;unfold aE fY;rw[if_neg (by simp;omega)]
  go_enter Tryz.func113,Tryz.ntmps113;go_wp2_with fail;refine (iz B g S _ h0 hd).mono ?_;rintro e w1 ⟨rfl,b1⟩;go_wp2_with fail;go_ret;exact aH.mk (aB hf.out.symm) b1
 ·by_cases tI:(S.af.length:Int)<d
  ·have hf:Hid (aE S.af d=0):=by show _=_;unfold aE fY;rw[if_neg (by simp;omega)]
   go_enter Tryz.func113,Tryz.ntmps113;go_wp2_with fail;refine (iz B g S _ h0 hd).mono ?_;rintro e w1 ⟨rfl,b1⟩;have hW:=(h3.ext b1).lt;have c1:=(h3.ext b1).cell 1;simp only[gA,gC,gB]at c1;go_wp2_with fail;go_ret;exact aH.mk (aB hf.out.symm) b1
  ·obtain ⟨k,hk⟩:∃k:Nat,d=(k:Int)+1:=⟨(d-1).toNat,by omega⟩
   subst hk;have dq:k<S.af.length:=by omega
   have hf:Hid (aE S.af ((k:Int)+1)=S.af[k].root):=by
    show _=_;unfold aE fY i_;rw [if_pos (by simp;omega),show ((k:Int)+1-1).toNat=k by omega,List.getD_eq_getElem?_getD,List.getElem?_eq_getElem dq];rfl
   go_enter Tryz.func113,Tryz.ntmps113;go_wp2_with fail;refine (iz B g S _ h0 hd).mono ?_;rintro e w1 ⟨rfl,b1⟩;have hW:=(h3.ext b1).lt;have c1:=(h3.ext b1).cell 1;simp only[gA,gC,gB]at c1;obtain ⟨d0,d1,d2,d3,d4,d5⟩:=iT.at_ (show iT w1 B 157 _ S.af from av h4 (Only.aw (L:=[]) b1) (by simp)) k dq
   generalize S.af[k]=x at hf d0 d1 d2 d3 d4 d5
   go_wp2_with fail;go_ret;exact aH.mk (aB hf.out.symm) b1
theorem EM {ds:List eC} {no:Int} {k:Nat} (hk:k<ds.length) (h0:0<no) (h:∀j,(hj:j<ds.length)->j<k->ds[j].over≠no) (he:ds[k].over=no):ak ds no=ds[k].root:=by
 unfold ak;have:ds.find? (fun d=>d.over == no)=some ds[k]:=by
  rw [List.find?_eq_some_iff_getElem];exact ⟨by simpa using he,k,hk,rfl,fun j hj=>by simpa using h j (by omega) hj⟩
 rw [if_pos h0,this]
theorem EN {ds:List eC} {no:Int} (h:∀j,(hj:j<ds.length)->ds[j].over≠no):ak ds no=no:=by
 unfold ak;have:ds.find? (fun d=>d.over == no)=none:=by
  rw [List.find?_eq_none];intro x hx;obtain ⟨k,hk,rfl⟩:=List.getElem_of_mem hx;simpa using h k hk
 rw [this];split<;>rfl
theorem gH (B:Nat) (g:bQ) (S:ac) (no:Int) (w:World) (h:eD w B g S) (hd:0<S.af.length) (hl:S.af.length<=1000):Calls Tryz.prog 38 #[.pointer (some ⟨g.bW,0,none⟩),.int .i64 no] w (aH w (.int .i64 (ak S.af no))):=by
 have h0:=h;obtain ⟨h1,h2,cd,h3,h4⟩:=h;obtain⟨n,hn⟩:=ar S.af.length
 by_cases bc:no<=0
 ·have hf:Hid (ak S.af no=no):=by show _=_;unfold ak;rw[if_neg (by omega)]
  clear hn;go_enter Tryz.func38,Tryz.ntmps38;go_wp2_with fail;refine (iz B g S _ h0 hd).mono ?_;rintro e w1 ⟨rfl,b1⟩;go_wp2_with fail;go_ret;exact aH.mk (aB hf.out.symm) b1
 ·have qI : 0<no:=by omega
  rw [<-hn]at h3 hl;have HN:=zH hn;clear hn;go_enter Tryz.func38,Tryz.ntmps38;go_wp2_with fail;refine (iz B g S _ h0 hd).mono ?_;rintro e w1 ⟨rfl,b1⟩;have hW:=(h3.ext b1).lt;have c1:=(h3.ext b1).cell 1;simp only[gA,gC,gB]at c1;go_wp2_with fail;go_loopw [19] (fun i wr=>∃k:Nat,k<=n/\i=.int .i64 k/\Hid (∀j,(hj:j<S.af.length)->j<k->S.af[j].over≠no)/\Ext w wr) (fun i _=>n-(intOf i).toNat)
  case atStart=>exact⟨0,Nat.zero_le _,rfl,fun j _ h=>by omega,b1⟩
  case round =>
   obtain ⟨k,hk,rfl,ha,hE⟩:=hrel
   by_cases hlt:(k:Int)<n
   ·have dq:k<S.af.length:=by have:=HN.out;omega
    obtain ⟨d0,d1,d2,d3,d4,d5⟩:=iT.at_ (show iT wr B 157 _ S.af from av h4 (Only.aw (L:=[]) hE) (by simp)) k dq;have hbD:g.bD<wr.heap.size:=(h0.ext hE).lt.2.2.2
    generalize hx:S.af[k]=x at d0 d1 d2 d3 d4 d5
    by_cases he:x.over=no
    ·have hf:Hid (ak S.af no=x.root):=by show _=_;rw[<-hx];exact EM dq qI ha.out (by rw[hx];exact he)
     have hb:(x.over == no)=true:=by simpa using he
     clear hx he;go_wp2_with fail;go_ret;exact aH.mk (aB hf.out.symm) (hE.alloc _)
    ·have Jh:Hid (∀j,(hj:j<S.af.length)->j<k+1->S.af[j].over≠no):=by
      show ∀j,(hj:j<S.af.length)->j<k+1->S.af[j].over≠no;intro j hj Ac
      by_cases e:j=k
      ·subst e;rw[hx];exact he
      ·exact ha.out j hj (by omega)
     have hb:(x.over == no)=false:=by simpa using he
     clear hx he;go_wp2_with fail;go_roundw
     case rel=>exact⟨k+1,by omega,by go_num,Jh,hE.alloc _⟩
     case measure=>simp[intOf];omega
   ·have hf:Hid (ak S.af no=no):=by show _=_;exact EN fun j hj=>ha.out j hj (by have:=HN.out;omega)
    go_wp2_with fail;go_ret;exact aH.mk (aB hf.out.symm) hE
theorem OW:(Tryz.prog.info? 157).map (fun i=>(i.zero,i.size,i.bytes))=some (some (.agg #[.int .i64 0,.int .i64 0,.int .i64 0,.int .i64 0,.int .i64 0,.int .i64 0]),6,48):=by kernel_rfl
theorem Gb {b n:Int} (h:cA b n=true):ma ⟨0,0,b,n⟩/\eu ⟨0,0,b,n⟩ 1 1=0/\aT ⟨0,0,b,n⟩ 1 1=⟨1,1,b,n⟩:=by
 rcases fH b n with⟨h1,h2,h3,h4,_⟩|⟨h0,_⟩
 ·have hf:ma ⟨0,0,b,n⟩:=⟨by simp,by simp,by simp;omega,by simp;omega,by simpa using h2,by simpa using h4⟩
  rcases oW (b:=1) (n:=1) hf ⟨by omega,by omega,by omega,by omega⟩ with⟨g1,_⟩|⟨_,g1,_⟩|⟨_,_,g1,_⟩|⟨_,_,_,_,g1,g2⟩
  ·simp at g1;omega
  ·simp at g1;omega
  ·simp at g1
  ·exact⟨hf,g1,by rw[g2];rfl⟩
 ·rw[h0]at h;cases h
theorem eH {w:World} {B size n b:Nat} {e t:TypeId} {v:Value} {xs:List Value} {C:Array Value} (h:w.ownsRow B e size v n xs) (k:Has w b (.cells C t)) (hne:t≠e):v.ownBlock≠some b:=by
 rcases h.2 with⟨rfl,_⟩|⟨g,cap,cur,rfl,_,hg,_⟩
 ·simp[Value.ownBlock]
 ·intro e1
  have:g=b:=by simpa [Value.ownBlock]using e1
  subst this;unfold Has at k;rw [hg]at k;injection k with k;injection k with _ k;exact hne k.symm
theorem kr {w:World} {B size n b:Nat} {e:TypeId} {v:Value} {xs:List Value} {es:Array MapEntry} {cl:Nat} (h:w.ownsRow B e size v n xs) (k:Has w b (.map es cl)):v.ownBlock≠some b:=by
 rcases h.2 with⟨rfl,_⟩|⟨g,cap,cur,rfl,_,hg,_⟩
 ·simp[Value.ownBlock]
 ·intro e1
  have:g=b:=by simpa [Value.ownBlock]using e1
  subst this;unfold Has at k;rw [hg]at k
  cases k
theorem dg.row {w:World} {B size n:Nat} {e:TypeId} {v:Value} {xs:List Value} (h:w.ownsRow B e size v n xs) (hne:e≠106):dg w B v.ownBlock.toList:=by
 intro b hb;rcases h.2 with⟨rfl,_⟩|⟨g,cap,cur,rfl,h1,hg,_⟩
 ·simp[Value.ownBlock]at hb
 ·have:b=g:=by simpa [Value.ownBlock]using hb
  subst this;exact ⟨h1,Has.gi (show Has w b _ from hg) hne⟩
theorem dg.cons {w:World} {B b:Nat} {L:List Nat} (h:dg w B L) (h1:B<=b) (h2:¬gh w b 106):dg w B (b::L):=by
 intro x hx;rcases List.mem_cons.1 hx with rfl|hx
 ·exact⟨h1,h2⟩
 ·exact h x hx
theorem Only.grown {w w':World} {row:Option Nat} (h:w.grownBy w' row):Only row.toList w w':=⟨h.os,h.tape,h.output,h.size,fun k hk hn=>h.block k hk (fun e=>hn (by rw[<-e];simp))⟩
theorem qJ {ns:List ai} {last:Int} (hu:aI ns last) (n:ai) (hn:n.no=last+1):aa (ns++[n]) (last+1)=n/\aQ (ns++[n]) (last+1)=true:=by
 have h0:=hu.zero (no:=last+1) (.inr (by omega));have h1:eY ns (last+1)=none:=by
  unfold aQ at h0
  rwa [Option.isSome_eq_false_iff,Option.isNone_iff_eq_none]at h0
 have h2:eY (ns++[n]) (last+1)=some n:=by
  unfold eY at h1|-;rw [List.find?_append,h1];simp [hn]
 exact ⟨by unfold aa;rw[h2];rfl,by unfold aQ;rw[h2];rfl⟩
theorem wQ {ns:List ai} {last:Int} (hu:aI ns last) (n m:ai) (hn:n.no=last+1) (hm:m.no=last+1):bn (ns++[n]) m=ns++[m]:=by
 have h:bn ns m=ns:=tG fun x hx=>by have:=(hu.2 x hx).2;omega
 unfold bn at h|-;rw [List.map_append,h];simp [hn,hm]
theorem vW (ds:List eC) (d:eC) (r:Int):(aW ds++aW [d]).set (ds.length*6) (.int .i64 r)=aW (ds++[{d with root:=r}]):=by
 rw [ia,List.set_append_right _ _ (by rw[jb];exact Nat.le_refl _),jb,Nat.sub_self];rfl
def aak (w:World) (B bW bT bM:Nat) (v:Value) (S:ac) (e:Ending) (w':World):Prop:=
 e = .returned (.int .i64 0)/\∃bD,eD w' B ⟨bW,bT,bM,bD⟩ S/\Only (bW::bT::bM::v.ownBlock.toList) w w'/\(v.ownBlock=some bD\/w.heap.size<=bD)
theorem wR (B bW bT bM:Nat) (v:Value) (S:ac) (over b n:Int) (w:World) (hl:cA b n=true) (hb:B<=bW) (hT:oC w B bT bM S.nodes S.last) (hW:Has w bW (.cells #[.pointer (some ⟨bT,0,none⟩),v] 70)) (hD:iT w B 157 v S.af)
  (hv:∃A c,v=.slice A S.af.length c) (hlen:S.af.length<=1000) (hu:aI S.nodes S.last) (jF:0<=S.last) (g_:S.last<=1000000) :
  Calls Tryz.prog 111 #[.pointer (some ⟨bW,0,none⟩),.int .i64 over,.int .i64 b,.int .i64 n] w (aak w B bW bT bM v (cr S over b n)):=by
 obtain ⟨t1,t2,t3⟩:=Gb hl;obtain ⟨A,c,rfl⟩:=hv;go_enter Tryz.func111,Tryz.ntmps111;go_wp2_with fail;refine (JC b n hl _).mono ?_;rintro e w1 ⟨rfl,b1⟩;go_wp2_with fail;refine (wP ⟨0,0,b,n⟩ 1 1 t1 ⟨by decide,by decide,by decide,by decide⟩ _).mono ?_;rw [t2,t3];rintro e w2 ⟨rfl,b2⟩;obtain ⟨hc,hf⟩:=b2.cells;have hz:=b2.size;simp only[World.size_alloc]at hz;go_wp2_with fail;obtain⟨W3,du⟩:=ar ((((w2.setCell ⟨w1.heap.size,0,none⟩ (.int .i64 1)).setCell ⟨w1.heap.size,1,none⟩ (.int .i64 1)).setCell ⟨w1.heap.size,2,none⟩ (.int .i64 b)).setCell ⟨w1.heap.size,3,none⟩ (.int .i64 n));rw [<-du];have E3:Ext w W3:=by
  rw [du];have z1:=b1.size
  repeat (refine Ext.setCell ?_ (by simp at z1|-;omega) _)
  exact (b1.alloc _).trans b2
 have H3:Has W3 w1.heap.size (.cells #[.int .i64 1,.int .i64 1,.int .i64 b,.int .i64 n] 108):=by
  rw [du];have:=((((((Has.new w1 (.cells #[.int .i64 0,.int .i64 0,.int .i64 b,.int .i64 n] 108)).ext b2).setCell 0 (.int .i64 1)).setCell 1 (.int .i64 1)).setCell 2 (.int .i64 b)).setCell 3 (.int .i64 n));exact this
 clear du hc hf;have q0:W3.cell? ⟨w1.heap.size,0,none⟩=some (.int .i64 1):=H3.cell 0;have q1:W3.cell? ⟨w1.heap.size,1,none⟩=some (.int .i64 1):=H3.cell 1;have q2:W3.cell? ⟨w1.heap.size,2,none⟩=some (.int .i64 b):=H3.cell 2;have q3:W3.cell? ⟨w1.heap.size,3,none⟩=some (.int .i64 n):=H3.cell 3;have v1:W3.cell? ⟨bW,1,none⟩=some (.slice A S.af.length c):=(hW.ext E3).cell 1;have f1:W3.frozen? ⟨bW,1,none⟩=false:=(hW.ext E3).free 1;have z3:=(hW.ext E3).lt;obtain ⟨i0,hi,hz0,hz1,hz2⟩:=info_parts OW;have hD3:W3.ownsRow B 157 6 (.slice A S.af.length c) S.af.length (aW S.af):=av hD (Only.aw (L:=[]) E3) (by simp);have EO:(Value.slice A S.af.length c).ownBlock≠some bW:=eH hD3 (hW.ext E3) (by decide);have hBW:B<=W3.heap.size:=by omega
 go_region_law (first|(refine step_append_lies _ (by rfl) _ _ _ (by rfl) B 157 i0 _ 6 48 Tryz.underlying68 hi hz0 hz1 hz2 rfl (by omega) _ S.af.length (aW S.af) (by rfl) ((hD3.alloc _).drew) ⟨W3.heap.size,0,none⟩ 1 1 (aW [⟨0,over,⟨1,1,b,n⟩⟩]) (by rfl) (by rfl) (World.news_of_block (cs:=#[.int .i64 0,.int .i64 over,.int .i64 1,.int .i64 1,.int .i64 b,.int .i64 n]) (t:=157) (fr:=(0,0)) (heap_alloc_new W3 _)) (pL _) (by omega) (by unfold maxLen;omega) (by omega) (by simp;omega) (W3.heap.size+1) (by simp) ?_;intro gg cap w4 tJ hgrow hat hlt;have v4:w4.cell? ⟨bW,1,none⟩=some (.slice A S.af.length c):=((hgrow.cell_far ⟨bW,1,none⟩ (by simp;omega) (Ne.symm EO)).trans (((hW.ext E3).alloc _).cell 1));have f4:w4.frozen? ⟨bW,1,none⟩=false:=((hgrow.frozen_far ⟨bW,1,none⟩ (by simp;omega) (Ne.symm EO)).trans (((hW.ext E3).alloc _).free 1))))
 all_goals
  have O4:Only (Value.slice A S.af.length c).ownBlock.toList w w4:=(Only.aw (E3.trans ((Ext.refl _).alloc _ |>.drew))).then (Only.grown hgrow);have H4:Has w4 bW (.cells #[.pointer (some ⟨bT,0,none⟩),.slice A S.af.length c] 70):=O4.has hW (by simpa using fun e=>EO e);obtain⟨W5,kL⟩:=ar (w4.setCell ⟨bW,1,none⟩ (.slice (some ⟨gg,0,none⟩) (S.af.length+1) cap));rw [<-kL];have H5:Has W5 bW (.cells #[.pointer (some ⟨bT,0,none⟩),.slice (some ⟨gg,0,none⟩) (S.af.length+1) cap] 70):=by rw[kL];exact H4.setCell 1 _
  have hgb:gg≠bW:=fun e=>eH tJ H4 (by decide) (by rw[e];rfl)
  have D5:W5.ownsRow B 157 6 (.slice (some ⟨gg,0,none⟩) (S.af.length+1) cap) (S.af.length+1) (aW S.af++aW [⟨0,over,⟨1,1,b,n⟩⟩]):=by rw[kL];exact av tJ (Only.setCell w4 bW 1 _) (fun x hx=>by simp[Value.ownBlock]at hx;subst hx;simpa using hgb)
  obtain⟨L,hL⟩:=ar (bW::(Value.slice A S.af.length c).ownBlock.toList);have O5:Only L w W5:=by rw[kL,hL];exact (O4.mono (fun x hx=>List.mem_cons_of_mem _ hx)).then ((Only.setCell w4 bW 1 _).mono (by simp))
  have aL:dg w B L:=by rw[hL];exact (dg.row hD (by decide)).cons hb (hW.gi (by decide))
  obtain ⟨tb1,tb2,tb3,es0,cl0,tb4,-⟩:=id hT;have nT:bT∉L:=by rw[hL];simp;exact⟨fun e=>fI hW tb3 (by decide) e.symm,fun e=>eH hD tb3 (by decide) e⟩
  have nM:bM∉L:=by rw[hL];simp;exact⟨fun e=>fJ hW tb4 e.symm,fun e=>kr hD tb4 e⟩
  have T5:oC W5 B bT bM S.nodes S.last:=hT.only O5 aL nT nM;clear kL v4 f4 hgrow tJ;have v0:W5.cell? ⟨bW,0,none⟩=some (.pointer (some ⟨bT,0,none⟩)):=H5.cell 0;have v5:W5.cell? ⟨bW,1,none⟩=some (.slice (some ⟨gg,0,none⟩) (S.af.length+1) cap):=H5.cell 1;have z5:=H5.lt;go_wp2_with fail;refine (zZ B bT bM S.nodes S.last ⟨0,(S.af.length:Int)+1,1,493,0,0,0,0,1,0,[],[]⟩ none 0 W5 T5 hu jF g_ ⟨.nil _ _ _,Nat.le_refl _,Nat.zero_le _,fun _=>rfl⟩).mono ?_;rintro e w6 ⟨rfl,T6,O6⟩;obtain ⟨n1,JD⟩:∃n1:ai,n1=⟨S.last+1,(S.af.length:Int)+1,1,493,0,0,0,0,1,0,[],[]⟩:=⟨_,rfl⟩;have nW:bW∉[bT,bM]:=by simp;exact⟨fI hW tb3 (by decide),fJ hW tb4⟩
  have nG:∀x,(Value.slice (some ⟨gg,0,none⟩) (S.af.length+1) cap).ownBlock=some x->x∉[bT,bM]:=fun x hx=>by
   obtain ⟨_,_,k3,_,_,k4,_⟩:=T5;simp;exact ⟨fun e=>eH D5 k3 (by decide) (by rw[hx,e]),fun e=>kr D5 k4 (by rw[hx,e])⟩
  have H6:=O6.has H5 nW;have D6:=av D5 O6 nG;have T6':oC w6 B bT bM (S.nodes++[n1]) (S.last+1):=by rw[JD];exact T6
  have u6:aI (S.nodes++[n1]) (S.last+1):=hu.add n1 (by rw[JD]) jF;obtain ⟨g1,g2⟩:=qJ hu n1 (by rw[JD]);clear T6 v0 v5 z5;have v0:w6.cell? ⟨bW,0,none⟩=some (.pointer (some ⟨bT,0,none⟩)):=H6.cell 0;have z6:=H6.lt;have G1:=zH g1;have G2:=zH g2;have N1:=zH JD;clear g1 g2 JD;go_wp2_with fail;refine (fP B bT bM _ _ (S.last+1) w6 T6').mono ?_;rintro e w7 ⟨A7,c7,rfl,tK,E7⟩;rw [G1.out]at tK|-;rw [G2.out];have v7:w7.cell? ⟨bW,0,none⟩=some (.pointer (some ⟨bT,0,none⟩)):=(H6.ext E7).cell 0;have z7:=(H6.ext E7).lt;clear v0;go_wp2_with fail;obtain ⟨n2,z_⟩:∃n2:ai,n2={n1 with up:=S.last+1}:=⟨_,rfl⟩;obtain⟨W8,vX⟩:=ar (w7.alloc (.cells #[n2.no,n2.dev,n2.kind,n2.mode,n2.uid,n2.gid,n2.mtime,n2.ctime,n2.ah,n2.up,bs n2.data,.slice A7 n2.ae.length c7] 58));have hW9:=vX;rw [z_]at hW9;rw [<-hW9];have E8:Ext w7 W8:=by rw[vX];exact (Ext.refl _).alloc _
  have B8:Has W8 w7.heap.size (.cells #[n2.no,n2.dev,n2.kind,n2.mode,n2.uid,n2.gid,n2.mtime,n2.ctime,n2.ah,n2.up,bs n2.data,.slice A7 n2.ae.length c7] 58):=by rw[vX];exact Has.new _ _
  have ZV:ay W8 B n2 A7 c7:=(tK.ext E8).same (by rw[z_]);have T8:=T6'.ext (E7.trans E8);have H8:=(H6.ext E7).ext E8;obtain ⟨x0,x1,x2,x3,x4,x5,x6,x7,x8,x9,sy,sA⟩:=B8.dS;have xz:=B8.lt;have v8:W8.cell? ⟨bW,0,none⟩=some (.pointer (some ⟨bT,0,none⟩)):=H8.cell 0;have z8:=H8.lt;have hs2:bn (S.nodes++[n1]) n2=S.nodes++[n2]:=wQ hu n1 n2 (by rw[N1.out]) (by rw[z_,N1.out]);have zx:n2=bo S:=by rw[z_,N1.out];rfl
  have HS:=zH hs2;have HR:=zH zx;clear vX hW9 z_ v7 hs2 zx q0 q1 q2 q3 v1 f1;go_still_tail 5,(by kernel_rfl);change wpList _ _ _ _ _ W8.drew;go_wp2_with fail;refine (zX B bT bM (S.nodes++[n1]) (S.last+1) n2 A7 c7 W8.drew (T8.ext ((Ext.refl _).drew)) u6 (ZV.ext ((Ext.refl _).drew))).mono ?_;rintro e w9 ⟨rfl,T9,O9⟩;have H9:=O9.has (H8.ext ((Ext.refl _).drew)) nW;have D9:=av (av D6 (Only.aw (L:=[]) ((E7.trans E8).drew)) (by simp)) O9 nG;have v9:w9.cell? ⟨bW,1,none⟩=some (.slice (some ⟨gg,0,none⟩) (S.af.length+1) cap):=H9.cell 1;have z9:=H9.lt;have dc:=D9.cellAt (S.af.length*6) (by omega);rw [List.getElem?_append_right (by rw[jb];exact Nat.le_refl _),jb,Nat.sub_self]at dc;have dc2:w9.cell? ⟨gg,S.af.length*6,none⟩=some (.int .i64 0):=dc;have df:=D9.frozenAt (S.af.length*6);have y1:(0:Int)<=(S.af.length:Int):=Int.natCast_nonneg _;have y2:((S.af.length:Int)+1-1)=S.af.length:=by omega
  clear dc x0 x1 x2 x3 x4 x5 x6 x7 x8 x9 sy sA v8;go_wp2_with fail;go_ret;have oS:=Only.setCell w9 gg (S.af.length*6) (.int .i64 (S.last+1));have aG:dg w9 B [gg]:=(dg.row D9 (by decide)).sub (by simp[Value.ownBlock]);have hO:Only (bW::bT::bM::(Value.slice A S.af.length c).ownBlock.toList) w w9:=by
   rw [hL]at O5;exact (((O5.mono (by intro x hx;simp at hx|-;rcases hx with h|h;exact .inl h;exact .inr (.inr (.inr h)))).then (O6.mono (by intro x hx;simp at hx|-;rcases hx with h|h;exact .inr (.inl h);exact .inr (.inr (.inl h))))).ext ((E7.trans E8).drew)).then (O9.mono (by intro x hx;simp at hx|-;rcases hx with h|h;exact .inr (.inl h);exact .inr (.inr (.inl h))))
  have JE:(Value.slice A S.af.length c).ownBlock=some gg\/w.heap.size<=gg:=by
   rcases hat with h|h
   ·exact .inl h
   ·exact .inr (by have:=E3.size;omega)
  refine ⟨rfl,gg,⟨hb,?_,cap,?_,?_⟩,?_,JE⟩
  ·rw [HS.out,HR.out]at T9
   exact T9.only oS aG (by have:=nG gg rfl;simp at this|-;exact fun e=>this.1 e.symm) (by have:=nG gg rfl;simp at this|-;exact fun e=>this.2 e.symm)
  ·have:=oS.has H9 (by simpa using hgb.symm)
   simpa [cr]using this
  ·have:=(D9.stored (S.af.length*6) (.int .i64 (S.last+1))).1
   rw [vW]at this;unfold iT cr;simpa using this
  ·exact hO.trans oS fun x hx=>by
    rw [List.mem_singleton]at hx;subst hx;rcases JE with h|h
    ·exact .inl (by simp[h])
    ·exact .inr h
theorem OX (bW:Nat) (over b n:Int) (w:World) (hl:cA b n=false):Calls Tryz.prog 111 #[.pointer (some ⟨bW,0,none⟩),.int .i64 over,.int .i64 b,.int .i64 n] w (aH w (.int .i64 3)):=by
 go_enter Tryz.func111,Tryz.ntmps111;go_wp2_with fail;refine (OU b n hl _).mono ?_;rintro e w1 ⟨rfl,b1⟩;go_wp2_with fail;go_ret;exact aH.mk rfl (b1.alloc _)
def cE:ac:=⟨[],[],0⟩
def aal (w:World) (B:Nat) (b n:Int) (e:Ending) (w':World):Prop:=
 ∃ g,e=.returned (.tuple #[.pointer (some ⟨g.bW,0,none⟩),.int .i64 0])/\eD w' B g (cr cE 0 b n)/\Ext w w'
theorem JF (B:Nat) (b n:Int) (w:World) (hB:B<=w.heap.size) (hl:cA b n=true):Calls Tryz.prog 78 #[.int .i64 b,.int .i64 n] w (aal w B b n):=by
 go_enter Tryz.func78,Tryz.ntmps78;go_wp2_with fail;refine (Jy B _ hB).mono ?_;rintro e w1 ⟨bT,bM,rfl,T1,b1,k1,k2⟩;have hz:=b1.size;have lT:=T1.2.2.1.lt;go_wp2_with fail;refine (wR B w1.heap.size bT bM (.slice none 0 0) cE 0 b n _ hl (by omega) (T1.ext ((Ext.refl _).alloc _)) (Has.new w1 _) (World.ownsRow_nil _ _ _ _) ⟨none,0,rfl⟩ (by decide) (aI.nil 0) (by decide) (by decide)).mono ?_;rintro e w2 ⟨rfl,bD,W2,O2,h2⟩;go_wp2_with fail;go_ret2;refine ⟨⟨_,bT,bM,bD⟩,rfl,W2,O2.after (b1.alloc _) ?_⟩;intro x hx;simp [Value.ownBlock]at hx;rcases hx with rfl|rfl|rfl<;>omega
def JG (w:World) (B:Nat) (g:bQ) (S:ac) (at_ b n:Int) (e:Ending) (w':World):Prop:=
 e = .returned (.tuple #[.int .i64 (qH S at_ b n),.int .i64 (cX S at_ b n)])/\∃bD,eD w' B ⟨g.bW,g.bT,g.bM,bD⟩ (ct S at_ b n)/\Only g.list w w'/\(bD=g.bD\/w.heap.size<=bD)
theorem iB {w w':World} {B:Nat} {g:bQ} {S:ac} {at_ b n x:Int} (h:eD w B g S) (hE:Ext w w') (hx:cX S at_ b n=x) (h0:x≠0):JG w B g S at_ b n (.returned (.tuple #[.int .i64 0,.int .i64 x])) w':=by
 refine ⟨?_,g.bD,?_,Only.aw hE,.inl rfl⟩
 ·unfold qH;rw[hx,if_neg h0]
 ·unfold ct;rw[hx,if_neg h0];exact h.ext hE
theorem Ad (S:ac) (over b n:Int):aE (cr S over b n).af ((S.af.length:Int)+1)=S.last+1:=by
 unfold aE fY i_ cr;simp;intro h;omega
theorem CN (B:Nat) (g:bQ) (S:ac) (at_ b n:Int) (w:World) (h:eD w B g S) (hd:0<S.af.length) (tI:S.af.length<=8) (hu:aI S.nodes S.last) (jF:0<=S.last) (g_:S.last<=1000000) :
  Calls Tryz.prog 80 #[.pointer (some ⟨g.bW,0,none⟩),.int .i64 at_,.int .i64 b,.int .i64 n] w (JG w B g S at_ b n):=by
 have h0:=h;obtain ⟨h1,h2,cd,h3,h4⟩:=h;have sw:∀w1,Ext w w1->w1.cell? ⟨g.bW,0,none⟩=some (.pointer (some ⟨g.bT,0,none⟩))/\w1.cell? ⟨g.bW,1,none⟩=some (.slice (some ⟨g.bD,0,none⟩) S.af.length cd)/\g.bW<w1.heap.size:=fun w1 b1=>⟨(h3.ext b1).cell 0,(h3.ext b1).cell 1,(h3.ext b1).lt⟩
 have HI:=zH sw;clear sw;go_enter Tryz.func80,Tryz.ntmps80;go_wp2_with fail;refine (iz B g S _ h0 hd).mono ?_;rintro e w1 ⟨rfl,b1⟩;obtain ⟨c0,c1,cz⟩:=HI.out w1 b1;go_wp2_with fail;refine (fP B g.bT g.bM S.nodes S.last at_ _ (h2.ext b1)).mono ?_;rintro e w2 ⟨A2,k2,rfl,iC,b2⟩
 cases hi:aQ S.nodes at_
 ·have hE:cX S at_ b n=5:=by unfold cX;rw[if_pos hi]
  have HE:=zH hE;clear hi hE c0 c1;go_wp2_with fail;go_ret2;exact iB h0 ((b1.trans b2).alloc _) HE.out (by decide)
 ·obtain ⟨m, hm⟩:∃m,m=aa S.nodes at_:=⟨_,rfl⟩
  rw [<-hm]at iC|-
  by_cases hk:m.kind=1
  ·have gG : (m.kind == 1)=true:=by simpa using hk
   have hk2:(m.kind != 1)=false:=by simpa using hk
   have e0:cX S at_ b n=if ak S.af at_≠at_\/aE S.af m.dev=at_ then 16 else if 8<=S.af.length\/cA b n=false then 3 else 0:=by
    unfold cX;rw[if_neg (by rw[hi];decide),<-hm,if_neg (by rw[hk];decide)]
   by_cases ho:ak S.af at_=at_
   ·have Jw : (ak S.af at_ == at_)=true:=by simpa using ho
    have mL:(ak S.af at_ != at_)=false:=by simpa using ho
    by_cases hr:aE S.af m.dev=at_
    ·have hE:cX S at_ b n=16:=by rw[e0,if_pos (.inr hr)]
     have HE:=zH hE;have hr1:(aE S.af m.dev == at_)=true:=by simpa using hr
     clear hi hE hm hk ho hr e0;have W3:=h0.ext ((b1.trans b2).alloc (.cells #[m.no,m.dev,m.kind,m.mode,m.uid,m.gid,m.mtime,m.ctime,m.ah,m.up,bs m.data,.slice A2 m.ae.length k2] 58));go_wp2_with fail;refine (gH B g S at_ _ W3 hd (by omega)).mono ?_;rintro e w3 ⟨rfl,b3⟩;obtain ⟨hc,hf⟩:=b3.cells;have hz:w2.heap.size<w3.heap.size:=by have:=b3.size;simp at this;omega
     go_wp2_with fail;refine (iA B g S m.dev _ (W3.ext b3) hd (by omega)).mono ?_;rintro e w4 ⟨rfl,b4⟩;go_wp2_with fail;go_ret2;exact iB h0 ((((b1.trans b2).alloc _).trans b3).trans b4) HE.out (by decide)
    ·have hr1:(aE S.af m.dev == at_)=false:=by simpa using hr
     rw [if_neg (fun h=>by rcases h with h|h;exact h ho;exact hr h)]at e0
     by_cases h8:8<=S.af.length
     ·have hE:cX S at_ b n=3:=by rw[e0,if_pos (.inl h8)]
      have HE:=zH hE;have h81:(8:Int)<=(S.af.length:Int):=by omega
      clear hi hE hm hk ho hr e0;have W3:=h0.ext ((b1.trans b2).alloc (.cells #[m.no,m.dev,m.kind,m.mode,m.uid,m.gid,m.mtime,m.ctime,m.ah,m.up,bs m.data,.slice A2 m.ae.length k2] 58));go_wp2_with fail;refine (gH B g S at_ _ W3 hd (by omega)).mono ?_;rintro e w3 ⟨rfl,b3⟩;obtain ⟨hc,hf⟩:=b3.cells;have hz:w2.heap.size<w3.heap.size:=by have:=b3.size;simp at this;omega
      go_wp2_with fail;refine (iA B g S m.dev _ (W3.ext b3) hd (by omega)).mono ?_;rintro e w4 ⟨rfl,b4⟩;have E4:=(((b1.trans b2).alloc (.cells #[m.no,m.dev,m.kind,m.mode,m.uid,m.gid,m.mtime,m.ctime,m.ah,m.up,bs m.data,.slice A2 m.ae.length k2] 58)).trans b3).trans b4;obtain ⟨-,c4,z4⟩:=HI.out w4 E4;clear hc hf;go_wp2_with fail;go_ret2;exact iB h0 E4 HE.out (by decide)
     ·have h81:(S.af.length:Int)<8:=by omega
      cases ol:cA b n
      ·have hE:cX S at_ b n=3:=by rw[e0,if_pos (.inr ol)]
       have HE:=zH hE;clear hi hE hm hk ho hr e0 h8;have W3:=h0.ext ((b1.trans b2).alloc (.cells #[m.no,m.dev,m.kind,m.mode,m.uid,m.gid,m.mtime,m.ctime,m.ah,m.up,bs m.data,.slice A2 m.ae.length k2] 58));have HL:=zH ol;clear ol;go_wp2_with fail;refine (gH B g S at_ _ W3 hd (by omega)).mono ?_;rintro e w3 ⟨rfl,b3⟩;obtain ⟨hc,hf⟩:=b3.cells;have hz:w2.heap.size<w3.heap.size:=by have:=b3.size;simp at this;omega
       go_wp2_with fail;refine (iA B g S m.dev _ (W3.ext b3) hd (by omega)).mono ?_;rintro e w4 ⟨rfl,b4⟩;have E4:=(((b1.trans b2).alloc (.cells #[m.no,m.dev,m.kind,m.mode,m.uid,m.gid,m.mtime,m.ctime,m.ah,m.up,bs m.data,.slice A2 m.ae.length k2] 58)).trans b3).trans b4;obtain ⟨-,c4,z4⟩:=HI.out w4 E4;clear hc hf;go_wp2_with fail;refine (OX g.bW at_ b n _ HL.out).mono ?_;rintro e w5 ⟨rfl,b5⟩;go_wp2_with fail;go_ret2;exact iB h0 (E4.trans b5) HE.out (by decide)
      ·have hE:cX S at_ b n=0:=by rw[e0,if_neg (fun h=>by rcases h with h|h;exact h8 h;rw[ol]at h;cases h)]
       have HE:=zH hE;clear hi hE hm hk ho hr e0 h8;have W3:=h0.ext ((b1.trans b2).alloc (.cells #[m.no,m.dev,m.kind,m.mode,m.uid,m.gid,m.mtime,m.ctime,m.ah,m.up,bs m.data,.slice A2 m.ae.length k2] 58));have HL:=zH ol;clear ol;go_wp2_with fail;refine (gH B g S at_ _ W3 hd (by omega)).mono ?_;rintro e w3 ⟨rfl,b3⟩;obtain ⟨hc,hf⟩:=b3.cells;have hz:w2.heap.size<w3.heap.size:=by have:=b3.size;simp at this;omega
       go_wp2_with fail;refine (iA B g S m.dev _ (W3.ext b3) hd (by omega)).mono ?_;rintro e w4 ⟨rfl,b4⟩;have E4:=(((b1.trans b2).alloc (.cells #[m.no,m.dev,m.kind,m.mode,m.uid,m.gid,m.mtime,m.ctime,m.ah,m.up,bs m.data,.slice A2 m.ae.length k2] 58)).trans b3).trans b4;obtain ⟨-,c4,z4⟩:=HI.out w4 E4;clear hc hf;go_wp2_with fail;refine (wR B g.bW g.bT g.bM (.slice (some ⟨g.bD,0,none⟩) S.af.length cd) S at_ b n _ HL.out h1 (h2.ext E4) (h3.ext E4) (av h4 (Only.aw (L:=[]) E4) (by simp)) ⟨_,_,rfl⟩ (by omega) hu jF g_).mono ?_;rintro e w5 ⟨rfl,bD,W5,O5,h5⟩;have hr5:=Ad S at_ b n;have l5:(cr S at_ b n).af.length=S.af.length+1:=by simp[cr]
       obtain ⟨k1,k2,cd5,k3,k4⟩:=id W5;rw [l5]at k3;have c5:w5.cell? ⟨g.bW,1,none⟩=some (.slice (some ⟨bD,0,none⟩) (S.af.length+1) cd5):=k3.cell 1;have z5:=k3.lt;have HR:=zH hr5;have ZW:=zH l5;clear hr5 l5 k4 c4;go_wp2_with fail;refine (iA B ⟨g.bW,g.bT,g.bM,bD⟩ (cr S at_ b n) ((S.af.length:Int)+1) _ W5 (by rw[ZW.out];omega) (by rw[ZW.out];omega)).mono ?_;rw [HR.out];rintro e w6 ⟨rfl,b6⟩;go_wp2_with fail;go_ret2;refine ⟨?_,bD,?_,?_,?_⟩
       ·unfold qH;rw[HE.out];rfl
       ·unfold ct;rw[HE.out];exact W5.ext b6
       ·exact (Only.pre E4 (O5.mono (by intro x hx;simp[Value.ownBlock]at hx|-;exact hx))).ext b6
       ·rcases h5 with h5|h5
        ·exact .inl (by simpa [Value.ownBlock]using h5.symm)
        ·exact .inr (by have:=E4.size;omega)
   ·have hE:cX S at_ b n=16:=by rw[e0,if_pos (.inl ho)]
    have HE:=zH hE;have Jw:(ak S.af at_ == at_)=false:=by simpa using ho
    have mL:(ak S.af at_ != at_)=true:=by simpa using ho
    clear hi hE hm hk ho e0;have W3:=h0.ext ((b1.trans b2).alloc (.cells #[m.no,m.dev,m.kind,m.mode,m.uid,m.gid,m.mtime,m.ctime,m.ah,m.up,bs m.data,.slice A2 m.ae.length k2] 58));go_wp2_with fail;refine (gH B g S at_ _ W3 hd (by omega)).mono ?_;rintro e w3 ⟨rfl,b3⟩;go_wp2_with fail;go_ret2;exact iB h0 (((b1.trans b2).alloc _).trans b3) HE.out (by decide)
  ·have hE:cX S at_ b n=9:=by unfold cX;rw[if_neg (by rw[hi];decide),if_pos (by rw[<-hm];exact hk)]
   have HE:=zH hE;have hkb:(m.kind == 1)=false:=by simpa using hk
   have Wj:(m.kind != 1)=true:=by simpa using hk
   clear hi hE c0 c1 hm hk;go_wp2_with fail;go_ret2;exact iB h0 ((b1.trans b2).alloc _) HE.out (by decide)
def Q_ (w:World) (B:Nat) (g:bQ) (S:ac) (n:ai) (e:Ending) (w':World):Prop:=
 e = .returned (.tuple #[.int .i64 (mz S n),.int .i64 (eO S n)])/\eD w' B g (bj S n)/\Only g.list w w'
theorem tL {w w':World} {B:Nat} {g:bQ} {S:ac} {n:ai} {x:Int} (h:eD w B g S) (hE:Ext w w') (hx:eO S n=x) (h0:x≠0):Q_ w B g S n (.returned (.tuple #[.int .i64 0,.int .i64 x])) w':=by
 refine ⟨?_,?_,Only.aw hE⟩
 ·unfold mz;rw[hx,if_neg h0]
 ·unfold bj;rw[hx,if_neg h0];exact h.ext hE
theorem wS {k s:Int} (h0:0<=s) (h1:s<=1000000000):0<=bC k s/\bC k s<=2000000:=by
 unfold bC;split
 ·omega
 ·split<;>omega
theorem en {ds:List eC} (hr:h_ ds) (d:Int):(aE ds d=0/\fY ds d=false)\/(∃k:Nat,∃hk:k<ds.length,d=k+1/\fY ds d=true/\i_ ds d=ds[k]/\aE ds d=ds[k].root/\0<ds[k].root/\ma ds[k].q):=by
 cases hd:fY ds d
 ·left;exact⟨by unfold aE;rw[hd];rfl,rfl⟩
 ·right
  have h2:1<=d/\d<=ds.length:=by unfold fY at hd;simpa using hd
  have hk:(d-1).toNat<ds.length:=by omega
  have e:i_ ds d=ds[(d-1).toNat]:=by unfold i_;rw[List.getD_eq_getElem?_getD,List.getElem?_eq_getElem hk];rfl
  have:=hr _ (List.getElem_mem hk);exact ⟨(d-1).toNat,hk,by omega,rfl,e,by unfold aE;rw[hd,e];rfl,this.1,this.2⟩
theorem tM (ds:List eC) (k:Nat) (hk:k<ds.length):aW ds=aW (ds.take k)++([.int .i64 (ds[k]).root,.int .i64 (ds[k]).over,.int .i64 (ds[k]).q.blocks,.int .i64 (ds[k]).q.nodes,.int .i64 (ds[k]).q.bX,.int .i64 (ds[k]).q.bR]++aW (ds.drop (k+1))):=by
 conv=>lhs;rw[<-List.take_append_drop k ds,List.drop_eq_getElem_cons hk,ia]
 rfl
theorem oD (ds:List eC) (k:Nat) (hk:k<ds.length) (q:dH) :
  ((((aW ds).set (k*6+2) (.int .i64 q.blocks)).set (k*6+3) (.int .i64 q.nodes)).set (k*6+4) (.int .i64 q.bX)).set (k*6+5) (.int .i64 q.bR)=aW (ja ds ((k:Int)+1) q):=by
 have hl:(aW (ds.take k)).length=k*6:=by rw[jb,List.length_take];omega
 have e:ja ds ((k:Int)+1) q=ds.take k++({ds[k]with q:=q}::ds.drop (k+1)):=by
  unfold ja;rw [show ((k:Int)+1-1).toNat=k by omega];rw [List.modify_eq_take_cons_drop hk]
 rw [e,ia,tM ds k hk];rw [List.set_append_right _ _ (by omega),List.set_append_right _ _ (by omega),List.set_append_right _ _ (by omega),List.set_append_right _ _ (by omega),hl];rw [show k*6+2-k*6=2 by omega,show k*6+3-k*6=3 by omega,show k*6+4-k*6=4 by omega,show k*6+5-k*6=5 by omega];rfl
theorem jc (ds:List eC) (d:Int) (q:dH):(ja ds d q).length=ds.length:=by simp[ja]
theorem kM (w:World) (o:Obj):Ext w.drew (w.alloc o).drew:=(Ext.refl w.drew).alloc o
theorem qK {V w':World} {b1 b2 b3 o1 o2 o3 o4:Nat} {C1 C2:Array Value} {v1 v2 v3 v4:Value} (hb:Ext V w') (h:b1<V.heap.size/\b2<V.heap.size/\b3<V.heap.size)
  (k:(∀i,V.cell? ⟨b1,i,none⟩=C1[i]?)/\(∀i,V.cell? ⟨b2,i,none⟩=C2[i]?)/\V.cell? ⟨b3,o1,none⟩=some v1/\V.cell? ⟨b3,o2,none⟩=some v2/\V.cell? ⟨b3,o3,none⟩=some v3/\V.cell? ⟨b3,o4,none⟩=some v4) :
  Ext V w'/\(∀i,w'.cell? ⟨b1,i,none⟩=C1[i]?)/\(∀i,w'.cell? ⟨b2,i,none⟩=C2[i]?)/\w'.cell? ⟨b3,o1,none⟩=some v1/\w'.cell? ⟨b3,o2,none⟩=some v2/\w'.cell? ⟨b3,o3,none⟩=some v3/\w'.cell? ⟨b3,o4,none⟩=some v4:=by
 obtain ⟨k1,k2,k3,k4,k5,k6⟩:=k;refine ⟨hb,fun i=>?_,fun i=>?_,?_,?_,?_,?_⟩
 ·rw[hb.cell h.1];exact k1 i
 ·rw[hb.cell h.2.1];exact k2 i
 all_goals (rw[hb.cell h.2.2];assumption)
theorem Gc (B:Nat) (g:bQ) (S:ac) (n:ai) (A:Option Addr) (c:Nat) (w:World) (h:eD w B g S) (hn:ay w B n A c) (hr:h_ S.af) (hd:0<S.af.length) (tI:S.af.length<=8) (hu:aI S.nodes S.last) (jF:0<=S.last) (g_:S.last<=1000000) (kT:n.data.length<=1000000000) :
    Calls Tryz.prog 155 #[.pointer (some ⟨g.bW,0,none⟩),.agg #[n.no,n.dev,n.kind,n.mode,n.uid,n.gid,n.mtime,n.ctime,n.ah,n.up,bs n.data,.slice A n.ae.length c]] w (Q_ w B g S n):=by
  have h0:=h
  obtain ⟨h1,h2,cd,h3,h4⟩:=h
  obtain⟨W1,b_⟩:=ar (w.alloc (.cells #[n.no,n.dev,n.kind,n.mode,n.uid,n.gid,n.mtime,n.ctime,n.ah,n.up,bs n.data,.slice A n.ae.length c] 58))
  have E1:Ext w W1:=by rw[b_];exact (Ext.refl _).alloc _
  have B1:Has W1 w.heap.size (.cells #[n.no,n.dev,n.kind,n.mode,n.uid,n.gid,n.mtime,n.ctime,n.ah,n.up,bs n.data,.slice A n.ae.length c] 58):=by rw[b_];exact Has.new _ _
  rcases en hr n.dev with⟨e1,e2⟩|⟨k,hk,e1,e2,e3,e4,e5,e6⟩
  · have HE:Hid (eO S n=1):=by show _=_;unfold eO;rw[if_pos e1]
    have Wk:(aE S.af n.dev == 0)=true:=by rw[e1];rfl
    clear e1 e2
    go_enter Tryz.func155,Tryz.ntmps155
    go_wp2_with fail
    rw [<-b_]
    refine (iA B g S n.dev _ (h0.ext E1) hd (by omega)).mono ?_
    rintro e w2 ⟨rfl,b2⟩
    go_wp2_with fail
    go_ret2
    exact tL h0 (E1.trans b2) HE.out (by decide)
  · have e0 : eO S n=eu S.af[k].q (bC n.kind n.data.length) 1:=by unfold eO;rw[if_neg (by rw[e4];omega),e3]
    have Wk:(aE S.af n.dev == 0)=false:=by rw[e4];simpa using (show ¬S.af[k].root=0 by omega)
    obtain⟨bl,zy⟩:=ar (bC n.kind n.data.length)
    have tN:=wS (k:=n.kind) (s:=n.data.length) (by omega) (by omega)
    rw [<-zy]at tN e0
    obtain⟨q,hq⟩:=ar (S.af[k].q)
    rw [<-hq]at e6 e0
    have inr:Q8 bl 1:=⟨by omega,by omega,by omega,by omega⟩
    obtain ⟨d0,d1,d2,d3,d4,d5⟩:=iT.at_ h4 k hk
    rw [<-hq]at d2 d3 d4 d5
    have HB:=zH zy
    have jm:=zH e0
    have HQ:=zH hq
    have H3:=zH e3
    have HD:=zH e1
    have hsz:((bs n.data).size:Int)=n.data.length:=by rw[aU]
    clear e0 hq e1 e3 e4 e2 zy d0 d1
    go_enter Tryz.func155,Tryz.ntmps155
    go_wp2_with fail
    rw [<-b_]
    refine (iA B g S n.dev _ (h0.ext E1) hd (by omega)).mono ?_
    rintro e w2 ⟨rfl,b2⟩
    have E2:=E1.trans b2
    have x0:w2.cell? ⟨w.heap.size,0,none⟩=some (.int .i64 n.no):=(B1.ext b2).cell 0
    have x1:w2.cell? ⟨w.heap.size,1,none⟩=some (.int .i64 n.dev):=(B1.ext b2).cell 1
    have xz:=(B1.ext b2).lt
    go_wp2_with fail
    have y0:(0:Int)<=n.dev-1:=by rw[HD.out];omega
    have y1:n.dev-1<(S.af.length:Int):=by rw[HD.out];omega
    have y2:(n.dev-1).toNat=k:=by rw[HD.out];omega
    have y3:IntKind.i64.wrap (n.dev-1)=n.dev-1:=bV (by omega) (by omega)
    have y4:1<=n.dev:=by omega
    have y5:n.dev.toNat-1=k:=by omega
    obtain⟨V,hV⟩:=ar w2.drew
    have hl:=h0.lt
    have EV:Ext w V:=by rw[hV];exact E2.drew
    have zV:g.bW<V.heap.size/\w.heap.size<V.heap.size/\g.bD<V.heap.size:=⟨(h3.ext EV).lt,by rw[hV];exact xz,by have:=EV.size;omega⟩
    have S0:(∀i,V.cell? ⟨g.bW,i,none⟩=(#[.pointer (some ⟨g.bT,0,none⟩),.slice (some ⟨g.bD,0,none⟩) S.af.length cd]:Array Value)[i]?)/\(∀i,V.cell? ⟨w.heap.size,i,none⟩=(#[n.no,n.dev,n.kind,n.mode,n.uid,n.gid,n.mtime,n.ctime,n.ah,n.up,bs n.data,.slice A n.ae.length c]:Array Value)[i]?)/\V.cell? ⟨g.bD,k*6+2,none⟩=some (.int .i64 q.blocks)/\V.cell? ⟨g.bD,k*6+3,none⟩=some (.int .i64 q.nodes)/\V.cell? ⟨g.bD,k*6+4,none⟩=some (.int .i64 q.bX)/\V.cell? ⟨g.bD,k*6+5,none⟩=some (.int .i64 q.bR):=by
      refine ⟨fun i=>(h3.ext EV).cell i,fun i=>(by rw[hV];exact (B1.ext b2).cell i),?_,?_,?_,?_⟩
      · exact (EV.cell hl.2.2.2).trans d2
      · exact (EV.cell hl.2.2.2).trans d3
      · exact (EV.cell hl.2.2.2).trans d4
      · exact (EV.cell hl.2.2.2).trans d5
    have sB:=zH S0
    have HV:=zH hV
    have hVz:V.heap.size=w2.heap.size:=by rw[hV];rfl
    have HVz:=zH hVz
    have hzW:w2.heap.size<=w2.heap.size:=Nat.le_refl _
    clear d2 d3 d4 d5 x0 x1 S0 hV hVz
    go_region_held3 (fun w'=>Ext V w'/\(∀i,w'.cell? ⟨g.bW,i,none⟩=(#[.pointer (some ⟨g.bT,0,none⟩),.slice (some ⟨g.bD,0,none⟩) S.af.length cd]:Array Value)[i]?)/\(∀i,w'.cell? ⟨w.heap.size,i,none⟩=(#[n.no,n.dev,n.kind,n.mode,n.uid,n.gid,n.mtime,n.ctime,n.ah,n.up,bs n.data,.slice A n.ae.length c]:Array Value)[i]?)/\w'.cell? ⟨g.bD,k*6+2,none⟩=some (.int .i64 q.blocks)/\w'.cell? ⟨g.bD,k*6+3,none⟩=some (.int .i64 q.nodes)/\w'.cell? ⟨g.bD,k*6+4,none⟩=some (.int .i64 q.bX)/\w'.cell? ⟨g.bD,k*6+5,none⟩=some (.int .i64 q.bR))
      ((first
        | exact qK (by rw[HV.out];exact Ext.refl _) zV sB.out
        | exact qK (by rw[HV.out];exact (Ext.refl _).alloc _) zV sB.out
        | exact qK (by rw[HV.out];exact hb') zV sB.out
        | exact qK (by rw[HV.out];exact hb'.alloc _) zV sB.out
        | exact qK (by rw[HV.out];exact (kM _ _).trans hb') zV sB.out
        | exact qK (by rw[HV.out];exact (((((kM _ _).trans hb').setCell (Nat.le_refl _) _).setCell (Nat.le_refl _) _).setCell (Nat.le_refl _) _).setCell (Nat.le_refl _) _) zV sB.out))
      ((first|(go_at_call 172;refine (yj n.kind n.data.length (by omega) (by omega) _).mono ?_;rw[<-HB.out];rintro e w1 ⟨rfl,rfl⟩)|(go_at_call 137;refine (wP q bl 1 e6 inr _).mono ?_;rintro e w1 ⟨rfl,hb'⟩;obtain⟨hc',ZX⟩:=hb'.cells;have hz':=hb'.size;(try simp only[World.size_alloc,Nat.add_one_le_iff]at hz'))))
    all_goals
      first
        | (obtain⟨V2,lZ⟩:=ar (w1.alloc (.cells #[.int .i64 (aT q bl 1).blocks,.int .i64 (aT q bl 1).nodes,.int .i64 (aT q bl 1).bX,.int .i64 (aT q bl 1).bR] 108))
           rw [<-lZ]
           have Z:Ext w2 V2:=by rw[lZ];exact ((Ext.refl w2).drew.trans hb').alloc _
           have X:Has V2 w1.heap.size (.cells #[.int .i64 (aT q bl 1).blocks,.int .i64 (aT q bl 1).nodes,.int .i64 (aT q bl 1).bX,.int .i64 (aT q bl 1).bR] 108):=by rw[lZ];exact Has.new _ _
           obtain⟨bx,zY⟩:=ar w1.heap.size
           rw [<-zY]at X|-)
        | (obtain⟨V2,lZ⟩:=ar ((((w1.setCell ⟨w2.heap.size,0,none⟩ (.int .i64 (aT q bl 1).blocks)).setCell ⟨w2.heap.size,1,none⟩ (.int .i64 (aT q bl 1).nodes)).setCell ⟨w2.heap.size,2,none⟩ (.int .i64 (aT q bl 1).bX)).setCell ⟨w2.heap.size,3,none⟩ (.int .i64 (aT q bl 1).bR))
           rw [<-lZ]
           have Z:Ext w2 V2:=by rw[lZ];exact (Ext.refl w2).drew.trans (((((kM _ _).trans hb').setCell (Nat.le_refl _) _).setCell (Nat.le_refl _) _).setCell (Nat.le_refl _) _ |>.setCell (Nat.le_refl _) _)
           have X:Has V2 w2.heap.size (.cells #[.int .i64 (aT q bl 1).blocks,.int .i64 (aT q bl 1).nodes,.int .i64 (aT q bl 1).bX,.int .i64 (aT q bl 1).bR] 108):=by
             rw [lZ]
             have t0:=(show Has (w2.alloc (.cells #[.int .i64 0,.int .i64 0,.int .i64 0,.int .i64 0] 108)).drew w2.heap.size _ from Has.new w2 _).ext hb'
             exact (((t0.setCell 0 _).setCell 1 _).setCell 2 _).setCell 3 _
           obtain⟨bx,zY⟩:=ar w2.heap.size
           rw [<-zY]at X|-)
      clear lZ zY hc' ZX hz' hb'
      rename_i hHeld
      clear hHeld
      have Y:Ext w V2:=E2.trans Z
      have B2:=(B1.ext b2).ext Z
      have W2:=h0.ext Y
      by_cases hz:eu q bl 1=0
      · have hzb:(eu q bl 1 == 0)=true:=by rw[hz];rfl
        have Sv:(eu q bl 1 != 0)=false:=by rw[hz];rfl
        have HZ:=zH hz
        have cW:=(h3.ext Y).lt
        have c1:V2.cell? ⟨g.bW,1,none⟩=some (.slice (some ⟨g.bD,0,none⟩) S.af.length cd):=(h3.ext Y).cell 1
        have x1:V2.cell? ⟨w.heap.size,1,none⟩=some (.int .i64 n.dev):=B2.cell 1
        have xz2:=B2.lt
        have q0:V2.cell? ⟨bx,0,none⟩=some (.int .i64 (aT q bl 1).blocks):=X.cell 0
        have q1:V2.cell? ⟨bx,1,none⟩=some (.int .i64 (aT q bl 1).nodes):=X.cell 1
        have q2:V2.cell? ⟨bx,2,none⟩=some (.int .i64 (aT q bl 1).bX):=X.cell 2
        have q3:V2.cell? ⟨bx,3,none⟩=some (.int .i64 (aT q bl 1).bR):=X.cell 3
        have Gd:V2.ownsRow B 157 6 (.slice (some ⟨g.bD,0,none⟩) S.af.length cd) S.af.length (aW S.af):=av h4 (Only.aw (L:=[]) Y) (by simp)
        obtain ⟨_,_,d2,d3,d4,d5⟩:=iT.at_ (show iT V2 B _ _ S.af from Gd) k hk
        have f2:=Gd.frozenAt (k*6+2)
        have f3:=Gd.frozenAt (k*6+3)
        have f4:=Gd.frozenAt (k*6+4)
        have f5:=Gd.frozenAt (k*6+5)
        clear hz
        go_wp2_with fail
        go_still_tail 10,(by kernel_rfl)
        change wpList _ _ _ _ _ V2.drew
        go_wp2_with fail
        obtain⟨V3,Sw⟩:=ar ((((V2.setCell ⟨g.bD,k*6+2,none⟩ (.int .i64 (aT q bl 1).blocks)).setCell ⟨g.bD,k*6+2+1,none⟩ (.int .i64 (aT q bl 1).nodes)).setCell ⟨g.bD,k*6+2+2,none⟩ (.int .i64 (aT q bl 1).bX)).setCell ⟨g.bD,k*6+2+3,none⟩ (.int .i64 (aT q bl 1).bR))
        rw [<-Sw]
        obtain⟨V4,hV4⟩:=ar V3.drew
        rw [<-hV4]
        have E4:Ext V3 V4:=by rw[hV4];exact (Ext.refl V3).drew
        have O3:Only [g.bD] V2 V3:=by rw[Sw];exact (((Only.setCell _ _ _ _).then (Only.setCell _ _ _ _)).then (Only.setCell _ _ _ _)).then (Only.setCell _ _ _ _)
        have D3:V3.ownsRow B 157 6 (.slice (some ⟨g.bD,0,none⟩) S.af.length cd) S.af.length (aW (ja S.af ((k:Int)+1) (aT q bl 1))):=by
          rw [Sw,<-oD S.af k hk]
          exact (World.ownsRow.stored (World.ownsRow.stored (World.ownsRow.stored (World.ownsRow.stored Gd (k*6+2) _).1 (k*6+3) _).1 (k*6+4) _).1 (k*6+5) _).1
        have Wl:=W2.apart
        obtain ⟨m1,m2,m3,m4,m5,m6⟩:=W2.ne
        have Vn:=O3.has (h3.ext Y) (by simpa using m3)
        have T3:oC V3 B g.bT g.bM S.nodes S.last:=(h2.ext Y).only O3 (Wl.sub (by simp)) (by simpa using m5) (by simpa using m6)
        have hxD:w.heap.size≠g.bD:=by have:=hl.2.2.2;omega
        have B3:=O3.has B2 (by simpa using hxD)
        have n3:ay V3 B n A c:=(hn.ext Y).only O3 (Wl.sub (by simp))
        obtain ⟨x0,x1',x2,x3,x4,x5,x6,x7,x8,x9,sy,sA⟩:=(B3.ext E4).dS
        have xz3:=(B3.ext E4).lt
        have v0:V4.cell? ⟨g.bW,0,none⟩=some (.pointer (some ⟨g.bT,0,none⟩)):=(Vn.ext E4).cell 0
        have vz:=(Vn.ext E4).lt
        have E5:Ext V3 V4.drew:=E4.drew
        clear hV4 Sw c1 x1 q0 q1 q2 q3 d2 d3 d4 d5 f2 f3 f4 f5
        go_still_tail 5,(by kernel_rfl)
        change wpList _ _ _ _ _ V4.drew
        go_wp2_with fail
        refine (zZ B g.bT g.bM S.nodes S.last n A c _ (T3.ext E5) hu jF g_ (n3.ext E5)).mono ?_
        rintro e w5 ⟨rfl,T5,O5⟩
        go_wp2_with fail
        go_ret2
        have Vo:Only [g.bT,g.bM] V3 w5:=Only.pre E5 O5
        have eM:eO S n=0:=by rw[jm.out];exact HZ.out
        have eT:bj S n=⟨S.nodes++[{n with no:=S.last+1}],ja S.af ((k:Int)+1) (aT q bl 1),S.last+1⟩:=by
          unfold bj
          rw [if_pos eM,H3.out,<-HQ.out,<-HB.out,HD.out]
        refine ⟨?_,?_,?_⟩
        · unfold mz;rw[eM];rfl
        · rw [eT]
          refine ⟨h1,T5,cd,?_,?_⟩
          · have:=Vo.has Vn (by simp;exact⟨m1,m2⟩)
            simpa [jc]using this
          · unfold iT
            simp only[jc]
            exact av D3 Vo (fun b hb=>by simp[Value.ownBlock]at hb;subst hb;simp;exact⟨m5.symm,m6.symm⟩)
        · exact (Only.pre Y (O3.mono (by simp))).then (Vo.mono (by simp))
      · have hzb:(eu q bl 1 == 0)=false:=by simpa using hz
        have Sv:(eu q bl 1 != 0)=true:=by simpa using hz
        have HZ:=zH hz
        clear hz
        go_wp2_with fail
        go_ret2
        exact tL h0 Y jm.out HZ.out
end Go.Proofs.YtblbohcaphcobaaGreatDoor
