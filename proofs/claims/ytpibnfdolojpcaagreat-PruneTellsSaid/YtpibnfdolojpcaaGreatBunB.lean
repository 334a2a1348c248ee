import Derived.Test.YtpibnfdolojpcaaGreatBunA
import Derived.Laws.OwnMore
import Derived.Laws.AppendOwn
import Derived.Deep.RegionHeld3
import Derived.Outline
import Derived.Deep.MidRow
import Derived.MapKept
import Derived.StillTailTactics
import Derived.WalkSpells
import Derived.Deep.AppendLies
import Derived.Deep.RegionLaw
set_option maxHeartbeats 4000000
set_option maxRecDepth 100000
namespace Go.Proofs.YtpibnfdolojpcaaGreat
open Go.Proofs.Tryz
open Go.ChangeShapes Go.WideShapes Go.ChangeAt Go.RowKit
variable {w w' a w0:World} {B b c bM k bT cl size clock:Nat} {last no n:Int} {L:List Nat} {A:Option Addr} {v:Value} {t e:TypeId} {l:List aK} {xs:List Value} {C:Array Value}
structure ak where
 no:Int
 dev:Int
 kind:Int
 mode:Int
 uid:Int
 gid:Int
 mtime:Int
 ctime:Int
 ar:Int
 up:Int
 data:List UInt8
 ah:List aK
instance (n:ak) (A:Option Addr) (c:Nat):CoeDep (ak×Option Addr×Nat) (n,A,c) (Array Value):=⟨#[n.no,n.dev,n.kind,n.mode,n.uid,n.gid,n.mtime,n.ctime,n.ar,n.up,bs n.data,.slice A n.ah.length c]⟩
instance (n:ak):CoeDep (ak×Unit) (n,()) (Array Value):=⟨#[n.no,n.dev,n.kind,n.mode,n.uid,n.gid,n.mtime,n.ctime,n.ar,n.up,bs n.data,.slice none n.ah.length 0]⟩
def aj:ak:=⟨0,0,0,0,0,0,0,0,0,0,[],[]⟩
structure dW where
 blocks:Int
 nodes:Int
 bH:Int
 bG:Int
def ju:dW:=⟨0,0,0,0⟩
structure fP where
 root:Int
 over:Int
 q : dW
def adW:fP:=⟨0,0,ju⟩
structure ag where
 nodes:List ak
 ae:List fP
 last:Int
def aQ (ns:List ak) (last:Int):Prop:=ns.Pairwise (fun a b=>a.no<b.no)/\∀n∈ns,1<=n.no/\n.no<=last
def gF (ns:List ak) (no:Int):Option ak:=ns.find? fun n=>n.no == no
def aa (ns:List ak) (no:Int):ak:=(gF ns no).getD aj
def aW (ns:List ak) (no:Int):Bool:=(gF ns no).isSome
def cP (ns:List ak) (n:ak):List ak:=ns.map fun m=>if m.no == n.no then n else m
def dO (ns:List ak) (no:Int):List ak:=ns.filter fun m=>!(m.no == no)
theorem pp {ns:List ak} {n:ak} (h:gF ns no=some n):n.no=no/\n∈ns:=by
 unfold gF at h;exact⟨by simpa using tD h,p5 h⟩
theorem NN {ns:List ak} (h:gF ns no=none):∀n∈ns,n.no≠no:=by
 unfold gF at h;rw[sW]at h;intro n hn e;exact h n hn (by simpa using e)
theorem Ew {ns:List ak} (hu:aQ ns last) (hk:k<ns.length):gF ns (ns[k]).no=some ns[k]:=by
 unfold gF;rw[DQ];refine⟨by simp,k,hk,rfl,fun j hj=>?_⟩;have:=Cu.1 hu.1 j k (by omega) hk hj;simp;omega
theorem Mw {ns:List ak} (hu:aQ ns last) {j:Nat} (hj:j<ns.length) (hk:k<ns.length) (h:ns[j].no=ns[k].no):j=k:=by
 rcases RE j k with g|g|g
 ·have:=Cu.1 hu.1 j k hj hk g;omega
 ·exact g
 ·have:=Cu.1 hu.1 k j hk hj g;omega
theorem qh {ns:List ak}:aW ns no=true↔∃k,∃h:k<ns.length,ns[k].no=no:=by
 unfold aW
 constructor
 ·intro h
  obtain⟨n,hn⟩:=Option.isSome_iff_exists.1 h;obtain⟨h1,h2⟩:=pp hn;obtain⟨k,hk,e⟩:=mj h2;exact⟨k,hk,by rw[e];exact h1⟩
 ·rintro ⟨k,hk,e⟩
  unfold gF;rw[List.find?_isSome];exact⟨ns[k],jh hk,by simpa using e⟩
theorem aP {ns:List ak} (h:aW ns no=false):aa ns no=aj/\∀n∈ns,n.no≠no:=by
 unfold aW at h;rw[RL,RM]at h;exact⟨by unfold aa;rw[h];rfl,NN h⟩
theorem ap {ns:List ak} (h:aW ns no=true):gF ns no=some (aa ns no)/\(aa ns no).no=no/\aa ns no∈ns:=by
 unfold aW at h;obtain⟨n,hn⟩:=Option.isSome_iff_exists.1 h;have e:aa ns no=n:=by unfold aa;rw[hn];rfl
 rw[e];exact⟨hn,(pp hn).1,(pp hn).2⟩
theorem rG (ns:List ak) (n:ak):(cP ns n).length=ns.length:=by simp[cP]
theorem Mx {ns:List ak} {n:ak} (hu:aQ ns last) (hk:k<ns.length) (h:ns[k].no=n.no):cP ns n=ns.set k n:=by
 apply List.ext_getElem
 ·simp[cP]
 ·intro i h1 h2
  simp only[cP,DR,List.getElem_set];rw[tE]at h2
  by_cases e:k=i
  ·subst e;simp[h]
  ·rw [ac e,ac]
   intro e2;rw[il]at e2;exact e (Mw hu hk h2 (by rw[h,e2]))
theorem zQ {ns:List ak} {n:ak} (h:∀m∈ns,m.no≠n.no):cP ns n=ns:=by
 unfold cP
 conv=>rhs;rw[<-DS ns]
 apply Jr;intro m hm;rw[ac];rfl;simpa using h m hm
theorem R_ (ns:List ak) (n:ak):(cP ns n).map (·.no)=ns.map (·.no):=by
 unfold cP;rw[vW];apply Jr;intro m _;simp only[Function.comp];split
 ·rename_i h;rw[il]at h;exact h.symm
 ·rfl
theorem aQ.of_map {ns ms:List ak} (h:aQ ns last) (e:ms.map (·.no)=ns.map (·.no)):aQ ms last:=by
 obtain⟨h1,h2⟩:=h;refine⟨?_,?_⟩
 ·have:(ns.map (·.no)).Pairwise (· < ·):=zi.2 h1
  rw[<-e]at this;exact zi.1 this
 ·intro m hm
  have:m.no∈ms.map (·.no):=vX hm;rw[e,fH]at this;obtain⟨n,hn,e2⟩:=this;rw[<-e2];exact h2 n hn
theorem aQ.set {ns:List ak} (h:aQ ns last) (n:ak):aQ (cP ns n) last:=h.of_map (R_ ns n)
theorem aQ.add {ns:List ak} (h:aQ ns last) (n:ak) (hn:n.no=last+1) (h0:0<=last):aQ (ns++[n]) (last+1):=by
 refine⟨?_,?_⟩
 ·rw [zh]
  refine⟨h.1,DT ..,fun a ha b hb=>?_⟩;rw[ax]at hb;subst hb;have:=(h.2 a ha).2;omega
 ·intro m hm
  rcases dn.1 hm with hm|hm
  ·have:=h.2 m hm;omega
  ·rw[ax]at hm;subst hm;omega
theorem aQ.drop {ns:List ak} (h:aQ ns last) (no:Int):aQ (dO ns no) last:=
 ⟨h.1.sublist Mo,fun n hn=>h.2 n (gz.1 hn).1⟩
theorem aQ.nil (last:Int):aQ [] last:=⟨List.Pairwise.nil,fun _ h=>by cases h⟩
theorem aQ.zero {ns:List ak} (h:aQ ns last) (h0:no<1\/last<no):aW ns no=false:=by
 cases e:aW ns no
 ·rfl
 ·obtain ⟨k,hk,e2⟩:=qh.1 e
  have:=h.2 _ (jh hk);omega
def cx (kind size:Int):Int:=if kind=1 then 1 else if kind=2/\0<size then (size-1) / 512+1 else 0
def Sa (q:dW):Bool:=decide (0<=q.blocks)&&decide (0<=q.nodes)&&decide (q.blocks<=q.bH)&&decide (q.nodes<=q.bG)&&decide (q.bH<=1073741824)&&decide (q.bG<=65536)
def qi (q:dW):Prop:=0<=q.blocks/\0<=q.nodes/\q.blocks<=q.bH/\q.nodes<=q.bG/\q.bH<=1073741824/\q.bG<=65536
theorem NP (q:dW):Sa q=true↔qi q:=by unfold Sa qi;simp only[fl,lZ];constructor<;>(intro h;omega)
def V7 (b n:Int):Prop:=-1073741824<=b/\b<=1073741824/\-1073741824<=n/\n<=1073741824
instance (b n:Int):Decidable (V7 b n):=by unfold V7;exact inferInstance
def nB (q:dW) (b n:Int):dW:=⟨q.blocks+b,q.nodes+n,q.bH,q.bG⟩
def eZ (q:dW) (b n:Int):Int:=
 if Sa q=true/\V7 b n then
  if q.bG<q.nodes+n then 15 else if q.bH<q.blocks+b then 14 else if q.nodes+n<0\/q.blocks+b<0 then 1 else 0
 else 1
def bf (q:dW) (b n:Int):dW:=if eZ q b n=0 then nB q b n else q
theorem tH {q:dW} {b:Int} (h:qi q):qi (bf q b n):=by
 unfold bf;split
 ·rename_i he
  unfold eZ at he;split at he
  ·split at he
   ·cases he
   ·split at he
    ·cases he
    ·split at he
     ·cases he
     ·unfold qi nB at *;simp only;omega
  ·cases he
 ·exact h
def dg (b n:Int):Bool:=decide (1<=b)&&decide (b<=1073741824)&&decide (1<=n)&&decide (n<=65536)
def aw (ds:List fP) (no:Int):Int:=if 0<no then (match ds.find? (fun d=>d.over == no) with|some d=>d.root|none=>no) else no
def jq (ds:List fP) (d:Int):fP:=ds.getD (d-1).toNat adW
def ic (ds:List fP) (d:Int):Bool:=decide (1<=d)&&decide (d<=ds.length)
def aI (ds:List fP) (d:Int):Int:=if ic ds d=true then (jq ds d).root else 0
def zR (ds:List fP) (d:Int):dW:=if ic ds d=true then (jq ds d).q else ju
def jb (ds:List fP) (d:Int) (q:dW):List fP:=ds.modify (d-1).toNat fun x=>{x with q:=q}
def eV (ds:List fP):Prop:=∀d∈ds,0<d.root/\qi d.q
def aV (S:ag) (n:ak):ag:=⟨cP S.nodes n,S.ae,S.last⟩
def ct (S:ag):ak:={aj with no:=S.last+1,dev:=S.ae.length+1,kind:=1,mode:=493,ar:=1,up:=S.last+1}
def cZ (S:ag) (over b n:Int):ag:=⟨S.nodes++[ct S],S.ae++[⟨S.last+1,over,⟨1,1,b,n⟩⟩],S.last+1⟩
def ef (S:ag) (at_ b n:Int):Int:=
 if aW S.nodes at_=false then 5 else if (aa S.nodes at_).kind≠1 then 9
 else if aw S.ae at_≠at_\/aI S.ae (aa S.nodes at_).dev=at_ then 16
 else if 8<=S.ae.length\/dg b n=false then 3 else 0
def dB (S:ag) (at_ b n:Int):ag:=if ef S at_ b n=0 then cZ S at_ b n else S
def wC (S:ag) (at_ b n:Int):Int:=if ef S at_ b n=0 then S.last+1 else 0
def gp (S:ag) (n:ak):Int:=if aI S.ae n.dev=0 then 1 else eZ (jq S.ae n.dev).q (cx n.kind n.data.length) 1
def cC (S:ag) (n:ak):ag:=
 if gp S n=0 then⟨S.nodes++[{n with no:=S.last+1}],jb S.ae n.dev (bf (jq S.ae n.dev).q (cx n.kind n.data.length) 1),S.last+1⟩ else S
def qI (S:ag) (n:ak):Int:=if gp S n=0 then S.last+1 else 0
abbrev BO:=List UInt8
def kB (w:World) (A:Option Addr) (l:List BO):Prop:=
 l = []\/∃b o,A=some ⟨b,o,none⟩/\b<w.heap.size/\∀k,(h:k<l.length)->w.cell? ⟨b,o+k,none⟩=some (.string (bs l[k]))
theorem kB.ext {l:List BO} (h:kB w A l) (k:Ext w w'):kB w' A l:=by
 rcases h with h|⟨b,o,hA,hb,hc⟩
 ·exact .inl h
 ·refine .inr ⟨b,o,hA,by have:=k.size;omega,fun i hi=>?_⟩
  rw[k.cell hb];exact hc i hi
theorem kB.at_ {l:List BO} (h:kB w A l) (hE:Ext w w') (k:Nat) (hk:k<l.length):∃b o,A=some ⟨b,o,none⟩/\b<w'.heap.size/\w'.cell? ⟨b,o+k,none⟩=some (.string (bs l[k])):=by
 rcases h.ext hE with h0|⟨b,o,hA,hb,hc⟩
 ·subst h0;simp at hk
 ·exact⟨b,o,hA,hb,hc k hk⟩
def cD (l:List BO):List Value:=l.map fun x=>.string (bs x)
theorem qj (l:List BO):(cD l).length=l.length:=by simp[cD]
theorem mo (a b:List BO):cD (a++b)=cD a++cD b:=by simp[cD]
theorem k7 (l:List BO):∀u∈cD l,u.oneCell'=true:=by
 intro u hu;unfold cD at hu;rw[fH]at hu;obtain⟨x,_,rfl⟩:=hu;rfl
theorem mQ (l:List BO) (k:Nat) (h:k<l.length):(cD l)[k]?=some (.string (bs l[k])):=by simp[cD,h]
def lJ (w:World) (base:Nat) (v:Value) (l:List BO):Prop:=w.ownsRow base 9 1 v l.length (cD l)
theorem lJ.at_ {base:Nat} {l:List BO} (h:lJ w base v l):∃A cap,v=.slice A l.length cap/\l.length<=cap/\cap<=maxLen/\kB w A l/\(A=none->cap=0):=by
 unfold lJ at h;rcases h.2 with⟨rfl,h0⟩|⟨g,cap,cur,rfl,_,hg,hn,hm,hsz,htake⟩
 ·have:l=[]:=qD h0
  subst this;exact⟨none,0,rfl,aE _,by decide,.inl rfl,fun _=>rfl⟩
 ·refine ⟨_,cap,rfl,hn,hm,.inr ⟨g,0,rfl,?_,fun k hk=>?_⟩,fun h=>by cases h⟩
  ·rcases lq g w.heap.size with h'|h'
   ·exact h'
   ·simp[rf h']at hg
  ·have h1:=h.cells (g:=g) rfl _ _ (mQ l k hk)
   simp only[kU]at h1;exact h1
theorem uB:(prog.info? 9).map (fun i=>(i.zero,i.size,i.bytes))=some (some (.string ⟨#[]⟩),1,16):=by kernel_rfl
theorem uC (wr:World) (x:BO):∀j u,(cD [x])[j]?=some u->(wr.alloc (.cells #[bs x] 9)).cell? ((⟨wr.heap.size,0,none⟩:Addr).add j)=some u:=by
 intro j u hu;have hj:j=0:=by
  rcases Nat.eq_zero_or_pos j with h|h
  ·exact h
  ·rw[ze (by rw[qj];simp;omega)]at hu;cases hu
 subst hj;rw[mQ [x] 0 (by simp)]at hu;injection hu with hu;subst hu;rw[kU];exact (Has.new wr _).cell 0
theorem Ey {wr w2:World} {v':Value} {P:List BO} {x:BO} {o:Obj} (h:wr.ownsRow w.heap.size 9 1 v P.length (cD P)) (hE:Ext w wr) (h2:w2.ownsRow w.heap.size 9 1 v' (P.length+1) (cD P++cD [x])) (hg:(wr.alloc o).grownBy w2 v.ownBlock):lJ w2 w.heap.size v' (P++[x])/\Ext w w2:=by
 refine⟨?_,(hE.alloc o).grown hg (fun g hv=>(h.lt g hv).1)⟩;unfold lJ;rw[mo,aZ];exact h2
structure Only (L:List Nat) (w w':World):Prop where
 os:w'.os=w.os
 tape:w'.tape=w.tape
 output:w'.output=w.output
 size:w.heap.size<=w'.heap.size
 block:∀k,k<w.heap.size->k∉L->w'.heap[k]?=w.heap[k]?
theorem Only.refl (L:List Nat) (w:World):Only L w w:=⟨rfl,rfl,rfl,aE _,fun _ _ _=>rfl⟩
theorem Only.az (h:Ext w w'):Only L w w':=⟨h.os,h.tape,h.output,h.size,fun k hk _=>yX h k hk⟩
theorem Only.trans {L L':List Nat} {a b c:World} (h:Only L a b) (k:Only L' b c) (hL:∀x∈L',x∈L\/a.heap.size<=x):Only L a c:=
 ⟨k.os.trans h.os,k.tape.trans h.tape,k.output.trans h.output,nk h.size k.size,fun i hi hn =>
  (k.block i (Nat.lt_of_lt_of_le hi h.size) (fun hx=>by rcases hL i hx with g|g;exact hn g;omega)).trans (h.block i hi hn)⟩
theorem Only.then {b c:World} (h:Only L a b) (k:Only L b c):Only L a c:=h.trans k fun _ hx=>.inl hx
theorem Only.ext {b c:World} (h:Only L a b) (k:Ext b c):Only L a c:=h.then (Only.az k)
theorem Only.pre {b c:World} (h:Ext a b) (k:Only L b c):Only L a c:=(Only.az h).then k
theorem Only.below (h:Only L w w') (hB:B<=w.heap.size) (hL:∀x∈L,B<=x):Below B w w':=
 ⟨h.os,h.tape,h.output,h.size,fun k hk=>h.block k (by omega) (fun hx=>by have:=hL k hx;omega)⟩
theorem Only.after (h:Only L w w') (hE:Ext w0 w) (hL:∀x∈L,w0.heap.size<=x):Ext w0 w':=Jq hE (h.below hE.size hL)
theorem Only.mono {L':List Nat} (h:Only L w w') (hL:∀x∈L,x∈L'):Only L' w w':=⟨h.os,h.tape,h.output,h.size,fun k hk hn=>h.block k hk fun hx=>hn (hL k hx)⟩
theorem Only.has {o:Obj} (h:Only L w w') (hb:Has w b o) (hn:b∉L):Has w' b o:=(h.block b hb.lt hn).trans hb
def oL (w:World) (b:Nat) (o:Obj):World:={w with heap:=w.heap.setIfInBounds b o}
theorem Only.oL (w:World) (b:Nat) (o:Obj):Only [b] w (oL w b o):=by
 refine⟨rfl,rfl,rfl,by simp[Go.Proofs.YtpibnfdolojpcaaGreat.oL],fun k _ hn=>?_⟩;have:b≠k:=fun e=>hn (by simp[e])
 simp[Go.Proofs.YtpibnfdolojpcaaGreat.oL,this]
theorem Has.oL (o:Obj) (hb:b<w.heap.size):Has (oL w b o) b o:=by
 simp[Has,Go.Proofs.YtpibnfdolojpcaaGreat.oL,hb]
theorem Only.setCell (w:World) (b i:Nat) (v:Value):Only [b] w (w.setCell (b,i) v):=by
 refine⟨rfl,rfl,rfl,by simp,fun k _ hn=>?_⟩;have:k≠b:=fun e=>hn (by simp[e])
 exact heap_setCell_other w ⟨b,i,none⟩ k v this
theorem Has.setCell {w:World} {b:Nat} {C:Array Value} {t:TypeId} (h:Has w b (.cells C t)) (i:Nat) (v:Value):Has (w.setCell (b,i) v) b (.cells (C.setIfInBounds i v) t):=heap_setCell_same w b i C t v h
def e7 (w:World) (b:Nat) (t:TypeId):Prop:=∃cur fr,w.heap[b]?=some (.cells cur t fr)
def oq (w:World) (B:Nat) (A:Option Addr) (l:List aK):Prop:=
 l = []\/∃b o,A=some ⟨b,o,none⟩/\b<w.heap.size/\(b<B\/e7 w b 153)/\∀k,(h:k<l.length)->w.cell? ⟨b,o+k*2,none⟩=some (.string (bs l[k].1))/\w.cell? ⟨b,o+k*2+1,none⟩=some (.int .i64 l[k].2)
theorem oq.ah (h:oq w B A l):bU w A l:=by
 rcases h with h|⟨b,o,hA,hb,_,hc⟩
 ·exact .inl h
 ·exact .inr ⟨b,o,hA,hb,hc⟩
def dE (w:World) (B:Nat) (L:List Nat):Prop:=∀b∈L,B<=b/\¬e7 w b 153
theorem oq.only (h:oq w B A l) (o:Only L w w') (ha:dE w B L):oq w' B A l:=by
 rcases h with h|⟨b,f,hA,hb,ht,hc⟩
 ·exact .inl h
 ·have hn:b∉L:=fun hx=>by
   rcases ht with ht|ht
   ·have:=(ha b hx).1;omega
   ·exact (ha b hx).2 ht
  have hk:=o.block b hb hn;have hcell:∀i,w'.cell? ⟨b,i,none⟩=w.cell? ⟨b,i,none⟩:=fun i=>by simp only[World.cell?,hk]
  refine .inr ⟨b,f,hA,by have:=o.size;omega,?_,fun k dN=>by rw[hcell,hcell];exact hc k dN⟩;rcases ht with ht|⟨cur,fr,ht⟩
  ·exact .inl ht
  ·exact .inr ⟨cur,fr,hk.trans ht⟩
theorem oq.ext (h:oq w B A l) (o:Ext w w'):oq w' B A l:=h.only (Only.az (L:=[]) o) (fun b hb=>by cases hb)
theorem oq.nil (w:World) (B:Nat) (A:Option Addr):oq w B A []:=.inl rfl
theorem eD.zS {base:Nat} (h:eD w base v l):∃A cap,v=.slice A l.length cap/\l.length<=cap/\cap<=maxLen/\oq w B A l/\(A=none->cap=0):=by
 obtain⟨A,cap,rfl,h1,h2,h3⟩:=h.at_;refine⟨A,cap,rfl,h1,h2,?_,?_⟩
 ·rcases h3 with h3|⟨b,o,rfl,hb,hc⟩
  ·exact .inl h3
  ·refine .inr ⟨b,o,rfl,hb,.inr ?_,hc⟩
   unfold eD at h;rcases h.2 with⟨h,h0⟩|⟨g,cap',cur,h,_,hg,_⟩
   ·cases h
   ·injection h with h
    injection h with h;injection h with h;subst h;exact⟨_,_,hg⟩
 ·rintro rfl
  unfold eD at h;rcases h.2 with⟨h,h0⟩|⟨g,cap',cur,h,_⟩
  ·injection h
  ·injection h with h;cases h
def gu (n:ak) (A:Option Addr) (c:Nat):List Value:=[.int .i64 n.no,.int .i64 n.dev,.int .i64 n.kind,.int .i64 n.mode,.int .i64 n.uid,.int .i64 n.gid,.int .i64 n.mtime,.int .i64 n.ctime,.int .i64 n.ar,.int .i64 n.up,.string (bs n.data),.slice A n.ah.length c]
structure aD (w:World) (B:Nat) (n:ak) (A:Option Addr) (c:Nat):Prop where
 ah:oq w B A n.ah
 cap:n.ah.length<=c
 max:c<=maxLen
 nil:A=none->c=0
theorem aD.only {w w':World} {B:Nat} {n:ak} {A:Option Addr} {c:Nat} {L:List Nat} (h:aD w B n A c) (o:Only L w w') (ha:dE w B L):aD w' B n A c:=⟨h.ah.only o ha,h.cap,h.max,h.nil⟩
theorem aD.ext {w w':World} {B:Nat} {n:ak} {A:Option Addr} {c:Nat} (h:aD w B n A c) (o:Ext w w'):aD w' B n A c:=⟨h.ah.ext o,h.cap,h.max,h.nil⟩
theorem aD.zero (w:World) (B:Nat):aD w B aj none 0:=⟨.nil _ _ _,aE _,bC _,fun _=>rfl⟩
theorem aD.same {n m:ak} (h:aD w B n A c) (e:m.ah=n.ah):aD w B m A c:=⟨by rw[e];exact h.ah,by rw[e];exact h.cap,h.max,h.nil⟩
def j5 (w:World) (B:Nat) (es:List MapEntry) (ns:List ak):Prop:=
 es.length=ns.length/\∀k,(h:k<ns.length)->∃e A c,es[k]?=some e/\e.key=.int .i64 ns[k].no/\e.val=.agg #[.int .i64 (ns[k]).no,.int .i64 (ns[k]).dev,.int .i64 (ns[k]).kind,.int .i64 (ns[k]).mode,.int .i64 (ns[k]).uid,.int .i64 (ns[k]).gid,.int .i64 (ns[k]).mtime,.int .i64 (ns[k]).ctime,.int .i64 (ns[k]).ar,.int .i64 (ns[k]).up,.string (bs (ns[k]).data),.slice A (ns[k]).ah.length c]/\aD w B ns[k] A c
theorem j5.only {w w':World} {B:Nat} {es:List MapEntry} {ns:List ak} {L:List Nat} (h:j5 w B es ns) (o:Only L w w') (ha:dE w B L):j5 w' B es ns:=
 ⟨h.1,fun k hk=>by obtain⟨e,A,c,h1,h2,h3,h4⟩:=h.2 k hk;exact⟨e,A,c,h1,h2,h3,h4.only o ha⟩⟩
theorem j5.ext {es:List MapEntry} {ns:List ak} (h:j5 w B es ns) (o:Ext w w'):j5 w' B es ns:=h.only (Only.az (L:=[]) o) (fun b hb=>by cases hb)
def q9 (w:World) (B bT bM:Nat) (ns:List ak) (last:Int):Prop:=
 B<=bT/\B<=bM/\Has w bT (.cells #[.map (some bM),last] 157)/\∃es clock,Has w bM (.map es clock)/\j5 w B es.toList ns
theorem Has.fV {cur:Array Value} (h:Has w b (.cells cur t)) (hne:t≠153):¬e7 w b 153:=by
 rintro ⟨c,f,g⟩;unfold Has at h;rw[h]at g;injection g with g;injection g with g1 g2;exact hne g2
theorem Has.aad {es:Array MapEntry} (h:Has w b (.map es cl)) (t:TypeId):¬e7 w b t:=by
 rintro ⟨c,f,g⟩;unfold Has at h;rw[h]at g;injection g with g
 cases g
theorem q9.apart {ns:List ak} (h:q9 w B bT bM ns last):dE w B [bT,bM]:=by
 obtain⟨h1,h2,h3,es,cl,h4,_⟩:=h;intro b hb;rcases aR.1 hb with rfl|hb
 ·exact⟨h1,h3.fV (by decide)⟩
 ·rw[ax]at hb;subst hb;exact⟨h2,h4.aad _⟩
theorem q9.only {w w':World} {B bT bM:Nat} {ns:List ak} {last:Int} {L:List Nat} (h:q9 w B bT bM ns last) (o:Only L w w') (ha:dE w B L) (hT:bT∉L) (hM:bM∉L):q9 w' B bT bM ns last:=by
 obtain⟨h1,h2,h3,es,cl,h4,h5⟩:=h;exact⟨h1,h2,o.has h3 hT,es,cl,o.has h4 hM,h5.only o ha⟩
theorem q9.ext {ns:List ak} (h:q9 w B bT bM ns last) (o:Ext w w'):q9 w' B bT bM ns last:=
 h.only (Only.az (L:=[]) o) (fun b hb=>by cases hb) (by simp) (by simp)
theorem lS (no:Int):∀(es:List MapEntry) (ns:List ak) (i:Nat),es.length=ns.length->(∀k,(h:k<ns.length)->∃e,es[k]?=some e/\e.key=.int .i64 ns[k].no) ->
  (aW ns no=false/\Instr.findNow (.int .i64) (.int .i64 no) es i=some none)\/(∃k e,k<ns.length/\es[k]?=some e/\Instr.findNow (.int .i64) (.int .i64 no) es i=some (some (i+k,e.val))/\gF ns no=ns[k]?):=by
 intro es
 induction es with
 | nil =>
  intro ns i hl hk;obtain rfl:ns=[]:=qD hl.symm;exact .inl ⟨rfl,rfl⟩
 | cons e es ih =>
  intro ns i hl hk
  cases ns with
  | nil=>simp at hl
  | cons n ns =>
   obtain⟨e',h1,h2⟩:=hk 0 (by simp);simp at h1;subst h1;simp at h2;have hs:Instr.sameNow (.int .i64) (.int .i64 no) e.key=some (no == n.no):=by rw[h2];simp[Instr.sameNow]
   by_cases hq:no=n.no
   ·right
    refine⟨0,e,by simp,rfl,?_,?_⟩
    ·unfold Instr.findNow
     rw[hs];simp[hq]
    ·unfold gF
     rw[gD];simp[hq]
   ·have hb:(no == n.no)=false:=by simpa using hq
    have hb2:(n.no == no)=false:=by simpa using fun e=>hq e.symm
    have Y7:Instr.findNow (.int .i64) (.int .i64 no) (e::es) i=Instr.findNow (.int .i64) (.int .i64 no) es (i+1):=by
     conv=>lhs;unfold Instr.findNow
     rw[hs,hb]
    have hg:gF (n::ns) no=gF ns no:=by
     unfold gF;rw[gD];simp[hb2]
    rcases ih ns (i+1) (by simpa using hl) (fun k h=>by
     obtain⟨x,ue,xK⟩:=hk (k+1) (by simpa using h);exact⟨x,by simpa using ue,by simpa using xK⟩) with⟨g1,g2⟩|⟨k,x,g1,g2,g3,g4⟩
    ·exact .inl ⟨by unfold aW at g1|-;rw[hg];exact g1,Y7.trans g2⟩
    ·refine .inr ⟨k+1,x,by simpa using g1,by simpa using g2,?_,by rw[hg,g4];simp⟩
     rw[Y7,g3]
     congr 3
     omega
theorem iJ (e:Bool) (no:Int) (w:World):(Instr.checkKey e 10000 3 (.int .i64 no)).run prog w=.ok () w:=by
 have h:∀d:Nat,(Instr.checkKey e (d+1) 3 (.int .i64 no)).run prog w=.ok () w:=fun d=>by simp[Instr.checkKey,mD underlying3]
 exact h 9999
theorem run_get {es:Array MapEntry} {ns:List ak} (hm:Has w bM (.map es clock)) (h:j5 w0 B es.toList ns) (no:Int) :
  ∃ A c,(Instr.lookup 155 (.map (some bM)) (.int .i64 no) true).run prog w=.ok (.tuple #[.agg #[.int .i64 (aa ns no).no,.int .i64 (aa ns no).dev,.int .i64 (aa ns no).kind,.int .i64 (aa ns no).mode,.int .i64 (aa ns no).uid,.int .i64 (aa ns no).gid,.int .i64 (aa ns no).mtime,.int .i64 (aa ns no).ctime,.int .i64 (aa ns no).ar,.int .i64 (aa ns no).up,.string (bs (aa ns no).data),.slice A (aa ns no).ah.length c],.bool (aW ns no)]) w/\aD w0 B (aa ns no) A c:=by
 have hk:∀r,Instr.findNow (.int .i64) (.int .i64 no) es.toList 0=some r->(Instr.findKey 3 (.int .i64 no) es.toList).run prog w=.ok r w:=fun r hr=>by
  unfold Instr.findKey;rw[nr,mD underlying3];simp[hr]
 rcases lS no es.toList ns 0 h.1 (fun k hk=>by obtain⟨e,A,c,h1,h2,_⟩:=h.2 k hk;exact⟨e,h1,h2⟩) with⟨g1,g2⟩|⟨k,e,g1,g2,g3,g4⟩
 ·refine ⟨none,0,?_,?_⟩
  ·have hz:=(aP g1).1
   simp[Instr.lookup,mD underlying155,rp hm,iJ,hk _ g2,hz,g1];exact⟨rfl,rfl,rfl,rfl,rfl,rfl,rfl,rfl,rfl,rfl,rfl,rfl⟩
  ·rw[(aP g1).1];exact aD.zero w0 B
 ·obtain ⟨e',A,c,h1,_,h3,h4⟩:=h.2 k g1
  rw[h1]at g2;injection g2 with g2;subst g2;have e1:aa ns no=ns[k]:=by unfold aa;rw[g4,iq g1];rfl
  have e2:aW ns no=true:=by unfold aW;rw[g4,iq g1];rfl
  refine⟨A,c,?_,by rw[e1];exact h4⟩;rw[e1,e2];simp[Instr.lookup,mD underlying155,rp hm,iJ,hk _ g3,h3]
theorem Sb (w:World) (no:Int):(Instr.keyThatStays (.int .i64 no) (.int .i64 no)).run prog w=.ok (.int .i64 no) w:=by
 have h:∀d:Nat,Instr.sameBits (d+1) (.int .i64 no) (.int .i64 no)=true:=fun d=>by simp[Instr.sameBits]
 unfold Instr.keyThatStays;rw[af (h 9999)];rfl
theorem NQ {es:Array MapEntry} {ns:List ak} {n:ak} (h:j5 w B es.toList ns) (hn:aD w B n A c) (hk:k<ns.length) (_hno:ns[k].no=n.no) :
  j5 w B (es.modify k fun e=>{e with key:=.int .i64 n.no,val:=.agg (n,A,c)}).toList (ns.set k n):=by
 refine⟨by simp;simpa using h.1,fun j hj=>?_⟩;rw[tE]at hj;obtain⟨e,A',c',h1,h2,h3,h4⟩:=h.2 j hj;rw[zj]at h1;rw[zj,Array.getElem?_modify,h1]
 by_cases e:k=j
 ·subst e
  refine⟨{e with key:=.int .i64 n.no,val:=.agg (n,A,c)},A,c,by rw[af rfl];rfl,?_⟩;rw[List.getElem_set_self];exact⟨rfl,rfl,hn⟩
 ·refine ⟨_,A',c',by rw[ac e],?_⟩
  rw[List.getElem_set_ne e];exact⟨h2,h3,h4⟩
theorem NR {es:Array MapEntry} {ns:List ak} {n:ak} (h:j5 w B es.toList ns) (hn:aD w B n A c) :
  j5 w B (es.push ⟨.int .i64 n.no,.agg (n,A,c),clock⟩).toList (ns++[n]):=by
 refine⟨by simp;simpa using h.1,fun j hj=>?_⟩;have hl:es.size=ns.length:=by simpa using h.1
 rw[aZ,lF]at hj;rw[zj,Array.getElem?_push,hl]
 by_cases e:j=ns.length
 ·subst e
  refine⟨⟨.int .i64 n.no,.agg (n,A,c),clock⟩,A,c,by rw[af rfl],?_⟩;rw[Cw (aE _)];simp only[zk,List.getElem_singleton];exact⟨trivial,trivial,hn⟩
 ·obtain ⟨e',A',c',h1,h2,h3,h4⟩:=h.2 j (by omega)
  rw[zj]at h1;refine⟨e',A',c',by rw[ac e];exact h1,?_⟩;rw[Mn (by omega)];exact⟨h2,h3,h4⟩
theorem My {es:Array MapEntry} {ns:List ak} {n:ak} (hm:Has w bM (.map es clock)) (h:j5 w0 B es.toList ns) (hn:aD w0 B n A c) :
  ∃ es' clock',(Instr.mapUpdate 155 (.map (some bM)) (.int .i64 n.no) (.agg (n,A,c))).run prog w=.ok () (oL w bM (.map es' clock')) /\
   ((aW ns n.no=false/\j5 w0 B es'.toList (ns++[n]))\/(∃k,∃hk:k<ns.length,ns[k].no=n.no/\aW ns n.no=true/\j5 w0 B es'.toList (ns.set k n))):=by
 have hk:∀r,Instr.findNow (.int .i64) (.int .i64 n.no) es.toList 0=some r->(Instr.findKey 3 (.int .i64 n.no) es.toList).run prog w=.ok r w:=fun r hr=>by
  unfold Instr.findKey;rw[nr,mD underlying3];simp[hr]
 rcases lS n.no es.toList ns 0 h.1 (fun k hk=>by obtain⟨e,A,c,h1,h2,_⟩:=h.2 k hk;exact⟨e,h1,h2⟩) with⟨g1,g2⟩|⟨k,e,g1,g2,g3,g4⟩
 ·refine ⟨_,clock+1,?_,.inl ⟨g1,NR (clock:=clock) h hn⟩⟩
  simp[Instr.mapUpdate,mD underlying155,rp hm,iJ,hk _ g2,Js _ hm,Result.andThen,oL]
 ·obtain ⟨e',A',c',h1,h2,h3,h4⟩:=h.2 k g1
  rw[h1]at g2;injection g2 with g2;subst g2;have e0:gF ns n.no=some ns[k]:=by rw[g4,iq g1]
  have bB:ns[k].no=n.no:=(pp e0).1;refine⟨_,clock,?_,.inr ⟨k,g1,bB,by unfold aW;rw[e0];rfl,NQ h hn g1 bB⟩⟩;rw[zj]at h1;simp[Instr.mapUpdate,mD underlying155,rp hm,iJ,hk _ g3,Js _ hm,Result.andThen,oL,h1,h2,bB,Sb]
theorem Has.da {n:ak} (h:Has w b (.cells (n,A,c) 66)) :
  w.cell? (b,0)=some (.int .i64 n.no)/\w.cell? (b,1)=some (.int .i64 n.dev)/\w.cell? (b,2)=some (.int .i64 n.kind)/\w.cell? (b,3)=some (.int .i64 n.mode)/\w.cell? (b,4)=some (.int .i64 n.uid)/\w.cell? (b,5)=some (.int .i64 n.gid) /\
  w.cell? (b,6)=some (.int .i64 n.mtime)/\w.cell? (b,7)=some (.int .i64 n.ctime)/\w.cell? (b,8)=some (.int .i64 n.ar)/\w.cell? (b,9)=some (.int .i64 n.up)/\w.cell? (b,10)=some (.string (bs n.data))/\w.cell? (b,11)=some (.slice A n.ah.length c):=
 ⟨h.cell 0,h.cell 1,h.cell 2,h.cell 3,h.cell 4,h.cell 5,h.cell 6,h.cell 7,h.cell 8,h.cell 9,h.cell 10,h.cell 11⟩
theorem q9.ne {ns:List ak} (h:q9 w B bT bM ns last):bT≠bM:=by
 obtain⟨_,_,h3,es,cl,h4,_⟩:=h;rintro rfl;unfold Has at h3 h4;rw[h3]at h4;cases h4
theorem dE.sub {L':List Nat} (h:dE w B L) (hs:∀x∈L',x∈L):dE w B L':=fun b hb=>h b (hs b hb)
theorem q9.JR {ns ms:List ak} (h:q9 w B bT bM ns last) {es:Array MapEntry} (hm:j5 w B es.toList ms):q9 (oL w bM (.map es cl)) B bT bM ms last:=by
 have hne:=h.ne;have ha:=h.apart.sub (L':=[bM]) (by simp);obtain⟨h1,h2,h3,es0,cl0,h4,h5⟩:=h;exact⟨h1,h2,(Only.oL w bM _).has h3 (by simpa using hne),es,cl,Has.oL _ h4.lt,hm.only (Only.oL w bM _) ha⟩
theorem q9.WR {ns:List ak} (h:q9 w B bT bM ns last) (x:Int):q9 (w.setCell (bT,1) (.int .i64 x)) B bT bM ns x:=by
 have hne:=h.ne;have ha:=h.apart.sub (L':=[bT]) (by simp);obtain⟨h1,h2,h3,es0,cl0,h4,h5⟩:=h;have o:=Only.setCell w bT 1 (.int .i64 x);exact⟨h1,h2,h3.setCell 1 _,es0,cl0,o.has h4 (by simpa using hne.symm),h5.only o ha⟩
theorem Ext.cells (h:Ext w w'):(∀b o,b<w.heap.size->w'.cell? ⟨b,o,none⟩=w.cell? ⟨b,o,none⟩)/\(∀b o,b<w.heap.size->w'.frozen? ⟨b,o,none⟩=w.frozen? ⟨b,o,none⟩):=
 ⟨fun _ _ hb=>h.cell hb,fun _ _ hb=>h.frozen hb⟩
def adX (w:World) (B:Nat) (ns:List ak) (no:Int) (e:Ending) (w':World):Prop:=
 ∃ A c,e=.returned (.tuple #[.agg #[.int .i64 (aa ns no).no,.int .i64 (aa ns no).dev,.int .i64 (aa ns no).kind,.int .i64 (aa ns no).mode,.int .i64 (aa ns no).uid,.int .i64 (aa ns no).gid,.int .i64 (aa ns no).mtime,.int .i64 (aa ns no).ctime,.int .i64 (aa ns no).ar,.int .i64 (aa ns no).up,.string (bs (aa ns no).data),.slice A (aa ns no).ah.length c],.bool (aW ns no)])/\aD w' B (aa ns no) A c/\Ext w w'
theorem fW (B bT bM:Nat) (ns:List ak) (last no:Int) (w:World) (h:q9 w B bT bM ns last):Calls prog 50 #[((),bT),no] w (adX w B ns no):=by
 obtain⟨h1,h2,h3,es,cl,h4,h5⟩:=h;have c0:=aA h3 0 rfl;have hbT:=h3.lt;obtain⟨A,c,hr,hok⟩:=run_get (w:=w.alloc (.cells () 66)) (h4.alloc _) h5 no;go_in;go_wp2_with fail;refine aT (v:=.tuple #[.agg #[.int .i64 (aa ns no).no,.int .i64 (aa ns no).dev,.int .i64 (aa ns no).kind,.int .i64 (aa ns no).mode,.int .i64 (aa ns no).uid,.int .i64 (aa ns no).gid,.int .i64 (aa ns no).mtime,.int .i64 (aa ns no).ctime,.int .i64 (aa ns no).ar,.int .i64 (aa ns no).up,.string (bs (aa ns no).data),.slice A (aa ns no).ah.length c],.bool (aW ns no)]) (by simp[results,results50,go_sem]) rfl ⟨A,c,rfl,hok.ext (((Ext.refl _).alloc _).alloc _),((Ext.refl _).alloc _).alloc _⟩
def abR (w:World) (B bT bM:Nat) (ns:List ak) (last:Int) (n:ak) (e:Ending) (w':World):Prop:=
 e = .returned (.bool (aW ns n.no))/\q9 w' B bT bM (cP ns n) last/\Only [bT,bM] w w'
theorem Gh (B bT bM:Nat) (ns:List ak) (last:Int) (n:ak) (A:Option Addr) (c:Nat) (w:World) (h:q9 w B bT bM ns last) (hu:aQ ns last) (hn:aD w B n A c) :
  Calls prog 162 #[((),bT),.agg (n,A,c)] w (abR w B bT bM ns last n):=by
 have hbT:=h.2.2.1.lt;go_in;go_wp2_with fail;refine (fW B bT bM ns last n.no _ (h.ext ((Ext.refl _).alloc _))).mono ?_;rintro e w1 ⟨A1,c1,rfl,NS,Et⟩
 generalize aa ns n.no=m at NS|-
 cases hi:aW ns n.no
 ·have Ez:Hid (cP ns n=ns):=zQ (aP hi).2
  have HI:=zH hi;clear hi;go_wp2;go_ret;exact⟨eo HI.o.symm,by rw[Ez.o];exact ((h.ext ((Ext.refl _).alloc _)).ext Et).ext ((Ext.refl _).alloc _),(Only.az (((Ext.refl _).alloc _).trans (Et.alloc _)))⟩
 ·go_wp2_with fail
  obtain⟨W2,dp⟩:=ai (w1.alloc (.cells (m,A1,c1) 66));rw[<-dp];have E1:Ext (w.alloc (.cells (n,A,c) 66)) W2:=by rw[dp];exact Et.alloc _
  have hb:=(Has.new w (.cells (n,A,c) 66)).ext E1;have E2:Ext w W2:=((Ext.refl _).alloc _).trans E1;obtain⟨h1,h2,h3,es,cl,h4,h5⟩:=h.ext E2;have c0:=aA h3 0 rfl;have abS:=h3.lt;obtain⟨x0,x1,x2,x3,x4,x5,x6,x7,x8,x9,kC,kn⟩:=hb.da;have vT:=hb.lt;clear dp;obtain⟨es',cl',hr,Q_⟩:=My (w:=W2.drew) (show Has W2.drew bM _ from h4) h5 (hn.ext E2);have HO:=zH Q_;have HI:=zH hi;clear Q_ hi;go_still_tail 7,(by kernel_rfl);change wpList _ _ _ _ _ W2.drew;go_wp2;go_ret;refine⟨eo HI.o.symm,?_,?_⟩
  ·refine q9.JR (w:=W2.drew) (ns:=ns) ⟨h1,h2,h3,es,cl,h4,h5.ext ((Ext.refl _).drew)⟩ ?_
   rcases HO.o with⟨g,_⟩|⟨k,hk,g1,_,g2⟩
   ·rw[HI.o]at g;cases g
   ·rw[Mx hu hk g1];exact g2.ext ((Ext.refl _).drew)
  ·exact ((Only.az (E2.drew)).then ((Only.oL W2.drew bM _).mono (by simp)))
def Y8 (w:World) (B bT bM:Nat) (ns:List ak) (last:Int) (n:ak) (e:Ending) (w':World):Prop:=
 e = .returned (.int .i64 (last+1))/\q9 w' B bT bM (ns++[{n with no:=last+1}]) (last+1)/\Only [bT,bM] w w'
theorem Gi (B bT bM:Nat) (ns:List ak) (last:Int) (n:ak) (A:Option Addr) (c:Nat) (w:World) (h:q9 w B bT bM ns last) (hu:aQ ns last) (h0:0<=last) (hl:last<=1000000) (hn:aD w B n A c) :
  Calls prog 184 #[((),bT),.agg (n,A,c)] w (Y8 w B bT bM ns last n):=by
 have hbT:=h.2.2.1.lt;have hbM:bM<w.heap.size:=by obtain⟨_,_,_,_,_,h4,_⟩:=h;exact h4.lt
 have c0:=aA h.2.2.1 0 rfl;have c1:=aA h.2.2.1 1 rfl;have f1:w.frozen? (bT,1)=false:=h.2.2.1.free 1;have hq:∀W:World,(binOp .eql 155 (.map (some bM)) (.map none)).run prog W=.ok (.bool false) W:=fun W=>run_eql_map_nil W _ _ _ _ underlying155
 go_in;go_wp2_with fail;obtain⟨m,hm⟩:∃m:ak,m={n with no:=last+1}:=⟨_,rfl⟩;obtain⟨W2,dp⟩:=ai ((w.setCell (bT,1) (.int .i64 (last+1))).alloc (.cells (m,A,c) 66));have hT:=h.WR (last+1);have ug:aD (w.setCell (bT,1) (.int .i64 (last+1))) B m A c:=(hn.only (Only.setCell w bT 1 _) (h.apart.sub (by simp))).same (by rw[hm]);have hO:Only [bT,bM] w W2:=by rw[dp];exact ((Only.setCell w bT 1 _).mono (by simp)).ext ((Ext.refl _).alloc _)
 have E2:Ext (w.setCell (bT,1) (.int .i64 (last+1))) W2:=by rw[dp];exact (Ext.refl _).alloc _
 have hb:=Has.new (w.setCell (bT,1) (.int .i64 (last+1))) (.cells (m,A,c) 66);rw[World.size_setCell,<-dp]at hb;have bB:m.no=last+1:=by rw[hm]
 have cJ:=dp;rw[hm]at cJ;rw[<-cJ];have HM:Hid (Y8 w B bT bM ns last n=fun e w'=>e=.returned (.int .i64 (last+1))/\q9 w' B bT bM (ns++[m]) (last+1)/\Only [bT,bM] w w'):=by rw[hm];rfl
 clear hm cJ dp c0 c1 f1;obtain⟨h1,h2,h3,es,cl,h4,h5⟩:=hT.ext E2;have c0:=aA h3 0 rfl;have abS:=h3.lt;obtain⟨x0,x1,x2,x3,x4,x5,x6,x7,x8,x9,kC,kn⟩:=hb.da;have vT:=hb.lt;rw[bB]at x0;obtain⟨es',cl',hr,Q_⟩:=My (w:=W2.drew) (show Has W2.drew bM _ from h4) h5 (ug.ext E2);rw[bB]at hr;have HO:=zH Q_;have y0:(oL W2.drew bM (.map es' cl')).cell? (w.heap.size,0)=some (.int .i64 m.no):=((Only.oL W2.drew bM (.map es' cl')).has (show Has W2.drew w.heap.size _ from hb) (by simp;omega)).cell 0;rw[bB]at y0;have HN:=zH bB;clear Q_ bB;go_still_tail 7,(by kernel_rfl);change wpList _ _ _ _ _ W2.drew;go_wp2;go_ret;rw[HM.o];refine⟨rfl,?_,hO.then ((Only.az ((Ext.refl _).drew)).then ((Only.oL W2.drew bM _).mono (by simp)))⟩;refine q9.JR (w:=W2.drew) (ns:=ns) ⟨h1,h2,h3,es,cl,h4,h5.ext ((Ext.refl _).drew)⟩ ?_;rcases HO.o with⟨_,g⟩|⟨k,hk,g1,g2,_⟩
 ·exact g.ext ((Ext.refl _).drew)
 ·have:=hu.zero (no:=m.no) (.inr (by have:=HN.o;omega))
  rw[this]at g2;cases g2
theorem Sc (B:Nat) (w:World) (hB:B<=w.heap.size):Calls prog 153 #[] w (fun e w'=>∃bT bM,e=.returned (.pointer (some ⟨bT,0,none⟩))/\q9 w' B bT bM [] 0/\Ext w w'/\w.heap.size<=bT/\w.heap.size<=bM):=by
 have hmm:=@run_makeMap prog;go_in;go_wp2;go_ret;refine⟨_,_,rfl,⟨?_,hB,?_,#[],0,(Has.new w _).alloc _,rfl,fun k hk=>by simp at hk⟩,((Ext.refl _).alloc _).alloc _,?_,aE _⟩
 ·omega
 ·have:=Has.new (w.alloc (.map #[] 0)) (.cells #[.map (some w.heap.size),()] 157)
  rwa [bi]at this
 ·omega
theorem tI {q:dW} {b:Int} (h:qi q) (hr:V7 b n) :
  (q.bG<q.nodes+n/\eZ q b n=15/\bf q b n=q)\/(q.nodes+n<=q.bG/\q.bH<q.blocks+b/\eZ q b n=14/\bf q b n=q) \/
  (q.nodes+n<=q.bG/\q.blocks+b<=q.bH/\(q.nodes+n<0\/q.blocks+b<0)/\eZ q b n=1/\bf q b n=q) \/
  (q.nodes+n<=q.bG/\q.blocks+b<=q.bH/\0<=q.nodes+n/\0<=q.blocks+b/\eZ q b n=0/\bf q b n=nB q b n):=by
 have hf:=(NP q).2 h
 by_cases h1:q.bG<q.nodes+n
 ·have e:eZ q b n=15:=by unfold eZ;rw[af ⟨hf,hr⟩,af h1]
  exact .inl ⟨h1,e,by unfold bf;rw[e];rfl⟩
 ·by_cases h2:q.bH<q.blocks+b
  ·have e:eZ q b n=14:=by unfold eZ;rw[af ⟨hf,hr⟩,ac h1,af h2]
   exact .inr (.inl ⟨by omega,h2,e,by unfold bf;rw[e];rfl⟩)
  ·by_cases h3:q.nodes+n<0\/q.blocks+b<0
   ·have e:eZ q b n=1:=by unfold eZ;rw[af ⟨hf,hr⟩,ac h1,ac h2,af h3]
    exact .inr (.inr (.inl ⟨by omega,by omega,h3,e,by unfold bf;rw[e];rfl⟩))
   ·have e:eZ q b n=0:=by unfold eZ;rw[af ⟨hf,hr⟩,ac h1,ac h2,ac h3]
    exact .inr (.inr (.inr ⟨by omega,by omega,by omega,by omega,e,by unfold bf;rw[e];rfl⟩))
theorem pq (q:dW) (h:qi q) (w:World):Calls prog 204 #[.agg #[q.blocks,q.nodes,q.bH,q.bG]] w (aO w (.bool true)):=by
 obtain⟨h1,h2,h3,h4,h5,h6⟩:=h;go_in;go_wp2;go_ret;exact aO.mk rfl ((Ext.refl _).alloc _)
theorem Sd (q:dW) (h:q.nodes<0\/q.blocks<0) (w:World):Calls prog 204 #[.agg #[q.blocks,q.nodes,q.bH,q.bG]] w (aO w (.bool false)):=by
 by_cases h1:q.blocks<0
 ·go_in
  go_wp2;go_ret;exact aO.mk rfl ((Ext.refl _).alloc _)
 ·have h2:q.nodes<0:=by omega
  have h3:0<=q.blocks:=by omega
  clear h h1;go_in;go_wp2;go_ret;exact aO.mk rfl ((Ext.refl _).alloc _)
theorem sk (q:dW) (h:qi q) (w:World):Calls prog 225 #[.agg #[q.blocks,q.nodes,q.bH,q.bG]] w (aO w (.bool true)):=by
 obtain⟨h1,h2,h3,h4,h5,h6⟩:=h;go_in;go_wp2;go_ret;exact aO.mk rfl ((Ext.refl _).alloc _)
theorem wD (q:dW) (b n:Int) (h:qi q) (hr:V7 b n) (w:World):Calls prog 183 #[.agg #[q.blocks,q.nodes,q.bH,q.bG],b,n] w (aO w (.tuple #[.agg #[.int .i64 (bf q b n).blocks,.int .i64 (bf q b n).nodes,.int .i64 (bf q b n).bH,.int .i64 (bf q b n).bG],.int .i64 (eZ q b n)])):=by
 have hq:=h;obtain⟨r1,r2,r3,r4⟩:=hr;obtain⟨h1,h2,h3,h4,h5,h6⟩:=h;have d1:decide (b < -1073741824)=false:=cG (by omega);have d2:decide (1073741824<b)=false:=cG (by omega);have d3:decide (n < -1073741824)=false:=cG (by omega);have d4:decide (1073741824<n)=false:=cG (by omega);rcases tI hq ⟨r1,r2,r3,r4⟩ with⟨g1,e1,e2⟩|⟨g1,g2,e1,e2⟩|⟨g1,g2,g3,e1,e2⟩|⟨g1,g2,g3,g4,e1,e2⟩
 ·rw [e1,e2]
  clear e1 e2;go_in;go_wp2_with fail;refine (pq q hq _).mono ?_;rintro e w1 ⟨rfl,b1⟩;obtain⟨hc,hf⟩:=b1.cells;have hz:=b1.size;simp only[bi]at hz;have hz1:w.heap.size<w1.heap.size:=by omega
  have hz2:w.heap.size+1<w1.heap.size:=by omega
  go_wp2_with fail;refine aT (v:=.tuple #[.agg #[q.blocks,q.nodes,q.bH,q.bG],.int .i64 15]) (by simp[results,results183,go_sem,hc,hz2]) rfl ⟨rfl,?_⟩
  repeat (first|refine Ext.alloc ?_ _|refine Ext.setCell ?_ (by simp<;>omega) _)
  exact (((Ext.refl _).alloc _).alloc _).trans b1
 ·rw [e1,e2]
  clear e1 e2;go_in;go_wp2_with fail;refine (pq q hq _).mono ?_;rintro e w1 ⟨rfl,b1⟩;obtain⟨hc,hf⟩:=b1.cells;have hz:=b1.size;simp only[bi]at hz;have hz1:w.heap.size<w1.heap.size:=by omega
  have hz2:w.heap.size+1<w1.heap.size:=by omega
  go_wp2_with fail;refine aT (v:=.tuple #[.agg #[q.blocks,q.nodes,q.bH,q.bG],.int .i64 14]) (by simp[results,results183,go_sem,hc,hz2]) rfl ⟨rfl,?_⟩
  repeat (first|refine Ext.alloc ?_ _|refine Ext.setCell ?_ (by simp<;>omega) _)
  exact (((Ext.refl _).alloc _).alloc _).trans b1
 ·rw [e1,e2]
  clear e1 e2;go_in;go_wp2_with fail;refine (pq q hq _).mono ?_;rintro e w1 ⟨rfl,b1⟩;obtain⟨hc,hf⟩:=b1.cells;have hz:=b1.size;simp only[bi]at hz;have hz1:w.heap.size<w1.heap.size:=by omega
  have hz2:w.heap.size+1<w1.heap.size:=by omega
  go_wp2_with fail;refine (Sd (nB q b n) g3 _).mono ?_;rintro e w2 ⟨rfl,b2⟩;obtain⟨yD,JS⟩:=b2.cells;have hy:=b2.size;simp only[bi]at hy;have hy1:w.heap.size<w2.heap.size:=by omega
  have hy2:w.heap.size+1<w2.heap.size:=by omega
  have hy3:w1.heap.size<w2.heap.size:=by omega
  go_wp2_with fail;refine aT (v:=.tuple #[.agg #[q.blocks,q.nodes,q.bH,q.bG],.int .i64 1]) (by simp[results,results183,go_sem,hc,hz1,hz2,yD]) rfl ⟨rfl,?_⟩
  repeat (first|refine Ext.alloc ?_ _|refine Ext.setCell ?_ (by simp<;>omega) _)
  exact (Ext.alloc ((((Ext.refl _).alloc _).alloc _).trans b1) _).trans b2
 ·rw [e1,e2]
  clear e1 e2;go_in;go_wp2_with fail;refine (pq q hq _).mono ?_;rintro e w1 ⟨rfl,b1⟩;obtain⟨hc,hf⟩:=b1.cells;have hz:=b1.size;simp only[bi]at hz;have hz1:w.heap.size<w1.heap.size:=by omega
  have hz2:w.heap.size+1<w1.heap.size:=by omega
  go_wp2_with fail;refine (pq (nB q b n) ⟨g4,g3,g2,g1,h5,h6⟩ _).mono ?_;rintro e w2 ⟨rfl,b2⟩;obtain⟨yD,JS⟩:=b2.cells;have hy:=b2.size;simp only[bi]at hy;have hy1:w.heap.size<w2.heap.size:=by omega
  have hy2:w.heap.size+1<w2.heap.size:=by omega
  have hy3:w1.heap.size<w2.heap.size:=by omega
  go_wp2_with fail;refine aT (v:=.tuple #[.agg #[.int .i64 (nB q b n).blocks,.int .i64 (nB q b n).nodes,.int .i64 (nB q b n).bH,.int .i64 (nB q b n).bG],()]) (by simp[results,results183,go_sem,hc,hz1,hz2,nB,yD]) rfl ⟨rfl,?_⟩
  repeat (first|refine Ext.alloc ?_ _|refine Ext.setCell ?_ (by simp<;>omega) _)
  exact (Ext.alloc ((((Ext.refl _).alloc _).alloc _).trans b1) _).trans b2
theorem CC (q:dW) (b n:Int) (h:qi q) (hr:V7 b n) (w:World):Calls prog 214 #[.agg #[q.blocks,q.nodes,q.bH,q.bG],b,n] w (aO w (.tuple #[.agg #[.int .i64 (bf q b n).blocks,.int .i64 (bf q b n).nodes,.int .i64 (bf q b n).bH,.int .i64 (bf q b n).bG],.int .i64 (eZ q b n)])):=by
 have hq:=h;obtain⟨r1,r2,r3,r4⟩:=hr;obtain⟨h1,h2,h3,h4,h5,h6⟩:=h;have d1:decide (b < -1073741824)=false:=cG (by omega);have d2:decide (1073741824<b)=false:=cG (by omega);have d3:decide (n < -1073741824)=false:=cG (by omega);have d4:decide (1073741824<n)=false:=cG (by omega);rcases tI hq ⟨r1,r2,r3,r4⟩ with⟨g1,e1,e2⟩|⟨g1,g2,e1,e2⟩|⟨g1,g2,g3,e1,e2⟩|⟨g1,g2,g3,g4,e1,e2⟩
 ·rw [e1,e2]
  clear e1 e2;go_in;go_wp2_with fail;refine (sk q hq _).mono ?_;rintro e w1 ⟨rfl,b1⟩;obtain⟨hc,hf⟩:=b1.cells;have hz:=b1.size;simp only[bi]at hz;have hz1:w.heap.size<w1.heap.size:=by omega
  have hz2:w.heap.size+1<w1.heap.size:=by omega
  go_wp2_with fail;refine aT (v:=.tuple #[.agg #[q.blocks,q.nodes,q.bH,q.bG],.int .i64 15]) (by simp[results,results214,go_sem,hc,hz2]) rfl ⟨rfl,?_⟩
  repeat (first|refine Ext.alloc ?_ _|refine Ext.setCell ?_ (by simp<;>omega) _)
  exact (((Ext.refl _).alloc _).alloc _).trans b1
 ·rw [e1,e2]
  clear e1 e2;go_in;go_wp2_with fail;refine (sk q hq _).mono ?_;rintro e w1 ⟨rfl,b1⟩;obtain⟨hc,hf⟩:=b1.cells;have hz:=b1.size;simp only[bi]at hz;have hz1:w.heap.size<w1.heap.size:=by omega
  have hz2:w.heap.size+1<w1.heap.size:=by omega
  go_wp2_with fail;refine aT (v:=.tuple #[.agg #[q.blocks,q.nodes,q.bH,q.bG],.int .i64 14]) (by simp[results,results214,go_sem,hc,hz2]) rfl ⟨rfl,?_⟩
  repeat (first|refine Ext.alloc ?_ _|refine Ext.setCell ?_ (by simp<;>omega) _)
  exact (((Ext.refl _).alloc _).alloc _).trans b1
 ·have Sg:q.nodes+n<0\/(0<=q.nodes+n/\q.blocks+b<0):=by omega
  clear g3;rcases Sg with g3|⟨g3,g4⟩
  all_goals
   rw[e1,e2];clear e1 e2;go_in;go_wp2_with fail;refine (sk q hq _).mono ?_;rintro e w1 ⟨rfl,b1⟩;obtain⟨hc,hf⟩:=b1.cells;have hz:=b1.size;simp only[bi]at hz;have hz1:w.heap.size<w1.heap.size:=by omega
   have hz2:w.heap.size+1<w1.heap.size:=by omega
   go_wp2_with fail;refine aT (v:=.tuple #[.agg #[q.blocks,q.nodes,q.bH,q.bG],.int .i64 1]) (by simp[results,results214,go_sem,hc,hz2]) rfl ⟨rfl,?_⟩
   repeat (first|refine Ext.alloc ?_ _|refine Ext.setCell ?_ (by simp<;>omega) _)
   exact (((Ext.refl _).alloc _).alloc _).trans b1
 ·rw [e1,e2]
  clear e1 e2;go_in;go_wp2_with fail;refine (sk q hq _).mono ?_;rintro e w1 ⟨rfl,b1⟩;obtain⟨hc,hf⟩:=b1.cells;have hz:=b1.size;simp only[bi]at hz;have hz1:w.heap.size<w1.heap.size:=by omega
  have hz2:w.heap.size+1<w1.heap.size:=by omega
  go_wp2_with fail;refine aT (v:=.tuple #[.agg #[.int .i64 (nB q b n).blocks,.int .i64 (nB q b n).nodes,.int .i64 (nB q b n).bH,.int .i64 (nB q b n).bG],()]) (by simp[results,results214,go_sem,hc,hz2,nB]) rfl ⟨rfl,?_⟩
  repeat (first|refine Ext.alloc ?_ _|refine Ext.setCell ?_ (by simp<;>omega) _)
  exact (((Ext.refl _).alloc _).alloc _).trans b1
theorem iK (b n:Int):(1<=b/\b<=1073741824/\1<=n/\n<=65536/\dg b n=true)\/(dg b n=false/\(b<1\/(1<=b/\1073741824<b)\/(1<=b/\b<=1073741824/\n<1)\/(1<=b/\b<=1073741824/\1<=n/\65536<n))):=by
 unfold dg
 by_cases h1:1<=b<;>by_cases h2:b<=1073741824<;>by_cases h3:1<=n<;>by_cases h4:n<=65536<;>simp[h1,h2,h3,h4]<;>omega
theorem Sh (b n:Int) (h:dg b n=true) (w:World):Calls prog 182 #[b,n] w (aO w (.tuple #[.agg #[(),(),b,n],()])):=by
 rcases iK b n with⟨h1,h2,h3,h4,_⟩|⟨h0,_⟩
 ·clear h
  go_in;go_wp2_with fail;refine aT (v:=.tuple #[.agg #[(),(),b,n],()]) (by simp[results,results182,go_sem]) rfl ⟨rfl,?_⟩;exact (Ext.refl _).alloc _
 ·rw[h0]at h;cases h
theorem WS (b n:Int) (h:dg b n=false) (w:World):Calls prog 182 #[b,n] w (aO w (.tuple #[.agg #[(),(),(),()],.int .i64 3])):=by
 rcases iK b n with⟨h1,h2,h3,h4,h0⟩|⟨-,h1|⟨h1,h2⟩|⟨h1,h2,h3⟩|⟨h1,h2,h3,h4⟩⟩
 ·rw[h0]at h;cases h
 all_goals
  clear h;go_in;go_wp2_with fail;refine aT (v:=.tuple #[.agg #[(),(),(),()],.int .i64 3]) (by simp[results,results182,go_sem]) rfl ⟨rfl,?_⟩;exact (Ext.refl _).alloc _
theorem ou (b n:Int) (w:World):Calls prog 120 #[b,n] w (aO w (.bool (dg b n))):=by
 rcases iK b n with⟨h1,h2,h3,h4,h0⟩|⟨h0,h1|⟨h1,h2⟩|⟨h1,h2,h3⟩|⟨h1,h2,h3,h4⟩⟩
 all_goals
  rw[h0];clear h0;go_in;go_wp2;go_ret;exact aO.mk (eo (by first|rfl|exact cG (by omega))) (Ext.refl _)
theorem uD (kind size:Int) (h0:0<=size) (h1:size<=1000000000) (w:World):Calls prog 220 #[kind,size] w (fun e w'=>e=.returned (.int .i64 (cx kind size))/\w'=w):=by
 by_cases hk:kind=1
 ·have hf:Hid (cx kind size=1):=by show _=_;unfold cx;rw[af hk]
  have hb:(kind == 1)=true:=by rw[hk];rfl
  clear hk;go_in;go_wp2;go_ret;exact⟨(aS hf.o.symm),rfl⟩
 ·have hb:(kind == 1)=false:=by simpa using hk
  by_cases hk2:kind=2
  ·have hb2:(kind == 2)=true:=by rw[hk2];rfl
   by_cases hs:0<size
   ·have hf:Hid (cx kind size=(size-1) / 512+1):=by show _=_;unfold cx;rw[ac hk,af ⟨hk2,hs⟩]
    clear hk hk2;go_in;go_wp2;go_ret;exact⟨(aS hf.o.symm),rfl⟩
   ·have hf:Hid (cx kind size=0):=by show _=_;unfold cx;rw[ac hk,ac (fun h=>hs h.2)]
    have qN:size<=0:=by omega
    clear hk hk2 hs;go_in;go_wp2;go_ret;exact⟨(aS hf.o.symm),rfl⟩
  ·have hf:Hid (cx kind size=0):=by show _=_;unfold cx;rw[ac hk,ac (fun h=>hk2 h.1)]
   have hb2:(kind == 2)=false:=by simpa using hk2
   clear hk hk2;go_in;go_wp2;go_ret;exact⟨(aS hf.o.symm),rfl⟩
theorem uE (kind size:Int) (h0:0<=size) (h1:size<=1000000000) (w:World):Calls prog 215 #[kind,size] w (fun e w'=>e=.returned (.int .i64 (cx kind size))/\w'=w):=by
 by_cases hk:kind=1
 ·have hf:Hid (cx kind size=1):=by show _=_;unfold cx;rw[af hk]
  have hb:(kind == 1)=true:=by rw[hk];rfl
  clear hk;go_in;go_wp2;go_ret;exact⟨(aS hf.o.symm),rfl⟩
 ·have hb : (kind == 1)=false:=by simpa using hk
  by_cases hk2:kind=2
  ·have hb2:(kind == 2)=true:=by rw[hk2];rfl
   have hf:∀k:Int,0<=k->size<=512*k->(k=0\/512*(k-1)<size)->cx kind size=k:=by
    intro k a b c;unfold cx;rw[ac hk]
    by_cases hs:0<size
    ·rw[af ⟨hk2,hs⟩];omega
    ·rw[ac (fun h=>hs h.2)];omega
   have HF:=zH hf;clear hk hk2 hf;go_in;go_wp2_with fail;go_loop [5] (fun i=>∃k:Int,0<=k/\k<=2000000/\i=.int .i64 k/\Hid (k=0\/512*(k-1)<size)) (fun i=>(size-512*intOf i+512).toNat)
   case atStart=>exact⟨0,by omega,by omega,rfl,.inl rfl⟩
   case round =>
    obtain⟨k,g1,g2,rfl,g3⟩:=hrel
    by_cases hlt:512*k<size
    ·go_wp2_with fail
     go_round
     case rel=>exact⟨k+1,by omega,by omega,rfl,.inr (by omega)⟩
     case measure=>simp[intOf];omega
    ·have hle:size<=512*k:=by omega
     go_wp2;go_ret;exact⟨(aS (HF.o k g1 hle g3.o).symm),rfl⟩
  ·have hf:Hid (cx kind size=0):=by show _=_;unfold cx;rw[ac hk,ac (fun h=>hk2 h.1)]
   have hb2:(kind == 2)=false:=by simpa using hk2
   clear hk hk2;go_in;go_wp2_with fail;go_loop [5] (fun i=>i=.int .i64 0) (fun i=>0)
   case atStart=>rfl
   case round =>
    subst hrel;go_wp2;go_ret;exact⟨(aS hf.o.symm),rfl⟩
def bp (ds:List fP):List Value:=ds.flatMap fun d=>[.int .i64 d.root,.int .i64 d.over,.int .i64 d.q.blocks,.int .i64 d.q.nodes,.int .i64 d.q.bH,.int .i64 d.q.bG]
theorem k8 (ds:List fP):(bp ds).length=ds.length*6:=by
 unfold bp
 induction ds with
 | nil=>rfl
 | cons d ds ih=>rw[yZ,aZ,ih];simp;omega
theorem kd (a b:List fP):bp (a++b)=bp a++bp b:=by unfold bp;rw[y_]
theorem EA (ds:List fP):∀k,(h:k<ds.length)->∀j,j<6->(bp ds)[k*6+j]?=[.int .i64 (ds[k]).root,.int .i64 (ds[k]).over,.int .i64 (ds[k]).q.blocks,.int .i64 (ds[k]).q.nodes,.int .i64 (ds[k]).q.bH,.int .i64 (ds[k]).q.bG][j]?:=by
 induction ds with
 | nil=>intro k h;cases h
 | cons d ds ih =>
  intro k h j hj;have e:bp (d::ds)=[.int .i64 d.root,.int .i64 d.over,.int .i64 d.q.blocks,.int .i64 d.q.nodes,.int .i64 d.q.bH,.int .i64 d.q.bG]++bp ds:=rfl;rw[e]
  cases k with
  | zero =>
   simp only[zl,eY,zm];rw[vY (by simpa using hj)]
  | succ k =>
   have:=ih k (by simpa using h) j hj;rw[vZ (by simp;omega)];simp only[bk,gj,zn];rw[show (k+1)*6+j-(0+1+1+1+1+1+1)=k*6+j by omega];exact this
theorem uF (ds:List fP):∀u∈bp ds,u.oneCell'=true:=by
 intro u hu;unfold bp at hu;rw[FX]at hu;obtain⟨d,_,hx⟩:=hu;simp at hx;rcases hx with rfl|rfl|rfl|rfl|rfl|rfl<;>rfl
def fg (w:World) (B:Nat) (t:TypeId) (v:Value) (ds:List fP):Prop:=w.ownsRow B t 6 v ds.length (bp ds)
theorem fg.at_ {g cap:Nat} {ds:List fP} (h:fg w B t (.slice (some g) ds.length cap) ds) (k:Nat) (hk:k<ds.length) :
  w.cell? (g,k*6)=some (.int .i64 ds[k].root)/\w.cell? (g,k*6+1)=some (.int .i64 ds[k].over)/\w.cell? (g,k*6+2)=some (.int .i64 ds[k].q.blocks)/\w.cell? (g,k*6+3)=some (.int .i64 ds[k].q.nodes)/\w.cell? (g,k*6+4)=some (.int .i64 ds[k].q.bH)/\w.cell? (g,k*6+5)=some (.int .i64 ds[k].q.bG):=by
 have hc:=fun j (hj:j<6)=>(DU h (k*6+j) (by omega)).trans (EA ds k hk j hj)
 exact⟨hc 0 (by omega),hc 1 (by omega),hc 2 (by omega),hc 3 (by omega),hc 4 (by omega),hc 5 (by omega)⟩
theorem av {n:Nat} (h:w.ownsRow B e size v n xs) (o:Only L w w') (hn:∀g,v.ownBlock=some g->g∉L):w'.ownsRow B e size v n xs:=by
 refine⟨h.1,?_⟩;rcases h.2 with h0|⟨g,cap,cur,rfl,hb,hg,h1,h2,h3,h4⟩
 ·exact .inl h0
 ·exact .inr ⟨g,cap,cur,rfl,hb,o.has hg (hn g rfl),h1,h2,h3,h4⟩
theorem fg.has {g cap:Nat} {ds:List fP} (h:fg w B t (.slice (some g) ds.length cap) ds):B<=g/\∃cur,Has w g (.cells cur t):=by
 rcases h.2 with⟨h0,_⟩|⟨g',cap',cur,h0,hb,hg,_⟩
 ·cases h0
 ·injection h0 with h0
  injection h0 with h0;injection h0 with h0;subst h0;exact⟨hb,cur,hg⟩
structure dL where
 bW:Nat
 bT:Nat
 bM:Nat
 bD:Nat
abbrev dL.list (g:dL):List Nat:=[g.bW,g.bT,g.bM,g.bD]
def eL (w:World) (B:Nat) (g:dL) (S:ag):Prop:=
 B<=g.bW/\q9 w B g.bT g.bM S.nodes S.last/\∃cd,Has w g.bW (.cells #[((),g.bT),.slice (some g.bD) S.ae.length cd] 106)/\fg w B 205 (.slice (some g.bD) S.ae.length cd) S.ae
theorem eL.apart {g:dL} {S:ag} (h:eL w B g S):dE w B g.list:=by
 obtain⟨h1,h2,cd,h3,h4⟩:=h;obtain⟨h5,cur,h6⟩:=h4.has;have ha:=h2.apart;intro b hb;simp only[dL.list,aR,bg,bh]at hb;rcases hb with rfl|rfl|rfl|rfl
 ·exact⟨h1,h3.fV (by decide)⟩
 ·exact ha _ (by simp)
 ·exact ha _ (by simp)
 ·exact⟨h5,h6.fV (by decide)⟩
theorem eL.lt {g:dL} {S:ag} (h:eL w B g S):g.bW<w.heap.size/\g.bT<w.heap.size/\g.bM<w.heap.size/\g.bD<w.heap.size:=by
 obtain⟨h1,⟨_,_,h2,es,cl,h3,_⟩,cd,h4,h5⟩:=h;obtain⟨_,cur,h6⟩:=h5.has;exact⟨h4.lt,h2.lt,h3.lt,h6.lt⟩
theorem eL.only {w w':World} {B:Nat} {g:dL} {S:ag} {L:List Nat} (h:eL w B g S) (o:Only L w w') (ha:dE w B L) (hn:∀b∈g.list,b∉L):eL w' B g S:=by
 obtain⟨h1,h2,cd,h3,h4⟩:=h;refine⟨h1,h2.only o ha (hn _ (by simp)) (hn _ (by simp)),cd,o.has h3 (hn _ (by simp)),av h4 o fun b hb=>?_⟩;injection hb with hb;subst hb;exact hn _ (by simp)
theorem eL.ext {g:dL} {S:ag} (h:eL w B g S) (o:Ext w w'):eL w' B g S:=h.only (Only.az (L:=[]) o) (fun b hb=>by cases hb) (by simp)
theorem iL {D:Array Value} {u:TypeId} (h:Has w b (.cells C t)) (k:Has w c (.cells D u)) (hne:t≠u):b≠c:=by
 rintro rfl;unfold Has at h k;rw[h]at k;injection k with k;injection k with _ k;exact hne k
theorem ow {es:Array MapEntry} (h:Has w b (.cells C t)) (k:Has w c (.map es cl)):b≠c:=by
 rintro rfl;unfold Has at h k;rw[h]at k
 cases k
theorem eL.ne {g:dL} {S:ag} (h:eL w B g S):g.bW≠g.bT/\g.bW≠g.bM/\g.bW≠g.bD/\g.bT≠g.bM/\g.bT≠g.bD/\g.bM≠g.bD:=by
 obtain⟨h1,⟨_,_,h2,es,cl,h3,_⟩,cd,h4,h5⟩:=h;obtain⟨_,cur,h6⟩:=h5.has;exact⟨iL h4 h2 (by decide),ow h4 h3,iL h4 h6 (by decide),ow h2 h3,iL h2 h6 (by decide),(ow h6 h3).symm⟩
theorem eL.table {g:dL} {S:ag} {ns:List ak} (h:eL w B g S) (o:Only [g.bT,g.bM] w w') (ht:q9 w' B g.bT g.bM ns last):eL w' B g ⟨ns,S.ae,last⟩:=by
 obtain⟨n1,n2,n3,n4,n5,n6⟩:=h.ne;obtain⟨h1,h2,cd,h3,h4⟩:=h;refine⟨h1,ht,cd,o.has h3 (by simp;exact⟨n1,n2⟩),av h4 o fun b hb=>?_⟩;injection hb with hb;subst hb;simp;exact⟨n5.symm,n6.symm⟩
theorem ir (B:Nat) (g:dL) (S:ag) (w:World) (h:eL w B g S) (hd:0<S.ae.length):Calls prog 149 #[((),g.bW)] w (aO w (.bool false)):=by
 obtain⟨h1,h2,cd,h3,h4⟩:=h;have hW:=h3.lt;have c1:=h3.cell 1;simp only[gA,gC,gB]at c1;have hz:((S.ae.length:Int) == 0)=false:=by simpa using (show ¬(S.ae.length:Int)=0 by omega)
 clear h4;go_in;go_wp2;go_ret;exact aO.mk rfl (Ext.refl _)
theorem mY (B:Nat) (g:dL) (S:ag) (w:World) (h:eL w B g S) (hd:0<S.ae.length):Calls prog 137 #[((),g.bW)] w (aO w (.int .i64 S.ae.length)):=by
 have h0:=h;obtain⟨h1,h2,cd,h3,h4⟩:=h;go_in;go_wp2_with fail;refine (ir B g S _ h0 hd).mono ?_;rintro e w1 ⟨rfl,b1⟩;have hW:=(h3.ext b1).lt;have c1:=(h3.ext b1).cell 1;simp only[gA,gC,gB]at c1;go_wp2;go_ret;exact aO.mk rfl b1
theorem fQ (B:Nat) (g:dL) (S:ag) (d:Int) (w:World) (h:eL w B g S) (hd:0<S.ae.length) (hl:S.ae.length<=1000):Calls prog 138 #[((),g.bW),d] w (aO w (.int .i64 (aI S.ae d))):=by
 have h0:=h;obtain⟨h1,h2,cd,h3,h4⟩:=h
 by_cases Y9:d<1
 ·have hf:Hid (aI S.ae d=0):=by show _=_;unfold aI ic;rw[ac (by simp;omega)]
  go_in;go_wp2_with fail;refine (ir B g S _ h0 hd).mono ?_;rintro e w1 ⟨rfl,b1⟩;go_wp2;go_ret;exact aO.mk (aS hf.o.symm) b1
 ·by_cases mZ:(S.ae.length:Int)<d
  ·have hf:Hid (aI S.ae d=0):=by show _=_;unfold aI ic;rw[ac (by simp;omega)]
   go_in;go_wp2_with fail;refine (ir B g S _ h0 hd).mono ?_;rintro e w1 ⟨rfl,b1⟩;have hW:=(h3.ext b1).lt;have c1:=(h3.ext b1).cell 1;simp only[gA,gC,gB]at c1;go_wp2;go_ret;exact aO.mk (aS hf.o.symm) b1
  ·obtain ⟨k,hk⟩:∃k:Nat,d=(k:Int)+1:=⟨(d-1).toNat,by omega⟩
   subst hk;have dN:k<S.ae.length:=by omega
   have hf:Hid (aI S.ae ((k:Int)+1)=S.ae[k].root):=by
    show _=_;unfold aI ic jq;rw[af (by simp;omega),show ((k:Int)+1-1).toNat=k by omega,rl,iq dN];rfl
   go_in;go_wp2_with fail;refine (ir B g S _ h0 hd).mono ?_;rintro e w1 ⟨rfl,b1⟩;have hW:=(h3.ext b1).lt;have c1:=(h3.ext b1).cell 1;simp only[gA,gC,gB]at c1;obtain⟨d0,d1,d2,d3,d4,d5⟩:=fg.at_ (show fg w1 B 205 _ S.ae from av h4 (Only.az (L:=[]) b1) (by simp)) k dN
   generalize S.ae[k]=x at hf d0 d1 d2 d3 d4 d5
   go_wp2;go_ret;exact aO.mk (aS hf.o.symm) b1
theorem Mz {ds:List fP} (hk:k<ds.length) (h0:0<no) (h:∀j,(hj:j<ds.length)->j<k->ds[j].over≠no) (he:ds[k].over=no):aw ds no=ds[k].root:=by
 unfold aw;have:ds.find? (fun d=>d.over == no)=some ds[k]:=by
  rw[DQ];exact⟨by simpa using he,k,hk,rfl,fun j hj=>by simpa using h j (by omega) hj⟩
 rw[af h0,this]
theorem MA {ds:List fP} (h:∀j,(hj:j<ds.length)->ds[j].over≠no):aw ds no=no:=by
 unfold aw;have:ds.find? (fun d=>d.over == no)=none:=by
  rw[sW];intro x hx;obtain⟨k,hk,rfl⟩:=mj hx;simpa using h k hk
 rw[this];split<;>rfl
theorem iZ (B:Nat) (g:dL) (S:ag) (no:Int) (w:World) (h:eL w B g S) (hd:0<S.ae.length) (hl:S.ae.length<=1000):Calls prog 101 #[((),g.bW),no] w (aO w (.int .i64 (aw S.ae no))):=by
 have h0:=h;obtain⟨h1,h2,cd,h3,h4⟩:=h;obtain⟨n,hn⟩:=ai S.ae.length
 by_cases bB:no<=0
 ·have hf:Hid (aw S.ae no=no):=by show _=_;unfold aw;rw[ac (by omega)]
  clear hn;go_in;go_wp2_with fail;refine (ir B g S _ h0 hd).mono ?_;rintro e w1 ⟨rfl,b1⟩;go_wp2;go_ret;exact aO.mk (aS hf.o.symm) b1
 ·have wE : 0<no:=by omega
  rw[<-hn]at h3 hl;have HN:=zH hn;clear hn;go_in;go_wp2_with fail;refine (ir B g S _ h0 hd).mono ?_;rintro e w1 ⟨rfl,b1⟩;have hW:=(h3.ext b1).lt;have c1:=(h3.ext b1).cell 1;simp only[gA,gC,gB]at c1;go_wp2_with fail;go_loopw [19] (fun i wr=>∃k:Nat,k<=n/\i=.int .i64 k/\Hid (∀j,(hj:j<S.ae.length)->j<k->S.ae[j].over≠no)/\Ext w wr) (fun i _=>n-(intOf i).toNat)
  case atStart=>exact⟨0,bC _,rfl,fun j _ h=>by omega,b1⟩
  case round =>
   obtain⟨k,hk,rfl,ha,hE⟩:=hrel
   by_cases hlt:(k:Int)<n
   ·have dN:k<S.ae.length:=by have:=HN.o;omega
    obtain⟨d0,d1,d2,d3,d4,d5⟩:=fg.at_ (show fg wr B 205 _ S.ae from av h4 (Only.az (L:=[]) hE) (by simp)) k dN;have hbD:g.bD<wr.heap.size:=(h0.ext hE).lt.2.2.2
    generalize hx:S.ae[k]=x at d0 d1 d2 d3 d4 d5
    by_cases he:x.over=no
    ·have hf:Hid (aw S.ae no=x.root):=by show _=_;rw[<-hx];exact Mz dN wE ha.o (by rw[hx];exact he)
     have hb:(x.over == no)=true:=by simpa using he
     clear hx he;go_wp2;go_ret;exact aO.mk (aS hf.o.symm) (hE.alloc _)
    ·have Gd:Hid (∀j,(hj:j<S.ae.length)->j<k+1->S.ae[j].over≠no):=by
      show ∀j,(hj:j<S.ae.length)->j<k+1->S.ae[j].over≠no;intro j hj xL
      by_cases e:j=k
      ·subst e;rw[hx];exact he
      ·exact ha.o j hj (by omega)
     have hb:(x.over == no)=false:=by simpa using he
     clear hx he;go_wp2_with fail;go_roundw
     case rel=>exact⟨k+1,by omega,by go_num,Gd,hE.alloc _⟩
     case measure=>simp[intOf];omega
   ·have hf:Hid (aw S.ae no=no):=by show _=_;exact MA fun j hj=>ha.o j hj (by have:=HN.o;omega)
    go_wp2;go_ret;exact aO.mk (aS hf.o.symm) hE
theorem WT:(prog.info? 205).map (fun i=>(i.zero,i.size,i.bytes))=some (some (.agg #[(),(),(),(),(),()]),6,48):=by kernel_rfl
theorem NT {b:Int} (h:dg b n=true):qi ⟨0,0,b,n⟩/\eZ ⟨0,0,b,n⟩ 1 1=0/\bf ⟨0,0,b,n⟩ 1 1=⟨1,1,b,n⟩:=by
 rcases iK b n with⟨h1,h2,h3,h4,_⟩|⟨h0,_⟩
 ·have hf:qi ⟨0,0,b,n⟩:=⟨by simp,by simp,by simp;omega,by simp;omega,by simpa using h2,by simpa using h4⟩
  rcases tI (b:=1) (n:=1) hf ⟨by omega,by omega,by omega,by omega⟩ with⟨g1,_⟩|⟨_,g1,_⟩|⟨_,_,g1,_⟩|⟨_,_,_,_,g1,g2⟩
  ·simp at g1;omega
  ·simp at g1;omega
  ·simp at g1
  ·exact⟨hf,g1,by rw[g2];rfl⟩
 ·rw[h0]at h;cases h
theorem k_ {n:Nat} (h:w.ownsRow B e size v n xs) (k:Has w b (.cells C t)) (hne:t≠e):v.ownBlock≠some b:=by
 rcases h.2 with⟨rfl,_⟩|⟨g,cap,cur,rfl,_,hg,_⟩
 ·simp[Value.ownBlock]
 ·intro e1
  have:g=b:=by simpa [Value.ownBlock]using e1
  subst this;unfold Has at k;rw[hg]at k;injection k with k;injection k with _ k;exact hne k.symm
theorem MB {n:Nat} {es:Array MapEntry} (h:w.ownsRow B e size v n xs) (k:Has w b (.map es cl)):v.ownBlock≠some b:=by
 rcases h.2 with⟨rfl,_⟩|⟨g,cap,cur,rfl,_,hg,_⟩
 ·simp[Value.ownBlock]
 ·intro e1
  have:g=b:=by simpa [Value.ownBlock]using e1
  subst this;unfold Has at k;rw[hg]at k
  cases k
theorem dE.row {n:Nat} (h:w.ownsRow B e size v n xs) (hne:e≠153):dE w B v.ownBlock.toList:=by
 intro b hb;rcases h.2 with⟨rfl,_⟩|⟨g,cap,cur,rfl,h1,hg,_⟩
 ·simp[Value.ownBlock]at hb
 ·have:b=g:=by simpa [Value.ownBlock]using hb
  subst this;exact⟨h1,Has.fV (show Has w b _ from hg) hne⟩
theorem dE.cons (h:dE w B L) (h1:B<=b) (h2:¬e7 w b 153):dE w B (b::L):=by
 intro x hx;rcases aR.1 hx with rfl|hx
 ·exact⟨h1,h2⟩
 ·exact h x hx
theorem Only.grown {row:Option Nat} (h:w.grownBy w' row):Only row.toList w w':=⟨h.os,h.tape,h.output,h.size,fun k hk hn=>h.block k hk (fun e=>hn (by rw[<-e];simp))⟩
theorem CD {ns:List ak} (hu:aQ ns last) (n:ak) (hn:n.no=last+1):aa (ns++[n]) (last+1)=n/\aW (ns++[n]) (last+1)=true:=by
 have h0:=hu.zero (no:=last+1) (.inr (by omega));have h1:gF ns (last+1)=none:=by
  unfold aW at h0
  rwa [RL,RM]at h0
 have h2:gF (ns++[n]) (last+1)=some n:=by
  unfold gF at h1|-;rw[v_,h1];simp[hn]
 exact⟨by unfold aa;rw[h2];rfl,by unfold aW;rw[h2];rfl⟩
theorem CE {ns:List ak} (hu:aQ ns last) (n m:ak) (hn:n.no=last+1) (hm:m.no=last+1):cP (ns++[n]) m=ns++[m]:=by
 have h:cP ns m=ns:=zQ fun x hx=>by have:=(hu.2 x hx).2;omega
 unfold cP at h|-;rw[lG,h];simp[hn,hm]
theorem BV (ds:List fP) (d:fP) (r:Int):(bp ds++bp [d]).set (ds.length*6) (.int .i64 r)=bp (ds++[{d with root:=r}]):=by
 rw[kd,we _ _ (by rw[k8];exact aE _),k8,zk];rfl
def adY (w:World) (B bW bT bM:Nat) (v:Value) (S:ag) (e:Ending) (w':World):Prop:=
 e = .returned (.int .i64 0)/\∃bD,eL w' B ⟨bW,bT,bM,bD⟩ S/\Only (bW::bT::bM::v.ownBlock.toList) w w'/\(v.ownBlock=some bD\/w.heap.size<=bD)
theorem CG (B bW bT bM:Nat) (v:Value) (S:ag) (over b n:Int) (w:World) (hl:dg b n=true) (hb:B<=bW) (hT:q9 w B bT bM S.nodes S.last) (hW:Has w bW (.cells #[((),bT),v] 106)) (hD:fg w B 205 v S.ae)
  (hv:∃A c,v=.slice A S.ae.length c) (hlen:S.ae.length<=1000) (hu:aQ S.nodes S.last) (l8:0<=S.last) (jZ:S.last<=1000000) :
  Calls prog 154 #[((),bW),over,b,n] w (adY w B bW bT bM v (cZ S over b n)):=by
 obtain ⟨t1,t2,t3⟩:=NT hl;obtain⟨A,c,rfl⟩:=hv;go_in;go_wp2_with fail;refine (Sh b n hl _).mono ?_;rintro e w1 ⟨rfl,b1⟩;go_wp2_with fail;refine (wD ⟨0,0,b,n⟩ 1 1 t1 ⟨by decide,by decide,by decide,by decide⟩ _).mono ?_;rw[t2,t3];rintro e w2 ⟨rfl,b2⟩;obtain⟨hc,hf⟩:=b2.cells;have hz:=b2.size;simp only[bi]at hz;go_wp2_with fail;obtain⟨W3,cJ⟩:=ai ((((w2.setCell (w1.heap.size,0) (.int .i64 1)).setCell (w1.heap.size,1) (.int .i64 1)).setCell (w1.heap.size,2) (.int .i64 b)).setCell (w1.heap.size,3) (.int .i64 n));rw[<-cJ];have E3:Ext w W3:=by
  rw[cJ];have z1:=b1.size
  repeat (refine Ext.setCell ?_ (by simp at z1|-;omega) _)
  exact (b1.alloc _).trans b2
 have H3:Has W3 w1.heap.size (.cells #[.int .i64 1,.int .i64 1,b,n] 189):=by
  rw[cJ];have:=((((((Has.new w1 (.cells #[(),(),b,n] 189)).ext b2).setCell 0 (.int .i64 1)).setCell 1 (.int .i64 1)).setCell 2 (.int .i64 b)).setCell 3 (.int .i64 n));exact this
 clear cJ hc hf;have q0:=aA H3 0 rfl;have q1:=aA H3 1 rfl;have q2:=aA H3 2 rfl;have q3:=aA H3 3 rfl;have v1:W3.cell? (bW,1)=some (.slice A S.ae.length c):=(hW.ext E3).cell 1;have f1:W3.frozen? (bW,1)=false:=(hW.ext E3).free 1;have z3:=(hW.ext E3).lt;obtain⟨i0,hi,hz0,hz1,hz2⟩:=jj WT;have hD3:W3.ownsRow B 205 6 (.slice A S.ae.length c) S.ae.length (bp S.ae):=av hD (Only.az (L:=[]) E3) (by simp);have Si:(Value.slice A S.ae.length c).ownBlock≠some bW:=k_ hD3 (hW.ext E3) (by decide);have hBW:B<=W3.heap.size:=by omega
 go_region_law (first|(refine step_append_lies _ (by rfl) _ _ _ (by rfl) B 205 i0 _ 6 48 underlying104 hi hz0 hz1 hz2 rfl (by omega) _ S.ae.length (bp S.ae) (by rfl) ((hD3.alloc _).drew) ⟨W3.heap.size,0,none⟩ 1 1 (bp [⟨0,over,⟨1,1,b,n⟩⟩]) (by rfl) (by rfl) (DV (cs:=#[(),over,.int .i64 1,.int .i64 1,b,n]) (t:=205) (fr:=(0,0)) (FW W3 _)) (uF _) (by omega) (by unfold maxLen;omega) (by omega) (by simp;omega) (W3.heap.size+1) (by simp) ?_;intro gg cap w4 zT hgrow hat hlt;have v4:w4.cell? (bW,1)=some (.slice A S.ae.length c):=((hgrow.cell_far ⟨bW,1,none⟩ (by simp;omega) (dA Si)).trans (((hW.ext E3).alloc _).cell 1));have f4:w4.frozen? (bW,1)=false:=((hgrow.frozen_far ⟨bW,1,none⟩ (by simp;omega) (dA Si)).trans (((hW.ext E3).alloc _).free 1))))
 all_goals
  have O4:Only (Value.slice A S.ae.length c).ownBlock.toList w w4:=(Only.az (E3.trans ((Ext.refl _).alloc _ |>.drew))).then (Only.grown hgrow);have H4:Has w4 bW (.cells #[((),bT),.slice A S.ae.length c] 106):=O4.has hW (by simpa using fun e=>Si e);obtain⟨W5,kT⟩:=ai (w4.setCell (bW,1) (.slice (some gg) (S.ae.length+1) cap));rw[<-kT];have H5:Has W5 bW (.cells #[((),bT),.slice (some gg) (S.ae.length+1) cap] 106):=by rw[kT];exact H4.setCell 1 _
  have hgb:gg≠bW:=fun e=>k_ zT H4 (by decide) (by rw[e];rfl)
  have D5:W5.ownsRow B 205 6 (.slice (some gg) (S.ae.length+1) cap) (S.ae.length+1) (bp S.ae++bp [⟨0,over,⟨1,1,b,n⟩⟩]):=by rw[kT];exact av zT (Only.setCell w4 bW 1 _) (fun x hx=>by simp[Value.ownBlock]at hx;subst hx;simpa using hgb)
  obtain⟨L,hL⟩:=ai (bW::(Value.slice A S.ae.length c).ownBlock.toList);have O5:Only L w W5:=by rw[kT,hL];exact (O4.mono (fun x hx=>cf _ hx)).then ((Only.setCell w4 bW 1 _).mono (by simp))
  have aL:dE w B L:=by rw[hL];exact (dE.row hD (by decide)).cons hb (hW.fV (by decide))
  obtain⟨tb1,tb2,tb3,es0,cl0,tb4,-⟩:=id hT;have nT:bT∉L:=by rw[hL];simp;exact⟨fun e=>iL hW tb3 (by decide) e.symm,fun e=>k_ hD tb3 (by decide) e⟩
  have nM:bM∉L:=by rw[hL];simp;exact⟨fun e=>ow hW tb4 e.symm,fun e=>MB hD tb4 e⟩
  have T5:q9 W5 B bT bM S.nodes S.last:=hT.only O5 aL nT nM;clear kT v4 f4 hgrow zT;have v0:=aA H5 0 rfl;have v5:=aA H5 1 rfl;have z5:=H5.lt;go_wp2_with fail;refine (Gi B bT bM S.nodes S.last ⟨0,(S.ae.length:Int)+1,1,493,0,0,0,0,1,0,[],[]⟩ none 0 W5 T5 hu l8 jZ ⟨.nil _ _ _,aE _,bC _,fun _=>rfl⟩).mono ?_;rintro e w6 ⟨rfl,T6,O6⟩;obtain⟨n1,yG⟩:∃n1:ak,n1=⟨S.last+1,(S.ae.length:Int)+1,1,493,0,0,0,0,1,0,[],[]⟩:=⟨_,rfl⟩;have nW:bW∉[bT,bM]:=by simp;exact⟨iL hW tb3 (by decide),ow hW tb4⟩
  have nG:∀x,(Value.slice (some gg) (S.ae.length+1) cap).ownBlock=some x->x∉[bT,bM]:=fun x hx=>by
   obtain⟨_,_,k3,_,_,k4,_⟩:=T5;simp;exact⟨fun e=>k_ D5 k3 (by decide) (by rw[hx,e]),fun e=>MB D5 k4 (by rw[hx,e])⟩
  have H6:=O6.has H5 nW;have D6:=av D5 O6 nG;have T6':q9 w6 B bT bM (S.nodes++[n1]) (S.last+1):=by rw[yG];exact T6
  have u6:aQ (S.nodes++[n1]) (S.last+1):=hu.add n1 (by rw[yG]) l8;obtain⟨g1,g2⟩:=CD hu n1 (by rw[yG]);clear T6 v0 v5 z5;have v0:=aA H6 0 rfl;have z6:=H6.lt;have G1:=zH g1;have G2:=zH g2;have N1:=zH yG;clear g1 g2 yG;go_wp2_with fail;refine (fW B bT bM _ _ (S.last+1) w6 T6').mono ?_;rintro e w7 ⟨A7,c7,rfl,wF,E7⟩;rw[G1.o]at wF|-;rw[G2.o];have v7:w7.cell? (bW,0)=some (.pointer (some ⟨bT,0,none⟩)):=(H6.ext E7).cell 0;have z7:=(H6.ext E7).lt;clear v0;go_wp2_with fail;obtain⟨n2,ug⟩:∃n2:ak,n2={n1 with up:=S.last+1}:=⟨_,rfl⟩;obtain⟨W8,uG⟩:=ai (w7.alloc (.cells (n2,A7,c7) 66));have hW9:=uG;rw[ug]at hW9;rw[<-hW9];have E8:Ext w7 W8:=by rw[uG];exact (Ext.refl _).alloc _
  have B8:Has W8 w7.heap.size (.cells (n2,A7,c7) 66):=by rw[uG];exact Has.new _ _
  have ok8:aD W8 B n2 A7 c7:=(wF.ext E8).same (by rw[ug]);have T8:=T6'.ext (E7.trans E8);have H8:=(H6.ext E7).ext E8;obtain⟨x0,x1,x2,x3,x4,x5,x6,x7,x8,x9,kC,kn⟩:=B8.da;have xz:=B8.lt;have v8:=aA H8 0 rfl;have z8:=H8.lt;have qN:cP (S.nodes++[n1]) n2=S.nodes++[n2]:=CE hu n1 n2 (by rw[N1.o]) (by rw[ug,N1.o]);have Ra:n2=ct S:=by rw[ug,N1.o];rfl
  have HS:=zH qN;have HR:=zH Ra;clear uG hW9 ug v7 qN Ra q0 q1 q2 q3 v1 f1;go_still_tail 5,(by kernel_rfl);change wpList _ _ _ _ _ W8.drew;go_wp2_with fail;refine (Gh B bT bM (S.nodes++[n1]) (S.last+1) n2 A7 c7 W8.drew (T8.ext ((Ext.refl _).drew)) u6 (ok8.ext ((Ext.refl _).drew))).mono ?_;rintro e w9 ⟨rfl,T9,O9⟩;have H9:=O9.has (H8.ext ((Ext.refl _).drew)) nW;have D9:=av (av D6 (Only.az (L:=[]) ((E7.trans E8).drew)) (by simp)) O9 nG;have v9:=aA H9 1 rfl;have z9:=H9.lt;have dc:=D9.cellAt (S.ae.length*6) (by omega);rw[vZ (by rw[k8];exact aE _),k8,zk]at dc;have dc2:w9.cell? (gg,S.ae.length*6)=some (.int .i64 0):=dc;have df:=D9.frozenAt (S.ae.length*6);have y1:(0:Int)<=(S.ae.length:Int):=cO _;have y2:((S.ae.length:Int)+1-1)=S.ae.length:=by omega
  clear dc x0 x1 x2 x3 x4 x5 x6 x7 x8 x9 kC kn v8;go_wp2;go_ret;have oS:=Only.setCell w9 gg (S.ae.length*6) (.int .i64 (S.last+1));have aG:dE w9 B [gg]:=(dE.row D9 (by decide)).sub (by simp[Value.ownBlock]);have hO:Only (bW::bT::bM::(Value.slice A S.ae.length c).ownBlock.toList) w w9:=by
   rw[hL]at O5;exact (((O5.mono (by intro x hx;simp at hx|-;rcases hx with h|h;exact .inl h;exact .inr (.inr (.inr h)))).then (O6.mono (by intro x hx;simp at hx|-;rcases hx with h|h;exact .inr (.inl h);exact .inr (.inr (.inl h))))).ext ((E7.trans E8).drew)).then (O9.mono (by intro x hx;simp at hx|-;rcases hx with h|h;exact .inr (.inl h);exact .inr (.inr (.inl h))))
  have Sj:(Value.slice A S.ae.length c).ownBlock=some gg\/w.heap.size<=gg:=by
   rcases hat with h|h
   ·exact .inl h
   ·exact .inr (by have:=E3.size;omega)
  refine⟨rfl,gg,⟨hb,?_,cap,?_,?_⟩,?_,Sj⟩
  ·rw [HS.o,HR.o]at T9
   exact T9.only oS aG (by have:=nG gg rfl;simp at this|-;exact fun e=>this.1 e.symm) (by have:=nG gg rfl;simp at this|-;exact fun e=>this.2 e.symm)
  ·have:=oS.has H9 (by simpa using hgb.symm)
   simpa [cZ]using this
  ·have:=(D9.stored (S.ae.length*6) (.int .i64 (S.last+1))).1
   rw[BV]at this;unfold fg cZ;simpa using this
  ·exact hO.trans oS fun x hx=>by
    rw[ax]at hx;subst hx;rcases Sj with h|h
    ·exact .inl (by simp[h])
    ·exact .inr h
theorem WU (bW:Nat) (over b n:Int) (w:World) (hl:dg b n=false):Calls prog 154 #[((),bW),over,b,n] w (aO w (.int .i64 3)):=by
 go_in;go_wp2_with fail;refine (WS b n hl _).mono ?_;rintro e w1 ⟨rfl,b1⟩;go_wp2;go_ret;exact aO.mk rfl (b1.alloc _)
def dF:ag:=⟨[],[],0⟩
def adZ (w:World) (B:Nat) (b n:Int) (e:Ending) (w':World):Prop:=
 ∃ g,e=.returned (.tuple #[((),g.bW),()])/\eL w' B g (cZ dF 0 b n)/\Ext w w'
theorem Sk (B:Nat) (b n:Int) (w:World) (hB:B<=w.heap.size) (hl:dg b n=true):Calls prog 109 #[b,n] w (adZ w B b n):=by
 go_in;go_wp2_with fail;refine (Sc B _ hB).mono ?_;rintro e w1 ⟨bT,bM,rfl,T1,b1,k1,k2⟩;have hz:=b1.size;have lT:=T1.2.2.1.lt;go_wp2_with fail;refine (CG B w1.heap.size bT bM (.slice none 0 0) dF 0 b n _ hl (by omega) (T1.ext ((Ext.refl _).alloc _)) (Has.new w1 _) (oG _ _ _ _) ⟨none,0,rfl⟩ (by decide) (aQ.nil 0) (by decide) (by decide)).mono ?_;rintro e w2 ⟨rfl,bD,W2,O2,h2⟩;go_wp2;go_ret2;refine⟨⟨_,bT,bM,bD⟩,rfl,W2,O2.after (b1.alloc _) ?_⟩;intro x hx;simp[Value.ownBlock]at hx;rcases hx with rfl|rfl|rfl<;>omega
def Sl (w:World) (B:Nat) (g:dL) (S:ag) (at_ b n:Int) (e:Ending) (w':World):Prop:=
 e = .returned (.tuple #[.int .i64 (wC S at_ b n),.int .i64 (ef S at_ b n)])/\∃bD,eL w' B ⟨g.bW,g.bT,g.bM,bD⟩ (dB S at_ b n)/\Only g.list w w'/\(bD=g.bD\/w.heap.size<=bD)
theorem kE {g:dL} {S:ag} {at_ b x:Int} (h:eL w B g S) (hE:Ext w w') (hx:ef S at_ b n=x) (h0:x≠0):Sl w B g S at_ b n (.returned (.tuple #[(),x])) w':=by
 refine⟨?_,g.bD,?_,Only.az hE,.inl rfl⟩
 ·unfold wC;rw[hx,ac h0]
 ·unfold dB;rw[hx,ac h0];exact h.ext hE
theorem Gj (S:ag) (over b n:Int):aI (cZ S over b n).ae ((S.ae.length:Int)+1)=S.last+1:=by
 unfold aI ic jq cZ;simp;intro h;omega
theorem JT (B:Nat) (g:dL) (S:ag) (at_ b n:Int) (w:World) (h:eL w B g S) (hd:0<S.ae.length) (mZ:S.ae.length<=8) (hu:aQ S.nodes S.last) (l8:0<=S.last) (jZ:S.last<=1000000) :
  Calls prog 112 #[((),g.bW),at_,b,n] w (Sl w B g S at_ b n):=by
 have h0:=h;obtain⟨h1,h2,cd,h3,h4⟩:=h;have lm:∀w1,Ext w w1->w1.cell? (g.bW,0)=some (.pointer (some ⟨g.bT,0,none⟩))/\w1.cell? (g.bW,1)=some (.slice (some g.bD) S.ae.length cd)/\g.bW<w1.heap.size:=fun w1 b1=>⟨(h3.ext b1).cell 0,(h3.ext b1).cell 1,(h3.ext b1).lt⟩
 have HI:=zH lm;clear lm;go_in;go_wp2_with fail;refine (ir B g S _ h0 hd).mono ?_;rintro e w1 ⟨rfl,b1⟩;obtain⟨c0,c1,cz⟩:=HI.o w1 b1;go_wp2_with fail;refine (fW B g.bT g.bM S.nodes S.last at_ _ (h2.ext b1)).mono ?_;rintro e w2 ⟨A2,k2,rfl,gG,b2⟩
 cases hi:aW S.nodes at_
 ·have hE:ef S at_ b n=5:=by unfold ef;rw[af hi]
  have HE:=zH hE;clear hi hE c0 c1;go_wp2;go_ret2;exact kE h0 ((b1.trans b2).alloc _) HE.o (by decide)
 ·obtain ⟨m, hm⟩:∃m,m=aa S.nodes at_:=⟨_,rfl⟩
  rw[<-hm]at gG|-
  by_cases hk:m.kind=1
  ·have mq : (m.kind == 1)=true:=by simpa using hk
   have hk2:(m.kind != 1)=false:=by simpa using hk
   have e0:ef S at_ b n=if aw S.ae at_≠at_\/aI S.ae m.dev=at_ then 16 else if 8<=S.ae.length\/dg b n=false then 3 else 0:=by
    unfold ef;rw[ac (by rw[hi];decide),<-hm,ac (by rw[hk];decide)]
   by_cases ho:aw S.ae at_=at_
   ·have NS : (aw S.ae at_ == at_)=true:=by simpa using ho
    have pj:(aw S.ae at_ != at_)=false:=by simpa using ho
    by_cases hr:aI S.ae m.dev=at_
    ·have hE:ef S at_ b n=16:=by rw[e0,af (.inr hr)]
     have HE:=zH hE;have hr1:(aI S.ae m.dev == at_)=true:=by simpa using hr
     clear hi hE hm hk ho hr e0;have W3:=h0.ext ((b1.trans b2).alloc (.cells (m,A2,k2) 66));go_wp2_with fail;refine (iZ B g S at_ _ W3 hd (by omega)).mono ?_;rintro e w3 ⟨rfl,b3⟩;obtain⟨hc,hf⟩:=b3.cells;have hz:w2.heap.size<w3.heap.size:=by have:=b3.size;simp at this;omega
     go_wp2_with fail;refine (fQ B g S m.dev _ (W3.ext b3) hd (by omega)).mono ?_;rintro e w4 ⟨rfl,b4⟩;go_wp2;go_ret2;exact kE h0 ((((b1.trans b2).alloc _).trans b3).trans b4) HE.o (by decide)
    ·have hr1:(aI S.ae m.dev == at_)=false:=by simpa using hr
     rw[ac (fun h=>by rcases h with h|h;exact h ho;exact hr h)]at e0
     by_cases h8:8<=S.ae.length
     ·have hE:ef S at_ b n=3:=by rw[e0,af (.inl h8)]
      have HE:=zH hE;have h81:(8:Int)<=(S.ae.length:Int):=by omega
      clear hi hE hm hk ho hr e0;have W3:=h0.ext ((b1.trans b2).alloc (.cells (m,A2,k2) 66));go_wp2_with fail;refine (iZ B g S at_ _ W3 hd (by omega)).mono ?_;rintro e w3 ⟨rfl,b3⟩;obtain⟨hc,hf⟩:=b3.cells;have hz:w2.heap.size<w3.heap.size:=by have:=b3.size;simp at this;omega
      go_wp2_with fail;refine (fQ B g S m.dev _ (W3.ext b3) hd (by omega)).mono ?_;rintro e w4 ⟨rfl,b4⟩;have E4:=(((b1.trans b2).alloc (.cells (m,A2,k2) 66)).trans b3).trans b4;obtain⟨-,c4,z4⟩:=HI.o w4 E4;clear hc hf;go_wp2;go_ret2;exact kE h0 E4 HE.o (by decide)
     ·have h81:(S.ae.length:Int)<8:=by omega
      cases sM:dg b n
      ·have hE:ef S at_ b n=3:=by rw[e0,af (.inr sM)]
       have HE:=zH hE;clear hi hE hm hk ho hr e0 h8;have W3:=h0.ext ((b1.trans b2).alloc (.cells (m,A2,k2) 66));have HL:=zH sM;clear sM;go_wp2_with fail;refine (iZ B g S at_ _ W3 hd (by omega)).mono ?_;rintro e w3 ⟨rfl,b3⟩;obtain⟨hc,hf⟩:=b3.cells;have hz:w2.heap.size<w3.heap.size:=by have:=b3.size;simp at this;omega
       go_wp2_with fail;refine (fQ B g S m.dev _ (W3.ext b3) hd (by omega)).mono ?_;rintro e w4 ⟨rfl,b4⟩;have E4:=(((b1.trans b2).alloc (.cells (m,A2,k2) 66)).trans b3).trans b4;obtain⟨-,c4,z4⟩:=HI.o w4 E4;clear hc hf;go_wp2_with fail;refine (WU g.bW at_ b n _ HL.o).mono ?_;rintro e w5 ⟨rfl,b5⟩;go_wp2;go_ret2;exact kE h0 (E4.trans b5) HE.o (by decide)
      ·have hE:ef S at_ b n=0:=by rw[e0,ac (fun h=>by rcases h with h|h;exact h8 h;rw[sM]at h;cases h)]
       have HE:=zH hE;clear hi hE hm hk ho hr e0 h8;have W3:=h0.ext ((b1.trans b2).alloc (.cells (m,A2,k2) 66));have HL:=zH sM;clear sM;go_wp2_with fail;refine (iZ B g S at_ _ W3 hd (by omega)).mono ?_;rintro e w3 ⟨rfl,b3⟩;obtain⟨hc,hf⟩:=b3.cells;have hz:w2.heap.size<w3.heap.size:=by have:=b3.size;simp at this;omega
       go_wp2_with fail;refine (fQ B g S m.dev _ (W3.ext b3) hd (by omega)).mono ?_;rintro e w4 ⟨rfl,b4⟩;have E4:=(((b1.trans b2).alloc (.cells (m,A2,k2) 66)).trans b3).trans b4;obtain⟨-,c4,z4⟩:=HI.o w4 E4;clear hc hf;go_wp2_with fail;refine (CG B g.bW g.bT g.bM (.slice (some g.bD) S.ae.length cd) S at_ b n _ HL.o h1 (h2.ext E4) (h3.ext E4) (av h4 (Only.az (L:=[]) E4) (by simp)) ⟨_,_,rfl⟩ (by omega) hu l8 jZ).mono ?_;rintro e w5 ⟨rfl,bD,W5,O5,h5⟩;have hr5:=Gj S at_ b n;have l5:(cZ S at_ b n).ae.length=S.ae.length+1:=by simp[cZ]
       obtain⟨k1,k2,cd5,k3,k4⟩:=id W5;rw[l5]at k3;have c5:=aA k3 1 rfl;have z5:=k3.lt;have HR:=zH hr5;have HL5:=zH l5;clear hr5 l5 k4 c4;go_wp2_with fail;refine (fQ B ⟨g.bW,g.bT,g.bM,bD⟩ (cZ S at_ b n) ((S.ae.length:Int)+1) _ W5 (by rw[HL5.o];omega) (by rw[HL5.o];omega)).mono ?_;rw[HR.o];rintro e w6 ⟨rfl,b6⟩;go_wp2;go_ret2;refine⟨?_,bD,?_,?_,?_⟩
       ·unfold wC;rw[HE.o];rfl
       ·unfold dB;rw[HE.o];exact W5.ext b6
       ·exact (Only.pre E4 (O5.mono (by intro x hx;simp[Value.ownBlock]at hx|-;exact hx))).ext b6
       ·rcases h5 with h5|h5
        ·exact .inl (by simpa [Value.ownBlock]using h5.symm)
        ·exact .inr (by have:=E4.size;omega)
   ·have hE:ef S at_ b n=16:=by rw[e0,af (.inl ho)]
    have HE:=zH hE;have NS:(aw S.ae at_ == at_)=false:=by simpa using ho
    have pj:(aw S.ae at_ != at_)=true:=by simpa using ho
    clear hi hE hm hk ho e0;have W3:=h0.ext ((b1.trans b2).alloc (.cells (m,A2,k2) 66));go_wp2_with fail;refine (iZ B g S at_ _ W3 hd (by omega)).mono ?_;rintro e w3 ⟨rfl,b3⟩;go_wp2;go_ret2;exact kE h0 (((b1.trans b2).alloc _).trans b3) HE.o (by decide)
  ·have hE:ef S at_ b n=9:=by unfold ef;rw[ac (by rw[hi];decide),af (by rw[<-hm];exact hk)]
   have HE:=zH hE;have hkb:(m.kind == 1)=false:=by simpa using hk
   have ad0:(m.kind != 1)=true:=by simpa using hk
   clear hi hE c0 c1 hm hk;go_wp2;go_ret2;exact kE h0 ((b1.trans b2).alloc _) HE.o (by decide)
def Y_ (w:World) (B:Nat) (g:dL) (S:ag) (n:ak) (e:Ending) (w':World):Prop:=
 e = .returned (.tuple #[.int .i64 (qI S n),.int .i64 (gp S n)])/\eL w' B g (cC S n)/\Only g.list w w'
theorem zU {g:dL} {S:ag} {n:ak} {x:Int} (h:eL w B g S) (hE:Ext w w') (hx:gp S n=x) (h0:x≠0):Y_ w B g S n (.returned (.tuple #[(),x])) w':=by
 refine⟨?_,?_,Only.az hE⟩
 ·unfold qI;rw[hx,ac h0]
 ·unfold cC;rw[hx,ac h0];exact h.ext hE
theorem sm {k s:Int} (h0:0<=s) (h1:s<=1000000000):0<=cx k s/\cx k s<=2000000:=by
 unfold cx;split
 ·omega
 ·split<;>omega
theorem cT {ds:List fP} (hr:eV ds) (d:Int):(aI ds d=0/\ic ds d=false)\/(∃k:Nat,∃hk:k<ds.length,d=k+1/\ic ds d=true/\jq ds d=ds[k]/\aI ds d=ds[k].root/\0<ds[k].root/\qi ds[k].q):=by
 cases hd:ic ds d
 ·left;exact⟨by unfold aI;rw[hd];rfl,rfl⟩
 ·right
  have h2:1<=d/\d<=ds.length:=by unfold ic at hd;simpa using hd
  have hk:(d-1).toNat<ds.length:=by omega
  have e:jq ds d=ds[(d-1).toNat]:=by unfold jq;rw[rl,iq hk];rfl
  have:=hr _ (jh hk);exact⟨(d-1).toNat,hk,by omega,rfl,e,by unfold aI;rw[hd,e];rfl,this.1,this.2⟩
theorem zW (ds:List fP) (k:Nat) (hk:k<ds.length):bp ds=bp (ds.take k)++([.int .i64 (ds[k]).root,.int .i64 (ds[k]).over,.int .i64 (ds[k]).q.blocks,.int .i64 (ds[k]).q.nodes,.int .i64 (ds[k]).q.bH,.int .i64 (ds[k]).q.bG]++bp (ds.drop (k+1))):=by
 conv=>lhs;rw[<-qE k ds,jg hk,kd]
 rfl
theorem lU (ds:List fP) (k:Nat) (hk:k<ds.length) (q:dW) :
  ((((bp ds).set (k*6+2) (.int .i64 q.blocks)).set (k*6+3) (.int .i64 q.nodes)).set (k*6+4) (.int .i64 q.bH)).set (k*6+5) (.int .i64 q.bG)=bp (jb ds ((k:Int)+1) q):=by
 have hl:(bp (ds.take k)).length=k*6:=by rw[k8,iG];omega
 have e:jb ds ((k:Int)+1) q=ds.take k++({ds[k]with q:=q}::ds.drop (k+1)):=by
  unfold jb;rw[show ((k:Int)+1-1).toNat=k by omega];rw[List.modify_eq_take_cons_drop hk]
 rw[e,kd,zW ds k hk];rw[we _ _ (by omega),we _ _ (by omega),we _ _ (by omega),we _ _ (by omega),hl];rw[show k*6+2-k*6=2 by omega,show k*6+3-k*6=3 by omega,show k*6+4-k*6=4 by omega,show k*6+5-k*6=5 by omega];rfl
theorem gQ (ds:List fP) (d:Int) (q:dW):(jb ds d q).length=ds.length:=by simp[jb]
theorem nC (w:World) (o:Obj):Ext w.drew (w.alloc o).drew:=(Ext.refl w.drew).alloc o
theorem wG {V:World} {b1 b2 b3 o1 o2 o3 o4:Nat} {C1 C2:Array Value} {v1 v2 v3 v4:Value} (hb:Ext V w') (h:b1<V.heap.size/\b2<V.heap.size/\b3<V.heap.size)
  (k:(∀i,V.cell? ⟨b1,i,none⟩=C1[i]?)/\(∀i,V.cell? ⟨b2,i,none⟩=C2[i]?)/\V.cell? (b3,o1)=some v1/\V.cell? (b3,o2)=some v2/\V.cell? (b3,o3)=some v3/\V.cell? (b3,o4)=some v4) :
  Ext V w'/\(∀i,w'.cell? ⟨b1,i,none⟩=C1[i]?)/\(∀i,w'.cell? ⟨b2,i,none⟩=C2[i]?)/\w'.cell? (b3,o1)=some v1/\w'.cell? (b3,o2)=some v2/\w'.cell? (b3,o3)=some v3/\w'.cell? (b3,o4)=some v4:=by
 obtain⟨k1,k2,k3,k4,k5,k6⟩:=k;refine⟨hb,fun i=>?_,fun i=>?_,?_,?_,?_,?_⟩
 ·rw[hb.cell h.1];exact k1 i
 ·rw[hb.cell h.2.1];exact k2 i
 all_goals (rw[hb.cell h.2.2];assumption)
theorem NU (B:Nat) (g:dL) (S:ag) (n:ak) (A:Option Addr) (c:Nat) (w:World) (h:eL w B g S) (hn:aD w B n A c) (hr:eV S.ae) (hd:0<S.ae.length) (mZ:S.ae.length<=8) (hu:aQ S.nodes S.last) (l8:0<=S.last) (jZ:S.last<=1000000) (mP:n.data.length<=1000000000) :
  Calls prog 208 #[((),g.bW),.agg (n,A,c)] w (Y_ w B g S n):=by
 have h0:=h;obtain⟨h1,h2,cd,h3,h4⟩:=h;obtain⟨W1,cA⟩:=ai (w.alloc (.cells (n,A,c) 66));have E1:Ext w W1:=by rw[cA];exact (Ext.refl _).alloc _
 have B1:Has W1 w.heap.size (.cells (n,A,c) 66):=by rw[cA];exact Has.new _ _
 rcases cT hr n.dev with⟨e1,e2⟩|⟨k,hk,e1,e2,e3,e4,e5,e6⟩
 ·have HE:Hid (gp S n=1):=by show _=_;unfold gp;rw[af e1]
  have e1b:(aI S.ae n.dev == 0)=true:=by rw[e1];rfl
  clear e1 e2;go_in;go_wp2_with fail;rw[<-cA];refine (fQ B g S n.dev _ (h0.ext E1) hd (by omega)).mono ?_;rintro e w2 ⟨rfl,b2⟩;go_wp2;go_ret2;exact zU h0 (E1.trans b2) HE.o (by decide)
 ·have e0 : gp S n=eZ S.ae[k].q (cx n.kind n.data.length) 1:=by unfold gp;rw[ac (by rw[e4];omega),e3]
  have e1b:(aI S.ae n.dev == 0)=false:=by rw[e4];simpa using (show ¬S.ae[k].root=0 by omega)
  obtain⟨bl,oV⟩:=ai (cx n.kind n.data.length);have tJ:=sm (k:=n.kind) (s:=n.data.length) (by omega) (by omega);rw[<-oV]at tJ e0;obtain⟨q,hq⟩:=ai (S.ae[k].q);rw[<-hq]at e6 e0;have inr:V7 bl 1:=⟨by omega,by omega,by omega,by omega⟩;obtain⟨d0,d1,d2,d3,d4,d5⟩:=fg.at_ h4 k hk;rw[<-hq]at d2 d3 d4 d5;have HB:=zH oV;have lC:=zH e0;have HQ:=zH hq;have H3:=zH e3;have HD:=zH e1;have hsz:((bs n.data).size:Int)=n.data.length:=by rw[bo]
  clear e0 hq e1 e3 e4 e2 oV d0 d1;go_in;go_wp2_with fail;rw[<-cA];refine (fQ B g S n.dev _ (h0.ext E1) hd (by omega)).mono ?_;rintro e w2 ⟨rfl,b2⟩;have E2:=E1.trans b2;have x0:w2.cell? (w.heap.size,0)=some (.int .i64 n.no):=(B1.ext b2).cell 0;have x1:w2.cell? (w.heap.size,1)=some (.int .i64 n.dev):=(B1.ext b2).cell 1;have xz:=(B1.ext b2).lt;go_wp2_with fail;have y0:(0:Int)<=n.dev-1:=by rw[HD.o];omega
  have y1:n.dev-1<(S.ae.length:Int):=by rw[HD.o];omega
  have y2:(n.dev-1).toNat=k:=by rw[HD.o];omega
  have y3:IntKind.i64.wrap (n.dev-1)=n.dev-1:=aU (by omega) (by omega);have y4:1<=n.dev:=by omega
  have y5:n.dev.toNat-1=k:=by omega
  obtain⟨V,hV⟩:=ai w2.drew;have hl:=h0.lt;have EV:Ext w V:=by rw[hV];exact E2.drew
  have zV:g.bW<V.heap.size/\w.heap.size<V.heap.size/\g.bD<V.heap.size:=⟨(h3.ext EV).lt,by rw[hV];exact xz,by have:=EV.size;omega⟩;have S0:(∀i,V.cell? ⟨g.bW,i,none⟩=(#[((),g.bT),.slice (some g.bD) S.ae.length cd]:Array Value)[i]?)/\(∀i,V.cell? ⟨w.heap.size,i,none⟩=((n,A,c):Array Value)[i]?)/\V.cell? (g.bD,k*6+2)=some (.int .i64 q.blocks)/\V.cell? (g.bD,k*6+3)=some (.int .i64 q.nodes)/\V.cell? (g.bD,k*6+4)=some (.int .i64 q.bH)/\V.cell? (g.bD,k*6+5)=some (.int .i64 q.bG):=by
   refine⟨fun i=>(h3.ext EV).cell i,fun i=>(by rw[hV];exact (B1.ext b2).cell i),?_,?_,?_,?_⟩
   ·exact (EV.cell hl.2.2.2).trans d2
   ·exact (EV.cell hl.2.2.2).trans d3
   ·exact (EV.cell hl.2.2.2).trans d4
   ·exact (EV.cell hl.2.2.2).trans d5
  have yl:=zH S0;have HV:=zH hV;have hVz:V.heap.size=w2.heap.size:=by rw[hV];rfl
  have HVz:=zH hVz;have hzW:w2.heap.size<=w2.heap.size:=aE _;clear d2 d3 d4 d5 x0 x1 S0 hV hVz;go_region_held3 (fun w'=>Ext V w'/\(∀i,w'.cell? ⟨g.bW,i,none⟩=(#[((),g.bT),.slice (some g.bD) S.ae.length cd]:Array Value)[i]?)/\(∀i,w'.cell? ⟨w.heap.size,i,none⟩=((n,A,c):Array Value)[i]?)/\w'.cell? (g.bD,k*6+2)=some (.int .i64 q.blocks)/\w'.cell? (g.bD,k*6+3)=some (.int .i64 q.nodes)/\w'.cell? (g.bD,k*6+4)=some (.int .i64 q.bH)/\w'.cell? (g.bD,k*6+5)=some (.int .i64 q.bG))
   ((first
    | exact wG (by rw[HV.o];exact Ext.refl _) zV yl.o
    | exact wG (by rw[HV.o];exact (Ext.refl _).alloc _) zV yl.o
    | exact wG (by rw[HV.o];exact hb') zV yl.o
    | exact wG (by rw[HV.o];exact hb'.alloc _) zV yl.o
    | exact wG (by rw[HV.o];exact (nC _ _).trans hb') zV yl.o
    | exact wG (by rw[HV.o];exact (((((nC _ _).trans hb').setCell (aE _) _).setCell (aE _) _).setCell (aE _) _).setCell (aE _) _) zV yl.o))
   ((first|(go_at_call 220;refine (uD n.kind n.data.length (by omega) (by omega) _).mono ?_;rw[<-HB.o];rintro e w1 ⟨rfl,rfl⟩)|(go_at_call 183;refine (wD q bl 1 e6 inr _).mono ?_;rintro e w1 ⟨rfl,hb'⟩;obtain⟨hc',Rb⟩:=hb'.cells;have hz':=hb'.size;(try simp only[bi,Nat.add_one_le_iff]at hz'))))
  all_goals
   first
    | (
      obtain⟨V2,oM⟩:=ai (w1.alloc (.cells #[.int .i64 (bf q bl 1).blocks,.int .i64 (bf q bl 1).nodes,.int .i64 (bf q bl 1).bH,.int .i64 (bf q bl 1).bG] 189));rw[<-oM];have Z:Ext w2 V2:=by rw[oM];exact ((Ext.refl w2).drew.trans hb').alloc _
      have X:Has V2 w1.heap.size (.cells #[.int .i64 (bf q bl 1).blocks,.int .i64 (bf q bl 1).nodes,.int .i64 (bf q bl 1).bH,.int .i64 (bf q bl 1).bG] 189):=by rw[oM];exact Has.new _ _
      obtain⟨bx,vT⟩:=ai w1.heap.size;rw[<-vT]at X|-)
    | (
      obtain⟨V2,oM⟩:=ai ((((w1.setCell (w2.heap.size,0) (.int .i64 (bf q bl 1).blocks)).setCell (w2.heap.size,1) (.int .i64 (bf q bl 1).nodes)).setCell (w2.heap.size,2) (.int .i64 (bf q bl 1).bH)).setCell (w2.heap.size,3) (.int .i64 (bf q bl 1).bG));rw[<-oM];have Z:Ext w2 V2:=by rw[oM];exact (Ext.refl w2).drew.trans (((((nC _ _).trans hb').setCell (aE _) _).setCell (aE _) _).setCell (aE _) _ |>.setCell (aE _) _)
      have X:Has V2 w2.heap.size (.cells #[.int .i64 (bf q bl 1).blocks,.int .i64 (bf q bl 1).nodes,.int .i64 (bf q bl 1).bH,.int .i64 (bf q bl 1).bG] 189):=by
       rw[oM];have t0:=(show Has (w2.alloc (.cells #[(),(),(),()] 189)).drew w2.heap.size _ from Has.new w2 _).ext hb';exact (((t0.setCell 0 _).setCell 1 _).setCell 2 _).setCell 3 _
      obtain⟨bx,vT⟩:=ai w2.heap.size;rw[<-vT]at X|-)
   clear oM vT hc' Rb hz' hb';rename_i hHeld;clear hHeld;have Y:Ext w V2:=E2.trans Z;have B2:=(B1.ext b2).ext Z;have W2:=h0.ext Y
   by_cases hz:eZ q bl 1=0
   ·have hzb:(eZ q bl 1 == 0)=true:=by rw[hz];rfl
    have aae:(eZ q bl 1 != 0)=false:=by rw[hz];rfl
    have HZ:=zH hz;have cW:=(h3.ext Y).lt;have c1:V2.cell? (g.bW,1)=some (.slice (some g.bD) S.ae.length cd):=(h3.ext Y).cell 1;have x1:=aA B2 1 rfl;have xz2:=B2.lt;have q0:=aA X 0 rfl;have q1:=aA X 1 rfl;have q2:=aA X 2 rfl;have q3:=aA X 3 rfl;have ym:V2.ownsRow B 205 6 (.slice (some g.bD) S.ae.length cd) S.ae.length (bp S.ae):=av h4 (Only.az (L:=[]) Y) (by simp);obtain⟨_,_,d2,d3,d4,d5⟩:=fg.at_ (show fg V2 B _ _ S.ae from ym) k hk;have f2:=ym.frozenAt (k*6+2);have f3:=ym.frozenAt (k*6+3);have f4:=ym.frozenAt (k*6+4);have f5:=ym.frozenAt (k*6+5);clear hz;go_wp2_with fail;go_still_tail 10,(by kernel_rfl);change wpList _ _ _ _ _ V2.drew;go_wp2_with fail;obtain⟨V3,hV3⟩:=ai ((((V2.setCell (g.bD,k*6+2) (.int .i64 (bf q bl 1).blocks)).setCell (g.bD,k*6+2+1) (.int .i64 (bf q bl 1).nodes)).setCell (g.bD,k*6+2+2) (.int .i64 (bf q bl 1).bH)).setCell (g.bD,k*6+2+3) (.int .i64 (bf q bl 1).bG));rw[<-hV3];obtain⟨V4,hV4⟩:=ai V3.drew;rw[<-hV4];have E4:Ext V3 V4:=by rw[hV4];exact (Ext.refl V3).drew
    have O3:Only [g.bD] V2 V3:=by rw[hV3];exact (((Only.setCell _ _ _ _).then (Only.setCell _ _ _ _)).then (Only.setCell _ _ _ _)).then (Only.setCell _ _ _ _)
    have D3:V3.ownsRow B 205 6 (.slice (some g.bD) S.ae.length cd) S.ae.length (bp (jb S.ae ((k:Int)+1) (bf q bl 1))):=by
     rw[hV3,<-lU S.ae k hk];exact (jL (jL (jL (jL ym (k*6+2) _).1 (k*6+3) _).1 (k*6+4) _).1 (k*6+5) _).1
    have W2a:=W2.apart;obtain⟨m1,m2,m3,m4,m5,m6⟩:=W2.ne;have H3':=O3.has (h3.ext Y) (by simpa using m3);have T3:q9 V3 B g.bT g.bM S.nodes S.last:=(h2.ext Y).only O3 (W2a.sub (by simp)) (by simpa using m5) (by simpa using m6);have hxD:w.heap.size≠g.bD:=by have:=hl.2.2.2;omega
    have B3:=O3.has B2 (by simpa using hxD);have n3:aD V3 B n A c:=(hn.ext Y).only O3 (W2a.sub (by simp));obtain⟨x0,Za,x2,x3,x4,x5,x6,x7,x8,x9,kC,kn⟩:=(B3.ext E4).da;have xz3:=(B3.ext E4).lt;have v0:V4.cell? (g.bW,0)=some (.pointer (some ⟨g.bT,0,none⟩)):=(H3'.ext E4).cell 0;have vz:=(H3'.ext E4).lt;have E5:Ext V3 V4.drew:=E4.drew;clear hV4 hV3 c1 x1 q0 q1 q2 q3 d2 d3 d4 d5 f2 f3 f4 f5;go_still_tail 5,(by kernel_rfl);change wpList _ _ _ _ _ V4.drew;go_wp2_with fail;refine (Gi B g.bT g.bM S.nodes S.last n A c _ (T3.ext E5) hu l8 jZ (n3.ext E5)).mono ?_;rintro e w5 ⟨rfl,T5,O5⟩;go_wp2;go_ret2;have O35:Only [g.bT,g.bM] V3 w5:=Only.pre E5 O5;have eM:gp S n=0:=by rw[lC.o];exact HZ.o
    have eT:cC S n=⟨S.nodes++[{n with no:=S.last+1}],jb S.ae ((k:Int)+1) (bf q bl 1),S.last+1⟩:=by
     unfold cC;rw[af eM,H3.o,<-HQ.o,<-HB.o,HD.o]
    refine⟨?_,?_,?_⟩
    ·unfold qI;rw[eM];rfl
    ·rw [eT]
     refine⟨h1,T5,cd,?_,?_⟩
     ·have:=O35.has H3' (by simp;exact⟨m1,m2⟩)
      simpa [gQ]using this
     ·unfold fg
      simp only[gQ];exact av D3 O35 (fun b hb=>by simp[Value.ownBlock]at hb;subst hb;simp;exact⟨m5.symm,m6.symm⟩)
    ·exact (Only.pre Y (O3.mono (by simp))).then (O35.mono (by simp))
   ·have hzb:(eZ q bl 1 == 0)=false:=by simpa using hz
    have aae:(eZ q bl 1 != 0)=true:=by simpa using hz
    have HZ:=zH hz;clear hz;go_wp2;go_ret2;exact zU h0 Y lC.o HZ.o
end Go.Proofs.YtpibnfdolojpcaaGreat
