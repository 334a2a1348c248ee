import Derived.Test.YtpibnfdolojpcaaGreatBunC
import Derived.Test.YtpibnfdolojpcaaGreatShelf
import Derived.Lib.IndexAny
import Derived.Deep.Cut
import Derived.Deep.DeepCutAuto
set_option maxHeartbeats 2000000
set_option maxRecDepth 100000
namespace Go.Proofs.YtpibnfdolojpcaaGreat
open Go.Proofs.Tryz
open Go.ChangeShapes Go.WideShapes Go.ChangeAt Go.RowKit
variable {w:World} {b:Nat} {t:TypeId}
theorem ql (l:List UInt8) (c:UInt8):decide (0<=Lib.indexByte l c)=hasB l c:=by
 rw[<-Lib.contains_iff_indexByte,zu];simp[hasB]
theorem J0 (s:ByteArray) (w:World):Calls prog 210 #[.string s] w (aO w (.int .i64 (cU s.data.toList))):=by
 by_cases h0:s.data.toList=[]
 ·have hf:Hid (cU s.data.toList=1):=by show _=_;unfold cU;rw[af (.inl h0)]
  have e:s.toList=[]:=by rw[oZ];exact h0
  clear h0;go_in;go_wp2;go_ret;exact aO.mk (aS (by rw[hf.o])) (Ext.refl _)
 ·by_cases h1 : s.data.toList=[46]
  ·have hf:Hid (cU s.data.toList=1):=by show _=_;unfold cU;rw[af (.inr (.inl h1))]
   have e:s.toList=[46]:=by rw[oZ];exact h1
   clear h0 h1;go_in;go_wp2;go_ret;exact aO.mk (aS (by rw[hf.o])) (Ext.refl _)
  ·by_cases h2:s.data.toList=[46,46]
   ·have hf:Hid (cU s.data.toList=1):=by show _=_;unfold cU;rw[af (.inr (.inr (.inl h2)))]
    have e:s.toList=[46,46]:=by rw[oZ];exact h2
    clear h0 h1 h2;go_in;go_wp2;go_ret;exact aO.mk (aS (by rw[hf.o])) (Ext.refl _)
   ·have hk:=CK h0 h1 h2
    have e0:s.toList.isEmpty=false:=by rw[oZ,D_];exact h0
    have e1:(s.toList == [46])=false:=by rw[oZ];exact ji.2 h1
    have e2:(s.toList == [46,46])=false:=by rw[oZ];exact ji.2 h2
    clear h0 h1 h2;have hsz:s.data.toList.length=s.size:=by simp
    rw[hsz]at hk;have hx:∀c,Hid (decide (0<=Lib.indexByte s.data.toList c)=hasB s.data.toList c):=fun c=>ql _ c
    cases hb:hasB s.data.toList 47 with
    | true =>
     have hf:Hid (cU s.data.toList=1):=by show _=_;rw[hk,af (.inl hb)]
     have HB:=zH hb;clear hk hb hsz;go_in;go_wp2_with fail;refine (strings_Contains_one _ 47 _).mono ?_;rintro e w1 ⟨rfl,rfl⟩;rw[(hx 47).o,HB.o];go_wp2;go_ret;exact aO.mk (aS (by rw[hf.o])) (Ext.refl _)
    | false =>
     cases hc:hasB s.data.toList 0 with
     | true =>
      have hf:Hid (cU s.data.toList=1):=by show _=_;rw[hk,af (.inr hc)]
      have HB:=zH hb;have HC:=zH hc;clear hk hb hc hsz;go_in;go_wp2_with fail;refine (strings_Contains_one _ 47 _).mono ?_;rintro e w1 ⟨rfl,rfl⟩;rw[(hx 47).o,HB.o];go_wp2_with fail;refine (strings_Contains_one _ 0 _).mono ?_;rintro e w1 ⟨rfl,rfl⟩;rw[(hx 0).o,HC.o];go_wp2;go_ret;exact aO.mk (aS (by rw[hf.o])) (Ext.refl _)
     | false =>
      have hf:Hid (cU s.data.toList=if 255<s.size then 13 else 0):=by show _=_;rw[hk,ac (by rw[hb,hc];simp)]
      have HB:=zH hb;have HC:=zH hc;clear hk hb hc hsz
      by_cases h:255<s.size
      ·rw [af h]at hf
       go_in;go_wp2_with fail;refine (strings_Contains_one _ 47 _).mono ?_;rintro e w1 ⟨rfl,rfl⟩;rw[(hx 47).o,HB.o];go_wp2_with fail;refine (strings_Contains_one _ 0 _).mono ?_;rintro e w1 ⟨rfl,rfl⟩;rw[(hx 0).o,HC.o];go_wp2;go_ret;exact aO.mk (aS (by rw[hf.o])) (Ext.refl _)
      ·rw [ac h]at hf
       go_in;go_wp2_with fail;refine (strings_Contains_one _ 47 _).mono ?_;rintro e w1 ⟨rfl,rfl⟩;rw[(hx 47).o,HB.o];go_wp2_with fail;refine (strings_Contains_one _ 0 _).mono ?_;rintro e w1 ⟨rfl,rfl⟩;rw[(hx 0).o,HC.o];go_wp2;go_ret;exact aO.mk (aS (by rw[hf.o])) (Ext.refl _)
def cI.on (f' f:cI) (w:World):Prop:=f'.bF=f.bF/\∀b∈f'.list,b∈f.list\/w.heap.size<=b
theorem cI.ew (f:cI) (w:World):f.on f w:=⟨rfl,fun _ h=>.inl h⟩
theorem cI.pE {f1 f2 f3:cI} {w1 w2:World} (h:f2.on f1 w1) (k:f3.on f2 w2) (hw:w1.heap.size<=w2.heap.size):f3.on f1 w1:=
 ⟨k.1.trans h.1,fun b hb=>by rcases k.2 b hb with g|g;exact h.2 b g;exact .inr (by omega)⟩
def dL.on (g' g:dL) (w:World):Prop:=g'.bW=g.bW/\∀b∈g'.list,b∈g.list\/w.heap.size<=b
theorem dL.ew (g:dL) (w:World):g.on g w:=⟨rfl,fun _ h=>.inl h⟩
theorem dL.pE {g1 g2 g3:dL} {w1 w2:World} (h:g2.on g1 w1) (k:g3.on g2 w2) (hw:w1.heap.size<=w2.heap.size):g3.on g1 w1:=
 ⟨k.1.trans h.1,fun b hb=>by rcases k.2 b hb with g|g;exact h.2 b g;exact .inr (by omega)⟩
theorem SB {ns:List ak} {no:Int} (h:(aa ns no).kind=1):aW ns no=true:=by
 cases hi:aW ns no
 ·rw[(aP hi).1]at h;cases h
 ·rfl
abbrev aal (b n:Int):ag:=cZ dF 0 b n
theorem mR {P:Program} {fn:Func} {p t:Tmp} {ty:TypeId} (h:fn.results=#[.cell p ty,.tmp t]) (tmps:Array Value) (w:World) (g:Nat) (tt:TypeId) (cs:Array Value) (d:TypeDesc) (v:Value)
  (hp:tmps.getD p undef=.pointer (some ⟨g,0,none⟩)) (hv:tmps.getD t undef=v) (hg:Has w g (.cells cs tt))
  (hu:P.underlying ty=some d) (hd:(match d with | .struct _ | .array _ _=>true|_=>false)=true) (hi:(P.info? ty).map (·.size)=some cs.size) :
  (results fn tmps).run P w=.ok (.tuple #[.agg cs,v]) w:=by
 have hp':tmps[p]?.getD undef=.pointer (some ⟨g,0,none⟩):=by simpa using hp
 have hv':tmps[t]?.getD undef=v:=by simpa using hv
 have hl:=Ea (P:=P) w g tt ty cs (0,0) d hg hu hd hi;simp[results,h,hp',hv',asAddr,hl]
theorem Has.there {w:World} {b:Nat} {C:Array Value} {t:TypeId} (h:Has w b (.cells C t)):w.there b 0 C.size:=fun j hj=>by
 rw[eY,h.cell j,h.free j];refine⟨?_,by simp⟩;rw[RN hj];rfl
theorem Has.range {C:Array Value} (h:Has w b (.cells C t)):w.rangeAt b 0 C.toList:=fun j v hv=>by
 rw[eY,h.cell j];simpa using hv
theorem Has.setNode {a0 a1 a2 a3 a4 a5 a6 a7 a8 a9 yp FK:Value} (h:Has w b (.cells #[a0,a1,a2,a3,a4,a5,a6,a7,a8,a9,yp,FK] t)) (n:ak) (A:Option Addr) (c:Nat):Has (w.setCells b 0 (gu n A c)) b (.cells (n,A,c) t):=by
 have h0:Has (w.setCell (b,0) (.int .i64 n.no)) b (.cells #[n.no,a1,a2,a3,a4,a5,a6,a7,a8,a9,yp,FK] t):=by have:=Has.setCell h 0 (.int .i64 n.no);simpa using this
 have h1:Has ((w.setCell (b,0) (.int .i64 n.no)).setCell (b,1) (.int .i64 n.dev)) b (.cells #[n.no,n.dev,a2,a3,a4,a5,a6,a7,a8,a9,yp,FK] t):=by have:=Has.setCell h0 1 (.int .i64 n.dev);simpa using this
 have h2:Has (((w.setCell (b,0) (.int .i64 n.no)).setCell (b,1) (.int .i64 n.dev)).setCell (b,2) (.int .i64 n.kind)) b (.cells #[n.no,n.dev,n.kind,a3,a4,a5,a6,a7,a8,a9,yp,FK] t):=by have:=Has.setCell h1 2 (.int .i64 n.kind);simpa using this
 have h3:Has ((((w.setCell (b,0) (.int .i64 n.no)).setCell (b,1) (.int .i64 n.dev)).setCell (b,2) (.int .i64 n.kind)).setCell (b,3) (.int .i64 n.mode)) b (.cells #[n.no,n.dev,n.kind,n.mode,a4,a5,a6,a7,a8,a9,yp,FK] t):=by have:=Has.setCell h2 3 (.int .i64 n.mode);simpa using this
 have h4:Has (((((w.setCell (b,0) (.int .i64 n.no)).setCell (b,1) (.int .i64 n.dev)).setCell (b,2) (.int .i64 n.kind)).setCell (b,3) (.int .i64 n.mode)).setCell (b,4) (.int .i64 n.uid)) b (.cells #[n.no,n.dev,n.kind,n.mode,n.uid,a5,a6,a7,a8,a9,yp,FK] t):=by have:=Has.setCell h3 4 (.int .i64 n.uid);simpa using this
 have h5:Has ((((((w.setCell (b,0) (.int .i64 n.no)).setCell (b,1) (.int .i64 n.dev)).setCell (b,2) (.int .i64 n.kind)).setCell (b,3) (.int .i64 n.mode)).setCell (b,4) (.int .i64 n.uid)).setCell (b,5) (.int .i64 n.gid)) b (.cells #[n.no,n.dev,n.kind,n.mode,n.uid,n.gid,a6,a7,a8,a9,yp,FK] t):=by have:=Has.setCell h4 5 (.int .i64 n.gid);simpa using this
 have h6:Has (((((((w.setCell (b,0) (.int .i64 n.no)).setCell (b,1) (.int .i64 n.dev)).setCell (b,2) (.int .i64 n.kind)).setCell (b,3) (.int .i64 n.mode)).setCell (b,4) (.int .i64 n.uid)).setCell (b,5) (.int .i64 n.gid)).setCell (b,6) (.int .i64 n.mtime)) b (.cells #[n.no,n.dev,n.kind,n.mode,n.uid,n.gid,n.mtime,a7,a8,a9,yp,FK] t):=by have:=Has.setCell h5 6 (.int .i64 n.mtime);simpa using this
 have h7:Has ((((((((w.setCell (b,0) (.int .i64 n.no)).setCell (b,1) (.int .i64 n.dev)).setCell (b,2) (.int .i64 n.kind)).setCell (b,3) (.int .i64 n.mode)).setCell (b,4) (.int .i64 n.uid)).setCell (b,5) (.int .i64 n.gid)).setCell (b,6) (.int .i64 n.mtime)).setCell (b,7) (.int .i64 n.ctime)) b (.cells #[n.no,n.dev,n.kind,n.mode,n.uid,n.gid,n.mtime,n.ctime,a8,a9,yp,FK] t):=by have:=Has.setCell h6 7 (.int .i64 n.ctime);simpa using this
 have h8:Has (((((((((w.setCell (b,0) (.int .i64 n.no)).setCell (b,1) (.int .i64 n.dev)).setCell (b,2) (.int .i64 n.kind)).setCell (b,3) (.int .i64 n.mode)).setCell (b,4) (.int .i64 n.uid)).setCell (b,5) (.int .i64 n.gid)).setCell (b,6) (.int .i64 n.mtime)).setCell (b,7) (.int .i64 n.ctime)).setCell (b,8) (.int .i64 n.ar)) b (.cells #[n.no,n.dev,n.kind,n.mode,n.uid,n.gid,n.mtime,n.ctime,n.ar,a9,yp,FK] t):=by have:=Has.setCell h7 8 (.int .i64 n.ar);simpa using this
 have h9:Has ((((((((((w.setCell (b,0) (.int .i64 n.no)).setCell (b,1) (.int .i64 n.dev)).setCell (b,2) (.int .i64 n.kind)).setCell (b,3) (.int .i64 n.mode)).setCell (b,4) (.int .i64 n.uid)).setCell (b,5) (.int .i64 n.gid)).setCell (b,6) (.int .i64 n.mtime)).setCell (b,7) (.int .i64 n.ctime)).setCell (b,8) (.int .i64 n.ar)).setCell (b,9) (.int .i64 n.up)) b (.cells #[n.no,n.dev,n.kind,n.mode,n.uid,n.gid,n.mtime,n.ctime,n.ar,n.up,yp,FK] t):=by have:=Has.setCell h8 9 (.int .i64 n.up);simpa using this
 have h10:Has (((((((((((w.setCell (b,0) (.int .i64 n.no)).setCell (b,1) (.int .i64 n.dev)).setCell (b,2) (.int .i64 n.kind)).setCell (b,3) (.int .i64 n.mode)).setCell (b,4) (.int .i64 n.uid)).setCell (b,5) (.int .i64 n.gid)).setCell (b,6) (.int .i64 n.mtime)).setCell (b,7) (.int .i64 n.ctime)).setCell (b,8) (.int .i64 n.ar)).setCell (b,9) (.int .i64 n.up)).setCell (b,10) (.string (bs n.data))) b (.cells #[n.no,n.dev,n.kind,n.mode,n.uid,n.gid,n.mtime,n.ctime,n.ar,n.up,bs n.data,FK] t):=by have:=Has.setCell h9 10 (.string (bs n.data));simpa using this
 have h11:Has ((((((((((((w.setCell (b,0) (.int .i64 n.no)).setCell (b,1) (.int .i64 n.dev)).setCell (b,2) (.int .i64 n.kind)).setCell (b,3) (.int .i64 n.mode)).setCell (b,4) (.int .i64 n.uid)).setCell (b,5) (.int .i64 n.gid)).setCell (b,6) (.int .i64 n.mtime)).setCell (b,7) (.int .i64 n.ctime)).setCell (b,8) (.int .i64 n.ar)).setCell (b,9) (.int .i64 n.up)).setCell (b,10) (.string (bs n.data))).setCell (b,11) (.slice A n.ah.length c)) b (.cells (n,A,c) t):=by have:=Has.setCell h10 11 (.slice A n.ah.length c);simpa using this
 exact h11
theorem Has.Xb {n:ak} {A:Option Addr} {c:Nat} (h:Has w b (.cells (n,A,c) t)) (m:ak) (A':Option Addr) (c':Nat):Has (w.setCells b 0 (gu m A' c')) b (.cells (m,A',c') t):=h.setNode m A' c'
theorem rL (n:ak) (A:Option Addr) (c:Nat):((n,A,c):Array Value).all (·.oneCell')=true:=rv (wI n A c)
theorem iM:(prog.info? 66).map (·.size)=some 12:=by kernel_rfl
theorem aq {ops:Array Oper} {rest:List Oper} {op:Oper} {a:Act} {Q:Exit->Act->World->Prop} (hgd:op.guard=none) (x y:Operand) (ho:op.op=.store 66 x y)
  (b:Nat) (n:ak) (A:Option Addr) (c:Nat) (hx:a.eval x=.pointer (some ⟨b,0,none⟩)) (hy:a.eval y=.agg (n,A,c)) {m:ak} {A':Option Addr} {c':Nat} (hb:Has w b (.cells (m,A',c') 66))
  (h:∀w',Has w' b (.cells (n,A,c) 66)->Only [b] w w'->wpList prog ops Q rest (a.put op.dst undef) w'):wpList prog ops Q (op::rest) a w:=by
 refine zw hgd 66 x y ho b 0 (n,A,c) hx hy hb.there iM (rL n A c) ?_;exact h _ (hb.Xb n A c) (cr (gu n A c) 0 w)
theorem aB {ops:Array Oper} {rest:List Oper} {op:Oper} {a:Act} {w:World} {Q:Exit->Act->World->Prop} (hgd:op.guard=none) (x:Operand) (ho:op.op=.load 66 x)
  (b:Nat) (n:ak) (A:Option Addr) (c:Nat) (hx:a.eval x=.pointer (some ⟨b,0,none⟩)) (hb:Has w b (.cells (n,A,c) 66))
  (h:wpList prog ops Q rest (a.put op.dst (.agg (n,A,c))) w):wpList prog ops Q (op::rest) a w:=
 wpList_load_mid hgd 66 x ho b 0 hx [.int .i64 n.no,.int .i64 n.dev,.int .i64 n.kind,.int .i64 n.mode,.int .i64 n.uid,.int .i64 n.gid,.int .i64 n.mtime,.int .i64 n.ctime,.int .i64 n.ar,.int .i64 n.up,.string (bs n.data),.slice A n.ah.length c] _ hb.range underlying66 rfl iM h
theorem db {fn:Func} {p t:Tmp} (h:fn.results=#[.cell p 66,.tmp t]) (tmps:Array Value) (w:World) (g:Nat) (n:ak) (A:Option Addr) (c:Nat) (v:Value)
  (hp:tmps.getD p undef=.pointer (some ⟨g,0,none⟩)) (hv:tmps.getD t undef=v) (hg:Has w g (.cells (n,A,c) 66)) :
  (results fn tmps).run prog w=.ok (.tuple #[.agg (n,A,c),v]) w:=
 mR h tmps w g 66 _ _ v hp hv hg underlying66 rfl iM
theorem pF (B:Nat) (g:cI) (S:ag) (X:cY) (no:Int) (V:World) (h:gv V B g S X) (hl:S.nodes.length<=1000000) (hu:aQ S.nodes S.last) :
  ∃ A c,aD V B (aa S.nodes no) A c/\∀u:World,Ext V u->Calls prog 30 #[((),g.bF),no] u (aO u (.agg #[.int .i64 (aa S.nodes no).no,.int .i64 (aa S.nodes no).dev,.int .i64 (aa S.nodes no).kind,.int .i64 (aa S.nodes no).mode,.int .i64 (aa S.nodes no).uid,.int .i64 (aa S.nodes no).gid,.int .i64 (aa S.nodes no).mtime,.int .i64 (aa S.nodes no).ctime,.int .i64 (aa S.nodes no).ar,.int .i64 (aa S.nodes no).up,.string (bs (aa S.nodes no).data),.slice A (aa S.nodes no).ah.length c])):=by
 obtain⟨ce,hfn,_⟩:=h.fn
 generalize hvD:Value.slice (some g.bE) S.ae.length ce=vD at hfn
 clear hvD
 cases hi:aW S.nodes no
 ·refine ⟨none,0,by rw[(aP hi).1];exact aD.zero _ _,fun u hE=>?_⟩
  have hz:=(aP hi).1;have hfu:=hfn.ext hE;obtain⟨h1,cn,h2,⟨xs,h3,h5⟩⟩:=id hfu;have c0:=h2.cell 0;simp only[gA,gB]at c0;have hF:=h2.lt;have HI:=zH hi;have HZ:=zH hz;clear hi hz;go_in;go_wp2_with fail;refine (yH B g.bF g.bN vD S.nodes S.last X no _ (hfu.ext ((Ext.refl _).alloc _)) hl).mono ?_;rintro e w1 ⟨rfl,⟨hi,rfl⟩|⟨k,hk,bB,hi,rfl⟩⟩
  ·clear hi
   go_wp2_with fail;refine aT (v:=.agg ()) (by simp[results,results30,go_sem]) rfl (aO.mk (by rw[HZ.o];rfl) ((Ext.refl _).alloc _))
  ·rw[HI.o]at hi;cases hi
 ·obtain ⟨k,hk,bB⟩:=qh.1 hi
  obtain⟨_,cn0,h20,⟨xs0,h30,h50⟩⟩:=id hfn;obtain⟨A,c,ok,hr⟩:=fI.range h30 h50 k hk;have hg:aa S.nodes no=S.nodes[k]:=by unfold aa;rw[<-bB,Ew hu hk];rfl
  have hbN:=hfn.lt.2;obtain⟨m,hm⟩:=ai (S.nodes[k]);rw[<-hm]at ok hr hg;rw[hg];refine⟨A,c,ok,fun u hE=>?_⟩;have hfu:=hfn.ext hE;obtain⟨h1,cn,h2,⟨xs,h3,h5⟩⟩:=id hfu;have c0:=h2.cell 0;simp only[gA,gB]at c0;have hF:=h2.lt;have hr':u.rangeAt g.bN (k*12) (gu m A c):=fun j v hv=>(hE.cell hbN).trans (hr j v hv)
  obtain⟨d0,d1,d2,d3,d4,d5,d6,d7,d8,d9,d10,d11⟩:=yI hr';have hN:=hfu.lt.2;have hneg:decide ((k:Int)<0)=false:=cG (by omega);have y0:(k:Int)<S.nodes.length:=by omega
  have y1:(0:Int)<=(k:Int):=cO _;have HI:=zH hi;have uh:=zH bB;clear hi hg hm bB;go_in;go_wp2_with fail;refine (yH B g.bF g.bN vD S.nodes S.last X no _ (hfu.ext ((Ext.refl _).alloc _)) hl).mono ?_;rintro e w1 ⟨rfl,⟨hi,rfl⟩|⟨k',hk',SC,hi,rfl⟩⟩
  ·rw[HI.o]at hi;cases hi
  ·obtain rfl:k'=k:=Mw hu hk' hk (by rw[SC,uh.o])
   clear hi SC;go_wp2_with fail;refine aT (v:=.agg (m,A,c)) (by simp[results,results30,go_sem]) rfl (aO.mk rfl ((Ext.refl _).alloc _))
theorem Oa (ns:List ak) (n:ak) (k:Int):gF (cP ns n) k=(gF ns k).map fun m=>if m.no == n.no then n else m:=by
 unfold gF cP;rw[List.find?_map]
 congr 1
 congr 1
 funext m
 simp only[Function.comp];split
 ·rename_i h;rw[il]at h;rw[h]
 ·rfl
theorem kf (ns:List ak) (n:ak) (k:Int):aW (cP ns n) k=aW ns k:=by
 unfold aW;rw[Oa]
 cases gF ns k<;>rfl
theorem Gv {w0:World} {B:Nat} {es:Array MapEntry} {clock:Nat} {ns:List ak} (bM:Nat) (h:j5 w0 B es.toList ns) (no:Int) :
  ∃ A c,aD w0 B (aa ns no) A c/\∀w:World,Has w bM (.map es clock)->(Instr.lookup 155 (.map (some bM)) (.int .i64 no) true).run prog w=.ok (.tuple #[.agg #[.int .i64 (aa ns no).no,.int .i64 (aa ns no).dev,.int .i64 (aa ns no).kind,.int .i64 (aa ns no).mode,.int .i64 (aa ns no).uid,.int .i64 (aa ns no).gid,.int .i64 (aa ns no).mtime,.int .i64 (aa ns no).ctime,.int .i64 (aa ns no).ar,.int .i64 (aa ns no).up,.string (bs (aa ns no).data),.slice A (aa ns no).ah.length c],.bool (aW ns no)]) w:=by
 have hk:∀(w:World) r,Instr.findNow (.int .i64) (.int .i64 no) es.toList 0=some r->(Instr.findKey 3 (.int .i64 no) es.toList).run prog w=.ok r w:=fun w r hr=>by
  unfold Instr.findKey;rw[nr,mD underlying3];simp[hr]
 rcases lS no es.toList ns 0 h.1 (fun k hk=>by obtain⟨e,A,c,h1,h2,_⟩:=h.2 k hk;exact⟨e,h1,h2⟩) with⟨g1,g2⟩|⟨k,e,g1,g2,g3,g4⟩
 ·refine ⟨none,0,by rw[(aP g1).1];exact aD.zero w0 B,fun w hm=>?_⟩
  have hz:=(aP g1).1;simp[Instr.lookup,mD underlying155,rp hm,iJ,hk w _ g2,hz,g1];exact⟨rfl,rfl,rfl,rfl,rfl,rfl,rfl,rfl,rfl,rfl,rfl,rfl⟩
 ·obtain ⟨e',A,c,h1,_,h3,h4⟩:=h.2 k g1
  rw[h1]at g2;injection g2 with g2;subst g2;have e1:aa ns no=ns[k]:=by unfold aa;rw[g4,iq g1];rfl
  have e2:aW ns no=true:=by unfold aW;rw[g4,iq g1];rfl
  refine⟨A,c,by rw[e1];exact h4,fun w hm=>?_⟩;rw[e1,e2];simp[Instr.lookup,mD underlying155,rp hm,iJ,hk w _ g3,h3]
theorem nI (B:Nat) (g:dL) (S:ag) (no:Int) (V:World) (h:eL V B g S) :
  ∃ A c,aD V B (aa S.nodes no) A c/\∀u:World,Ext V u->Calls prog 50 #[((),g.bT),no] u (aO u (.tuple #[.agg #[.int .i64 (aa S.nodes no).no,.int .i64 (aa S.nodes no).dev,.int .i64 (aa S.nodes no).kind,.int .i64 (aa S.nodes no).mode,.int .i64 (aa S.nodes no).uid,.int .i64 (aa S.nodes no).gid,.int .i64 (aa S.nodes no).mtime,.int .i64 (aa S.nodes no).ctime,.int .i64 (aa S.nodes no).ar,.int .i64 (aa S.nodes no).up,.string (bs (aa S.nodes no).data),.slice A (aa S.nodes no).ah.length c],.bool (aW S.nodes no)])):=by
 obtain⟨_,⟨h1,h2,h3,es,cl,h4,h5⟩,_⟩:=h;obtain⟨A,c,ok,V9⟩:=Gv (clock:=cl) g.bM h5 no;refine⟨A,c,ok,fun u hE=>?_⟩;have c0:u.cell? (g.bT,0)=some (.map (some g.bM)):=(h3.ext hE).cell 0;have hbT:=(h3.ext hE).lt;have hr:=V9 (u.alloc (.cells () 66)) ((h4.ext hE).alloc _);clear V9 ok h5;go_in;go_wp2_with fail;refine aT (v:=.tuple #[.agg #[.int .i64 (aa S.nodes no).no,.int .i64 (aa S.nodes no).dev,.int .i64 (aa S.nodes no).kind,.int .i64 (aa S.nodes no).mode,.int .i64 (aa S.nodes no).uid,.int .i64 (aa S.nodes no).gid,.int .i64 (aa S.nodes no).mtime,.int .i64 (aa S.nodes no).ctime,.int .i64 (aa S.nodes no).ar,.int .i64 (aa S.nodes no).up,.string (bs (aa S.nodes no).data),.slice A (aa S.nodes no).ah.length c],.bool (aW S.nodes no)]) (by simp[results,results50,go_sem]) rfl (aO.mk rfl (((Ext.refl _).alloc _).alloc _))
theorem rM {id:Nat} {Q:Exit->Act->World->Prop} {a:Act} {l:List Oper} (V:World) (s:Nat) (x y:Tmp) (b:Nat) (n m:ak) (A A':Option Addr) (c c':Nat) (hb:Has V b (.cells (m,A',c') 66)) (os:Oper)
  (hB:Region.lexB .any l.toArray=true) (hc:Sy l s x y=true) (oW:l[s]?=some os) (pj:os.op=.store 66 (.tmp x) (.tmp y)) (hV:Ext V w.drew) :
  aM prog l.toArray V (fun a2=>a2.eval (.tmp x)=.pointer (some ⟨b,0,none⟩)/\a2.eval (.tmp y)=.agg (n,A,c)/\aM prog l.toArray V (fun a3=>∀w',(∃w0,Ext V w0/\Only [b] w0 w'/\Has w' b (.cells (n,A,c) 66))->Q .normal a3 w') (l.drop (s+1)) a2) (l.take s) a ->
  (Code.region id l.toArray true).wp prog Q a w:=by
 refine BX V s x y _ _ (fun w'=>∃w0,Ext V w0/\Only [b] w0 w'/\Has w' b (.cells (n,A,c) 66)) os (by kernel_rfl) hB hc oW ?_ hV;intro a w hE h1 h2;have hw:=hb.ext hE;refine⟨_,?_,w,hE,cr (gu n A c) 0 w,hw.setNode n A c⟩;simp only[execOp,pj,h1,h2,tF w b 0 66 (n,A,c) hw.there iM (rL n A c),nr,o7,rn];rfl
end Go.Proofs.YtpibnfdolojpcaaGreat
