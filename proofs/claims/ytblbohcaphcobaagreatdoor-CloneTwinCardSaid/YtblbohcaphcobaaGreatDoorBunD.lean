import Derived.Test.YtblbohcaphcobaaGreatDoorBunC
import Derived.Test.YtblbohcaphcobaaGreatDoorShelf
import Derived.Lib.IndexAny
import Derived.Deep.Cut
import Derived.Deep.DeepCutAuto
set_option maxHeartbeats 2000000
set_option maxRecDepth 100000
namespace Go.Proofs.YtblbohcaphcobaaGreatDoor
open Go.ChangeShapes Go.WideShapes Go.ChangeAt Go.RowKit
theorem mg (l:List UInt8) (c:UInt8):decide (0<=Lib.indexByte l c)=hasB l c:=by
 rw [<-Lib.contains_iff_indexByte,Bool.eq_iff_iff];simp [hasB]
theorem CV (s:ByteArray) (w:World):Calls Tryz.prog 148 #[.string s] w (aH w (.int .i64 (cj s.data.toList))):=by
 by_cases h0:s.data.toList=[]
 ·have hf:Hid (cj s.data.toList=1):=by show _=_;unfold cj;rw[if_pos (.inl h0)]
  have e:s.toList=[]:=by rw[ByteArray.toList_eq];exact h0
  clear h0;go_enter Tryz.func148,Tryz.ntmps148;go_wp2_with fail;go_ret;exact aH.mk (aB (by rw[hf.out])) (Ext.refl _)
 ·by_cases h1 : s.data.toList=[46]
  ·have hf:Hid (cj s.data.toList=1):=by show _=_;unfold cj;rw[if_pos (.inr (.inl h1))]
   have e:s.toList=[46]:=by rw[ByteArray.toList_eq];exact h1
   clear h0 h1;go_enter Tryz.func148,Tryz.ntmps148;go_wp2_with fail;go_ret;exact aH.mk (aB (by rw[hf.out])) (Ext.refl _)
  ·by_cases h2:s.data.toList=[46,46]
   ·have hf:Hid (cj s.data.toList=1):=by show _=_;unfold cj;rw[if_pos (.inr (.inr (.inl h2)))]
    have e:s.toList=[46,46]:=by rw[ByteArray.toList_eq];exact h2
    clear h0 h1 h2;go_enter Tryz.func148,Tryz.ntmps148;go_wp2_with fail;go_ret;exact aH.mk (aB (by rw[hf.out])) (Ext.refl _)
   ·have hk:=xa h0 h1 h2
    have e0:s.toList.isEmpty=false:=by rw[ByteArray.toList_eq,List.isEmpty_eq_false_iff];exact h0
    have e1:(s.toList == [46])=false:=by rw[ByteArray.toList_eq];exact beq_eq_false_iff_ne.2 h1
    have e2:(s.toList == [46,46])=false:=by rw[ByteArray.toList_eq];exact beq_eq_false_iff_ne.2 h2
    clear h0 h1 h2;have hsz:s.data.toList.length=s.size:=by simp
    rw [hsz]at hk;have hx:∀c,Hid (decide (0<=Lib.indexByte s.data.toList c)=hasB s.data.toList c):=fun c=>mg _ c
    cases hb:hasB s.data.toList 47 with
    | true =>
     have hf:Hid (cj s.data.toList=1):=by show _=_;rw[hk,if_pos (.inl hb)]
     have HB:=zH hb;clear hk hb hsz;go_enter Tryz.func148,Tryz.ntmps148;go_wp2_with fail;refine (Tryz.strings_Contains_one _ 47 _).mono ?_;rintro e w1 ⟨rfl,rfl⟩;rw [(hx 47).out,HB.out];go_wp2_with fail;go_ret;exact aH.mk (aB (by rw[hf.out])) (Ext.refl _)
    | false =>
     cases hc:hasB s.data.toList 0 with
     | true =>
      have hf:Hid (cj s.data.toList=1):=by show _=_;rw[hk,if_pos (.inr hc)]
      have HB:=zH hb;have HC:=zH hc;clear hk hb hc hsz;go_enter Tryz.func148,Tryz.ntmps148;go_wp2_with fail;refine (Tryz.strings_Contains_one _ 47 _).mono ?_;rintro e w1 ⟨rfl,rfl⟩;rw [(hx 47).out,HB.out];go_wp2_with fail;refine (Tryz.strings_Contains_one _ 0 _).mono ?_;rintro e w1 ⟨rfl,rfl⟩;rw [(hx 0).out,HC.out];go_wp2_with fail;go_ret;exact aH.mk (aB (by rw[hf.out])) (Ext.refl _)
     | false =>
      have hf:Hid (cj s.data.toList=if 255<s.size then 13 else 0):=by show _=_;rw[hk,if_neg (by rw[hb,hc];simp)]
      have HB:=zH hb;have HC:=zH hc;clear hk hb hc hsz
      by_cases h:255<s.size
      ·rw [if_pos h]at hf
       go_enter Tryz.func148,Tryz.ntmps148;go_wp2_with fail;refine (Tryz.strings_Contains_one _ 47 _).mono ?_;rintro e w1 ⟨rfl,rfl⟩;rw [(hx 47).out,HB.out];go_wp2_with fail;refine (Tryz.strings_Contains_one _ 0 _).mono ?_;rintro e w1 ⟨rfl,rfl⟩;rw [(hx 0).out,HC.out];go_wp2_with fail;go_ret;exact aH.mk (aB (by rw[hf.out])) (Ext.refl _)
      ·rw [if_neg h]at hf
       go_enter Tryz.func148,Tryz.ntmps148;go_wp2_with fail;refine (Tryz.strings_Contains_one _ 47 _).mono ?_;rintro e w1 ⟨rfl,rfl⟩;rw [(hx 47).out,HB.out];go_wp2_with fail;refine (Tryz.strings_Contains_one _ 0 _).mono ?_;rintro e w1 ⟨rfl,rfl⟩;rw [(hx 0).out,HC.out];go_wp2_with fail;go_ret;exact aH.mk (aB (by rw[hf.out])) (Ext.refl _)
def cJ.on (f' f:cJ) (w:World):Prop:=f'.bF=f.bF/\∀b∈f'.list,b∈f.list\/w.heap.size<=b
theorem cJ.fK (f:cJ) (w:World):f.on f w:=⟨rfl,fun _ h=>.inl h⟩
theorem cJ.pN {f1 f2 f3:cJ} {w1 w2:World} (h:f2.on f1 w1) (k:f3.on f2 w2) (hw:w1.heap.size<=w2.heap.size):f3.on f1 w1:=
 ⟨k.1.trans h.1,fun b hb=>by rcases k.2 b hb with g|g;exact h.2 b g;exact .inr (by omega)⟩
def bQ.on (g' g:bQ) (w:World):Prop:=g'.bW=g.bW/\∀b∈g'.list,b∈g.list\/w.heap.size<=b
theorem bQ.fK (g:bQ) (w:World):g.on g w:=⟨rfl,fun _ h=>.inl h⟩
theorem bQ.pN {g1 g2 g3:bQ} {w1 w2:World} (h:g2.on g1 w1) (k:g3.on g2 w2) (hw:w1.heap.size<=w2.heap.size):g3.on g1 w1:=
 ⟨k.1.trans h.1,fun b hb=>by rcases k.2 b hb with g|g;exact h.2 b g;exact .inr (by omega)⟩
theorem JY {ns:List ai} {no:Int} (h:(aa ns no).kind=1):aQ ns no=true:=by
 cases hi:aQ ns no
 ·rw[(aV hi).1]at h;cases h
 ·rfl
abbrev firstT (b n:Int):ac:=cr cE 0 b n
theorem ku {P:Program} {fn:Func} {p t:Tmp} {ty:TypeId} (h:fn.results=#[.cell p ty,.tmp t]) (tmps:Array Value) (w:World) (g:Nat) (tt:TypeId) (cs:Array Value) (d:TypeDesc) (v:Value)
  (hp:tmps.getD p undef=.pointer (some ⟨g,0,none⟩)) (hv:tmps.getD t undef=v) (hg:Has w g (.cells cs tt))
  (hu:P.underlying ty=some d) (hd:(match d with | .struct _ | .array _ _=>true|_=>false)=true) (hi:(P.info? ty).map (·.size)=some cs.size) :
  (results fn tmps).run P w=.ok (.tuple #[.agg cs,v]) w:=by
 have hp':tmps[p]?.getD undef=.pointer (some ⟨g,0,none⟩):=by simpa using hp
 have hv':tmps[t]?.getD undef=v:=by simpa using hv
 have hl:=run_loadVar_row (P:=P) w g tt ty cs (0,0) d hg hu hd hi;simp [results,h,hp',hv',asAddr,hl]
theorem Has.there {w:World} {b:Nat} {C:Array Value} {t:TypeId} (h:Has w b (.cells C t)):w.there b 0 C.size:=fun j hj=>by
 rw [Nat.zero_add,h.cell j,h.free j];refine ⟨?_,by simp⟩;rw [Array.getElem?_eq_getElem hj];rfl
theorem Has.range {w:World} {b:Nat} {C:Array Value} {t:TypeId} (h:Has w b (.cells C t)):w.rangeAt b 0 C.toList:=fun j v hv=>by
 rw [Nat.zero_add,h.cell j];simpa using hv
theorem Has.setNode {w:World} {b:Nat} {a0 a1 a2 a3 a4 a5 a6 a7 a8 a9 Cu zA:Value} {t:TypeId} (h:Has w b (.cells #[a0,a1,a2,a3,a4,a5,a6,a7,a8,a9,Cu,zA] t)) (n:ai) (A:Option Addr) (c:Nat):Has (w.setCells b 0 (fO n A c)) b (.cells #[n.no,n.dev,n.kind,n.mode,n.uid,n.gid,n.mtime,n.ctime,n.ah,n.up,bs n.data,.slice A n.ae.length c] t):=by
 have h0:Has (w.setCell ⟨b,0,none⟩ (.int .i64 n.no)) b (.cells #[n.no,a1,a2,a3,a4,a5,a6,a7,a8,a9,Cu,zA] t):=by have:=Has.setCell h 0 (.int .i64 n.no);simpa using this
 have h1:Has ((w.setCell ⟨b,0,none⟩ (.int .i64 n.no)).setCell ⟨b,1,none⟩ (.int .i64 n.dev)) b (.cells #[n.no,n.dev,a2,a3,a4,a5,a6,a7,a8,a9,Cu,zA] t):=by have:=Has.setCell h0 1 (.int .i64 n.dev);simpa using this
 have h2:Has (((w.setCell ⟨b,0,none⟩ (.int .i64 n.no)).setCell ⟨b,1,none⟩ (.int .i64 n.dev)).setCell ⟨b,2,none⟩ (.int .i64 n.kind)) b (.cells #[n.no,n.dev,n.kind,a3,a4,a5,a6,a7,a8,a9,Cu,zA] t):=by have:=Has.setCell h1 2 (.int .i64 n.kind);simpa using this
 have h3:Has ((((w.setCell ⟨b,0,none⟩ (.int .i64 n.no)).setCell ⟨b,1,none⟩ (.int .i64 n.dev)).setCell ⟨b,2,none⟩ (.int .i64 n.kind)).setCell ⟨b,3,none⟩ (.int .i64 n.mode)) b (.cells #[n.no,n.dev,n.kind,n.mode,a4,a5,a6,a7,a8,a9,Cu,zA] t):=by have:=Has.setCell h2 3 (.int .i64 n.mode);simpa using this
 have h4:Has (((((w.setCell ⟨b,0,none⟩ (.int .i64 n.no)).setCell ⟨b,1,none⟩ (.int .i64 n.dev)).setCell ⟨b,2,none⟩ (.int .i64 n.kind)).setCell ⟨b,3,none⟩ (.int .i64 n.mode)).setCell ⟨b,4,none⟩ (.int .i64 n.uid)) b (.cells #[n.no,n.dev,n.kind,n.mode,n.uid,a5,a6,a7,a8,a9,Cu,zA] t):=by have:=Has.setCell h3 4 (.int .i64 n.uid);simpa using this
 have h5:Has ((((((w.setCell ⟨b,0,none⟩ (.int .i64 n.no)).setCell ⟨b,1,none⟩ (.int .i64 n.dev)).setCell ⟨b,2,none⟩ (.int .i64 n.kind)).setCell ⟨b,3,none⟩ (.int .i64 n.mode)).setCell ⟨b,4,none⟩ (.int .i64 n.uid)).setCell ⟨b,5,none⟩ (.int .i64 n.gid)) b (.cells #[n.no,n.dev,n.kind,n.mode,n.uid,n.gid,a6,a7,a8,a9,Cu,zA] t):=by have:=Has.setCell h4 5 (.int .i64 n.gid);simpa using this
 have h6:Has (((((((w.setCell ⟨b,0,none⟩ (.int .i64 n.no)).setCell ⟨b,1,none⟩ (.int .i64 n.dev)).setCell ⟨b,2,none⟩ (.int .i64 n.kind)).setCell ⟨b,3,none⟩ (.int .i64 n.mode)).setCell ⟨b,4,none⟩ (.int .i64 n.uid)).setCell ⟨b,5,none⟩ (.int .i64 n.gid)).setCell ⟨b,6,none⟩ (.int .i64 n.mtime)) b (.cells #[n.no,n.dev,n.kind,n.mode,n.uid,n.gid,n.mtime,a7,a8,a9,Cu,zA] t):=by have:=Has.setCell h5 6 (.int .i64 n.mtime);simpa using this
 have h7:Has ((((((((w.setCell ⟨b,0,none⟩ (.int .i64 n.no)).setCell ⟨b,1,none⟩ (.int .i64 n.dev)).setCell ⟨b,2,none⟩ (.int .i64 n.kind)).setCell ⟨b,3,none⟩ (.int .i64 n.mode)).setCell ⟨b,4,none⟩ (.int .i64 n.uid)).setCell ⟨b,5,none⟩ (.int .i64 n.gid)).setCell ⟨b,6,none⟩ (.int .i64 n.mtime)).setCell ⟨b,7,none⟩ (.int .i64 n.ctime)) b (.cells #[n.no,n.dev,n.kind,n.mode,n.uid,n.gid,n.mtime,n.ctime,a8,a9,Cu,zA] t):=by have:=Has.setCell h6 7 (.int .i64 n.ctime);simpa using this
 have h8:Has (((((((((w.setCell ⟨b,0,none⟩ (.int .i64 n.no)).setCell ⟨b,1,none⟩ (.int .i64 n.dev)).setCell ⟨b,2,none⟩ (.int .i64 n.kind)).setCell ⟨b,3,none⟩ (.int .i64 n.mode)).setCell ⟨b,4,none⟩ (.int .i64 n.uid)).setCell ⟨b,5,none⟩ (.int .i64 n.gid)).setCell ⟨b,6,none⟩ (.int .i64 n.mtime)).setCell ⟨b,7,none⟩ (.int .i64 n.ctime)).setCell ⟨b,8,none⟩ (.int .i64 n.ah)) b (.cells #[n.no,n.dev,n.kind,n.mode,n.uid,n.gid,n.mtime,n.ctime,n.ah,a9,Cu,zA] t):=by have:=Has.setCell h7 8 (.int .i64 n.ah);simpa using this
 have h9:Has ((((((((((w.setCell ⟨b,0,none⟩ (.int .i64 n.no)).setCell ⟨b,1,none⟩ (.int .i64 n.dev)).setCell ⟨b,2,none⟩ (.int .i64 n.kind)).setCell ⟨b,3,none⟩ (.int .i64 n.mode)).setCell ⟨b,4,none⟩ (.int .i64 n.uid)).setCell ⟨b,5,none⟩ (.int .i64 n.gid)).setCell ⟨b,6,none⟩ (.int .i64 n.mtime)).setCell ⟨b,7,none⟩ (.int .i64 n.ctime)).setCell ⟨b,8,none⟩ (.int .i64 n.ah)).setCell ⟨b,9,none⟩ (.int .i64 n.up)) b (.cells #[n.no,n.dev,n.kind,n.mode,n.uid,n.gid,n.mtime,n.ctime,n.ah,n.up,Cu,zA] t):=by have:=Has.setCell h8 9 (.int .i64 n.up);simpa using this
 have ZZ:Has (((((((((((w.setCell ⟨b,0,none⟩ (.int .i64 n.no)).setCell ⟨b,1,none⟩ (.int .i64 n.dev)).setCell ⟨b,2,none⟩ (.int .i64 n.kind)).setCell ⟨b,3,none⟩ (.int .i64 n.mode)).setCell ⟨b,4,none⟩ (.int .i64 n.uid)).setCell ⟨b,5,none⟩ (.int .i64 n.gid)).setCell ⟨b,6,none⟩ (.int .i64 n.mtime)).setCell ⟨b,7,none⟩ (.int .i64 n.ctime)).setCell ⟨b,8,none⟩ (.int .i64 n.ah)).setCell ⟨b,9,none⟩ (.int .i64 n.up)).setCell ⟨b,10,none⟩ (.string (bs n.data))) b (.cells #[n.no,n.dev,n.kind,n.mode,n.uid,n.gid,n.mtime,n.ctime,n.ah,n.up,bs n.data,zA] t):=by have:=Has.setCell h9 10 (.string (bs n.data));simpa using this
 have h11:Has ((((((((((((w.setCell ⟨b,0,none⟩ (.int .i64 n.no)).setCell ⟨b,1,none⟩ (.int .i64 n.dev)).setCell ⟨b,2,none⟩ (.int .i64 n.kind)).setCell ⟨b,3,none⟩ (.int .i64 n.mode)).setCell ⟨b,4,none⟩ (.int .i64 n.uid)).setCell ⟨b,5,none⟩ (.int .i64 n.gid)).setCell ⟨b,6,none⟩ (.int .i64 n.mtime)).setCell ⟨b,7,none⟩ (.int .i64 n.ctime)).setCell ⟨b,8,none⟩ (.int .i64 n.ah)).setCell ⟨b,9,none⟩ (.int .i64 n.up)).setCell ⟨b,10,none⟩ (.string (bs n.data))).setCell ⟨b,11,none⟩ (.slice A n.ae.length c)) b (.cells #[n.no,n.dev,n.kind,n.mode,n.uid,n.gid,n.mtime,n.ctime,n.ah,n.up,bs n.data,.slice A n.ae.length c] t):=by have:=Has.setCell ZZ 11 (.slice A n.ae.length c);simpa using this
 exact h11
theorem Has.Pk {w:World} {b:Nat} {n:ai} {A:Option Addr} {c:Nat} {t:TypeId} (h:Has w b (.cells #[n.no,n.dev,n.kind,n.mode,n.uid,n.gid,n.mtime,n.ctime,n.ah,n.up,bs n.data,.slice A n.ae.length c] t)) (m:ai) (A':Option Addr) (c':Nat):Has (w.setCells b 0 (fO m A' c')) b (.cells #[m.no,m.dev,m.kind,m.mode,m.uid,m.gid,m.mtime,m.ctime,m.ah,m.up,bs m.data,.slice A' m.ae.length c'] t):=h.setNode m A' c'
theorem tV (n:ai) (A:Option Addr) (c:Nat):(#[n.no,n.dev,n.kind,n.mode,n.uid,n.gid,n.mtime,n.ctime,n.ah,n.up,bs n.data,.slice A n.ae.length c]:Array Value).all (·.oneCell')=true:=all_oneCell_toArray (wT n A c)
theorem kN:(Tryz.prog.info? 58).map (·.size)=some 12:=by kernel_rfl
theorem az {ops:Array Oper} {rest:List Oper} {op:Oper} {a:Act} {w:World} {Q:Exit->Act->World->Prop} (hgd:op.guard=none) (x y:Operand) (ho:op.op=.store 58 x y)
  (b:Nat) (n:ai) (A:Option Addr) (c:Nat) (hx:a.eval x=.pointer (some ⟨b,0,none⟩)) (hy:a.eval y=.agg #[n.no,n.dev,n.kind,n.mode,n.uid,n.gid,n.mtime,n.ctime,n.ah,n.up,bs n.data,.slice A n.ae.length c]) {m:ai} {A':Option Addr} {c':Nat} (hb:Has w b (.cells #[m.no,m.dev,m.kind,m.mode,m.uid,m.gid,m.mtime,m.ctime,m.ah,m.up,bs m.data,.slice A' m.ae.length c'] 58))
  (h:∀w',Has w' b (.cells #[n.no,n.dev,n.kind,n.mode,n.uid,n.gid,n.mtime,n.ctime,n.ah,n.up,bs n.data,.slice A n.ae.length c] 58)->Only [b] w w'->wpList Tryz.prog ops Q rest (a.put op.dst undef) w'):wpList Tryz.prog ops Q (op::rest) a w:=by
 refine wpList_store_mid hgd 58 x y ho b 0 #[n.no,n.dev,n.kind,n.mode,n.uid,n.gid,n.mtime,n.ctime,n.ah,n.up,bs n.data,.slice A n.ae.length c] hx hy hb.there kN (tV n A c) ?_;exact h _ (hb.Pk n A c) (cO (fO n A c) 0 w)
theorem aP {ops:Array Oper} {rest:List Oper} {op:Oper} {a:Act} {w:World} {Q:Exit->Act->World->Prop} (hgd:op.guard=none) (x:Operand) (ho:op.op=.load 58 x)
  (b:Nat) (n:ai) (A:Option Addr) (c:Nat) (hx:a.eval x=.pointer (some ⟨b,0,none⟩)) (hb:Has w b (.cells #[n.no,n.dev,n.kind,n.mode,n.uid,n.gid,n.mtime,n.ctime,n.ah,n.up,bs n.data,.slice A n.ae.length c] 58))
  (h:wpList Tryz.prog ops Q rest (a.put op.dst (.agg #[n.no,n.dev,n.kind,n.mode,n.uid,n.gid,n.mtime,n.ctime,n.ah,n.up,bs n.data,.slice A n.ae.length c])) w):wpList Tryz.prog ops Q (op::rest) a w:=
 wpList_load_mid hgd 58 x ho b 0 hx [.int .i64 n.no,.int .i64 n.dev,.int .i64 n.kind,.int .i64 n.mode,.int .i64 n.uid,.int .i64 n.gid,.int .i64 n.mtime,.int .i64 n.ctime,.int .i64 n.ah,.int .i64 n.up,.string (bs n.data),.slice A n.ae.length c] _ hb.range Tryz.underlying58 rfl kN h
theorem dx {fn:Func} {p t:Tmp} (h:fn.results=#[.cell p 58,.tmp t]) (tmps:Array Value) (w:World) (g:Nat) (n:ai) (A:Option Addr) (c:Nat) (v:Value)
  (hp:tmps.getD p undef=.pointer (some ⟨g,0,none⟩)) (hv:tmps.getD t undef=v) (hg:Has w g (.cells #[n.no,n.dev,n.kind,n.mode,n.uid,n.gid,n.mtime,n.ctime,n.ah,n.up,bs n.data,.slice A n.ae.length c] 58)) :
  (results fn tmps).run Tryz.prog w=.ok (.tuple #[.agg #[n.no,n.dev,n.kind,n.mode,n.uid,n.gid,n.mtime,n.ctime,n.ah,n.up,bs n.data,.slice A n.ae.length c],v]) w:=
 ku h tmps w g 58 _ _ v hp hv hg Tryz.underlying58 rfl kN
theorem Av (B:Nat) (g:cJ) (S:ac) (X:cM) (no:Int) (V:World) (h:gV V B g S X) (hl:S.nodes.length<=1000000) (hu:aI S.nodes S.last) :
  ∃ A c,ay V B (aa S.nodes no) A c/\∀u:World,Ext V u->Calls Tryz.prog 14 #[.pointer (some ⟨g.bF,0,none⟩),.int .i64 no] u (aH u (.agg #[.int .i64 (aa S.nodes no).no,.int .i64 (aa S.nodes no).dev,.int .i64 (aa S.nodes no).kind,.int .i64 (aa S.nodes no).mode,.int .i64 (aa S.nodes no).uid,.int .i64 (aa S.nodes no).gid,.int .i64 (aa S.nodes no).mtime,.int .i64 (aa S.nodes no).ctime,.int .i64 (aa S.nodes no).ah,.int .i64 (aa S.nodes no).up,.string (bs (aa S.nodes no).data),.slice A (aa S.nodes no).ae.length c])):=by
 obtain ⟨ce,hfn,_⟩:=h.fn
 generalize hvD:Value.slice (some ⟨g.bE,0,none⟩) S.af.length ce=vD at hfn
 clear hvD
 cases hi:aQ S.nodes no
 ·refine ⟨none,0,by rw[(aV hi).1];exact ay.zero _ _,fun u hE=>?_⟩
  have hz:=(aV hi).1;have Vr:=hfn.ext hE;obtain ⟨h1,cn,h2,⟨xs,h3,h5⟩⟩:=id Vr;have c0:=h2.cell 0;simp only[gA,gB]at c0;have hF:=h2.lt;have HI:=zH hi;have HZ:=zH hz;clear hi hz;go_enter Tryz.func14,Tryz.ntmps14;go_wp2_with fail;refine (sX B g.bF g.bN vD S.nodes S.last X no _ (Vr.ext ((Ext.refl _).alloc _)) hl).mono ?_;rintro e w1 ⟨rfl,⟨hi,rfl⟩|⟨k,hk,bc,hi,rfl⟩⟩
  ·clear hi
   go_wp2_with fail;refine bodyPost_ret (v:=.agg #[.int .i64 0,.int .i64 0,.int .i64 0,.int .i64 0,.int .i64 0,.int .i64 0,.int .i64 0,.int .i64 0,.int .i64 0,.int .i64 0,.string ⟨#[]⟩,.slice none 0 0]) (by simp[results,Tryz.results14,go_sem]) rfl (aH.mk (by rw[HZ.out];rfl) ((Ext.refl _).alloc _))
  ·rw[HI.out]at hi;cases hi
 ·obtain ⟨k,hk,bc⟩:=l_.1 hi
  obtain ⟨_,cn0,h20,⟨xs0,h30,Z0⟩⟩:=id hfn;obtain ⟨A,c,ok,hr⟩:=fS.range h30 Z0 k hk;have hg:aa S.nodes no=S.nodes[k]:=by unfold aa;rw[<-bc,yi hu hk];rfl
  have Z1:=hfn.lt.2;obtain⟨m,hm⟩:=ar (S.nodes[k]);rw [<-hm]at ok hr hg;rw [hg];refine ⟨A,c,ok,fun u hE=>?_⟩;have Vr:=hfn.ext hE;obtain ⟨h1,cn,h2,⟨xs,h3,h5⟩⟩:=id Vr;have c0:=h2.cell 0;simp only[gA,gB]at c0;have hF:=h2.lt;have hr':u.rangeAt g.bN (k*12) (fO m A c):=fun j v hv=>(hE.cell Z1).trans (hr j v hv)
  obtain ⟨d0,d1,d2,d3,d4,d5,d6,d7,d8,d9,d10,d11⟩:=yq hr';have hN:=Vr.lt.2;have hneg:decide ((k:Int)<0)=false:=decide_eq_false (by omega);have y0:(k:Int)<S.nodes.length:=by omega
  have y1:(0:Int)<=(k:Int):=Int.natCast_nonneg _;have HI:=zH hi;have sC:=zH bc;clear hi hg hm bc;go_enter Tryz.func14,Tryz.ntmps14;go_wp2_with fail;refine (sX B g.bF g.bN vD S.nodes S.last X no _ (Vr.ext ((Ext.refl _).alloc _)) hl).mono ?_;rintro e w1 ⟨rfl,⟨hi,rfl⟩|⟨k',hk',JZ,hi,rfl⟩⟩
  ·rw[HI.out]at hi;cases hi
  ·obtain rfl:k'=k:=EF hu hk' hk (by rw[JZ,sC.out])
   clear hi JZ;go_wp2_with fail;refine bodyPost_ret (v:=.agg #[m.no,m.dev,m.kind,m.mode,m.uid,m.gid,m.mtime,m.ctime,m.ah,m.up,bs m.data,.slice A m.ae.length c]) (by simp[results,Tryz.results14,go_sem]) rfl (aH.mk rfl ((Ext.refl _).alloc _))
theorem qN (ns:List ai) (n:ai) (k:Int):eY (bn ns n) k=(eY ns k).map fun m=>if m.no == n.no then n else m:=by
 unfold eY bn;rw [List.find?_map]
 congr 1
 congr 1
 funext m
 simp only[Function.comp];split
 ·rename_i h;rw[beq_iff_eq]at h;rw[h]
 ·rfl
theorem gp (ns:List ai) (n:ai) {k:Int} (h:k≠n.no):aa (bn ns n) k=aa ns k:=by
 unfold aa;rw [qN]
 cases hg:eY ns k with
 | none=>rfl
 | some m =>
  have:=(kB hg).1;show (if m.no == n.no then n else m)=m;rw [if_neg];rw[this];simpa using h
theorem je (ns:List ai) (n:ai) (k:Int):aQ (bn ns n) k=aQ ns k:=by
 unfold aQ;rw [qN]
 cases eY ns k<;>rfl
theorem kY (ns:List ai) (n:ai) (h:aQ ns n.no=true):aa (bn ns n) n.no=n:=by
 unfold aQ at h;obtain ⟨m,hm⟩:=Option.isSome_iff_exists.1 h;unfold aa;rw [qN,hm];show (if m.no == n.no then n else m)=n;rw [if_pos];rw[(kB hm).1];simp
theorem Aw {w0:World} {B:Nat} {es:Array MapEntry} {clock:Nat} {ns:List ai} (bM:Nat) (h:jG w0 B es.toList ns) (no:Int) :
  ∃ A c,ay w0 B (aa ns no) A c/\∀w:World,Has w bM (.map es clock)->(Instr.lookup 111 (.map (some bM)) (.int .i64 no) true).run Tryz.prog w=.ok (.tuple #[.agg #[.int .i64 (aa ns no).no,.int .i64 (aa ns no).dev,.int .i64 (aa ns no).kind,.int .i64 (aa ns no).mode,.int .i64 (aa ns no).uid,.int .i64 (aa ns no).gid,.int .i64 (aa ns no).mtime,.int .i64 (aa ns no).ctime,.int .i64 (aa ns no).ah,.int .i64 (aa ns no).up,.string (bs (aa ns no).data),.slice A (aa ns no).ae.length c],.bool (aQ ns no)]) w:=by
 have hk:∀(w:World) r,Instr.findNow (.int .i64) (.int .i64 no) es.toList 0=some r->(Instr.findKey 3 (.int .i64 no) es.toList).run Tryz.prog w=.ok r w:=fun w r hr=>by
  unfold Instr.findKey;rw [Sem.run_bind,run_underlying Tryz.underlying3];simp [hr]
 rcases ll no es.toList ns 0 h.1 (fun k hk=>by obtain⟨e,A,c,h1,h2,_⟩:=h.2 k hk;exact⟨e,h1,h2⟩) with⟨g1,g2⟩|⟨k,e,g1,g2,g3,g4⟩
 ·refine ⟨none,0,by rw[(aV g1).1];exact ay.zero w0 B,fun w hm=>?_⟩
  have hz:=(aV g1).1;simp [Instr.lookup,run_underlying Tryz.underlying111,MapKept.run_getObj_map hm,cT,hk w _ g2,hz,g1];exact ⟨rfl,rfl,rfl,rfl,rfl,rfl,rfl,rfl,rfl,rfl,rfl,rfl⟩
 ·obtain ⟨e',A,c,h1,_,h3,h4⟩:=h.2 k g1
  rw [h1]at g2;injection g2 with g2;subst g2;have e1:aa ns no=ns[k]:=by unfold aa;rw[g4,List.getElem?_eq_getElem g1];rfl
  have e2:aQ ns no=true:=by unfold aQ;rw[g4,List.getElem?_eq_getElem g1];rfl
  refine ⟨A,c,by rw[e1];exact h4,fun w hm=>?_⟩;rw [e1,e2];simp [Instr.lookup,run_underlying Tryz.underlying111,MapKept.run_getObj_map hm,cT,hk w _ g3,h3]
theorem tW (B:Nat) (g:bQ) (S:ac) (no:Int) (V:World) (h:eD V B g S) :
  ∃ A c,ay V B (aa S.nodes no) A c/\∀u:World,Ext V u->Calls Tryz.prog 17 #[.pointer (some ⟨g.bT,0,none⟩),.int .i64 no] u (aH u (.tuple #[.agg #[.int .i64 (aa S.nodes no).no,.int .i64 (aa S.nodes no).dev,.int .i64 (aa S.nodes no).kind,.int .i64 (aa S.nodes no).mode,.int .i64 (aa S.nodes no).uid,.int .i64 (aa S.nodes no).gid,.int .i64 (aa S.nodes no).mtime,.int .i64 (aa S.nodes no).ctime,.int .i64 (aa S.nodes no).ah,.int .i64 (aa S.nodes no).up,.string (bs (aa S.nodes no).data),.slice A (aa S.nodes no).ae.length c],.bool (aQ S.nodes no)])):=by
 obtain ⟨_,⟨h1,h2,h3,es,cl,h4,h5⟩,_⟩:=h;obtain ⟨A,c,ok,NJ⟩:=Aw (clock:=cl) g.bM h5 no;refine ⟨A,c,ok,fun u hE=>?_⟩;have c0:u.cell? ⟨g.bT,0,none⟩=some (.map (some g.bM)):=(h3.ext hE).cell 0;have hbT:=(h3.ext hE).lt;have hr:=NJ (u.alloc (.cells #[.int .i64 0,.int .i64 0,.int .i64 0,.int .i64 0,.int .i64 0,.int .i64 0,.int .i64 0,.int .i64 0,.int .i64 0,.int .i64 0,.string ⟨#[]⟩,.slice none 0 0] 58)) ((h4.ext hE).alloc _);clear NJ ok h5;go_enter Tryz.func17,Tryz.ntmps17;go_wp2_with fail;refine bodyPost_ret (v:=.tuple #[.agg #[.int .i64 (aa S.nodes no).no,.int .i64 (aa S.nodes no).dev,.int .i64 (aa S.nodes no).kind,.int .i64 (aa S.nodes no).mode,.int .i64 (aa S.nodes no).uid,.int .i64 (aa S.nodes no).gid,.int .i64 (aa S.nodes no).mtime,.int .i64 (aa S.nodes no).ctime,.int .i64 (aa S.nodes no).ah,.int .i64 (aa S.nodes no).up,.string (bs (aa S.nodes no).data),.slice A (aa S.nodes no).ae.length c],.bool (aQ S.nodes no)]) (by simp[results,Tryz.results17,go_sem]) rfl (aH.mk rfl (((Ext.refl _).alloc _).alloc _))
theorem mT {id:Nat} {Q:Exit->Act->World->Prop} {a:Act} {w:World} {l:List Oper} (V:World) (s:Nat) (x y:Tmp) (b:Nat) (n m:ai) (A A':Option Addr) (c c':Nat) (hb:Has V b (.cells #[m.no,m.dev,m.kind,m.mode,m.uid,m.gid,m.mtime,m.ctime,m.ah,m.up,bs m.data,.slice A' m.ae.length c'] 58)) (os:Oper)
  (hB:Region.lexB .any l.toArray=true) (hc:JV l s x y=true) (rU:l[s]?=some os) (mL:os.op=.store 58 (.tmp x) (.tmp y)) (hV:Ext V w.drew) :
  bq Tryz.prog l.toArray V (fun a2=>a2.eval (.tmp x)=.pointer (some ⟨b,0,none⟩)/\a2.eval (.tmp y)=.agg #[n.no,n.dev,n.kind,n.mode,n.uid,n.gid,n.mtime,n.ctime,n.ah,n.up,bs n.data,.slice A n.ae.length c]/\bq Tryz.prog l.toArray V (fun a3=>∀w',(∃w0,Ext V w0/\Only [b] w0 w'/\Has w' b (.cells #[n.no,n.dev,n.kind,n.mode,n.uid,n.gid,n.mtime,n.ctime,n.ah,n.up,bs n.data,.slice A n.ae.length c] 58))->Q .normal a3 w') (l.drop (s+1)) a2) (l.take s) a ->
  (Code.region id l.toArray true).wp Tryz.prog Q a w:=by
 refine vZ V s x y _ _ (fun w'=>∃w0,Ext V w0/\Only [b] w0 w'/\Has w' b (.cells #[n.no,n.dev,n.kind,n.mode,n.uid,n.gid,n.mtime,n.ctime,n.ah,n.up,bs n.data,.slice A n.ae.length c] 58)) os (by kernel_rfl) hB hc rU ?_ hV;intro a w hE h1 h2;have hw:=hb.ext hE;refine ⟨_,?_,w,hE,cO (fO n A c) 0 w,hw.setNode n A c⟩;simp only[execOp,mL,h1,h2,run_storeAt_mid w b 0 58 #[n.no,n.dev,n.kind,n.mode,n.uid,n.gid,n.mtime,n.ctime,n.ah,n.up,bs n.data,.slice A n.ae.length c] hw.there kN (tV n A c),Sem.run_bind,Sem.run_pure,Result.andThen_ok];rfl
end Go.Proofs.YtblbohcaphcobaaGreatDoor
