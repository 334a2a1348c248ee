import Derived.Test.YtpibnfdolojpcaaGreatBunN
import Derived.Sort.CutIn
set_option maxHeartbeats 16000000
set_option maxRecDepth 100000
namespace Go.Proofs.YtpibnfdolojpcaaGreat
open Go.ChangeShapes Go.WideShapes Go.ChangeAt Go.RowKit
attribute [local go_sem] Oper.semAt_some
theorem told_zero {l:List SpotD} {b:SpotD} {e:Int} (h:∀y∈told l b e,y.2=0):e=0∧(told l b e).map (·.1)=l:=by
 have he:e=0:=by
  by_cases he:e=0
  ·exact he
  ·exact h (b,e) (by unfold told;rw[if_neg he];simp)
 refine ⟨he,?_⟩;unfold told;rw [if_pos he,List.append_nil,List.map_map];exact List.map_id _
theorem told_last {l:List SpotD} {b:SpotD} {e:Int} {pre:List (SpotD×Int)} {y:SpotD×Int} (h:pre++[y] <+: told l b e) (hy:y.2≠0):y=(b,e)∧e≠0∧pre=l.map fun x=>(x,0):=by
 by_cases he:e=0
 ·exfalso
  obtain ⟨t,ht⟩:=h;have hm:y∈told l b e:=by rw[←ht];simp
  unfold told at hm;rw [if_pos he,List.append_nil,List.mem_map]at hm;obtain ⟨x,_,rfl⟩:=hm;exact hy rfl
 ·unfold told at h
  rw [if_neg he]at h;rcases List.prefix_concat_iff.1 h with h1|h1
  ·have:=List.append_inj' h1 rfl
   refine ⟨?_,he,this.1⟩;have h2:=this.2;injection h2
  ·exfalso
   obtain ⟨t,ht⟩:=h1;have hm:y∈l.map fun x=>(x,(0:Int)):=by rw[←ht];simp
   rw [List.mem_map]at hm;obtain ⟨x,_,rfl⟩:=hm;exact hy rfl
theorem down_in (F:Fence) (n:Nat) (hf:F.fn 41) (hro:F.round=none) (b:Nat) (cu cg dir:Int) (nm:List UInt8) (w:World) :
  CallsIn F n Tryz.prog 41 #[.pointer (some ⟨b,0,none⟩),.agg #[.int .i64 cu,.int .i64 cg],.int .i64 dir,.string (bs nm)] w fun e w' =>
   e = .returned (.func (.func 86) #[] #[.pointer (some ⟨w.heap.size,0,none⟩),.pointer (some ⟨w.heap.size+1,0,none⟩),.pointer (some ⟨w.heap.size+2,0,none⟩),.pointer (some ⟨w.heap.size+3,0,none⟩)])∧CapD w' w.heap.size b cu cg dir nm∧Ext w w'∧w'.heap.size=w.heap.size+4:=by
 refine callsIn_of_wp Tryz.func41 rfl hf ?_ hro;simp only[Tryz.ntmps41,List.size_toArray,List.length_cons,List.length_nil,Nat.reduceAdd,Nat.reduceSub,Array.replicate_succ,Array.replicate_zero,List.push_toArray,List.append_toArray,List.nil_append,List.cons_append];gi_wp2;go_ret;have h1:=Has.new w (.cells #[.pointer (some ⟨b,0,none⟩)] 33);have h2:=Has.new (w.alloc (.cells #[.pointer (some ⟨b,0,none⟩)] 33)) (.cells #[.int .i64 cu,.int .i64 cg] 27);have h3:=Has.new ((w.alloc (.cells #[.pointer (some ⟨b,0,none⟩)] 33)).alloc (.cells #[.int .i64 cu,.int .i64 cg] 27)) (.cells #[.int .i64 dir] 3);have h4:=Has.new (((w.alloc (.cells #[.pointer (some ⟨b,0,none⟩)] 33)).alloc (.cells #[.int .i64 cu,.int .i64 cg] 27)).alloc (.cells #[.int .i64 dir] 3)) (.cells #[.string (bs nm)] 9);simp only[World.size_alloc]at h2 h3 h4;exact ⟨rfl,⟨((h1.alloc _).alloc _).alloc _,(h2.alloc _).alloc _,h3.alloc _,h4⟩,((((Ext.refl w).alloc _).alloc _).alloc _).alloc _,by simp⟩
theorem OwnP.notC {w:World} {base N g:Nat} {v:Value} {l:List SpotD} {R:List Nat} (h:OwnP w base v l) (hv:v.ownBlock=some g) (hR:NonC N R w):g∉R:=fun hm=>by
 obtain ⟨t,⟨c,f,hc⟩,_⟩:=h.ownB hv;obtain ⟨_,o,ho,hn⟩:=hR g hm;rw [hc]at ho;cases ho;cases hn
theorem CapD.only {V V':World} {k b:Nat} {cu cg dir:Int} {nm:List UInt8} {L:List Nat} (h:CapD V k b cu cg dir nm) (o:Only L V V') (hL:∀x∈L,x<k∨k+3<x):CapD V' k b cu cg dir nm:=by
 obtain ⟨h1,h2,h3,h4⟩:=h;exact ⟨o.has h1 fun hm=>by have:=hL _ hm;omega,o.has h2 fun hm=>by have:=hL _ hm;omega,o.has h3 fun hm=>by have:=hL _ hm;omega,o.has h4 fun hm=>by have:=hL _ hm;omega⟩
def Coll (W1:World) (N k b10 b:Nat) (cu cg dir:Int) (nm:List UInt8) (O:List Nat) (pre:List (SpotD×Int)) (V:World):Prop:=
 Ext W1 V∧CapD V k b cu cg dir nm∧(∃v,Has V b10 (.cells #[v] 39)∧OwnP V N v (pre.map (·.1))∧∀g,v.ownBlock=some g→g∉O)∧(∀y∈pre,y.2=0)∧(∀x∈O,N≤x)∧N≤V.heap.size
theorem Coll.bears {W1:World} {N k b10 b:Nat} {cu cg dir:Int} {nm:List UInt8} (h1:W1.heap.size≤N) (h2:k+3<N) (h3:b10<N):Bears N (Coll W1 N k b10 b cu cg dir nm):=by
 rintro O pre V O' R V' ⟨a1,a2,⟨v,a3,a4,a5⟩,a6,a7,a8⟩ o hR hO hO';have hL:∀x∈O++R,N≤x:=fun x hx=>by
  rcases List.mem_append.1 hx with hx|hx
  ·exact a7 x hx
  ·exact (hR x hx).1
 refine ⟨o.after a1 fun x hx=>by have:=hL x hx;omega,a2.only o fun x hx=>.inr (by have:=hL x hx;omega),⟨v,o.has a3 fun hm=>by have:=hL _ hm;omega,a4.only o fun g hg hm=>?_,fun g hg hm=>?_⟩,a6,fun x hx=>?_,by have:=o.size;omega⟩
 ·rcases List.mem_append.1 hm with hm|hm
  ·exact a5 g hg hm
  ·exact a4.notC hg hR hm
 ·rcases hO g hm with e|e
  ·exact a5 g hg e
  ·have:=(a4.lt hg).2;omega
 ·rcases hO x hx with e|e
  ·exact a7 x e
  ·omega
theorem Coll.step {W1 V:World} {N k b10 b:Nat} {cu cg dir:Int} {nm:List UInt8} {O:List Nat} {pre:List (SpotD×Int)} {x:SpotD×Int} (h1:W1.heap.size≤b10) (h2:k+3<N) (h3:b10<k∨k+3<b10) (h4:b10<N) (h:Coll W1 N k b10 b cu cg dir nm O pre V) (hx:x.2=0) (hO:∀y∈O,OwnB V y) (hp:pre.length≤2000000) :
  ∃ v v' w',Has V b10 (.cells #[v] 39)∧(Builtin.append_ #[39,39] 39 #[v,.slice (some ⟨V.heap.size,0,none⟩) 1 1]).run Tryz.prog (V.alloc (.cells #[.int .i64 x.1.dir,.string (bs x.1.name),.int .i64 x.1.no,.int .i64 x.1.depth] 41))=.ok v' w' ∧
   Has w' b10 (.cells #[v] 39)∧(∀g,v'.ownBlock=some g→N≤g)∧OwnP w' N v' ((pre++[x]).map (·.1)) ∧
   KeepsFrom N V (w'.setCell ⟨b10,0,none⟩ v')∧KeepO O V (w'.setCell ⟨b10,0,none⟩ v')∧Coll W1 N k b10 b cu cg dir nm O (pre++[x]) (w'.setCell ⟨b10,0,none⟩ v')∧Has (w'.setCell ⟨b10,0,none⟩ v') b10 (.cells #[v'] 39):=by
 obtain ⟨a1,a2,⟨v,a3,a4,a5⟩,a6,a7,a8⟩:=h;obtain ⟨v',w',hr,hO',hg,hblk⟩:=app_spot V a4 a8 x.1 (by rw[List.length_map];exact hp);have o1:Only v.ownBlock.toList V w':=(Only.allocN _ _ _).then (Only.of_grownBy hg (fun g hv=>Option.mem_toList.2 hv));have gN:∀y∈v.ownBlock.toList,N≤y:=fun y hy=>(a4.lt (Option.mem_toList.1 hy)).1
 have b3:=o1.has a3 (fun hm=>by have:=gN _ hm;omega);have o2:Only (v.ownBlock.toList++[b10]) V (w'.setCell ⟨b10,0,none⟩ v'):=(o1.mono (fun y hy=>List.mem_append_left _ hy)).then ((Only.setCell _ _ _ _).mono (fun y hy=>List.mem_append_right _ hy));have hN':∀g,v'.ownBlock=some g→N≤g:=fun g hv=>(hO'.lt hv).1
 have c3:Has (w'.setCell ⟨b10,0,none⟩ v') b10 (.cells #[v'] 39):=Has.setCell b3 0 v';have memL:∀y∈v.ownBlock.toList++[b10],v.ownBlock=some y∨y=b10:=fun y hy=>by
  rcases List.mem_append.1 hy with hy|hy
  ·exact .inl (Option.mem_toList.1 hy)
  ·exact .inr (List.mem_singleton.1 hy)
 have e:(pre++[x]).map (·.1)=pre.map (·.1)++[x.1]:=by rw[List.map_append];rfl
 refine ⟨v,v',w',a3,hr,b3,hN',by rw[e];exact hO',o2.keepsFrom (fun y hy=>?_),o2.keepO (fun y hy=>(hO y hy).lt) (fun y hy hm=>?_),⟨o2.after a1 (fun y hy=>?_),a2.only o2 (fun y hy=>?_),⟨v',c3,?_,fun g hv hm=>?_⟩,fun y hy=>?_,a7,by have:=o2.size;omega⟩,c3⟩
 ·rcases memL y hy with k1|k1
  ·obtain ⟨t,⟨cc,f,hc⟩,_⟩:=a4.ownB k1
   exact .inr ⟨_,hc,rfl⟩
  ·exact .inl (by omega)
 ·rcases memL y hm with k1|k1
  ·exact a5 y k1 hy
  ·have:=a7 y hy;omega
 ·rcases memL y hy with k1|k1
  ·have:=(a4.lt k1).1;omega
  ·omega
 ·rcases memL y hy with k1|k1
  ·have:=(a4.lt k1).1;omega
  ·omega
 ·rw [e]
  exact hO'.only (Only.setCell w' b10 0 v') (fun g hv hm=>by rw[List.mem_singleton]at hm;have:=hN' g hv;omega)
 ·rcases hblk with k1|k1
  ·rw[k1]at hv;exact a5 g hv hm
  ·rw [k1]at hv
   injection hv with hv;have:=(hO g hm).lt;omega
 ·rcases List.mem_append.1 hy with hy|hy
  ·exact a6 y hy
  ·rw[List.mem_singleton]at hy;subst hy;exact hx
theorem PS.all {c:Nat} {w:World} {B b:Nat} {g:GhW} {s:SysD} (h:PS w B b g s) (hs:Sane c s) (hc:c≤900) (cu cg dir:Int) (nm:List UInt8) (l:List SpotD) (b0:SpotD) (e0:Int) (hT:DownT s cu cg dir nm l b0 e0) (hlen:l.length≤1000) :
  Calls Tryz.prog 17 #[.pointer (some ⟨b,0,none⟩),.agg #[.int .i64 cu,.int .i64 cg],.int .i64 dir,.string (bs nm)] w (fun e w'=>∃v,e=.returned (.tuple #[v,.int .i64 e0])∧OwnP w' w.heap.size v (if e0=0 then l else [])∧Ext w w'):=by
 refine (callsIn_wide (n:=4)).1 ?_;obtain ⟨F,hF⟩:∃F,F=Fence.wide:=⟨_,rfl⟩;have hro:F.round=none:=by rw[hF];rfl
 have hf1:F.fn 17:=by rw[hF];trivial
 have hf2:F.fn 41:=by rw[hF];trivial
 have hf3:F.fn 86:=by rw[hF];trivial
 have KD:=fun (W:World)=>down_in F 3 hf2 hro b cu cg dir nm W
 rw [←hF];have HF:=Lib.hid hF;clear hF;refine callsIn_of_wp_marks Tryz.func17 rfl hf1 ?_ hro;simp only[Tryz.ntmps17,List.size_toArray,List.length_cons,List.length_nil,Nat.reduceAdd,Nat.reduceSub,Array.replicate_succ,Array.replicate_zero,List.push_toArray,List.append_toArray,List.nil_append,List.cons_append];gi_wp2_with (gi_at_call 41;refine (KD _).mono ?_;rintro e w3 ⟨rfl,C3,E3,Z3⟩);obtain ⟨W1,hW1⟩:∃V,V=((w.alloc (.cells #[.int .i64 cu,.int .i64 cg] 27)).alloc (.cells #[.slice none 0 0] 39)).alloc (.cells #[.int .i64 0] 47):=⟨_,rfl⟩;obtain ⟨b8,hb8⟩:∃x,x=w.heap.size+1:=⟨_,rfl⟩;obtain ⟨b9,hb9⟩:∃x,x=w.heap.size+1+1:=⟨_,rfl⟩;obtain ⟨b10,hb10⟩:∃x,x=w.heap.size+1+1+1:=⟨_,rfl⟩;obtain ⟨k,hk⟩:∃x,x=w.heap.size+1+1+1+1:=⟨_,rfl⟩;have hs1:W1.heap.size=b10:=by rw[hW1,hb10];simp
 have E1:Ext w W1:=by rw[hW1];exact (((Ext.refl _).alloc _).alloc _).alloc _
 have H8:Has W1 b8 (.cells #[.slice none 0 0] 39):=by
  rw [hW1,hb8];have:=Has.new (w.alloc (.cells #[.int .i64 cu,.int .i64 cg] 27)) (.cells #[.slice none 0 0] 39);rw [World.size_alloc]at this;exact this.alloc _
 have H9:Has W1 b9 (.cells #[.int .i64 0] 47):=by
  rw [hW1,hb9];have:=Has.new ((w.alloc (.cells #[.int .i64 cu,.int .i64 cg] 27)).alloc (.cells #[.slice none 0 0] 39)) (.cells #[.int .i64 0] 47);simp only[World.size_alloc]at this;exact this
 have H10:Has (W1.alloc (.cells #[.slice none 0 0] 39)) b10 (.cells #[.slice none 0 0] 39):=by rw[←hs1];exact Has.new _ _
 rw [←hW1]at E3 C3 Z3;have e2:(W1.alloc (.cells #[.slice none 0 0] 39)).heap.size=k:=by rw[World.size_alloc,hs1,hb10,hk]
 rw [e2]at C3 Z3;rw [←hk,←hb10,←hb9,←hb8];have P1:=h.ext E1;have X1:Ext W1 w3:=((Ext.refl W1).alloc _).trans E3;obtain ⟨N,hN⟩:∃N,N=w3.heap.size:=⟨_,rfl⟩;have hNk1:N≤k+4:=by rw[hN,Z3];exact Nat.le_refl _
 have hNk2:k+4≤N:=by rw[hN,Z3];exact Nat.le_refl _
 have hkb1:k≤b10+1:=by rw[hk,hb10];exact Nat.le_refl _
 have hkb2:b10+1≤k:=by rw[hk,hb10];exact Nat.le_refl _
 have hs1a:W1.heap.size≤b10:=by rw[hs1];exact Nat.le_refl _
 have hs1b:b10≤W1.heap.size:=by rw[hs1];exact Nat.le_refl _
 have HN:=Lib.hid hN;have hN1:N≤w3.heap.size:=by rw[hN];exact Nat.le_refl _
 have hN2:w3.heap.size≤N:=by rw[hN];exact Nat.le_refl _
 have h89:b8<b9:=by omega
 have h910:b9<b10:=by omega
 have hwb:w.heap.size<b8:=by omega
 have HP1:=Lib.hid P1;have HE1:=Lib.hid E1;have HH8:=Lib.hid H8;have HH9:=Lib.hid H9;have H103:=H10.ext E3;have hLl:(told l b0 e0).length≤1001:=by have:=told_len l b0 e0;omega
 have KS:=down_seq (c:=c) F HF.out (4-1) (by omega) B b g s hs hc k cu cg dir nm l b0 e0 hT hlen w3;clear hW1 hb8 hb9 hb10 hk H8 H9 H10 P1 E1 h hs hT KD hs1 e2 Z3 hN;refine wpIn_range_o hro (by omega) (gf:=86) (lb:=#[.pointer (some ⟨k,0,none⟩),.pointer (some ⟨k+1,0,none⟩),.pointer (some ⟨k+2,0,none⟩),.pointer (some ⟨k+3,0,none⟩)]) rfl hf3 (enters_of Tryz.func86 (by kernel_rfl) rfl) KS (Nat.le_refl _) (fun _=>rfl)
  (Coll W1 N k b10 b cu cg dir nm)
  (fun cc pre V=>cc=.ret∧Ext w V∧Has V b8 (.cells #[.slice none 0 0] 39)∧∃q y,pre=q++[y]∧y.2≠0∧Has V b9 (.cells #[.int .i64 y.2] 47))
  (by rw[←HN.out];exact Coll.bears (by omega) (by omega) (by omega))
  (by rintro cc pre V R V' ⟨a1,a2,a3,q,y,a4,a5,a6⟩ o hR;exact⟨a1,o.after a2 (fun x hx=>by have:=(hR x hx).1;omega),o.has a3 (fun hm=>by have:=(hR _ hm).1;omega),q,y,a4,a5,o.has a6 (fun hm=>by have:=(hR _ hm).1;omega)⟩)
  (fun O pre V hI=>⟨HP1.out.ext hI.1,hI.2.1⟩)
  ⟨X1,C3,⟨_,H103,OwnP.nil _ _,fun g hg=>by cases hg⟩,fun y hy=>(by cases hy),fun x hx=>(by cases hx),hN1⟩
  (fun x a' V=>∃Bx,N≤Bx∧Has V Bx (.cells #[.int .i64 x.1.dir,.string (bs x.1.name),.int .i64 x.1.no,.int .i64 x.1.depth] 41)∧a'={tmps:=#[.pointer (some ⟨b,0,none⟩),.agg #[.int .i64 cu,.int .i64 cg],.int .i64 dir,.string (bs nm),undef,.pointer (some ⟨w.heap.size,0,none⟩),undef,undef,.pointer (some ⟨b8,0,none⟩),.pointer (some ⟨b9,0,none⟩),.pointer (some ⟨b10,0,none⟩),.pointer (some ⟨Bx,0,none⟩),.int .i64 x.2,.pointer (some ⟨b,0,none⟩),.agg #[.int .i64 cu,.int .i64 cg],.int .i64 dir,.string (bs nm),.func (.func 86) #[] #[.pointer (some ⟨k,0,none⟩),.pointer (some ⟨k+1,0,none⟩),.pointer (some ⟨k+2,0,none⟩),.pointer (some ⟨k+3,0,none⟩)],.agg #[.int .i64 x.1.dir,.string (bs x.1.name),.int .i64 x.1.no,.int .i64 x.1.depth],.int .i64 x.2,undef,undef,undef,undef,undef,undef,undef,undef],defers:=[]})
  ?hax ?assign ?body ?done ?stop
 case hax =>
  rintro x a' V l o o' ⟨Bx,h1,h2,rfl⟩ hl ho hc';refine ⟨Bx,h1,?_,rfl⟩;have hne:Bx≠l:=fun e=>by subst e;unfold Has at h2;rw[h2]at ho;cases ho;cases hc'
  exact (World.putObj_heap_other hne).trans h2
 case assign =>
  rintro lp O pre x V K hI hG hOB hK;gi_wp2;refine hK _ _ ((KeepsOthers.alloc _ _).from _) ((Only.allocN [] V _).keepO (fun b hb=>(hOB b hb).lt) (fun _ _=>by simp)) ?_ ⟨V.heap.size,hI.2.2.2.2.2,Has.new _ _,rfl⟩;exact (Coll.bears (W1:=W1) (N:=N) (by omega) (by omega) (by omega)) O pre V O [] _ hI (by rw[List.append_nil];exact Only.allocN _ _ _) (fun r hr=>by cases hr) (fun x hx=>.inl hx) (fun x hx=>(hOB x hx).ext ((Ext.refl V).alloc _))
 case body =>
  rintro lp O pre x a' V hI ⟨Bx,hBx,hXB,rfl⟩ hG hOB;rw [←HN.out];have hpl:pre.length≤2000000:=by
   have:=hG.length_le;rw [List.length_append]at this;omega
  by_cases hx0:x.2=0
  ·have t0:(x.2 != 0)=false:=by simpa using hx0
   obtain ⟨v,v',w',h10,hr,h10',hvN,hOw,kf,ko,hC,h10b⟩:=hI.step (by omega) (by omega) (by omega) (by omega) hx0 hOB hpl;obtain ⟨A',c',hv',_⟩:=hOw.at_;obtain ⟨n',hn'⟩:∃n',n'=((pre++[x]).map (·.1)).length:=⟨_,rfl⟩;rw [←hn']at hv';clear hn' hOw hvN;subst hv';have HR:=Lib.hid hr;have HKF:=Lib.hid kf;have HKO:=Lib.hid ko;have HC:=Lib.hid hC;have c10:=h10.cell 0;have z10:=h10.lt;have d10:=h10'.cell 0;have f10:=h10'.free 0;have y10:=h10'.lt;have y0:=hXB.cell 0;have y1:=hXB.cell 1;have y2:=hXB.cell 2;have y3:=hXB.cell 3;have yz:=hXB.lt;simp only[List.getElem?_toArray,List.getElem?_cons_zero,List.getElem?_cons_succ]at y0 y1 y2 y3;clear hr kf ko hC h10b hI hG hx0;gi_wp2_with (gi_at_builtin;refine wpListIn_append_run0 _ rfl _ _ 39 39 rfl _ _ rfl rfl _ _ HR.out ?_);exact ⟨HKF.out,HKO.out,HC.out⟩
  ·have t0:(x.2 != 0)=true:=by simpa using hx0
   have V8:=HH8.out.ext hI.1;have V9:=HH9.out.ext hI.1;have c8:=V8.cell 0;have f8:=V8.free 0;have z8:=V8.lt;have c9:=V9.cell 0;have f9:=V9.free 0;have z9:=V9.lt;have EV:=Lib.hid (HE1.out.trans hI.1);have HX0:=Lib.hid hx0;have HV8:=Lib.hid V8;have HV9:=Lib.hid V9;clear hI hG hx0 V8 V9 hXB;gi_wp2;have q8:Has (V.setCell ⟨b8,0,none⟩ (.slice none 0 0)) b8 (.cells #[.slice none 0 0] 39):=Has.setCell HV8.out 0 _;have q9:Has (V.setCell ⟨b8,0,none⟩ (.slice none 0 0)) b9 (.cells #[.int .i64 0] 47):=(Only.setCell V b8 0 _).has HV9.out (by simp;omega);have o9:Only [b8,b9] V ((V.setCell ⟨b8,0,none⟩ (.slice none 0 0)).setCell ⟨b9,0,none⟩ (.int .i64 x.2)):=((Only.setCell V b8 0 _).mono (by simp)).then ((Only.setCell _ b9 0 _).mono (by simp));exact ⟨o9.keepsFrom (fun y hy=>.inl (by simp at hy;omega)),rfl,o9.after EV.out (fun y hy=>by simp at hy;omega),(Only.setCell _ b9 0 _).has q8 (by simp;omega),pre,x,rfl,HX0.out,Has.setCell q9 0 _⟩
 case done =>
  rintro D O xs V hD hxs hI hK;obtain ⟨h0,hmap⟩:=told_zero (l:=l) (b:=b0) (e:=e0) (by rw[←hxs];exact hI.2.2.2.1);obtain ⟨a1,a2,⟨v,a3,a4,a5⟩,a6,a7,a8⟩:=hI;rw [hxs,hmap]at a4;have V8:=HH8.out.ext a1;have V9:=HH9.out.ext a1;have c8:=V8.cell 0;have f8:=V8.free 0;have z8:=V8.lt;have c9:=V9.cell 0;have f9:=V9.free 0;have z9:=V9.lt;have c10:=a3.cell 0;have z10:=a3.lt;have EV:=Lib.hid (HE1.out.trans a1);have HV8:=Lib.hid V8;have HV9:=Lib.hid V9;have HO:=Lib.hid a4;obtain ⟨A',c',hv',_⟩:=a4.at_;obtain ⟨n',hn'⟩:∃n',n'=l.length:=⟨_,rfl⟩;rw [←hn']at hv';have H0:=Lib.hid h0;have HK:=Lib.hid hK;clear a1 a2 a3 a4 a5 a6 a7 a8 V8 V9 hxs hmap h0 hK hn';subst hv';gi_wp2;obtain ⟨V2,hV2⟩:∃V2,V2=(V.setCell ⟨b8,0,none⟩ (.slice A' n' c')).setCell ⟨b9,0,none⟩ (.int .i64 0):=⟨_,rfl⟩;rw [←hV2];have o2:Only [b8,b9] V V2:=by rw[hV2];exact ((Only.setCell V b8 0 _).mono (by simp)).then ((Only.setCell _ b9 0 _).mono (by simp))
  have q8:Has V2 b8 (.cells #[.slice A' n' c'] 39):=by rw[hV2];exact (Only.setCell _ b9 0 _).has (Has.setCell HV8.out 0 _) (by simp;omega)
  have q9:Has V2 b9 (.cells #[.int .i64 0] 47):=by rw[hV2];exact Has.setCell ((Only.setCell V b8 0 _).has HV9.out (by simp;omega)) 0 _
  have hK2:=o2.has HK.out (by simp;omega);refine ⟨by simp,.inl ⟨_,_,rfl,run_takeDeferred hK2,?_⟩⟩;have o3:Only [b8,b9,D] V (V2.putObj D (.deferred none)):=(o2.mono (by simp)).then ((Only.putObj V2 D _).mono (by simp));have r8:=((Only.putObj V2 D (.deferred none)).has q8 (by simp;omega)).cell 0;have r9:=((Only.putObj V2 D (.deferred none)).has q9 (by simp;omega)).cell 0;refine ⟨.tuple #[.slice A' n' c',.int .i64 0],by simp[results,Tryz.results17,go_sem,r8,r9],.slice A' n' c',by first|rfl|rw[H0.out],?_,o3.after EV.out (fun x hx=>by simp at hx;omega)⟩
  try rw[if_pos H0.out]
  refine (HO.out.only o3 fun g hg hm=>?_).base (by omega);have hgN:=(HO.out.lt hg).1;simp at hm;rcases hm with hm|hm|hm
  ·omega
  ·omega
  ·subst hm
   obtain ⟨t,⟨cc,f,hc⟩,_⟩:=HO.out.ownB hg;have:=HK.out;rw [hc]at this;cases this
 case stop =>
  rintro D cc pre V hD hp ⟨rfl,hE,h8,q,y,rfl,hy,h9⟩ hK;obtain ⟨e1,e2,e3⟩:=told_last hp hy;have EV:=hE;gi_wp2;refine ⟨by simp,.inl ⟨_,_,rfl,run_takeDeferred hK,?_⟩⟩;have r8:=((Only.putObj V D (.deferred none)).has h8 (by simp;omega)).cell 0;have r9:=((Only.putObj V D (.deferred none)).has h9 (by simp;omega)).cell 0;rw [e1]at r9;refine ⟨.tuple #[.slice none 0 0,.int .i64 e0],by simp[results,Tryz.results17,go_sem,r8,r9],.slice none 0 0,rfl,?_,(Only.putObj V D _).after EV (fun x hx=>by simp at hx;omega)⟩
  try rw[if_neg e2]
  exact OwnP.nil _ _
end Go.Proofs.YtpibnfdolojpcaaGreat
namespace Go.Proofs.YtpibnfdolojpcaaGreat
open Go.ChangeShapes Go.WideShapes Go.ChangeAt Go.RowKit
abbrev FrmD:=SpotD×Value
abbrev frC (x:FrmD):List Value:=[.int .i64 x.1.dir,.string (bs x.1.name),.int .i64 x.1.no,.int .i64 x.1.depth,x.2]
def frCells (l:List FrmD):List Value:=l.flatMap frC
theorem frCells_len (l:List FrmD):(frCells l).length=l.length*5:=by
 unfold frCells
 induction l with
 | nil=>rfl
 | cons x l ih=>rw[List.flatMap_cons,List.length_append,ih];simp;omega
theorem frCells_append (a b:List FrmD):frCells (a++b)=frCells a++frCells b:=by unfold frCells;rw[List.flatMap_append]
theorem frCells_get (l:List FrmD):∀k,(h:k<l.length)→∀j,j<5→(frCells l)[k*5+j]?=(frC l[k])[j]?:=by
 induction l with
 | nil=>intro k h;cases h
 | cons x l ih =>
  intro k h j hj;have e:frCells (x::l)=frC x++frCells l:=rfl;rw [e]
  cases k with
  | zero =>
   simp only[Nat.zero_mul,Nat.zero_add,List.getElem_cons_zero];rw [List.getElem?_append_left (by simpa using hj)]
  | succ k =>
   have:=ih k (by simpa using h) j hj;rw [List.getElem?_append_right (by simp;omega)];simp only[List.length_cons,List.length_nil,List.getElem_cons_succ];rw [show (k+1)*5+j-(0+1+1+1+1+1)=k*5+j by omega];exact this
theorem infoFrm:(Tryz.prog.info? 144).map (fun i=>(i.zero,i.size,i.bytes))=some (some (.agg #[.int .i64 0,.string ⟨#[]⟩,.int .i64 0,.int .i64 0,.slice none 0 0]),5,64):=by kernel_rfl
def OwnF (w:World) (base:Nat) (v:Value) (l:List FrmD):Prop:=w.ownsRow base 144 5 v l.length (frCells l)
theorem OwnF.cases {w:World} {base:Nat} {v:Value} {l:List FrmD} (h:OwnF w base v l) :
  (v=.slice none 0 0∧l=[])∨∃g cap cur,v=.slice (some ⟨g,0,none⟩) l.length cap∧base≤g∧Has w g (.cells cur 144)∧l.length≤cap∧cap≤maxLen∧∀k,(h:k<l.length)→∀j,j<5→w.cell? ⟨g,k*5+j,none⟩=(frC l[k])[j]?:=by
 rcases h.2 with⟨e,h0⟩|⟨g,cap,cur,rfl,hb,hg,hn,hm,hs,ht⟩
 ·exact .inl ⟨e,List.eq_nil_of_length_eq_zero h0⟩
 ·refine .inr ⟨g,cap,cur,rfl,hb,hg,hn,hm,fun k hk j hj=>?_⟩
  have:=World.ownsRow.cellAt h (k*5+j) (by omega);rw [this];exact frCells_get l k hk j hj
theorem OwnF.ext {w w':World} {base:Nat} {v:Value} {l:List FrmD} (h:OwnF w base v l) (k:Ext w w'):OwnF w' base v l:=World.ownsRow.kept h k.grownBy (by cases v.ownBlock<;>simp)
theorem OwnF.only {w w':World} {base:Nat} {v:Value} {l:List FrmD} {L:List Nat} (h:OwnF w base v l) (o:Only L w w') (hn:∀g,v.ownBlock=some g→g∉L):OwnF w' base v l:=ownsRow_only h o hn
theorem OwnF.keep {w w':World} {base:Nat} {v:Value} {l:List FrmD} (h:OwnF w base v l) (hk:∀g,v.ownBlock=some g→w'.heap[g]?=w.heap[g]?):OwnF w' base v l:=by
 refine ⟨h.1,?_⟩;rcases h.2 with e|⟨g,cap,cur,rfl,hb,hg,h1,h2,h3,h4⟩
 ·exact .inl e
 ·exact .inr ⟨g,cap,cur,rfl,hb,(hk g rfl).trans hg,h1,h2,h3,h4⟩
theorem OwnF.tag {w:World} {base g:Nat} {v:Value} {l:List FrmD} (h:OwnF w base v l) (hv:v.ownBlock=some g):HasTag w g 144:=by
 rcases h.2 with⟨rfl,_⟩|⟨g',cap,cur,rfl,hb,hg,_⟩
 ·cases hv
 ·injection hv with hv
  subst hv;exact ⟨_,_,hg⟩
theorem OwnF.ownB {w:World} {base g:Nat} {v:Value} {l:List FrmD} (h:OwnF w base v l) (hv:v.ownBlock=some g):OwnB w g:=⟨_,h.tag hv,by decide,by decide⟩
theorem OwnF.pop {w:World} {base:Nat} {g cap:Nat} {l:List FrmD} {x:FrmD} (h:OwnF w base (.slice (some ⟨g,0,none⟩) (l++[x]).length cap) (l++[x])):OwnF w base (.slice (some ⟨g,0,none⟩) l.length cap) l:=by
 refine ⟨by rw[frCells_len],?_⟩;rcases h.2 with⟨e,_⟩|⟨g',cap',cur,hv,hb,hg,hn,hm,hs,ht⟩
 ·cases e
 ·injection hv with h1 h2 h3
  injection h1 with h1;injection h1 with h1;subst h1;subst h3;refine .inr ⟨g,cap,cur,rfl,hb,hg,by rw[List.length_append]at hn;omega,hm,hs,?_⟩;have e:cur.toList.take (l.length*5)=(cur.toList.take ((l++[x]).length*5)).take (l.length*5):=by rw[List.take_take];congr 1;rw[List.length_append];omega
  rw [e,ht,frCells_append,List.take_left' (frCells_len l)]
theorem OwnF.setLeft {w:World} {base:Nat} {g cap:Nat} {l:List FrmD} {x:SpotD} {v0:Value} (v:Value) (h:OwnF w base (.slice (some ⟨g,0,none⟩) (l++[(x,v0)]).length cap) (l++[(x,v0)])) :
  OwnF (w.setCell ⟨g,l.length*5+4,none⟩ v) base (.slice (some ⟨g,0,none⟩) (l++[(x,v)]).length cap) (l++[(x,v)]):=by
 refine ⟨by rw[frCells_len],?_⟩;rcases h.2 with⟨e,_⟩|⟨g',cap',cur,hv,hb,hg,hn,hm,hs,ht⟩
 ·cases e
 ·injection hv with h1 h2 h3
  injection h1 with h1;injection h1 with h1;subst h1;subst h3;have hl:(l++[(x,v0)]).length=l.length+1:=by simp
  have hl':(l++[(x,v)]).length=l.length+1:=by simp
  have hg2:Has w g (.cells cur 144):=hg;have hlt:l.length*5+4<cur.size:=by
   have:=congrArg List.length ht;rw [frCells_len,List.length_take,hl,Array.length_toList]at this;omega
  refine .inr ⟨g,cap,cur.setIfInBounds (l.length*5+4) v,rfl,hb,?_,by rw[hl'] ;rw[hl]at hn;exact hn,hm,?_,?_⟩
  ·exact Has.setCell hg2 _ v
  ·rw[Array.size_setIfInBounds];exact hs
  ·rw [hl']
   rw [hl]at ht;have e5:(l.length+1)*5=l.length*5+5:=by omega
   rw [e5]at ht⊢;rw [Array.toList_setIfInBounds,List.take_set];rw [ht,frCells_append,frCells_append,List.set_append_right _ _ (by rw[frCells_len];omega),frCells_len];rw [show l.length*5+4-l.length*5=4 by omega];rfl
theorem app_frm (w:World) {base:Nat} {v:Value} {l:List FrmD} (h:OwnF w base v l) (hb:base≤w.heap.size) (x:FrmD) (hx:x.2.oneCell'=true) (hl:l.length≤2000000) :
  ∃ v' w',(Builtin.append_ #[145,145] 145 #[v,.slice (some ⟨w.heap.size,0,none⟩) 1 1]).run Tryz.prog (w.alloc (.cells (frC x).toArray 144))=.ok v' w'∧OwnF w' base v' (l++[x])∧(w.alloc (.cells (frC x).toArray 144)).grownBy w' v.ownBlock∧(v'.ownBlock=v.ownBlock∨v'.ownBlock=some (w.heap.size+1)):=by
 have hN:=Has.new w (.cells (frC x).toArray 144);have E:Ext w (w.alloc (.cells (frC x).toArray 144)):=(Ext.refl _).alloc _;obtain ⟨i0,hi,hz0,hz1,hz2⟩:=info_parts infoFrm;obtain ⟨v',w',hr,h3,h4,_,h5⟩:=run_append_own_at (P:=Tryz.prog) (w:=w.alloc (.cells (frC x).toArray 144)) base 145 145 144 i0 (.agg #[.int .i64 0,.string ⟨#[]⟩,.int .i64 0,.int .i64 0,.slice none 0 0]) 5 64 Tryz.underlying145 hi hz0 hz1 hz2 rfl (by decide) v l.length _ (h.ext E) ⟨w.heap.size,0,none⟩ 1 1 (frC x) rfl
  (by
   intro j u hu;rw [Addr.add_lit,Nat.zero_add];rw [hN.cell j];simpa using hu)
  (by
   intro u hu;simp only[List.mem_cons,List.not_mem_nil,or_false]at hu;rcases hu with rfl|rfl|rfl|rfl|rfl
   all_goals first|rfl|exact hx) (by unfold maxLen;omega) (by omega) (by simp;omega)
 refine ⟨v',w',hr,?_,h4,by rw[World.size_alloc]at h5;exact h5⟩;unfold OwnF;rw [frCells_append,List.length_append];have e:frCells [x]=frC x:=by unfold frCells;simp
 rw [e];exact h3
def LeftAt (w:World) (O:List Nat) (bx:Nat) (v:Value) (l:List SpotD):Prop:=
 ∃ A cap,v=.slice A l.length cap∧l.length≤cap∧cap≤maxLen∧((A=none∧l=[])∨∃g o,A=some ⟨g,o,none⟩∧g∈O∧g≠bx∧HasTag w g 41∧∀k,(h:k<l.length)→∀j,j<4→w.cell? ⟨g,o+k*4+j,none⟩=(spotC l[k])[j]?)
theorem LeftAt.of {w:World} {O:List Nat} {bx base:Nat} {v:Value} {l:List SpotD} (h:OwnP w base v l) (hO:∀g,v.ownBlock=some g→g∈O∧g≠bx):LeftAt w O bx v l:=by
 rcases h.cases with⟨rfl,rfl⟩|⟨g,cap,cur,rfl,hb,hg,hn,hm,hc⟩
 ·exact⟨none,0,rfl,Nat.le_refl _,by decide,.inl ⟨rfl,rfl⟩⟩
 ·exact⟨_,cap,rfl,hn,hm,.inr ⟨g,0,rfl,(hO g rfl).1,(hO g rfl).2,⟨_,_,hg⟩,fun k hk j hj=>by rw[Nat.zero_add];exact hc k hk j hj⟩⟩
theorem cell_same {w w':World} {g:Nat} (h:w'.heap[g]?=w.heap[g]?) (o:Nat):w'.cell? ⟨g,o,none⟩=w.cell? ⟨g,o,none⟩:=by
 simp only[World.cell?,h]
theorem LeftAt.keep {w w':World} {O O':List Nat} {bx:Nat} {v:Value} {l:List SpotD} (h:LeftAt w O bx v l) (hk:∀g∈O,g≠bx→HasTag w g 41→g∈O'∧w'.heap[g]?=w.heap[g]?):LeftAt w' O' bx v l:=by
 obtain ⟨A,cap,rfl,h1,h2,h3⟩:=h;refine ⟨A,cap,rfl,h1,h2,?_⟩;rcases h3 with h3|⟨g,o,rfl,h4,h5,h6,h7⟩
 ·exact .inl h3
 ·obtain ⟨k1,k2⟩:=hk g h4 h5 h6
  refine .inr ⟨g,o,rfl,k1,h5,?_,fun k hk j hj=>(cell_same k2 _).trans (h7 k hk j hj)⟩;obtain ⟨c,f,h⟩:=h6;exact ⟨c,f,k2.trans h⟩
theorem LeftAt.tail {w:World} {O:List Nat} {bx:Nat} {v:Value} {y:SpotD} {l:List SpotD} (h:LeftAt w O bx v (y::l)) :
  ∃ g o cap,v=.slice (some ⟨g,o,none⟩) (l.length+1) cap∧l.length+1≤cap∧g<w.heap.size∧g∈O∧g≠bx∧HasTag w g 41∧w.cell? ⟨g,o,none⟩=some (.int .i64 y.dir)∧w.cell? ⟨g,o+1,none⟩=some (.string (bs y.name))∧w.cell? ⟨g,o+2,none⟩=some (.int .i64 y.no)∧w.cell? ⟨g,o+3,none⟩=some (.int .i64 y.depth) ∧
   LeftAt w O bx (.slice (if cap=1 then some ⟨g,o,none⟩ else some ⟨g,o+4,none⟩) l.length (cap-1)) l:=by
 obtain ⟨A,cap,rfl,h1,h2,h3⟩:=h;rcases h3 with⟨_,h3⟩|⟨g,o,rfl,h4,h5,h6,h7⟩
 ·cases h3
 ·have h0:0<(y::l).length:=by simp
  have hl:(y::l).length=l.length+1:=rfl;rw [hl]at h1;have hlt:g<w.heap.size:=by obtain⟨c,f,h⟩:=h6;exact (Array.getElem?_eq_some_iff.1 h).1
  refine ⟨g,o,cap,rfl,h1,hlt,h4,h5,h6,?_,?_,?_,?_,_,cap-1,rfl,by omega,by omega,?_⟩
  ·have:=h7 0 h0 0 (by decide);simpa using this
  ·have:=h7 0 h0 1 (by decide);simpa using this
  ·have:=h7 0 h0 2 (by decide);simpa using this
  ·have:=h7 0 h0 3 (by decide);simpa using this
  ·by_cases hc:cap=1
   ·rw [if_pos hc]
    have:l=[]:=List.eq_nil_of_length_eq_zero (by omega);subst this;exact .inr ⟨g,o,rfl,h4,h5,h6,fun k hk=>by cases hk⟩
   ·rw [if_neg hc]
    refine .inr ⟨g,o+4,rfl,h4,h5,h6,fun k hk j hj=>?_⟩;have:=h7 (k+1) (by simpa using hk) j hj;rw [show o+(k+1)*4+j=o+4+k*4+j by omega]at this;simpa using this
attribute [local go_sem] Oper.semAt_some
inductive UpR (st:List (SpotD×Int)→SysD) (go:List (SpotD×Int)→Prop) (cu cg:Int):List (SpotD×Int)→List (SpotD×List SpotD)→Nat→List (SpotD×Int)→Prop where
 | nil (pre):UpR st go cu cg pre [] 0 []
 | take {pre x way m L}:(go (pre++[(x,0)])→UpR st go cu cg (pre++[(x,0)]) way m L)→UpR st go cu cg pre ((x,[])::way) (m+1) ((x,0)::L)
 | push {pre x y left way m L}:inE (st pre) cu cg y=0→UpR st go cu cg pre ((y,inL (st pre) cu cg y)::(x,left)::way) m L→UpR st go cu cg pre ((x,y::left)::way) (m+1) L
 | bad {pre x y left way m}:inE (st pre) cu cg y≠0→UpR st go cu cg pre ((x,y::left)::way) (m+1) [(y,inE (st pre) cu cg y)]
def UpT (st:List (SpotD×Int)→SysD) (go:List (SpotD×Int)→Prop) (cu cg dir:Int) (nm:List UInt8) (M:Nat) (L:List (SpotD×Int)):Prop:=
 (firstE (st []) cu cg dir nm≠0∧L=[(firstX (st []) cu cg dir nm,firstE (st []) cu cg dir nm)]) ∨
 (firstE (st []) cu cg dir nm=0∧inE (st []) cu cg (firstX (st []) cu cg dir nm)≠0∧L=[(firstX (st []) cu cg dir nm,inE (st []) cu cg (firstX (st []) cu cg dir nm))]) ∨
 (firstE (st []) cu cg dir nm=0∧inE (st []) cu cg (firstX (st []) cu cg dir nm)=0∧UpR st go cu cg [] [(firstX (st []) cu cg dir nm,inL (st []) cu cg (firstX (st []) cu cg dir nm))] M L)
theorem inL_len {c:Nat} {s:SysD} (h:Sane c s) (cu cg:Int) (x:SpotD):(inL s cu cg x).length≤c:=by
 unfold inL rdL;split
 ·exact Nat.zero_le _
 ·exact intoL_len h.tre cu cg x
theorem inL_depth {s:SysD} {cu cg:Int} {x y:SpotD} (h:y∈inL s cu cg x):y.depth=x.depth+1:=by
 unfold inL rdL at h;split at h
 ·cases h
 ·exact intoL_depth h
theorem up_seq {c : Nat} (F:Fence) (hF:F=Fence.wide) (n:Nat) (hn:1≤n) (b:Nat) (st:List (SpotD×Int)→SysD) (go:List (SpotD×Int)→Prop) (k:Nat) (cu cg dir:Int) (nm:List UInt8) (M:Nat) (L:List (SpotD×Int))
  (hs:∀pre,pre <+: L→Sane c (st pre)) (hc:c≤900) (hT:UpT st go cu cg dir nm M L) (hM:M≤100000) (w0:World) :
  SeqO F n Tryz.prog 89 #[.pointer (some ⟨k,0,none⟩),.pointer (some ⟨k+1,0,none⟩),.pointer (some ⟨k+2,0,none⟩),.pointer (some ⟨k+3,0,none⟩)] encD (fun xs=>xs=L) (fun pre=>pre <+: L)
   (fun pre x=>pre++[x] <+: L) (fun pre V=>go pre∧(∃B g,PS V B b g (st pre))∧CapD V k b cu cg dir nm) w0:=by
 intro lp J Jx W _ hJ1 hJ2 hJx hY h0;have hro:F.round=none:=by rw[hF];rfl
 have hfn:F.fn 89:=by rw[hF];trivial
 have hf1:F.fn 87:=by rw[hF];trivial
 have hf2:F.fn 88:=by rw[hF];trivial
 obtain ⟨X,hX⟩:∃X,X=firstX (st []) cu cg dir nm:=⟨_,rfl⟩;obtain ⟨e1,he1⟩:∃e1,e1=firstE (st []) cu cg dir nm:=⟨_,rfl⟩;have CF:∀(j:Nat) (u:World),(∃B g,PS u B b g (st []))→CallsIn F j Tryz.prog 87 #[.pointer (some ⟨b,0,none⟩),.agg #[.int .i64 cu,.int .i64 cg],.int .i64 dir,.string (bs nm)] u (Ret u (.tuple #[.agg #[.int .i64 X.dir,.string (bs X.name),.int .i64 X.no,.int .i64 X.depth],.int .i64 e1])):=by
  rw [hF,hX,he1];exact fun j u ⟨B,g,hu⟩=>callsIn_wide.2 (hu.first (hs [] List.nil_prefix) hc cu cg dir nm)
 have CI:Hid (∀(pre:List (SpotD×Int)),pre <+: L→∀(j:Nat) (u:World) (x:SpotD),0≤x.depth→x.depth≤1000000→(∃B g,PS u B b g (st pre))→CallsIn F j Tryz.prog 88 #[.pointer (some ⟨b,0,none⟩),.agg #[.int .i64 cu,.int .i64 cg],.agg #[.int .i64 x.dir,.string (bs x.name),.int .i64 x.no,.int .i64 x.depth]] u (IntoR u (inL (st pre) cu cg x) (inE (st pre) cu cg x))):=by
  show ∀_ _ _ _ _,_;rw [hF];exact fun pre hp j u x h1 h2 ⟨B,g,hu⟩=>callsIn_wide.2 (hu.into (hs pre hp) hc cu cg x h1 h2)
 have hXd:X.depth=0:=by rw[hX];rfl
 unfold UpT at hT;rw [←hX,←he1]at hT;have HT:=Lib.hid hT;have HS:=Lib.hid hs;have HXD:=Lib.hid hXd;have HJ1:=Lib.hid hJ1;have HJ2:=Lib.hid hJ2;have HJX:=Lib.hid hJx;have HY:=Lib.hid hY;clear hF hT hX he1 hs hXd;obtain ⟨⟨_,hP0,hC0⟩,_,_⟩:=hJ1 _ _ _ h0;have k0:=hC0.1.cell 0;have k1:=hC0.2.1.cell 0;have k2:=hC0.2.1.cell 1;have k3:=hC0.2.2.1.cell 0;have k4:=hC0.2.2.2.cell 0;have z0:=hC0.1.lt;have z1:=hC0.2.1.lt;have z2:=hC0.2.2.1.lt;have z3:=hC0.2.2.2.lt;have CF0:=Lib.hid (CF (n-1) W hP0);have H0:=Lib.hid h0;have hJ0:=h0;clear hJ1 hJ2 hJx hY h0 CF hP0;refine callsIn_of_wp Tryz.func89 rfl hfn ?_ hro;simp only[Tryz.ntmps89,List.size_toArray,List.length_cons,List.length_nil,Nat.reduceAdd,Nat.reduceSub,Array.replicate_succ,Array.replicate_zero,List.push_toArray,List.append_toArray,List.nil_append,List.cons_append];refine wpIn_scope_straight ?_;gi_upto_if 20 with (gi_at_call 87;refine CF0.out.mono ?_;rintro e w1 ⟨rfl,b1⟩);obtain ⟨W2,hW2⟩:∃V,V=w1.alloc (.cells #[.int .i64 X.dir,.string (bs X.name),.int .i64 X.no,.int .i64 X.depth] 41):=⟨_,rfl⟩;obtain ⟨bx,hbx⟩:∃b,b=w1.heap.size:=⟨_,rfl⟩;have HX2:Has W2 bx (.cells (spotC X).toArray 41):=by rw[hW2,hbx];exact Has.new w1 _
 have E2:Ext W W2:=by rw[hW2];exact b1.alloc _
 have hbxw:W.heap.size≤bx:=by have:=b1.size;omega
 have hJ2:J [bx] [] W2:=HJ2.out [] [] W [bx] W2 H0.out (Only.of_ext E2) (fun x hx=>by
   rw [List.mem_singleton]at hx;exact .inr (by omega)) (fun x hx=>by
   rw [List.mem_singleton]at hx;subst hx;exact OwnB.of HX2 (by decide) (by decide))
 rw [←hW2,←hbx];clear hW2 hbx k0 k1 k2 k3 k4 z0 z1 z2 z3 b1 CF0 H0 E2 hC0 hJ0;gi_cut [7,8] from 19 (fun ve vl wc=>∃(e2:Int) (l2:List SpotD) (O:List Nat),ve=.int .i64 e2∧J O [] wc∧bx∈O∧Has wc bx (.cells (spotC X).toArray 41)∧LeftAt wc O bx vl l2∧l2.length≤900∧(∀z∈l2,z.depth=1) ∧
  ((e2=0∧UpR st go cu cg [] [(X,l2)] M L)∨(e2≠0∧L=[(X,e2)])))
 case first =>
  by_cases h1:e1=0
  ·subst h1
   obtain ⟨⟨_,P2,C2⟩,_⟩:=HJ1.out _ _ _ hJ2;have k0:=C2.1.cell 0;have k1:=C2.2.1.cell 0;have k2:=C2.2.1.cell 1;have z0:=C2.1.lt;have z1:=C2.2.1.lt;have x0:=HX2.cell 0;have x1:=HX2.cell 1;have x2:=HX2.cell 2;have x3:=HX2.cell 3;have xz:=HX2.lt;simp only[List.getElem?_toArray,List.getElem?_cons_zero,List.getElem?_cons_succ]at x0 x1 x2 x3;have CI0:=Lib.hid (CI.out [] List.nil_prefix (n-1) W2 X (by rw[HXD.out];decide) (by rw[HXD.out];decide) P2);have HJ:=Lib.hid hJ2;have HX:=Lib.hid HX2;clear hJ2 HX2 P2 C2 CI;gi_wp2_with (gi_at_call 88;refine CI0.out.mono ?_;rintro e w3 ⟨v3,rfl,hO3,b3⟩);have X3:=HX.out.ext b3;have hJ3:J ([bx]++v3.ownBlock.toList) [] w3:=HJ2.out [bx] [] W2 _ w3 HJ.out (Only.of_ext b3) (fun y hy=>(List.mem_append.1 hy).imp id (fun hm=>(hO3.lt (Option.mem_toList.1 hm)).1)) (fun y hy=>(List.mem_append.1 hy).elim (fun hm=>((HJ1.out _ _ _ HJ.out).2.2 y hm).2.ext b3) (fun hm=>hO3.ownB (Option.mem_toList.1 hm)));gi_meet
   case rel =>
    refine ⟨_,_,_,rfl,hJ3,by simp,X3,LeftAt.of hO3 (fun g hg=>⟨List.mem_append_right _ (Option.mem_toList.2 hg),fun e=>?_⟩),Nat.le_trans (inL_len (HS.out [] List.nil_prefix) cu cg X) hc,fun z hz=>by rw[inL_depth hz,HXD.out];rfl,?_⟩
    ·have:=(hO3.lt hg).1
     have:=HX.out.lt;omega
    ·rcases HT.out with⟨h,_⟩|⟨_,h,h2⟩|⟨_,h,h2⟩
     ·exact absurd rfl h
     ·exact .inr ⟨h,h2⟩
     ·exact .inl ⟨h,h2⟩
  ·have t1:(e1 == 0)=false:=by simpa using h1
   have HX:=Lib.hid HX2;have H1:=Lib.hid h1;clear HX2 CI h1;gi_wp2;gi_meet
   case rel =>
    refine ⟨_,[],[bx],rfl,hJ2,by simp,HX.out,⟨none,0,rfl,Nat.le_refl _,by decide,.inl ⟨rfl,rfl⟩⟩,by simp,fun z hz=>(by cases hz),.inr ⟨H1.out,?_⟩⟩;rcases HT.out with⟨_,h⟩|⟨h,_⟩|⟨h,_⟩
    ·exact h
    ·exact absurd h H1.out
    ·exact absurd h H1.out
 case rest =>
  obtain ⟨e2,l2,O,rfl,hJ,hbO,hX,hL,hl2,hl2d,hrest⟩:=hcut;clear hJ2 HX2;have x0:=hX.cell 0;have x1:=hX.cell 1;have x2:=hX.cell 2;have x3:=hX.cell 3;have xz:=hX.lt;simp only[List.getElem?_toArray,List.getElem?_cons_zero,List.getElem?_cons_succ]at x0 x1 x2 x3;have HL:=Lib.hid hL;obtain ⟨A,cap,rfl,_⟩:=hL;have HR:=Lib.hid hrest;have HXX:=Lib.hid hX;obtain ⟨n2,hn2⟩:∃n2,n2=l2.length:=⟨_,rfl⟩;rw [←hn2];rw [←hn2]at HL;have HD:=Lib.hid hl2d;clear hrest hX hn2 hl2d;gi_wp2;refine wpIn_label ?_;obtain ⟨W3,hW3⟩:∃V,V=wc.alloc (.cells #[.int .i64 X.dir,.string (bs X.name),.int .i64 X.no,.int .i64 X.depth,.slice A n2 cap] 144):=⟨_,rfl⟩;obtain ⟨br,hbr⟩:∃b,b=wc.heap.size:=⟨_,rfl⟩;have E3:Ext wc W3:=by rw[hW3];exact (Ext.refl _).alloc _
  have HR3:Has W3 br (.cells (frC (X,.slice A n2 cap)).toArray 144):=by rw[hW3,hbr];exact Has.new wc _
  have hbrw:W.heap.size≤br:=by have:=(HJ1.out _ _ _ hJ).2.1;omega
  have hbrx:br≠bx:=by omega
  have hJ3:J (br::O) [] W3:=HJ2.out O [] wc (br::O) W3 hJ (Only.of_ext E3) (fun x hx=>by
    rcases List.mem_cons.1 hx with rfl|hx
    ·exact .inr (by omega)
    ·exact .inl hx) (fun x hx=>by
    rcases List.mem_cons.1 hx with rfl|hx
    ·exact OwnB.of HR3 (by decide) (by decide)
    ·exact ((HJ1.out _ _ _ hJ).2.2 x hx).2.ext E3)
  have HX3:=HXX.out.ext E3;have hO3:OwnF W3 W.heap.size (.slice (some ⟨br,0,none⟩) 1 1) [(X,.slice A n2 cap)]:=⟨rfl,.inr ⟨br,1,_,rfl,hbrw,HR3,Nat.le_refl _,by decide,rfl,rfl⟩⟩;have hL3:LeftAt W3 (br::O) bx (.slice A n2 cap) l2:=HL.out.keep (fun g hg _ ht=>⟨List.mem_cons_of_mem _ hg,by obtain⟨_,_,h⟩:=ht;exact Below.block E3 g (Array.getElem?_eq_some_iff.1 h).1⟩);rw [←hW3,←hbr];have HRR:=Lib.hid hL3;clear hW3 hbr hJ HL HXX E3 x0 x1 x2 x3 xz hL3;gi_wp2;gi_loopg [7,9] M (fun m ve vt wr=>∃(e2:Int) (fs:List (SpotD×Value×List SpotD)) (x:SpotD) (O:List Nat) (pre:List (SpotD×Int)),ve=.int .i64 e2∧J O pre wr∧bx∈O∧Has wr bx (.cells (spotC x).toArray 41)∧OwnF wr W.heap.size vt (fs.map fun f=>(f.1,f.2.1)).reverse∧(∀g,vt.ownBlock=some g→g∈O)∧(∀f∈fs,LeftAt wr O bx f.2.1 f.2.2) ∧
   ((e2=0∧m≤M∧fs.length≤1+(M-m)∧(∀f∈fs,∀z∈f.2.2,0≤z.depth∧z.depth≤1+((M-m:Nat):Int))∧∃L1,UpR st go cu cg pre (fs.map fun f=>(f.1,f.2.2)) m L1∧L=pre++L1)∨(e2≠0∧L=pre++[(x,e2)])))
  case atStart =>
   refine ⟨e2,[(X,.slice A n2 cap,l2)],X,_,[],rfl,hJ3,List.mem_cons_of_mem _ hbO,HX3,hO3,fun g hg=>by injection hg with hg;subst hg;exact List.mem_cons_self ..,fun f hf=>?_,?_⟩
   ·rw[List.mem_singleton]at hf;subst hf;exact HRR.out
   ·rcases HR.out with⟨h1,h2⟩|⟨h1,h2⟩
    ·refine .inl ⟨h1,Nat.le_refl _,by simp,fun f hf z hz=>?_,L,h2,rfl⟩
     rw [List.mem_singleton]at hf;subst hf;have:=HD.out z hz;omega
    ·exact .inr ⟨h1,h2⟩
  case round =>
   clear hJ3 HX3 HR3 hO3 HRR HR HD hbO;obtain ⟨e3,fs,x,O1,pre,rfl,hJ,hbO,hX,hO,hown,hleft,hrest⟩:=hrel;obtain ⟨fr,hfr⟩:∃fr,fr=(fs.map fun f=>(f.1,f.2.1)).reverse:=⟨_,rfl⟩;rw [←hfr]at hO;have hfl:fr.length=fs.length:=by rw[hfr,List.length_reverse,List.length_map]
   have x0:=hX.cell 0;have x1:=hX.cell 1;have x2:=hX.cell 2;have x3:=hX.cell 3;have xz:=hX.lt;simp only[List.getElem?_toArray,List.getElem?_cons_zero,List.getElem?_cons_succ]at x0 x1 x2 x3
   by_cases he:e3=0
   case neg =>
    have t2:(e3 == 0)=false:=by simpa using he
    have t3:(e3 != 0)=true:=by simpa using he
    have hLL:L=pre++[(x,e3)]:=by
     rcases hrest with⟨h1,_⟩|⟨_,h2⟩
     ·exact absurd h1 he
     ·exact h2
    have HL:=Lib.hid hLL;obtain ⟨fn,tmps,assign,body,hy,hR⟩:=HY.out O1 pre (x,e3) wr hJ (by rw[hLL];exact List.prefix_refl _)
    try dsimp only[encD]at hy
    obtain ⟨A9,c9,hv9⟩:∃A9 c9,u9=.slice A9 fr.length c9:=by
     rcases hO.cases with⟨rfl,h⟩|⟨g,cap,_,rfl,_⟩
     ·exact⟨_,_,by rw[h];rfl⟩
     ·exact⟨_,_,rfl⟩
    obtain ⟨n9,hn9⟩:∃n9,n9=fr.length:=⟨_,rfl⟩;rw [←hn9]at hv9;clear he hrest hLL hown hO hleft hfl hfr hn9;subst hv9;gi_wp2;refine hR.mono ?_;rintro e W3 (⟨rfl,hJ3,hk3⟩|⟨rfl,hJx3⟩)
    ·gi_wp2
     simp only[Exit.noGoto];go_end0;exact ⟨⟨_,rfl⟩,.inl ⟨_,_,HL.out.symm,hJ3⟩⟩
    ·gi_wp2
     simp only[Exit.noGoto];go_end0;exact ⟨⟨_,rfl⟩,.inr ⟨_,by rw[HL.out];exact List.prefix_refl _,hJx3⟩⟩
   obtain ⟨_,hmM,hfsl,hdep,L1,hD,hLL⟩:e3=0∧gk≤M∧fs.length≤1+(M-gk)∧(∀f∈fs,∀z∈f.2.2,0≤z.depth∧z.depth≤1+((M-gk:Nat):Int))∧∃L1,UpR st go cu cg pre (fs.map fun f=>(f.1,f.2.2)) gk L1∧L=pre++L1:=by
    rcases hrest with h1|⟨h1,_⟩
    ·exact h1
    ·exact absurd he h1
   subst he;clear hrest;rcases fs with _|⟨⟨x',v,left⟩,fs'⟩
   ·have hLp:L=pre:=by cases hD;rw[hLL,List.append_nil]
    have HL:=Lib.hid hLp;obtain rfl:fr=[]:=List.eq_nil_of_length_eq_zero hfl;obtain ⟨A9,c9,hv9⟩:∃A9 c9,u9=.slice A9 0 c9:=by
     rcases hO.cases with⟨rfl,h⟩|⟨g,cap,_,rfl,_⟩
     ·exact⟨_,_,rfl⟩
     ·exact⟨_,_,rfl⟩
    clear hD hLL hLp hdep hown hO hleft x0 x1 x2 x3 xz hfr hfl hfsl;subst hv9;gi_wp2;go_end0;exact ⟨⟨_,rfl⟩,.inl ⟨_,by rw[HL.out];exact hJ⟩⟩
   have hpre:pre <+: L:=by rw[hLL];exact List.prefix_append _ _
   obtain ⟨fr',hfr'⟩:∃fr',fr'=(fs'.map fun f=>(f.1,f.2.1)).reverse:=⟨_,rfl⟩;obtain ⟨way',hway'⟩:∃way',way'=fs'.map fun f=>(f.1,f.2.2):=⟨_,rfl⟩
   have hD2:UpR st go cu cg pre ((x',left)::way') gk L1:=by rw[hway'];exact hD
   have hfe:fr=fr'++[(x',v)]:=by rw[hfr,hfr',List.map_cons,List.reverse_cons]
   rw [hfe]at hO;obtain ⟨T,hT⟩:∃T,T=fr'.length:=⟨_,rfl⟩;have hTf:T=fs'.length:=by rw[hT,hfr',List.length_reverse,List.length_map]
   have hlr:(fr'++[(x',v)]).length=T+1:=by rw[List.length_append,hT];rfl
   obtain ⟨gw,cw,cur,rfl,hgw0,hgw,hcw1,hcw2,hcell⟩:∃g cap cur,u9=.slice (some ⟨g,0,none⟩) (T+1) cap∧W.heap.size≤g∧Has wr g (.cells cur 144)∧T+1≤cap∧cap≤maxLen∧∀j,j<5→wr.cell? ⟨g,T*5+j,none⟩=(frC (x',v))[j]?:=by
    rcases hO.cases with⟨_,h2⟩|⟨g,cap,cur,h1,h2,h3,h4,h5,h6⟩
    ·simp at h2
    ·rw [hlr]at h1 h4
     refine ⟨g,cap,cur,h1,h2,h3,h4,h5,fun j hj=>?_⟩;have:=h6 T (by rw[hlr];omega) j hj;rw [List.getElem_append_right (by rw[hT];exact Nat.le_refl _)]at this;simpa [hT]using this
   have hgwO:gw∈O1:=hown gw rfl;have hgwx:gw≠bx:=fun e=>by
    subst e;have h1:wr.heap[gw]?=_:=hgw;have h2:wr.heap[gw]?=_:=hX;rw [h1]at h2;cases h2
   have q0:wr.cell? ⟨gw,T*5,none⟩=some (.int .i64 x'.dir):=hcell 0 (by decide);have q1:wr.cell? ⟨gw,T*5+1,none⟩=some (.string (bs x'.name)):=hcell 1 (by decide);have q2:wr.cell? ⟨gw,T*5+2,none⟩=some (.int .i64 x'.no):=hcell 2 (by decide);have q3:wr.cell? ⟨gw,T*5+3,none⟩=some (.int .i64 x'.depth):=hcell 3 (by decide);have q4:wr.cell? ⟨gw,T*5+4,none⟩=some v:=hcell 4 (by decide);have qz:=hgw.lt;have hTM:T≤M:=by rw[hTf];have:=hfsl;simp at this;omega
   have w1w:IntKind.i64.wrap (T:Int)=(T:Int):=IntWalk.i64_in _ (by omega);have w2w:IntKind.i64.wrap ((T:Int)+1-1)=(T:Int):=by rw[IntWalk.i64_in _ (by omega)];omega
   have p0:(0:Int)≤(T:Int):=Int.natCast_nonneg _;have hOB:∀y∈O1,OwnB wr y:=fun y hy=>((HJ1.out _ _ _ hJ).2.2 y hy).2
   have hlv:LeftAt wr O1 bx v left:=hleft _ (List.mem_cons_self ..);have hlf:∀f∈fs',LeftAt wr O1 bx f.2.1 f.2.2:=fun f hf=>hleft _ (List.mem_cons_of_mem _ hf)
   have hdl:∀z∈left,0≤z.depth∧z.depth≤1+((M-gk:Nat):Int):=hdep _ (List.mem_cons_self ..);have hdf:∀f∈fs',∀z∈f.2.2,0≤z.depth∧z.depth≤1+((M-gk:Nat):Int):=fun f hf=>hdep _ (List.mem_cons_of_mem _ hf)
   have hfsl':fs'.length≤M-gk:=by simp at hfsl;omega
   have HLV:=Lib.hid hlv;have HLF:=Lib.hid hlf;have HDL:=Lib.hid hdl;have HDF:=Lib.hid hdf;have HFS:=Lib.hid hfsl';have HU:=Lib.hid hD2;have HLL:=Lib.hid hLL;have HO0:=Lib.hid hO;have HGW:=Lib.hid hgw;have HXX:=Lib.hid hX;have HF1:=Lib.hid hfr';have HW1:=Lib.hid hway';have HT1:=Lib.hid hT;have HTf:=Lib.hid hTf;have HOB:=Lib.hid hOB;have HLR:=Lib.hid hlr;have HOWN:=Lib.hid hown;have HPRE:=Lib.hid hpre;clear hleft hdep hD hD2 hfr hfl hfe hlv hlf hdl hdf hfsl hfsl' hLL hO hgw hX hfr' hway' hT hTf hOB hlr hcell hown hpre x0 x1 x2 x3;rcases left with _|⟨y,l'⟩
   ·
    obtain ⟨A5,c5,rfl,_⟩:=HLV.out;obtain ⟨m',L2,hm',hL2,hU⟩:∃m' L2,gk=m'+1∧L1=(x',0)::L2∧(go (pre++[(x',0)])→UpR st go cu cg (pre++[(x',0)]) way' m' L2):=by
     have h:=HU.out
     cases h with
     | take h=>exact⟨_,_,rfl,rfl,h⟩
    subst hm' hL2;have HUU:=Lib.hid hU;have KS:Hid (∀w9,Has w9 bx (.cells (spotC x').toArray 41)→Only [bx] wr w9→(J O1 pre w9∧w9.cell? ⟨bx,0,none⟩=some (.int .i64 x'.dir)∧w9.cell? ⟨bx,1,none⟩=some (.string (bs x'.name))∧w9.cell? ⟨bx,2,none⟩=some (.int .i64 x'.no)∧w9.cell? ⟨bx,3,none⟩=some (.int .i64 x'.depth)∧bx<w9.heap.size)):=by
     show ∀_,_;intro w9 R9 O9;exact ⟨HJ2.out O1 pre wr O1 w9 hJ (O9.mono (by simpa using hbO)) (fun y hy=>.inl hy) (fun y hy=>(HOB.out y hy).only O9 (fun z hz=>by rw[List.mem_singleton]at hz;subst hz;exact OwnB.of R9 (by decide) (by decide))),R9.cell 0,R9.cell 1,R9.cell 2,R9.cell 3,R9.lt⟩
    clear hU;simp only[List.length_nil]at q4;have hHYp:Hid (pre++[(x',0)] <+: L):=by show _ <+: _;rw[HLL.out];exact⟨L2,by simp⟩
    gi_wp2_with (refine wpListIn_store_spot rfl _ _ rfl bx x x' rfl rfl HXX.out ?_;intro w9 R9 O9;obtain⟨hJ9,y0,y1,y2,y3,yz⟩:=KS.out w9 R9 O9;obtain⟨fn,tmps,assign,body,hy,hR⟩:=HY.out O1 pre (x',0) w9 hJ9 hHYp.out;try dsimp only[encD]at hy);refine hR.mono ?_;rintro e W5 (⟨rfl,hJ5,hk5⟩|⟨rfl,hJx5⟩)
    ·have X5:Has W5 bx (.cells (spotC x').toArray 41):=(hk5 bx hbO).trans R9
     have F5:OwnF W5 W.heap.size (.slice (some ⟨gw,0,none⟩) T cw) fr':=by
      have h:=HO0.out;rw [←HLR.out]at h;have h2:=h.pop;rw [←HT1.out]at h2;exact (h2.only O9 (fun g hg=>by injection hg with hg;subst hg;simpa using hgwx)).keep (fun g hg=>by injection hg with hg;subst hg;exact hk5 _ hgwO)
     have L5:∀f∈fs',LeftAt W5 O1 bx f.2.1 f.2.2:=fun f hf=>(HLF.out f hf).keep (fun g hg hn _=>⟨hg,(hk5 g hg).trans (O9.block g (HOB.out g hg).lt (by simpa using hn))⟩)
     have HX5:=Lib.hid X5;have HF5:=Lib.hid F5;have HL5:=Lib.hid L5;have HJ5:=Lib.hid hJ5;have U5:=Lib.hid (HUU.out (HJ1.out _ _ _ hJ5).1.1);clear X5 F5 L5 hJ5 hJ9 R9 hk5 hy hR y0 y1 y2 y3 yz q0 q1 q2 q3 q4 qz hJ;gi_wp2;gi_roundg m'
     case measure=>exact Nat.lt_succ_self _
     case rel =>
      refine ⟨0,fs',x',O1,pre++[(x',0)],rfl,HJ5.out,hbO,HX5.out,by rw[←HF1.out];exact HF5.out,fun g hg=>by injection hg with hg;subst hg;exact hgwO,HL5.out,.inl ⟨rfl,by omega,by have:=HFS.out;omega,fun f hf z hz=>?_,L2,by rw[←HW1.out];exact U5.out,by rw[HLL.out,List.append_assoc];rfl⟩⟩;have:=HDF.out f hf z hz;omega
    ·gi_wp2
     simp only[Exit.noGoto];refine bodyPost_ret (results_none rfl _ _ _) rfl ?_;exact ⟨⟨_,rfl⟩,.inr ⟨_,hHYp.out,hJx5⟩⟩
   ·
    obtain ⟨gl,o,cl,rfl,hcl,hgl,hglO,hglx,hglt,r0,r1,r2,r3,htail⟩:=HLV.out.tail;obtain ⟨nl,hnl⟩:∃nl,nl=l'.length:=⟨_,rfl⟩;rw [←hnl]at htail hcl q4;obtain ⟨e9,he9⟩:∃e9,e9=inE (st pre) cu cg y:=⟨_,rfl⟩;obtain ⟨l4,hl4⟩:∃l4,l4=inL (st pre) cu cg y:=⟨_,rfl⟩;obtain ⟨m',hm',hU⟩:∃m',gk=m'+1∧((e9=0∧UpR st go cu cg pre ((y,l4)::(x',l')::way') m' L1)∨(e9≠0∧L1=[(y,e9)])):=by
     have h:=HU.out;rw [he9,hl4]
     cases h with
     | push h1 h2=>exact⟨_,rfl,.inl ⟨h1,h2⟩⟩
     | bad h1=>exact⟨_,rfl,.inr ⟨h1,rfl⟩⟩
    subst hm';have HUU:=Lib.hid hU;have hyd:=HDL.out y (List.mem_cons_self ..);have CIy:=Lib.hid (fun (j:Nat) (u:World) (hu:∃B g,PS u B b g (st pre))=>CI.out pre HPRE.out j u y hyd.1 (by omega) hu);rw [←he9,←hl4]at CIy;have hl4l:l4.length≤900:=by rw[hl4];exact Nat.le_trans (inL_len (HS.out pre HPRE.out) cu cg y) hc
    have hl4d:Hid (∀z∈l4,z.depth=y.depth+1):=by show ∀_∈_,_;rw[hl4];exact fun z hz=>inL_depth hz
    have KS:Hid (∀w9,Has w9 bx (.cells (spotC y).toArray 41)→Only [bx] wr w9→(w9.cell? ⟨gw,T*5+4,none⟩=some (.slice (some ⟨gl,o,none⟩) (nl+1) cl)∧w9.frozen? ⟨gw,T*5+4,none⟩=(decide (0≤T*5+4)&&decide (T*5+4<0))∧gw<w9.heap.size)):=by
     show ∀_,_;intro w9 R9 O9;have h9:Has w9 gw (.cells cur 144):=O9.has HGW.out (by simpa using hgwx);exact ⟨(cell_same (O9.block gw HGW.out.lt (by simpa using hgwx)) _).trans q4,h9.free _,h9.lt⟩
    have hcl1:1≤cl:=by omega
    have HTL:=Lib.hid htail;have HCL:=Lib.hid hcl;have H49:=Lib.hid (And.intro he9 hl4);have HJ:=Lib.hid hJ;have HNL:=Lib.hid hnl;clear hU hnl he9 hl4 htail hJ CI;gi_upto_region 10 with (refine wpListIn_store_spot rfl _ _ rfl bx x y rfl rfl HXX.out ?_;intro w9 R9 O9;obtain⟨y4,f4,yz4⟩:=KS.out w9 R9 O9);obtain ⟨vt,hvt⟩:∃vt:Value,vt=.slice (if cl=1 then some ⟨gl,o,none⟩ else some ⟨gl,o+4,none⟩) nl (cl-1):=⟨_,rfl⟩;rw [←hvt];have HT9:=HTL.out;rw [←hvt]at HT9;have hvt1:vt.oneCell'=true:=by rw[hvt];rfl
    obtain ⟨w10,hw10⟩:∃V,V=w9.setCell ⟨gw,T*5+4,none⟩ vt:=⟨_,rfl⟩;rw [←hw10];have O10:Only [bx,gw] wr w10:=by rw[hw10];exact (O9.mono (by simp)).then ((Only.setCell w9 gw _ _).mono (by simp))
    have R10:Has w10 bx (.cells (spotC y).toArray 41):=by rw[hw10];exact (Only.setCell w9 gw _ _).has R9 (by simpa using Ne.symm hgwx)
    have G10:HasTag w10 gw 144:=by rw[hw10];exact⟨_,_,Has.setCell (O9.has HGW.out (by simpa using hgwx)) _ _⟩
    have J10:J O1 pre w10:=HJ2.out O1 pre wr O1 w10 HJ.out (O10.mono (fun z hz=>by
      simp only[List.mem_cons,List.not_mem_nil,or_false]at hz;rcases hz with rfl|rfl
      ·exact hbO
      ·exact hgwO)) (fun y hy=>.inl hy) (fun y hy=>(HOB.out y hy).only O10 (fun z hz=>by
      simp only[List.mem_cons,List.not_mem_nil,or_false]at hz;rcases hz with rfl|rfl
      ·exact OwnB.of R10 (by decide) (by decide)
      ·exact⟨_,G10,by decide,by decide⟩))
    have F10:OwnF w10 W.heap.size (.slice (some ⟨gw,0,none⟩) (T+1) cw) (fr'++[(x',vt)]):=by
     have h:=HO0.out;rw [←HLR.out]at h;have h2:=(h.only O9 (fun g hg=>by injection hg with hg;subst hg;simpa using hgwx)).setLeft vt;have e:(fr'++[(x',vt)]).length=T+1:=by rw[List.length_append,HT1.out];rfl
     rw [e,←HT1.out,←hw10]at h2;exact h2
    have K10:∀g∈O1,g≠bx→HasTag wr g 41→g∈O1∧w10.heap[g]?=wr.heap[g]?:=fun g hg hn ht=>⟨hg,O10.block g (HOB.out g hg).lt (by
     intro hm;simp only[List.mem_cons,List.not_mem_nil,or_false]at hm;rcases hm with rfl|rfl
     ·exact hn rfl
     ·obtain ⟨c1,f1,h1⟩:=ht
      have h2:=HGW.out;unfold Has at h2;rw [h1]at h2
      cases h2)⟩
    have T10:LeftAt w10 O1 bx vt l':=HT9.keep K10;have L10:∀f∈fs',LeftAt w10 O1 bx f.2.1 f.2.2:=fun f hf=>(HLF.out f hf).keep K10
    have B10:∀y∈O1,OwnB w10 y:=fun y hy=>((HJ1.out _ _ _ J10).2.2 y hy).2
    have S10:W.heap.size≤w10.heap.size:=(HJ1.out _ _ _ J10).2.1;obtain ⟨⟨_,P10,C10⟩,_⟩:=HJ1.out _ _ _ J10;have k0:=C10.1.cell 0;have k1:=C10.2.1.cell 0;have k2:=C10.2.1.cell 1;have z0:=C10.1.lt;have z1:=C10.2.1.lt;have y0:=R10.cell 0;have y1:=R10.cell 1;have y2:=R10.cell 2;have y3:=R10.cell 3;have yz:=R10.lt;simp only[List.getElem?_toArray,List.getElem?_cons_zero,List.getElem?_cons_succ]at y0 y1 y2 y3;have CI10:=Lib.hid (fun j=>CIy.out j w10 P10);have HJ10:=Lib.hid J10;have HF10:=Lib.hid F10;have HT10:=Lib.hid T10;have HL10:=Lib.hid L10;have HR10:=Lib.hid R10;have HG10:=Lib.hid G10;have HB10:=Lib.hid B10;clear hvt hw10 O10 R10 G10 J10 F10 K10 T10 L10 P10 C10 HT9 y4 f4 yz4 R9 O9 q0 q1 q2 q3 q4 qz r0 r1 r2 r3 CIy B10 HTL;gi_upto_region 11 with (gi_at_call 88;refine (CI10.out _).mono ?_;rintro e w4 ⟨v4,rfl,hO4,b4⟩);obtain ⟨A4,c4,rfl,hc4,_⟩:=hO4.at_;have HO4:=Lib.hid hO4;obtain ⟨n4,hn4⟩:∃n4,n4=l4.length:=⟨_,rfl⟩;rw [←hn4]at hc4 HO4⊢;have R4:=HR10.out.ext b4;have y0:=R4.cell 0;have y1:=R4.cell 1;have y2:=R4.cell 2;have y3:=R4.cell 3;have yz:=R4.lt;simp only[List.getElem?_toArray,List.getElem?_cons_zero,List.getElem?_cons_succ]at y0 y1 y2 y3;have hlen:(fr'++[(x',vt)]).length=T+1:=by rw[List.length_append,HT1.out];rfl
    obtain ⟨v6,w6,hr,hO6,hg6,hblk⟩:=app_frm w4 (HF10.out.ext b4) (by have:=b4.size;omega) (y,.slice A4 n4 c4) rfl (by omega);have HR6:=Lib.hid hr;have o6:Only [gw] w4 w6:=(Only.allocN _ _ _).then (Only.of_grownBy hg6 (fun g hv=>by injection hv with hv;subst hv;simp));have J4:J (O1++(Value.slice A4 n4 c4).ownBlock.toList) pre w4:=HJ2.out O1 pre w10 _ w4 HJ10.out (Only.of_ext b4) (fun y hy=>(List.mem_append.1 hy).imp id (fun hm=>(HO4.out.lt (Option.mem_toList.1 hm)).1)) (fun y hy=>(List.mem_append.1 hy).elim (fun hm=>(HB10.out y hm).ext b4) (fun hm=>HO4.out.ownB (Option.mem_toList.1 hm)));have B4:∀z∈O1++(Value.slice A4 n4 c4).ownBlock.toList,OwnB w4 z:=fun z hz=>((HJ1.out _ _ _ J4).2.2 z hz).2
    have G4:HasTag w4 gw 144:=by
     obtain ⟨c1,f1,h1⟩:=HG10.out;exact ⟨c1,f1,(Below.block b4 gw (Array.getElem?_eq_some_iff.1 h1).1).trans h1⟩
    obtain ⟨O3,hO3⟩:∃O3,O3=((O1++(Value.slice A4 n4 c4).ownBlock.toList).filter fun z=>decide (z≠gw))++v6.ownBlock.toList:=⟨_,rfl⟩;have in3:∀z,z∈O1++(Value.slice A4 n4 c4).ownBlock.toList→z≠gw→z∈O3:=fun z hz hn=>by
     rw [hO3];exact List.mem_append_left _ (List.mem_filter.2 ⟨hz,by simpa using hn⟩)
    have K4:∀g∈O1++(Value.slice A4 n4 c4).ownBlock.toList,g≠bx→HasTag w4 g 41→g∈O3∧w6.heap[g]?=w4.heap[g]?:=fun g hg hn ht=>by
     have hne:g≠gw:=fun e=>by
      subst e;obtain ⟨c1,f1,h1⟩:=ht;obtain ⟨c2,f2,h2⟩:=G4;rw [h1]at h2;cases h2
     exact ⟨in3 g hg hne,o6.block g (B4 g hg).lt (by simpa using hne)⟩
    have J6 : J O3 pre w6:=HJ2.out _ pre w4 O3 w6 J4 (o6.mono (fun z hz=>by rw[List.mem_singleton]at hz;subst hz;exact List.mem_append_left _ hgwO)) (fun z hz=>by
      rw [hO3]at hz;rcases List.mem_append.1 hz with hm|hm
      ·exact .inl (List.mem_filter.1 hm).1
      ·rcases hblk with e|e
       ·rw [e]at hm
        have hm2:=Option.mem_toList.1 hm;injection hm2 with hm2;subst hm2;exact .inl (List.mem_append_left _ hgwO)
       ·rw [e]at hm
        have hm2:=Option.mem_toList.1 hm;injection hm2 with hm2;exact .inr (by omega)) (fun z hz=>by
      rw [hO3]at hz;rcases List.mem_append.1 hz with hm|hm
      ·have h:=List.mem_filter.1 hm
       exact (B4 z h.1).keep (o6.block z (B4 z h.1).lt (by simpa using h.2))
      ·exact hO6.ownB (Option.mem_toList.1 hm))
    have keep1:∀v l,LeftAt w10 O1 bx v l→LeftAt w6 O3 bx v l:=fun v l h=>h.keep (fun g hg hn ht=>by
     have e4:w4.heap[g]?=w10.heap[g]?:=Below.block b4 g (HB10.out g hg).lt;obtain ⟨c1,f1,h1⟩:=ht;obtain ⟨k1,k2⟩:=K4 g (List.mem_append_left _ hg) hn ⟨c1,f1,e4.trans h1⟩;exact ⟨k1,k2.trans e4⟩)
    have T6:LeftAt w6 O3 bx vt l':=keep1 _ _ HT10.out;have L6:∀f∈fs',LeftAt w6 O3 bx f.2.1 f.2.2:=fun f hf=>keep1 _ _ (HL10.out f hf)
    have N6:LeftAt w6 O3 bx (.slice A4 n4 c4) l4:=(LeftAt.of HO4.out (O:=O1++(Value.slice A4 n4 c4).ownBlock.toList) (bx:=bx) (fun g hg=>⟨List.mem_append_right _ (Option.mem_toList.2 hg),fun e=>by have:=(HO4.out.lt hg).1;have:=HR10.out.lt;omega⟩)).keep K4;have X6:Has w6 bx (.cells (spotC y).toArray 41):=o6.has R4 (by simpa using Ne.symm hgwx);have hb6:bx∈O3:=in3 bx (List.mem_append_left _ hbO) (Ne.symm hgwx);have own6:∀g,v6.ownBlock=some g→g∈O3:=fun g hg=>by rw[hO3];exact List.mem_append_right _ (Option.mem_toList.2 hg)
    have HJ6:=Lib.hid J6;have HT6:=Lib.hid T6;have HL6:=Lib.hid L6;have HN6:=Lib.hid N6;have HX6:=Lib.hid X6;have HO6:=Lib.hid hO6;have HW6:=Lib.hid own6;clear hn4 hO4 R4 hr hO6 hg6 hblk o6 J4 B4 G4 hO3 in3 K4 J6 keep1 T6 L6 N6 X6 own6 hlen HO4 k0 k1 k2 z0 z1 CI10;gi_wp2_with (gi_at_builtin;refine wpListIn_append_run0 _ rfl _ _ 145 145 rfl _ _ rfl rfl _ _ HR6.out ?_);gi_roundg m'
    case measure=>exact Nat.lt_succ_self _
    case rel =>
     refine ⟨e9,(y,.slice A4 n4 c4,l4)::(x',vt,l')::fs',y,O3,pre,rfl,HJ6.out,hb6,HX6.out,?_,HW6.out,fun f hf=>?_,?_⟩
     ·have:=HO6.out
      rw [HF1.out]at this;simpa using this
     ·rcases List.mem_cons.1 hf with rfl|hf
      ·exact HN6.out
      ·rcases List.mem_cons.1 hf with rfl|hf
       ·exact HT6.out
       ·exact HL6.out f hf
     ·rcases HUU.out with⟨h1,h2⟩|⟨h1,h2⟩
      ·refine .inl ⟨h1,by omega,?_,fun f hf z hz=>?_,L1,by rw[←HNL.out]at *;simpa [HW1.out]using h2,HLL.out⟩
       ·have:=HFS.out
        simp only[List.length_cons];omega
       ·rcases List.mem_cons.1 hf with rfl|hf
        ·have:=hl4d.out z hz
         omega
        ·rcases List.mem_cons.1 hf with rfl|hf
         ·have:=HDL.out z (List.mem_cons_of_mem _ hz)
          omega
         ·have:=HDF.out f hf z hz
          omega
      ·exact .inr ⟨h1,by rw[HLL.out,h2]⟩
end Go.Proofs.YtpibnfdolojpcaaGreat
