import Derived.Test.YtblbohcaphcobaaGreatDoorBunN
import Derived.Sort.CutIn
set_option maxHeartbeats 8000000
set_option maxRecDepth 100000
namespace Go.Proofs.YtblbohcaphcobaaGreatDoor
section
open Go.ChangeShapes Go.WideShapes Go.ChangeAt Go.RowKit
attribute [local go_sem] Oper.semAt_some
theorem xF {l:List aq} {b:aq} {e:Int} (h:∀y∈told l b e,y.2=0):e=0/\(told l b e).map (·.1)=l:=by
 have he:e=0:=by
  by_cases he:e=0
  ·exact he
  ·exact h (b,e) (by unfold told;rw[if_neg he];simp)
 refine ⟨he,?_⟩;unfold told;rw [if_pos he,List.append_nil,List.map_map];exact List.map_id _
theorem xG {l:List aq} {b:aq} {e:Int} {pre:List (aq×Int)} {y:aq×Int} (h:pre++[y] <+: told l b e) (hy:y.2≠0):y=(b,e)/\e≠0/\pre=l.map fun x=>(x,0):=by
 by_cases he:e=0
 ·exfalso
  obtain ⟨t,ht⟩:=h;have hm:y∈told l b e:=by rw[<-ht];simp
  unfold told at hm;rw [if_pos he,List.append_nil,List.mem_map]at hm;obtain ⟨x,_,rfl⟩:=hm;exact hy rfl
 ·unfold told at h
  rw [if_neg he]at h;rcases List.prefix_concat_iff.1 h with h1|h1
  ·have:=List.append_inj' h1 rfl
   refine ⟨?_,he,this.1⟩;have h2:=this.2;injection h2
  ·exfalso
   obtain ⟨t,ht⟩:=h1;have hm:y∈l.map fun x=>(x,(0:Int)):=by rw[<-ht];simp
   rw [List.mem_map]at hm;obtain ⟨x,_,rfl⟩:=hm;exact hy rfl
theorem Ft (F:Fence) (n:Nat) (hf:F.fn 33) (hro:F.round=none) (b:Nat) (cu cg dir:Int) (nm:List UInt8) (w:World) :
  CallsIn F n Tryz.prog 33 #[.pointer (some ⟨b,0,none⟩),.agg #[cu,cg],.int .i64 dir,bs nm] w fun e w' =>
   e = .returned (.func (.func 69) #[] #[.pointer (some ⟨w.heap.size,0,none⟩),.pointer (some ⟨w.heap.size+1,0,none⟩),.pointer (some ⟨w.heap.size+2,0,none⟩),.pointer (some ⟨w.heap.size+3,0,none⟩)])/\DS w' w.heap.size b cu cg dir nm/\Ext w w'/\w'.heap.size=w.heap.size+4:=by
 refine callsIn_of_wp Tryz.func33 rfl hf ?_ hro;simp only[Tryz.ntmps33,List.size_toArray,List.length_cons,List.length_nil,Nat.reduceAdd,Nat.reduceSub,Array.replicate_succ,Array.replicate_zero,List.push_toArray,List.append_toArray,List.nil_append,List.cons_append];gi_wp2;go_ret;have h1:=Has.new w (.cells #[.pointer (some ⟨b,0,none⟩)] 33);have h2:=Has.new (w.alloc (.cells #[.pointer (some ⟨b,0,none⟩)] 33)) (.cells #[cu,cg] 27);have h3:=Has.new ((w.alloc (.cells #[.pointer (some ⟨b,0,none⟩)] 33)).alloc (.cells #[cu,cg] 27)) (.cells #[.int .i64 dir] 3);have h4:=Has.new (((w.alloc (.cells #[.pointer (some ⟨b,0,none⟩)] 33)).alloc (.cells #[cu,cg] 27)).alloc (.cells #[.int .i64 dir] 3)) (.cells #[bs nm] 9);simp only[World.size_alloc]at h2 h3 h4;exact ⟨rfl,⟨((h1.alloc _).alloc _).alloc _,(h2.alloc _).alloc _,h3.alloc _,h4⟩,((((Ext.refl w).alloc _).alloc _).alloc _).alloc _,by simp⟩
theorem dZ.aa6 {w:World} {base N g:Nat} {v:Value} {l:List aq} {R:List Nat} (h:dZ w base v l) (hv:v.ownBlock=some g) (hR:TM N R w):g∉R:=fun hm=>by
 obtain ⟨t,⟨c,f,hc⟩,_⟩:=h.LX hv;obtain ⟨_,o,ho,hn⟩:=hR g hm;rw [hc]at ho;cases ho;cases hn
theorem DS.only {V V':World} {k b:Nat} {cu cg dir:Int} {nm:List UInt8} {L:List Nat} (h:DS V k b cu cg dir nm) (o:Only L V V') (hL:∀x∈L,x<k\/k+3<x):DS V' k b cu cg dir nm:=by
 obtain ⟨h1,h2,h3,h4⟩:=h;exact ⟨o.has h1 fun hm=>by have:=hL _ hm;omega,o.has h2 fun hm=>by have:=hL _ hm;omega,o.has h3 fun hm=>by have:=hL _ hm;omega,o.has h4 fun hm=>by have:=hL _ hm;omega⟩
def BK (W1:World) (N k iU b:Nat) (cu cg dir:Int) (nm:List UInt8) (O:List Nat) (pre:List (aq×Int)) (V:World):Prop:=
 Ext W1 V/\DS V k b cu cg dir nm/\(∃v,Has V iU (.cells #[v] 42)/\dZ V N v (pre.map (·.1))/\∀g,v.ownBlock=some g->g∉O)/\(∀y∈pre,y.2=0)/\(∀x∈O,N<=x)/\N<=V.heap.size
theorem BK.bears {W1:World} {N k iU b:Nat} {cu cg dir:Int} {nm:List UInt8} (h1:W1.heap.size<=N) (h2:k+3<N) (h3:iU<N):Bears N (BK W1 N k iU b cu cg dir nm):=by
 rintro O pre V O' R V' ⟨a1,a2,⟨v,a3,a4,a5⟩,a6,a7,a8⟩ o hR hO DK;have hL:∀x∈O++R,N<=x:=fun x hx=>by
  rcases List.mem_append.1 hx with hx|hx
  ·exact a7 x hx
  ·exact (hR x hx).1
 refine ⟨o.after a1 fun x hx=>by have:=hL x hx;omega,a2.only o fun x hx=>.inr (by have:=hL x hx;omega),⟨v,o.has a3 fun hm=>by have:=hL _ hm;omega,a4.only o fun g hg hm=>?_,fun g hg hm=>?_⟩,a6,fun x hx=>?_,by have:=o.size;omega⟩
 ·rcases List.mem_append.1 hm with hm|hm
  ·exact a5 g hg hm
  ·exact a4.aa6 hg hR hm
 ·rcases hO g hm with e|e
  ·exact a5 g hg e
  ·have:=(a4.lt hg).2;omega
 ·rcases hO x hx with e|e
  ·exact a7 x e
  ·omega
theorem BK.step {W1 V:World} {N k iU b:Nat} {cu cg dir:Int} {nm:List UInt8} {O:List Nat} {pre:List (aq×Int)} {x:aq×Int} (h1:W1.heap.size<=iU) (h2:k+3<N) (h3:iU<k\/k+3<iU) (h4:iU<N) (h:BK W1 N k iU b cu cg dir nm O pre V) (hx:x.2=0) (hO:∀y∈O,il V y) (hp:pre.length<=2000000) :
  ∃ v v' w',Has V iU (.cells #[v] 42)/\(Builtin.append_ #[42,42] 42 #[v,.slice (some ⟨V.heap.size,0,none⟩) 1 1]).run Tryz.prog (V.alloc (.cells #[.int .i64 x.1.dir,bs x.1.name,x.1.no,.int .i64 x.1.depth] 50))=.ok v' w' /\
   Has w' iU (.cells #[v] 42)/\(∀g,v'.ownBlock=some g->N<=g)/\dZ w' N v' ((pre++[x]).map (·.1)) /\
   KeepsFrom N V (w'.setCell ⟨iU,0,none⟩ v')/\mC O V (w'.setCell ⟨iU,0,none⟩ v')/\BK W1 N k iU b cu cg dir nm O (pre++[x]) (w'.setCell ⟨iU,0,none⟩ v')/\Has (w'.setCell ⟨iU,0,none⟩ v') iU (.cells #[v'] 42):=by
 obtain ⟨a1,a2,⟨v,a3,a4,a5⟩,a6,a7,a8⟩:=h;obtain ⟨v',w',hr,DK,hg,P_⟩:=uK V a4 a8 x.1 (by rw[List.length_map];exact hp);have o1:Only v.ownBlock.toList V w':=(Only.gS _ _ _).then (Only.of_grownBy hg (fun g hv=>Option.mem_toList.2 hv));have gN:∀y∈v.ownBlock.toList,N<=y:=fun y hy=>(a4.lt (Option.mem_toList.1 hy)).1
 have b3:=o1.has a3 (fun hm=>by have:=gN _ hm;omega);have o2:Only (v.ownBlock.toList++[iU]) V (w'.setCell ⟨iU,0,none⟩ v'):=(o1.mono (fun y hy=>List.mem_append_left _ hy)).then ((Only.setCell _ _ _ _).mono (fun y hy=>List.mem_append_right _ hy));have hN':∀g,v'.ownBlock=some g->N<=g:=fun g hv=>(DK.lt hv).1
 have c3:Has (w'.setCell ⟨iU,0,none⟩ v') iU (.cells #[v'] 42):=Has.setCell b3 0 v';have Qa:∀y∈v.ownBlock.toList++[iU],v.ownBlock=some y\/y=iU:=fun y hy=>by
  rcases List.mem_append.1 hy with hy|hy
  ·exact .inl (Option.mem_toList.1 hy)
  ·exact .inr (List.mem_singleton.1 hy)
 have e:(pre++[x]).map (·.1)=pre.map (·.1)++[x.1]:=by rw[List.map_append];rfl
 refine ⟨v,v',w',a3,hr,b3,hN',by rw[e];exact DK,o2.lR (fun y hy=>?_),o2.Fm (fun y hy=>(hO y hy).lt) (fun y hy hm=>?_),⟨o2.after a1 (fun y hy=>?_),a2.only o2 (fun y hy=>?_),⟨v',c3,?_,fun g hv hm=>?_⟩,fun y hy=>?_,a7,by have:=o2.size;omega⟩,c3⟩
 ·rcases Qa y hy with k1|k1
  ·obtain ⟨t,⟨cc,f,hc⟩,_⟩:=a4.LX k1
   exact .inr ⟨_,hc,rfl⟩
  ·exact .inl (by omega)
 ·rcases Qa y hm with k1|k1
  ·exact a5 y k1 hy
  ·have:=a7 y hy;omega
 ·rcases Qa y hy with k1|k1
  ·have:=(a4.lt k1).1;omega
  ·omega
 ·rcases Qa y hy with k1|k1
  ·have:=(a4.lt k1).1;omega
  ·omega
 ·rw [e]
  exact DK.only (Only.setCell w' iU 0 v') (fun g hv hm=>by rw[List.mem_singleton]at hm;have:=hN' g hv;omega)
 ·rcases P_ with k1|k1
  ·rw[k1]at hv;exact a5 g hv hm
  ·rw [k1]at hv
   injection hv with hv;have:=(hO g hm).lt;omega
 ·rcases List.mem_append.1 hy with hy|hy
  ·exact a6 y hy
  ·rw[List.mem_singleton]at hy;subst hy;exact hx
theorem PS.all {c:Nat} {w:World} {B b:Nat} {g:bQ} {s:aA} (h:PS w B b g s) (hs:fT c s) (hc:c<=900) (cu cg dir:Int) (nm:List UInt8) (l:List aq) (b0:aq) (e0:Int) (hT:qi s cu cg dir nm l b0 e0) (hlen:l.length<=1000) :
  Calls Tryz.prog 11 #[.pointer (some ⟨b,0,none⟩),.agg #[cu,cg],.int .i64 dir,bs nm] w (fun e w'=>∃v,e=.returned (.tuple #[v,.int .i64 e0])/\dZ w' w.heap.size v (if e0=0 then l else [])/\Ext w w'):=by
 refine (callsIn_wide (n:=4)).1 ?_;obtain⟨F,hF⟩:=ar Fence.wide;have hro:F.round=none:=by rw[hF];rfl
 have Lb:F.fn 11:=by rw[hF];trivial
 have JA:F.fn 33:=by rw[hF];trivial
 have hf3:F.fn 69:=by rw[hF];trivial
 have KD:=fun (W:World)=>Ft F 3 JA hro b cu cg dir nm W
 rw [<-hF];have HF:=zH hF;clear hF;refine callsIn_of_wp_marks Tryz.func11 rfl Lb ?_ hro;simp only[Tryz.ntmps11,List.size_toArray,List.length_cons,List.length_nil,Nat.reduceAdd,Nat.reduceSub,Array.replicate_succ,Array.replicate_zero,List.push_toArray,List.append_toArray,List.nil_append,List.cons_append];gi_wp2_with (gi_at_call 33;refine (KD _).mono ?_;rintro e w3 ⟨rfl,C3,E3,Z3⟩);obtain ⟨W1,b_⟩:∃V,V=((w.alloc (.cells #[cu,cg] 27)).alloc (.cells #[.slice none 0 0] 42)).alloc (.cells #[.int .i64 0] 40):=⟨_,rfl⟩;obtain ⟨b8,fZ⟩:∃x,x=w.heap.size+1:=⟨_,rfl⟩;obtain ⟨b9,tf⟩:∃x,x=w.heap.size+1+1:=⟨_,rfl⟩;obtain ⟨iU,iW⟩:∃x,x=w.heap.size+1+1+1:=⟨_,rfl⟩;obtain ⟨k,hk⟩:∃x,x=w.heap.size+1+1+1+1:=⟨_,rfl⟩;have hs1:W1.heap.size=iU:=by rw[b_,iW];simp
 have E1:Ext w W1:=by rw[b_];exact (((Ext.refl _).alloc _).alloc _).alloc _
 have H8:Has W1 b8 (.cells #[.slice none 0 0] 42):=by
  rw [b_,fZ];have:=Has.new (w.alloc (.cells #[cu,cg] 27)) (.cells #[.slice none 0 0] 42);rw [World.size_alloc]at this;exact this.alloc _
 have H9:Has W1 b9 (.cells #[.int .i64 0] 40):=by
  rw [b_,tf];have:=Has.new ((w.alloc (.cells #[cu,cg] 27)).alloc (.cells #[.slice none 0 0] 42)) (.cells #[.int .i64 0] 40);simp only[World.size_alloc]at this;exact this
 have H10:Has (W1.alloc (.cells #[.slice none 0 0] 42)) iU (.cells #[.slice none 0 0] 42):=by rw[<-hs1];exact Has.new _ _
 rw [<-b_]at E3 C3 Z3;have e2:(W1.alloc (.cells #[.slice none 0 0] 42)).heap.size=k:=by rw[World.size_alloc,hs1,iW,hk]
 rw [e2]at C3 Z3;rw [<-hk,<-iW,<-tf,<-fZ];have P1:=h.ext E1;have X1:Ext W1 w3:=((Ext.refl W1).alloc _).trans E3;obtain⟨N,hN⟩:=ar w3.heap.size;have aa7:N<=k+4:=by rw[hN,Z3];exact Nat.le_refl _
 have aa8:k+4<=N:=by rw[hN,Z3];exact Nat.le_refl _
 have aci:k<=iU+1:=by rw[hk,iW];exact Nat.le_refl _
 have Wj:iU+1<=k:=by rw[hk,iW];exact Nat.le_refl _
 have aa9:W1.heap.size<=iU:=by rw[hs1];exact Nat.le_refl _
 have acj:iU<=W1.heap.size:=by rw[hs1];exact Nat.le_refl _
 have HN:=zH hN;have zC:N<=w3.heap.size:=by rw[hN];exact Nat.le_refl _
 have RN:w3.heap.size<=N:=by rw[hN];exact Nat.le_refl _
 have h89:b8<b9:=by omega
 have ack:b9<iU:=by omega
 have VO:w.heap.size<b8:=by omega
 have Cx:=zH P1;have BL:=zH E1;have Yb:=zH H8;have HH9:=zH H9;have aba:=H10.ext E3;have RI:(told l b0 e0).length<=1001:=by have:=uP l b0 e0;omega
 have KS:=BJ (c:=c) F HF.out (4-1) (by omega) B b g s hs hc k cu cg dir nm l b0 e0 hT hlen w3;clear b_ fZ tf iW hk H8 H9 H10 P1 E1 h hs hT KD hs1 e2 Z3 hN;refine qg hro (by omega) (gf:=69) (lb:=#[.pointer (some ⟨k,0,none⟩),.pointer (some ⟨k+1,0,none⟩),.pointer (some ⟨k+2,0,none⟩),.pointer (some ⟨k+3,0,none⟩)]) rfl hf3 (enters_of Tryz.func69 (by kernel_rfl) rfl) KS (Nat.le_refl _) (fun _=>rfl)
  (BK W1 N k iU b cu cg dir nm)
  (fun cc pre V=>cc=.ret/\Ext w V/\Has V b8 (.cells #[.slice none 0 0] 42)/\∃q y,pre=q++[y]/\y.2≠0/\Has V b9 (.cells #[.int .i64 y.2] 40))
  (by rw[<-HN.out];exact BK.bears (by omega) (by omega) (by omega))
  (by rintro cc pre V R V' ⟨a1,a2,a3,q,y,a4,a5,a6⟩ o hR;exact⟨a1,o.after a2 (fun x hx=>by have:=(hR x hx).1;omega),o.has a3 (fun hm=>by have:=(hR _ hm).1;omega),q,y,a4,a5,o.has a6 (fun hm=>by have:=(hR _ hm).1;omega)⟩)
  (fun O pre V hI=>⟨Cx.out.ext hI.1,hI.2.1⟩)
  ⟨X1,C3,⟨_,aba,dZ.nil _ _,fun g hg=>by cases hg⟩,fun y hy=>(by cases hy),fun x hx=>(by cases hx),zC⟩
  (fun x a' V=>∃Bx,N<=Bx/\Has V Bx (.cells #[.int .i64 x.1.dir,bs x.1.name,x.1.no,.int .i64 x.1.depth] 50)/\a'={tmps:=#[.pointer (some ⟨b,0,none⟩),.agg #[cu,cg],.int .i64 dir,.string (bs nm),undef,.pointer (some ⟨w.heap.size,0,none⟩),undef,undef,.pointer (some ⟨b8,0,none⟩),.pointer (some ⟨b9,0,none⟩),.pointer (some ⟨iU,0,none⟩),.pointer (some ⟨Bx,0,none⟩),.int .i64 x.2,.pointer (some ⟨b,0,none⟩),.agg #[cu,cg],.int .i64 dir,.string (bs nm),.func (.func 69) #[] #[.pointer (some ⟨k,0,none⟩),.pointer (some ⟨k+1,0,none⟩),.pointer (some ⟨k+2,0,none⟩),.pointer (some ⟨k+3,0,none⟩)],.agg #[.int .i64 x.1.dir,bs x.1.name,x.1.no,.int .i64 x.1.depth],.int .i64 x.2,undef,undef,undef,undef,undef,undef,undef,undef],defers:=[]})
  ?XQ ?assign ?body ?done ?stop
 case XQ =>
  rintro x a' V l o o' ⟨Bx,h1,h2,rfl⟩ hl ho hc';refine ⟨Bx,h1,?_,rfl⟩;have hne:Bx≠l:=fun e=>by subst e;unfold Has at h2;rw[h2]at ho;cases ho;cases hc'
  exact (World.putObj_heap_other hne).trans h2
 case assign =>
  rintro lp O pre x V K hI hG Hz hK;gi_wp2;refine hK _ _ ((KeepsOthers.alloc _ _).from _) ((Only.gS [] V _).Fm (fun b hb=>(Hz b hb).lt) (fun _ _=>by simp)) ?_ ⟨V.heap.size,hI.2.2.2.2.2,Has.new _ _,rfl⟩;exact (BK.bears (W1:=W1) (N:=N) (by omega) (by omega) (by omega)) O pre V O [] _ hI (by rw[List.append_nil];exact Only.gS _ _ _) (fun r hr=>by cases hr) (fun x hx=>.inl hx) (fun x hx=>(Hz x hx).ext ((Ext.refl V).alloc _))
 case body =>
  rintro lp O pre x a' V hI ⟨Bx,hBx,L4,rfl⟩ hG Hz;rw [<-HN.out];have hpl:pre.length<=2000000:=by
   have:=hG.length_le;rw [List.length_append]at this;omega
  by_cases hx0:x.2=0
  ·have t0:(x.2 != 0)=false:=by simpa using hx0
   obtain ⟨v,v',w',ZZ,hr,T7,hvN,hOw,kf,ko,hC,abb⟩:=hI.step (by omega) (by omega) (by omega) (by omega) hx0 Hz hpl;obtain ⟨A',c',hv',_⟩:=hOw.at_;obtain⟨n',hn'⟩:=ar (((pre++[x]).map (·.1)).length);rw [<-hn']at hv';clear hn' hOw hvN;subst hv';have HR:=zH hr;have Ov:=zH kf;have HKO:=zH ko;have HC:=zH hC;have TI:=ZZ.cell 0;have z10:=ZZ.lt;have d10:=T7.cell 0;have f10:=T7.free 0;have zD:=T7.lt;have y0:=L4.cell 0;have y1:=L4.cell 1;have y2:=L4.cell 2;have y3:=L4.cell 3;have yz:=L4.lt;simp only[gA,gB,gC]at y0 y1 y2 y3;clear hr kf ko hC abb hI hG hx0;gi_wp2_with (gi_at_builtin;refine jK _ rfl _ _ 42 42 rfl _ _ rfl rfl _ _ HR.out ?_);exact ⟨Ov.out,HKO.out,HC.out⟩
  ·have t0:(x.2 != 0)=true:=by simpa using hx0
   have V8:=Yb.out.ext hI.1;have V9:=HH9.out.ext hI.1;have c8:=V8.cell 0;have f8:=V8.free 0;have z8:=V8.lt;have c9:=V9.cell 0;have f9:=V9.free 0;have z9:=V9.lt;have EV:=zH (BL.out.trans hI.1);have se:=zH hx0;have I6:=zH V8;have HV9:=zH V9;clear hI hG hx0 V8 V9 L4;gi_wp2;have q8:Has (V.setCell ⟨b8,0,none⟩ (.slice none 0 0)) b8 (.cells #[.slice none 0 0] 42):=Has.setCell I6.out 0 _;have q9:Has (V.setCell ⟨b8,0,none⟩ (.slice none 0 0)) b9 (.cells #[.int .i64 0] 40):=(Only.setCell V b8 0 _).has HV9.out (by simp;omega);have o9:Only [b8,b9] V ((V.setCell ⟨b8,0,none⟩ (.slice none 0 0)).setCell ⟨b9,0,none⟩ (.int .i64 x.2)):=((Only.setCell V b8 0 _).mono (by simp)).then ((Only.setCell _ b9 0 _).mono (by simp));exact ⟨o9.lR (fun y hy=>.inl (by simp at hy;omega)),rfl,o9.after EV.out (fun y hy=>by simp at hy;omega),(Only.setCell _ b9 0 _).has q8 (by simp;omega),pre,x,rfl,se.out,Has.setCell q9 0 _⟩
 case done =>
  rintro D O xs V hD hxs hI hK;obtain ⟨h0,hmap⟩:=xF (l:=l) (b:=b0) (e:=e0) (by rw[<-hxs];exact hI.2.2.2.1);obtain ⟨a1,a2,⟨v,a3,a4,a5⟩,a6,a7,a8⟩:=hI;rw [hxs,hmap]at a4;have V8:=Yb.out.ext a1;have V9:=HH9.out.ext a1;have c8:=V8.cell 0;have f8:=V8.free 0;have z8:=V8.lt;have c9:=V9.cell 0;have f9:=V9.free 0;have z9:=V9.lt;have TI:=a3.cell 0;have z10:=a3.lt;have EV:=zH (BL.out.trans a1);have I6:=zH V8;have HV9:=zH V9;have HO:=zH a4;obtain ⟨A',c',hv',_⟩:=a4.at_;obtain⟨n',hn'⟩:=ar l.length;rw [<-hn']at hv';have H0:=zH h0;have HK:=zH hK;clear a1 a2 a3 a4 a5 a6 a7 a8 V8 V9 hxs hmap h0 hK hn';subst hv';gi_wp2;obtain⟨V2,lZ⟩:=ar ((V.setCell ⟨b8,0,none⟩ (.slice A' n' c')).setCell ⟨b9,0,none⟩ (.int .i64 0));rw [<-lZ];have o2:Only [b8,b9] V V2:=by rw[lZ];exact ((Only.setCell V b8 0 _).mono (by simp)).then ((Only.setCell _ b9 0 _).mono (by simp))
  have q8:Has V2 b8 (.cells #[.slice A' n' c'] 42):=by rw[lZ];exact (Only.setCell _ b9 0 _).has (Has.setCell I6.out 0 _) (by simp;omega)
  have q9:Has V2 b9 (.cells #[.int .i64 0] 40):=by rw[lZ];exact Has.setCell ((Only.setCell V b8 0 _).has HV9.out (by simp;omega)) 0 _
  have H7:=o2.has HK.out (by simp;omega);refine ⟨by simp,.inl ⟨_,_,rfl,run_takeDeferred H7,?_⟩⟩;have o3:Only [b8,b9,D] V (V2.putObj D (.deferred none)):=(o2.mono (by simp)).then ((Only.putObj V2 D _).mono (by simp));have r8:=((Only.putObj V2 D (.deferred none)).has q8 (by simp;omega)).cell 0;have r9:=((Only.putObj V2 D (.deferred none)).has q9 (by simp;omega)).cell 0;refine ⟨.tuple #[.slice A' n' c',.int .i64 0],by simp[results,Tryz.results11,go_sem,r8,r9],.slice A' n' c',by first|rfl|rw[H0.out],?_,o3.after EV.out (fun x hx=>by simp at hx;omega)⟩
  try rw[if_pos H0.out]
  refine (HO.out.only o3 fun g hg hm=>?_).base (by omega);have hgN:=(HO.out.lt hg).1;simp at hm;rcases hm with hm|hm|hm
  ·omega
  ·omega
  ·subst hm
   obtain ⟨t,⟨cc,f,hc⟩,_⟩:=HO.out.LX hg;have:=HK.out;rw [hc]at this;cases this
 case stop =>
  rintro D cc pre V hD hp ⟨rfl,hE,h8,q,y,rfl,hy,h9⟩ hK;obtain ⟨e1,e2,e3⟩:=xG hp hy;have EV:=hE;gi_wp2;refine ⟨by simp,.inl ⟨_,_,rfl,run_takeDeferred hK,?_⟩⟩;have r8:=((Only.putObj V D (.deferred none)).has h8 (by simp;omega)).cell 0;have r9:=((Only.putObj V D (.deferred none)).has h9 (by simp;omega)).cell 0;rw [e1]at r9;refine ⟨.tuple #[.slice none 0 0,.int .i64 e0],by simp[results,Tryz.results11,go_sem,r8,r9],.slice none 0 0,rfl,?_,(Only.putObj V D _).after EV (fun x hx=>by simp at hx;omega)⟩
  try rw[if_neg e2]
  exact dZ.nil _ _
end
section
open Go.ChangeShapes Go.WideShapes Go.ChangeAt Go.RowKit
theorem H_ {w w':World} {g:Nat} (h:w'.heap[g]?=w.heap[g]?) (o:Nat):w'.cell? ⟨g,o,none⟩=w.cell? ⟨g,o,none⟩:=by
 simp only[World.cell?,h]
attribute [local go_sem] Oper.semAt_some
end
end Go.Proofs.YtblbohcaphcobaaGreatDoor
