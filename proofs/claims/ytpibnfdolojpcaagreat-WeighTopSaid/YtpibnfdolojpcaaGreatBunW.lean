import Derived.Test.YtpibnfdolojpcaaGreatBunO
import Derived.Test.YtpibnfdolojpcaaGreatBunL
import Derived.Test.YtpibnfdolojpcaaGreatBunN
import Derived.Test.YtpibnfdolojpcaaGreatBunI
import Derived.Test.YtpibnfdolojpcaaGreatBunS
import Derived.Test.YtpibnfdolojpcaaGreatBunR
import Derived.Test.YtpibnfdolojpcaaGreatBunV
import Derived.Test.YtpibnfdolojpcaaGreatBunC
import Derived.Test.YtpibnfdolojpcaaGreatBunU
import Derived.Test.YtpibnfdolojpcaaGreatBunQ
import Derived.OpenShut
set_option maxHeartbeats 16000000
set_option maxRecDepth 100000
namespace Go.Proofs.YtpibnfdolojpcaaGreat
open Go.ChangeShapes Go.WideShapes Go.ChangeAt Go.RowKit
def distF (L:List Int):List Int:=L.foldl (fun acc x=>if x∈acc then acc else acc++[x]) []
theorem distF_snoc (L:List Int) (x:Int):distF (L++[x])=if x∈distF L then distF L else distF L++[x]:=by
 unfold distF;rw [List.foldl_append];rfl
theorem rev_ind {P:List Int→Prop} (h0:P []) (h1:∀l x,P l→P (l++[x])):∀l,P l:=by
 intro l;have : ∀n,∀l:List Int,l.length=n→P l:=by
  intro n
  induction n with
  | zero=>intro l hl;rw[List.eq_nil_of_length_eq_zero hl];exact h0
  | succ n ih =>
   intro l hl;rcases List.eq_nil_or_concat l with rfl|⟨q,y,rfl⟩
   ·cases hl
   ·rw [List.concat_eq_append]at hl⊢
    exact h1 q y (ih q (by simpa using hl))
 exact this _ l rfl
theorem mem_distF {L:List Int} {x:Int}:x∈distF L↔x∈L:=by
 induction L using rev_ind generalizing x with
 | h0=>exact Iff.rfl
 | h1 L y ih =>
  rw [distF_snoc]
  by_cases h:y∈distF L
  ·rw [if_pos h,List.mem_append,List.mem_singleton]
   constructor
   ·exact fun h2=>.inl (ih.1 h2)
   ·rintro (h2|rfl)
    ·exact ih.2 h2
    ·exact h
  ·rw[if_neg h,List.mem_append,List.mem_append,ih]
theorem distF_nodup (L:List Int):(distF L).Nodup:=by
 induction L using rev_ind with
 | h0=>exact List.nodup_nil
 | h1 L y ih =>
  rw [distF_snoc]
  by_cases h:y∈distF L
  ·rw[if_pos h];exact ih
  ·rw [if_neg h,List.nodup_append]
   exact ⟨ih,by simp,fun a ha b hb=>by rw[List.mem_singleton]at hb;subst hb;exact fun e=>h (e▸ha)⟩
theorem distF_len (L:List Int):(distF L).length≤L.length:=by
 induction L using rev_ind with
 | h0=>exact Nat.le_refl _
 | h1 L y ih =>
  rw [distF_snoc,List.length_append,List.length_singleton];split
  ·omega
  ·rw[List.length_append,List.length_singleton];omega
def wghF (g:Int→Int) (L:List Int):Int:=(distF L).foldl (fun a n=>wrap64 (a+g n)) 0
theorem wghF_snoc (g:Int→Int) (L:List Int) (x:Int):wghF g (L++[x])=if x∈L then wghF g L else wrap64 (wghF g L+g x):=by
 unfold wghF;rw [distF_snoc]
 by_cases h:x∈L
 ·rw[if_pos h,if_pos (mem_distF.2 h)]
 ·rw [if_neg h,if_neg (fun h2=>h (mem_distF.1 h2)),List.foldl_append]
  rfl
def lnkF (kd lk:Int→Int) (L:List Int):Int:=(((distF L).filter fun n=>kd n != 1).map lk).sum-((L.filter fun n=>kd n != 1).length:Nat)
theorem lnkF_snoc (kd lk:Int→Int) (L:List Int) (x:Int):lnkF kd lk (L++[x])=if kd x=1 then lnkF kd lk L else (if x∈L then lnkF kd lk L else lnkF kd lk L+lk x)-1:=by
 unfold lnkF;rw [distF_snoc]
 by_cases hk:kd x=1
 ·have hb:(kd x != 1)=false:=by simpa using hk
  rw [if_pos hk];have e2:(L++[x]).filter (fun n=>kd n != 1)=L.filter (fun n=>kd n != 1):=by rw[List.filter_append];simp[hb]
  rw [e2]
  by_cases h:x∈distF L
  ·rw[if_pos h]
  ·rw[if_neg h,List.filter_append];simp[hb]
 ·have hb:(kd x != 1)=true:=by simpa using hk
  rw [if_neg hk];have e2:((L++[x]).filter (fun n=>kd n != 1)).length=(L.filter (fun n=>kd n != 1)).length+1:=by rw[List.filter_append];simp[hb]
  rw [e2]
  by_cases h:x∈L
  ·rw[if_pos h,if_pos (mem_distF.2 h)];omega
  ·rw [if_neg h,if_neg (fun h2=>h (mem_distF.1 h2)),List.filter_append]
   simp [hb];omega
theorem lnkF_le {kd lk:Int→Int} (h:∀n,0≤lk n∧lk n≤1000) (L:List Int):-(L.length:Int)≤lnkF kd lk L∧lnkF kd lk L≤1000*L.length:=by
 induction L using rev_ind with
 | h0=>exact⟨Int.le_refl _,Int.le_refl _⟩
 | h1 L x ih =>
  have hx:=h x;rw [lnkF_snoc,List.length_append,List.length_singleton];split
  ·omega
  ·split<;>omega
def CntIs (es:List MapEntry) (L:List Int):Prop:=
 es.length=(distF L).length∧∀k,(h:k<(distF L).length)→∃e,es[k]?=some e∧e.key=.int .i64 (distF L)[k]∧e.val=.int .i64 (L.count (distF L)[k]:Nat)
theorem findNow_ints (x:Int):∀(es:List MapEntry) (D:List Int) (i:Nat),es.length=D.length→(∀k,(h:k<D.length)→∃e,es[k]?=some e∧e.key=.int .i64 D[k]) →
  (x∉D∧Instr.findNow (.int .i64) (.int .i64 x) es i=some none)∨(∃k e,∃h:k<D.length,es[k]?=some e∧Instr.findNow (.int .i64) (.int .i64 x) es i=some (some (i+k,e.val))∧D[k]=x):=by
 intro es
 induction es with
 | nil =>
  intro D i hl hk;obtain rfl:D=[]:=List.eq_nil_of_length_eq_zero hl.symm;exact .inl ⟨List.not_mem_nil,rfl⟩
 | cons e es ih =>
  intro D i hl hk
  cases D with
  | nil=>simp at hl
  | cons n D =>
   obtain ⟨e',h1,h2⟩:=hk 0 (by simp);simp at h1;subst h1;simp at h2;have hs:Instr.sameNow (.int .i64) (.int .i64 x) e.key=some (x == n):=by rw[h2];simp[Instr.sameNow]
   by_cases hq:x=n
   ·right
    refine ⟨0,e,by simp,rfl,?_,hq.symm⟩;unfold Instr.findNow;rw [hs];simp [hq]
   ·have hb:(x == n)=false:=by simpa using hq
    have hstep:Instr.findNow (.int .i64) (.int .i64 x) (e::es) i=Instr.findNow (.int .i64) (.int .i64 x) es (i+1):=by
     conv=>lhs;unfold Instr.findNow
     rw [hs,hb]
    rcases ih D (i+1) (by simpa using hl) (fun k h=>by
     obtain ⟨y,hx1,hx2⟩:=hk (k+1) (by simpa using h);exact ⟨y,by simpa using hx1,by simpa using hx2⟩) with⟨g1,g2⟩|⟨k,y,g1,g2,g3,g4⟩
    ·exact .inl ⟨fun hm=>(List.mem_cons.1 hm).elim hq g1,hstep.trans g2⟩
    ·refine .inr ⟨k+1,y,by simpa using g1,by simpa using g2,?_,by simpa using g4⟩
     rw [hstep,g3]
     congr 3
     omega
theorem run_met {w:World} {bM:Nat} {es:Array MapEntry} {clock:Nat} {L:List Int} (hm:Has w bM (.map es clock)) (h:CntIs es.toList L) (x:Int) :
  (Instr.lookup 93 (.map (some bM)) (.int .i64 x) false).run Tryz.prog w=.ok (.int .i64 (L.count x:Nat)) w:=by
 have hk:∀r,Instr.findNow (.int .i64) (.int .i64 x) es.toList 0=some r→(Instr.findKey 3 (.int .i64 x) es.toList).run Tryz.prog w=.ok r w:=fun r hr=>by
  unfold Instr.findKey;rw [Sem.run_bind,run_underlying Tryz.underlying3];simp [hr]
 have hz:(zeroValue 3).run Tryz.prog w=.ok (.int .i64 0) w:=by kernel_rfl
 rcases findNow_ints x es.toList (distF L) 0 h.1 (fun k hk=>by obtain⟨e,h1,h2,_⟩:=h.2 k hk;exact⟨e,h1,h2⟩) with⟨g1,g2⟩|⟨k,e,g1,g2,g3,g4⟩
 ·have hc:L.count x=0:=List.count_eq_zero.2 fun hx=>g1 (mem_distF.2 hx)
  rw [hc];simp [Instr.lookup,run_underlying Tryz.underlying93,MapKept.run_getObj_map hm,run_checkInt,hk _ g2,hz]
 ·obtain ⟨e',h1,_,h3⟩:=h.2 k g1
  rw [h1]at g2;injection g2 with g2;subst g2;rw [g4]at h3;simp [Instr.lookup,run_underlying Tryz.underlying93,MapKept.run_getObj_map hm,run_checkInt,hk _ g3,h3]
theorem run_meet {w:World} {bM:Nat} {es:Array MapEntry} {clock:Nat} {L:List Int} (hm:Has w bM (.map es clock)) (h:CntIs es.toList L) (x:Int) :
  ∃ es' clock',(Instr.mapUpdate 93 (.map (some bM)) (.int .i64 x) (.int .i64 ((L.count x:Nat)+1))).run Tryz.prog w=.ok () (putB w bM (.map es' clock'))∧CntIs es'.toList (L++[x]):=by
 have hk:∀r,Instr.findNow (.int .i64) (.int .i64 x) es.toList 0=some r→(Instr.findKey 3 (.int .i64 x) es.toList).run Tryz.prog w=.ok r w:=fun r hr=>by
  unfold Instr.findKey;rw [Sem.run_bind,run_underlying Tryz.underlying3];simp [hr]
 have hcx:(L++[x]).count x=L.count x+1:=by rw[List.count_append];simp
 have hcn:∀n,n≠x→(L++[x]).count n=L.count n:=fun n hn=>by rw[List.count_append,List.count_singleton,if_neg (by simpa using fun e:x=n=>hn e.symm),Nat.add_zero]
 rcases findNow_ints x es.toList (distF L) 0 h.1 (fun k hk=>by obtain⟨e,h1,h2,_⟩:=h.2 k hk;exact⟨e,h1,h2⟩) with⟨g1,g2⟩|⟨k,e,g1,g2,g3,g4⟩
 ·refine ⟨es.push ⟨.int .i64 x,.int .i64 ((L.count x:Nat)+1),clock⟩,clock+1,?_,?_⟩
  ·simp[Instr.mapUpdate,run_underlying Tryz.underlying93,MapKept.run_getObj_map hm,run_checkInt,hk _ g2,MapKept.run_setObj_map _ hm,Result.andThen,putB]
  ·have e1:distF (L++[x])=distF L++[x]:=by rw[distF_snoc,if_neg g1]
   have hl:es.size=(distF L).length:=by simpa using h.1
   unfold CntIs;rw [e1];refine ⟨by simp;simpa using h.1,fun j hj=>?_⟩;rw [List.length_append,List.length_singleton]at hj;rw [Array.getElem?_toList,Array.getElem?_push,hl]
   by_cases ej:j=(distF L).length
   ·subst ej
    refine ⟨_,by rw[if_pos rfl],?_⟩;rw [List.getElem_append_right (Nat.le_refl _)];simp only[Nat.sub_self,List.getElem_singleton];exact ⟨trivial,by rw[hcx];rfl⟩
   ·obtain ⟨e',h1,h2,h3⟩:=h.2 j (by omega)
    rw [Array.getElem?_toList]at h1;refine ⟨e',by rw[if_neg ej];exact h1,?_⟩;rw [List.getElem_append_left (by omega)];refine ⟨h2,?_⟩;rw [h3,hcn _ (fun e=>g1 (e▸List.getElem_mem _))]
 ·obtain ⟨e',h1,h2,h3⟩:=h.2 k g1
  rw [h1]at g2;injection g2 with g2;subst g2;refine ⟨es.modify k fun e=>{e with key:=.int .i64 x,val:=.int .i64 ((L.count x:Nat)+1)},clock,?_,?_⟩
  ·rw [Array.getElem?_toList]at h1
   simp [Instr.mapUpdate,run_underlying Tryz.underlying93,MapKept.run_getObj_map hm,run_checkInt,hk _ g3,MapKept.run_setObj_map _ hm,Result.andThen,putB,h1,h2,g4,keyStays]
  ·have e1:distF (L++[x])=distF L:=by rw[distF_snoc,if_pos (by rw[←g4];exact List.getElem_mem _)]
   unfold CntIs;rw [e1];refine ⟨by simp;simpa using h.1,fun j hj=>?_⟩;obtain ⟨e2,k1,k2,k3⟩:=h.2 j hj;rw [Array.getElem?_toList]at k1;rw [Array.getElem?_toList,Array.getElem?_modify,k1]
   by_cases ej:k=j
   ·subst ej
    exact ⟨_,by rw[if_pos rfl];rfl,by rw[g4],by rw[g4,hcx];rfl⟩
   ·refine ⟨e2,by rw[if_neg ej],k2,?_⟩
    rw [k3,hcn _ (fun e=>ej ((List.getElem_inj (distF_nodup L)).1 (g4.trans e.symm)))]
attribute [local go_sem] Oper.semAt_some
def nosF (pre:List (SpotD×Int)):List Int:=pre.map (·.1.no)
theorem nosF_snoc (pre:List (SpotD×Int)) (x:SpotD×Int):nosF (pre++[x])=nosF pre++[x.1.no]:=by unfold nosF;rw[List.map_append];rfl
def datF (s:SysD) (no:Int):Int:=((rdM s (getN s.t.nodes no)).data.length:Nat)
def WghI (W1:World) (N k bS bB bM b:Nat) (cu cg dir:Int) (nm:List UInt8) (Fv:List Int→Int) (O:List Nat) (pre:List (SpotD×Int)) (V:World):Prop:=
 Ext W1 V∧CapD V k b cu cg dir nm∧Has V bS (.cells #[.int .i64 (Fv (nosF pre))] 3)∧Has V bB (.cells #[.map (some bM)] 93)∧(∃es cl,Has V bM (.map es cl)∧CntIs es.toList (nosF pre))∧(∀y∈pre,y.2=0)∧(∀x∈O,N≤x)∧N≤V.heap.size
theorem WghI.bears {W1:World} {N k bS bB bM b:Nat} {cu cg dir:Int} {nm:List UInt8} {Fv:List Int→Int} (h1:W1.heap.size≤N) (h2:k+3<N) (h3:bS<N) (h4:bB<N) (h5:bM<N):Bears N (WghI W1 N k bS bB bM b cu cg dir nm Fv):=by
 rintro O pre V O' R V' ⟨a1,a2,a3,a4,⟨es,cl,a5,a6⟩,a7,a8,a9⟩ o hR hO hO';have hL:∀x∈O++R,N≤x:=fun x hx=>by
  rcases List.mem_append.1 hx with hx|hx
  ·exact a8 x hx
  ·exact (hR x hx).1
 refine ⟨o.after a1 fun x hx=>by have:=hL x hx;omega,a2.only o fun x hx=>.inr (by have:=hL x hx;omega),o.has a3 (fun hm=>by have:=hL _ hm;omega),o.has a4 (fun hm=>by have:=hL _ hm;omega),⟨es,cl,o.has a5 (fun hm=>by have:=hL _ hm;omega),a6⟩,a7,fun x hx=>?_,by have:=o.size;omega⟩;rcases hO x hx with e|e
 ·exact a8 x e
 ·omega
theorem WghI.next {W1 V V':World} {N k bS bB bM b:Nat} {cu cg dir:Int} {nm:List UInt8} {Fv:List Int→Int} {O:List Nat} {pre:List (SpotD×Int)} {x:SpotD×Int} {es':Array MapEntry} {cl':Nat} (l1:W1.heap.size≤bS) (l2:bS<bM) (l3:bM<bB) (l4:bB<k) (l5:k+3<N) (h:WghI W1 N k bS bB bM b cu cg dir nm Fv O pre V)
  (o:Only [bM,bS] V V') (hS:Has V' bS (.cells #[.int .i64 (Fv (nosF pre++[x.1.no]))] 3)) (hM:Has V' bM (.map es' cl')) (hc:CntIs es'.toList (nosF pre++[x.1.no])) (hx:x.2=0) (hO:∀y∈O,OwnB V y):KeepsFrom N V V'∧KeepO O V V'∧WghI W1 N k bS bB bM b cu cg dir nm Fv O (pre++[x]) V':=by
 obtain ⟨a1,a2,a3,a4,⟨es,cl,a5,a6⟩,a7,a8,a9⟩:=h;have hm:∀y∈[bM,bS],y=bM∨y=bS:=fun y hy=>by simpa using hy
 refine ⟨o.keepsFrom (fun y hy=>.inl (by rcases hm y hy with rfl|rfl<;>omega)),o.keepO (fun y hy=>(hO y hy).lt) (fun y hy2 hy=>by have:=a8 y hy2;rcases hm y hy with rfl|rfl<;>omega),o.after a1 (fun y hy=>by rcases hm y hy with rfl|rfl<;>omega),a2.only o (fun y hy=>.inl (by rcases hm y hy with rfl|rfl<;>omega)),by rw[nosF_snoc];exact hS,o.has a4 (fun hy=>by rcases hm _ hy with e|e<;>omega),⟨es',cl',hM,by rw[nosF_snoc];exact hc⟩,fun y hy=>?_,a8,by have:=o.size;omega⟩;rcases List.mem_append.1 hy with hy|hy
 ·exact a7 y hy
 ·rw[List.mem_singleton]at hy;subst hy;exact hx
theorem PS.tree {c:Nat} {w:World} {B b:Nat} {g:GhW} {s:SysD} (h:PS w B b g s) (hs:Sane c s) (hc:c≤900) (cu cg dir:Int) (nm:List UInt8) (l:List SpotD) (b0:SpotD) (e0:Int) (hT:DownT s cu cg dir nm l b0 e0) (hlen:l.length≤1000) :
  Calls Tryz.prog 20 #[.pointer (some ⟨b,0,none⟩),.agg #[.int .i64 cu,.int .i64 cg],.int .i64 dir,.string (bs nm)] w (Ret w (.tuple #[.int .i64 (if e0=0 then wghF (datF s) (l.map (·.no)) else 0),.int .i64 (if e0=0 then ((distF (l.map (·.no))).length:Nat) else 0),.int .i64 e0])):=by
 refine (callsIn_wide (n:=4)).1 ?_;obtain ⟨F,hF⟩:∃F,F=Fence.wide:=⟨_,rfl⟩;have hro:F.round=none:=by rw[hF];rfl
 have hf1:F.fn 20:=by rw[hF];trivial
 have hf2:F.fn 41:=by rw[hF];trivial
 have hf3:F.fn 86:=by rw[hF];trivial
 have hf4:F.fn 45:=by rw[hF];trivial
 have KD:=fun (W:World)=>down_in F 3 hf2 hro b cu cg dir nm W
 have KST:Hid (∀(lb m:Nat) (u:World) (no:Int),Ext w u→CallsIn (F.inRound lb) m Tryz.prog 45 #[.pointer (some ⟨b,0,none⟩),.int .i64 no] u (Ret u (.tuple #[statV (rdM s (getN s.t.nodes no)),.int .i64 (rdE s (statE s.t no))]))):=by
  show ∀_ _ _ _,_;intro lb m u no hu;rw [hF];exact CallsIn.inRound lb (callsIn_wide.2 ((h.ext hu).stat hs no))
 rw [←hF];have HF:=zH hF;clear hF;have hmm:=@run_makeMap Tryz.prog;refine callsIn_of_wp_marks Tryz.func20 rfl hf1 ?_ hro;simp only[Tryz.ntmps20,List.size_toArray,List.length_cons,List.length_nil,Nat.reduceAdd,Nat.reduceSub,Array.replicate_succ,Array.replicate_zero,List.push_toArray,List.append_toArray,List.nil_append,List.cons_append];gi_wp2_with (gi_at_call 41;refine (KD _).mono ?_;rintro e w3 ⟨rfl,C3,E3,Z3⟩);clear hmm;obtain ⟨W1,hW1⟩:∃V,V=((((w.alloc (.cells #[.pointer (some ⟨b,0,none⟩)] 33)).alloc (.cells #[.int .i64 cu,.int .i64 cg] 27)).alloc (.cells #[.int .i64 0] 3)).alloc (.cells #[.int .i64 0] 3)).alloc (.cells #[.int .i64 0] 47):=⟨_,rfl⟩;obtain ⟨b4,hb4⟩:∃x,x=w.heap.size:=⟨_,rfl⟩;obtain ⟨b5,hb5⟩:∃x,x=w.heap.size+1:=⟨_,rfl⟩;obtain ⟨b8,hb8⟩:∃x,x=w.heap.size+1+1:=⟨_,rfl⟩;obtain ⟨b9,hb9⟩:∃x,x=w.heap.size+1+1+1:=⟨_,rfl⟩;obtain ⟨b10,hb10⟩:∃x,x=w.heap.size+1+1+1+1:=⟨_,rfl⟩;obtain ⟨bS,hbS⟩:∃x,x=w.heap.size+1+1+1+1+1:=⟨_,rfl⟩;obtain ⟨bM,hbM⟩:∃x,x=w.heap.size+1+1+1+1+1+1:=⟨_,rfl⟩;obtain ⟨bB,hbB⟩:∃x,x=w.heap.size+1+1+1+1+1+1+1:=⟨_,rfl⟩;obtain ⟨k,hk⟩:∃x,x=w.heap.size+1+1+1+1+1+1+1+1:=⟨_,rfl⟩;have hs1:W1.heap.size=bS:=by rw[hW1,hbS];simp
 have E1:Ext w W1:=by rw[hW1];exact (((((Ext.refl _).alloc _).alloc _).alloc _).alloc _).alloc _
 have H4:Has W1 b4 (.cells #[.pointer (some ⟨b,0,none⟩)] 33):=by
  rw [hW1,hb4];exact ((((Has.new w _).alloc _).alloc _).alloc _).alloc _
 have H5:Has W1 b5 (.cells #[.int .i64 cu,.int .i64 cg] 27):=by
  rw [hW1,hb5];have:=Has.new (w.alloc (.cells #[.pointer (some ⟨b,0,none⟩)] 33)) (.cells #[.int .i64 cu,.int .i64 cg] 27);rw [World.size_alloc]at this;exact ((this.alloc _).alloc _).alloc _
 have H8:Has W1 b8 (.cells #[.int .i64 0] 3):=by
  rw [hW1,hb8];have:=Has.new ((w.alloc (.cells #[.pointer (some ⟨b,0,none⟩)] 33)).alloc (.cells #[.int .i64 cu,.int .i64 cg] 27)) (.cells #[.int .i64 0] 3);simp only[World.size_alloc]at this;exact (this.alloc _).alloc _
 have H9:Has W1 b9 (.cells #[.int .i64 0] 3):=by
  rw [hW1,hb9];have:=Has.new (((w.alloc (.cells #[.pointer (some ⟨b,0,none⟩)] 33)).alloc (.cells #[.int .i64 cu,.int .i64 cg] 27)).alloc (.cells #[.int .i64 0] 3)) (.cells #[.int .i64 0] 3);simp only[World.size_alloc]at this;exact this.alloc _
 have H10:Has W1 b10 (.cells #[.int .i64 0] 47):=by
  rw [hW1,hb10];have:=Has.new ((((w.alloc (.cells #[.pointer (some ⟨b,0,none⟩)] 33)).alloc (.cells #[.int .i64 cu,.int .i64 cg] 27)).alloc (.cells #[.int .i64 0] 3)).alloc (.cells #[.int .i64 0] 3)) (.cells #[.int .i64 0] 47);simp only[World.size_alloc]at this;exact this
 rw [←hW1]at E3 C3 Z3;have HS0:Has (((W1.alloc (.cells #[.int .i64 0] 3)).alloc (.map #[] 0)).alloc (.cells #[.map (some bM)] 93)) bS (.cells #[.int .i64 0] 3):=by rw[←hs1];exact ((Has.new _ _).alloc _).alloc _
 have HM0:Has (((W1.alloc (.cells #[.int .i64 0] 3)).alloc (.map #[] 0)).alloc (.cells #[.map (some bM)] 93)) bM (.map #[] 0):=by
  have:=Has.new (W1.alloc (.cells #[.int .i64 0] 3)) (.map #[] 0);rw [World.size_alloc,hs1,hbS,←hbM]at this;exact this.alloc _
 have HB0:Has (((W1.alloc (.cells #[.int .i64 0] 3)).alloc (.map #[] 0)).alloc (.cells #[.map (some bM)] 93)) bB (.cells #[.map (some bM)] 93):=by
  have:=Has.new ((W1.alloc (.cells #[.int .i64 0] 3)).alloc (.map #[] 0)) (.cells #[.map (some bM)] 93);rw [World.size_alloc,World.size_alloc,hs1,hbS,←hbB]at this;exact this
 have e2:(((W1.alloc (.cells #[.int .i64 0] 3)).alloc (.map #[] 0)).alloc (.cells #[.map (some bM)] 93)).heap.size=k:=by rw[World.size_alloc,World.size_alloc,World.size_alloc,hs1,hbS,hk]
 rw [←hbM]at E3 C3 Z3;rw [e2]at C3 Z3;rw [←hk,←hbB,←hbM,←hbS,←hb10,←hb9,←hb8,←hb5,←hb4];have X1:Ext W1 w3:=((((Ext.refl W1).alloc _).alloc _).alloc _).trans E3;obtain ⟨N,hN⟩:∃N,N=w3.heap.size:=⟨_,rfl⟩;have hNk1:N≤k+4:=by rw[hN,Z3];exact Nat.le_refl _
 have hNk2:k+4≤N:=by rw[hN,Z3];exact Nat.le_refl _
 have l1:w.heap.size≤b4:=by omega
 have l2:b4<b5:=by omega
 have l3:b5<b8:=by omega
 have l4:b8<b9:=by omega
 have l5:b9<b10:=by omega
 have l6:b10<bS:=by omega
 have l7:bS<bM:=by omega
 have l8:bM<bB:=by omega
 have l9:bB<k:=by omega
 have hs1a:W1.heap.size≤bS:=by rw[hs1];exact Nat.le_refl _
 have hs1b:bS≤W1.heap.size:=by rw[hs1];exact Nat.le_refl _
 have HN:=zH hN;have hN1:N≤w3.heap.size:=by rw[hN];exact Nat.le_refl _
 have hN2:w3.heap.size≤N:=by rw[hN];exact Nat.le_refl _
 have HP1:=zH (h.ext E1);have HE1:=zH E1;have HH4:=zH H4;have HH5:=zH H5;have HH8:=zH H8;have HH9:=zH H9;have HH10:=zH H10;have HS3:=HS0.ext E3;have HM3:=HM0.ext E3;have HB3:=HB0.ext E3;have hLl:(told l b0 e0).length≤1001:=by have:=told_len l b0 e0;omega
 have KS:=down_seq (c:=c) F HF.out (4-1) (by omega) B b g s hs hc k cu cg dir nm l b0 e0 hT hlen w3;clear hW1 hb4 hb5 hb8 hb9 hb10 hbS hbM hbB hk H4 H5 H8 H9 H10 E1 h hs hT KD hs1 e2 Z3 hN HS0 HM0 HB0;refine wpIn_range_o hro (by omega) (gf:=86) (lb:=#[.pointer (some ⟨k,0,none⟩),.pointer (some ⟨k+1,0,none⟩),.pointer (some ⟨k+2,0,none⟩),.pointer (some ⟨k+3,0,none⟩)]) rfl hf3 (enters_of Tryz.func86 (by kernel_rfl) rfl) KS (Nat.le_refl _) (fun _=>rfl)
  (WghI W1 N k bS bB bM b cu cg dir nm (wghF (datF s)))
  (fun cc pre V=>cc=.ret∧Ext w V∧Has V b8 (.cells #[.int .i64 0] 3)∧Has V b9 (.cells #[.int .i64 0] 3)∧∃q y,pre=q++[y]∧y.2≠0∧Has V b10 (.cells #[.int .i64 y.2] 47))
  (by rw[←HN.out];exact WghI.bears (by omega) (by omega) (by omega) (by omega) (by omega))
  (by rintro cc pre V R V' ⟨a1,a2,a3,a3',q,y,a4,a5,a6⟩ o hR;exact⟨a1,o.after a2 (fun x hx=>by have:=(hR x hx).1;omega),o.has a3 (fun hm=>by have:=(hR _ hm).1;omega),o.has a3' (fun hm=>by have:=(hR _ hm).1;omega),q,y,a4,a5,o.has a6 (fun hm=>by have:=(hR _ hm).1;omega)⟩)
  (fun O pre V hI=>⟨HP1.out.ext hI.1,hI.2.1⟩)
  ⟨X1,C3,HS3,HB3,⟨_,_,HM3,rfl,fun j hj=>absurd hj (Nat.not_lt_zero _)⟩,fun y hy=>(by cases hy),fun x hx=>(by cases hx),hN1⟩
  (fun x a' V=>∃Bx,N≤Bx∧Has V Bx (.cells #[.int .i64 x.1.dir,.string (bs x.1.name),.int .i64 x.1.no,.int .i64 x.1.depth] 41)∧a'={tmps:=#[.pointer (some ⟨b,0,none⟩),.agg #[.int .i64 cu,.int .i64 cg],.int .i64 dir,.string (bs nm),.pointer (some ⟨b4,0,none⟩),.pointer (some ⟨b5,0,none⟩),undef,undef,.pointer (some ⟨b8,0,none⟩),.pointer (some ⟨b9,0,none⟩),.pointer (some ⟨b10,0,none⟩),.pointer (some ⟨bS,0,none⟩),.pointer (some ⟨bB,0,none⟩),.pointer (some ⟨Bx,0,none⟩),.int .i64 x.2,undef,undef,.map (some bM),.pointer (some ⟨b,0,none⟩),.agg #[.int .i64 cu,.int .i64 cg],.int .i64 dir,.string (bs nm),.func (.func 86) #[] #[.pointer (some ⟨k,0,none⟩),.pointer (some ⟨k+1,0,none⟩),.pointer (some ⟨k+2,0,none⟩),.pointer (some ⟨k+3,0,none⟩)],.agg #[.int .i64 x.1.dir,.string (bs x.1.name),.int .i64 x.1.no,.int .i64 x.1.depth],.int .i64 x.2,undef,undef,undef,undef,undef,undef,undef,undef,undef,undef,undef,undef,undef,undef,undef,undef,undef,undef,undef,undef,undef,undef,undef,undef,undef,undef,undef],defers:=[]})
  ?hax ?assign ?body ?done ?stop
 case hax =>
  rintro x a' V l o o' ⟨Bx,h1,h2,rfl⟩ hl ho hc';refine ⟨Bx,h1,?_,rfl⟩;have hne:Bx≠l:=fun e=>by subst e;unfold Has at h2;rw[h2]at ho;cases ho;cases hc'
  exact (World.putObj_heap_other hne).trans h2
 case assign =>
  rintro lp O pre x V K hI hG hOB hK;gi_wp2;refine hK _ _ ((KeepsOthers.alloc _ _).from _) ((Only.allocN [] V _).keepO (fun b hb=>(hOB b hb).lt) (fun _ _=>by simp)) ?_ ⟨V.heap.size,hI.2.2.2.2.2.2.2,Has.new _ _,rfl⟩;exact (WghI.bears (W1:=W1) (N:=N) (by omega) (by omega) (by omega) (by omega) (by omega)) O pre V O [] _ hI (by rw[List.append_nil];exact Only.allocN _ _ _) (fun r hr=>by cases hr) (fun x hx=>.inl hx) (fun x hx=>(hOB x hx).ext ((Ext.refl V).alloc _))
 case body =>
  rintro lp O pre x a' V hI ⟨Bx,hBx,hXB,rfl⟩ hG hOB;rw [←HN.out];have hpl:pre.length≤1001:=by
   have:=hG.length_le;rw [List.length_append]at this;omega
  have HI:=zH hI;obtain ⟨a1,_,a3,a4,⟨es,cl,a5,a6⟩,_,_,a9⟩:=hI;have h4:=HH4.out.ext a1
  by_cases hx0:x.2=0
  ·have t0:(x.2 != 0)=false:=by simpa using hx0
   have hr1:=run_met a5 a6 x.1.no;obtain ⟨es',cl',hr2,hc'⟩:=run_meet a5 a6 x.1.no;obtain ⟨V1,hV1⟩:∃V1,V1=putB V bM (.map es' cl'):=⟨_,rfl⟩;have o1:Only [bM] V V1:=by rw[hV1];exact Only.putB _ _ _
   have a5':Has V1 bM (.map es' cl'):=by rw[hV1];exact Has.putB _ a5.lt
   rw [←hV1]at hr2;have hr3:=run_met a5' hc' x.1.no;have hcx:(nosF pre++[x.1.no]).count x.1.no=(nosF pre).count x.1.no+1:=by rw[List.count_append];simp
   rw [hcx]at hr3;have hqn:(nosF pre).count x.1.no≤1001:=by have:=List.count_le_length (a:=x.1.no) (l:=nosF pre);unfold nosF at this⊢;rw[List.length_map]at this;omega
   have hmem:(nosF pre).count x.1.no=0↔x.1.no∉nosF pre:=List.count_eq_zero;obtain ⟨q,hq⟩:∃q,q=(nosF pre).count x.1.no:=⟨_,rfl⟩;rw [←hq]at hr1 hr2 hr3 hqn hmem;have hr3':(Instr.lookup 93 (.map (some bM)) (.int .i64 x.1.no) false).run Tryz.prog V1=.ok (.int .i64 ((q:Int)+1)) V1:=hr3;have w1w:IntKind.i64.wrap ((q:Int)+1)=(q:Int)+1:=IntWalk.i64_in _ (by omega);have m1:∀y∈[bM],y=bM:=fun y hy=>by simpa using hy
   have h4':=o1.has h4 (fun hy=>by have:=m1 _ hy;omega);have a3':=o1.has a3 (fun hy=>by have:=m1 _ hy;omega);have a4':=o1.has a4 (fun hy=>by have:=m1 _ hy;omega);have hXB':=o1.has hXB (fun hy=>by have:=m1 _ hy;omega);have EV1:Ext w V1:=HE1.out.trans (o1.after a1 (fun y hy=>by have:=m1 _ hy;omega));have c4:=h4'.cell 0;have z4:=h4'.lt;have cB:=a4.cell 0;have zB:=a4.lt;have cB':=a4'.cell 0;have zB':=a4'.lt;have y2:=hXB.cell 2;have yz:=hXB.lt;have y2':=hXB'.cell 2;have yz':=hXB'.lt;simp only[gA,gB,gC]at y2 y2' c4 cB cB';have HMEM:=zH hmem;have HQ:=zH hq;have HO1:=zH o1;have HA5:=zH a5';obtain ⟨S0,hS0⟩:∃S0,S0=wghF (datF s) (nosF pre):=⟨_,rfl⟩;rw [←hS0]at a3';have HA3:=zH a3';have HX0:=zH hx0;have HC:=zH hc';have HXB':=zH hXB';have HEV:=zH EV1;have HS0:=zH hS0;clear hr3 hmem hq o1 a5' a3' hx0 hc' hXB' EV1 hV1 hcx a5 a6 a1 a3 a4 a4' h4 h4' hXB m1 hS0
   by_cases hgt:(1:Int)<(q:Int)+1
   ·gi_wp2
    refine WghI.next (by omega) (by omega) (by omega) (by omega) (by omega) HI.out (HO1.out.mono (fun y hy=>by simp at hy;simp[hy])) ?_ HA5.out HC.out HX0.out hOB;rw [wghF_snoc,if_pos (Classical.byContradiction fun hn=>by have:=HMEM.out.2 hn;omega),←HS0.out];exact HA3.out
   ·have hnew:=HMEM.out.1 (by omega)
    obtain ⟨m,hm⟩:∃m,m=rdM s (getN s.t.nodes x.1.no):=⟨_,rfl⟩;have KS1:Hid (∀j,CallsIn (F.inRound lp) j Tryz.prog 45 #[.pointer (some ⟨b,0,none⟩),.int .i64 x.1.no] V1 (Ret V1 (.tuple #[statV m,.int .i64 (rdE s (statE s.t x.1.no))]))):=by
     show ∀_,_;intro j;rw [hm];exact KST.out lp j V1 x.1.no HEV.out
    have hdat:datF s x.1.no=(m.data.length:Nat):=by unfold datF;rw[hm]
    have HDAT:=zH hdat;have HNEW:=zH hnew;unfold statV at KS1;clear hm hdat hnew;gi_wp2_with (gi_at_call 45;refine (KS1.out _).mono ?_;rintro e w2 ⟨rfl,b2⟩;have HS2:=zH (HA3.out.ext b2);have HE2:=zH b2;have dS:=HS2.out.cell 0;have fS:=HS2.out.free 0;have zS:=HS2.out.lt;simp only[gA,gB]at dS;clear b2 c4 z4 cB zB cB' zB' y2 y2' yz yz');refine WghI.next (by omega) (by omega) (by omega) (by omega) (by omega) HI.out ((((HO1.out.mono (fun y hy=>by simp at hy;simp[hy])).then (Only.of_ext (L:=[bM,bS]) HE2.out)).then ((Only.setCell _ bS 0 _).mono (by simp))).then (Only.allocN _ _ _)) ?_ (((Only.setCell _ bS 0 _).has (HA5.out.ext HE2.out) (by simp;omega)).alloc _) HC.out HX0.out hOB;rw [wghF_snoc,if_neg HNEW.out,←HS0.out,HDAT.out];exact (Has.setCell HS2.out 0 _).alloc _
  ·have t0:(x.2 != 0)=true:=by simpa using hx0
   have V8:=HH8.out.ext a1;have V9:=HH9.out.ext a1;have V10:=HH10.out.ext a1;have c8:=V8.cell 0;have f8:=V8.free 0;have z8:=V8.lt;have c9:=V9.cell 0;have f9:=V9.free 0;have z9:=V9.lt;have c10:=V10.cell 0;have f10:=V10.free 0;have z10:=V10.lt;have EV:=zH (HE1.out.trans a1);have HX0:=zH hx0;have HV8:=zH V8;have HV9:=zH V9;have HV10:=zH V10;clear hG hx0 V8 V9 V10 hXB a1 a3 a4 a5 a6 h4;gi_wp2;obtain ⟨Y1,hY1⟩:∃Y,Y=V.setCell ⟨b8,0,none⟩ (.int .i64 0):=⟨_,rfl⟩;obtain ⟨Y2,hY2⟩:∃Y,Y=Y1.setCell ⟨b9,0,none⟩ (.int .i64 0):=⟨_,rfl⟩;have p1:Only [b8] V Y1:=by rw[hY1];exact Only.setCell _ _ _ _
   have p2:Only [b9] Y1 Y2:=by rw[hY2];exact Only.setCell _ _ _ _
   have q8:Has Y2 b8 (.cells #[.int .i64 0] 3):=p2.has (by rw[hY1];exact Has.setCell HV8.out 0 _) (by simp;omega);have q9:Has Y2 b9 (.cells #[.int .i64 0] 3):=by rw[hY2];exact Has.setCell (p1.has HV9.out (by simp;omega)) 0 _
   have q10:Has Y2 b10 (.cells #[.int .i64 0] 47):=p2.has (p1.has HV10.out (by simp;omega)) (by simp;omega);rw [←hY1,←hY2];have p3:=Only.setCell Y2 b10 0 (.int .i64 x.2);have o9:Only [b8,b9,b10] V (Y2.setCell ⟨b10,0,none⟩ (.int .i64 x.2)):=((p1.mono (by simp)).then (p2.mono (by simp))).then (p3.mono (by simp));exact ⟨o9.keepsFrom (fun y hy=>.inl (by simp at hy;omega)),rfl,o9.after EV.out (fun y hy=>by simp at hy;omega),p3.has q8 (by simp;omega),p3.has q9 (by simp;omega),pre,x,rfl,HX0.out,Has.setCell q10 0 _⟩
 case done =>
  rintro D O xs V hD hxs hI hK;have hn7:∀y∈told l b0 e0,y.2=0:=by rw[←hxs];exact hI.2.2.2.2.2.1
  obtain ⟨h0,hmap⟩:=told_zero (l:=l) (b:=b0) (e:=e0) hn7;have hnos:nosF xs=l.map (·.no):=by rw[hxs,←hmap];unfold nosF;rw[List.map_map];rw[hmap];rfl
  obtain ⟨a1,_,a3,a4,⟨es,cl,a5,a6⟩,_,_,a9⟩:=hI;rw [hnos]at a3 a6;have V8:=HH8.out.ext a1;have V9:=HH9.out.ext a1;have V10:=HH10.out.ext a1;have c8:=V8.cell 0;have f8:=V8.free 0;have z8:=V8.lt;have c9:=V9.cell 0;have f9:=V9.free 0;have z9:=V9.lt;have c10:=V10.cell 0;have f10:=V10.free 0;have z10:=V10.lt;have cS:=a3.cell 0;have zS:=a3.lt;have cB:=a4.cell 0;have zB:=a4.lt;simp only[gA,gB]at cS cB;obtain ⟨X,hX⟩:∃X,X=wghF (datF s) (l.map (·.no)):=⟨_,rfl⟩;rw [←hX]at cS;have hsz:es.size=(distF (l.map (·.no))).length:=by simpa using a6.1
  have hum:Tryz.prog.underlying 93=some (.map (Tryz.prog.mapKeyOf 93) (Tryz.prog.mapElemOf 93)):=by kernel_rfl
  have hl:=run_len_map (w:=V) 93 3 bM es cl hum a5;clear hum;have HX:=zH hX;have HSZ:=zH hsz;have EV:=zH (HE1.out.trans a1);have HV8:=zH V8;have HV9:=zH V9;have HV10:=zH V10;have HK:=zH hK;subst h0;clear hX hsz V8 V9 V10 hK hn7 hxs hmap hnos a1 a3 a4 a5 a6;gi_wp2;obtain ⟨Y1,hY1⟩:∃Y,Y=V.setCell ⟨b8,0,none⟩ (.int .i64 X):=⟨_,rfl⟩;obtain ⟨Y2,hY2⟩:∃Y,Y=Y1.setCell ⟨b9,0,none⟩ (.int .i64 (es.size:Int)):=⟨_,rfl⟩;obtain ⟨Y3,hY3⟩:∃Y,Y=Y2.setCell ⟨b10,0,none⟩ (.int .i64 0):=⟨_,rfl⟩;have p1:Only [b8] V Y1:=by rw[hY1];exact Only.setCell _ _ _ _
  have p2:Only [b9] Y1 Y2:=by rw[hY2];exact Only.setCell _ _ _ _
  have p3:Only [b10] Y2 Y3:=by rw[hY3];exact Only.setCell _ _ _ _
  have q8:Has Y3 b8 (.cells #[.int .i64 X] 3):=p3.has (p2.has (by rw[hY1];exact Has.setCell HV8.out 0 _) (by simp;omega)) (by simp;omega);have q9:Has Y3 b9 (.cells #[.int .i64 (es.size:Int)] 3):=p3.has (by rw[hY2];exact Has.setCell (p1.has HV9.out (by simp;omega)) 0 _) (by simp;omega);have q10:Has Y3 b10 (.cells #[.int .i64 0] 47):=by rw[hY3];exact Has.setCell (p2.has (p1.has HV10.out (by simp;omega)) (by simp;omega)) 0 _
  rw [←hY1,←hY2,←hY3];have o2:Only [b8,b9,b10] V Y3:=((p1.mono (by simp)).then (p2.mono (by simp))).then (p3.mono (by simp));have hK2:=o2.has HK.out (by simp;omega);refine ⟨by simp,.inl ⟨_,_,rfl,run_takeDeferred hK2,?_⟩⟩;have o3:Only [b8,b9,b10,D] V (Y3.putObj D (.deferred none)):=(o2.mono (by simp)).then ((Only.putObj Y3 D _).mono (by simp));have r8:=((Only.putObj Y3 D (.deferred none)).has q8 (by simp;omega)).cell 0;have r9:=((Only.putObj Y3 D (.deferred none)).has q9 (by simp;omega)).cell 0;have r10:=((Only.putObj Y3 D (.deferred none)).has q10 (by simp;omega)).cell 0;refine ⟨.tuple #[.int .i64 X,.int .i64 (es.size:Int),.int .i64 0],by simp[results,Tryz.results20,go_sem,r8,r9,r10],?_⟩;exact Ret.mk (by rw[HX.out,HSZ.out]) (o3.after EV.out (fun x hx=>by simp at hx;omega))
 case stop =>
  rintro D cc pre V hD hp ⟨rfl,hE,h8,h9,q,y,rfl,hy,h10⟩ hK;obtain ⟨e1,e2,e3⟩:=told_last hp hy;have EV:=hE;gi_wp2;refine ⟨by simp,.inl ⟨_,_,rfl,run_takeDeferred hK,?_⟩⟩;have r8:=((Only.putObj V D (.deferred none)).has h8 (by simp;omega)).cell 0;have r9:=((Only.putObj V D (.deferred none)).has h9 (by simp;omega)).cell 0;have r10:=((Only.putObj V D (.deferred none)).has h10 (by simp;omega)).cell 0;rw [e1]at r10;refine ⟨.tuple #[.int .i64 0,.int .i64 0,.int .i64 e0],by simp[results,Tryz.results20,go_sem,r8,r9,r10],?_⟩;exact Ret.mk rfl ((Only.putObj V D _).after EV (fun x hx=>by simp at hx;omega))
end Go.Proofs.YtpibnfdolojpcaaGreat
namespace Go.Proofs.YtpibnfdolojpcaaGreat
open Go.ChangeShapes Go.WideShapes Go.ChangeAt Go.RowKit
attribute [local go_sem] Oper.semAt_some
def kndF (s:SysD) (no:Int):Int:=(rdM s (getN s.t.nodes no)).kind
def lksF (s:SysD) (no:Int):Int:=(rdM s (getN s.t.nodes no)).links
theorem lksF_le {c:Nat} {s:SysD} (hs:Sane c s) (no:Int):0≤lksF s no∧lksF s no≤1000:=by
 unfold lksF rdM;split
 ·exact⟨by decide,by decide⟩
 ·cases hi:isN s.t.nodes no
  ·rw[(isN_false hi).1];exact⟨by decide,by decide⟩
  ·have:=hs.tre.bits _ (isN_true hi).2.2
   omega
theorem PS.links {c:Nat} {w:World} {B b:Nat} {g:GhW} {s:SysD} (h:PS w B b g s) (hs:Sane c s) (hc:c≤900) (cu cg dir:Int) (nm:List UInt8) (l:List SpotD) (b0:SpotD) (e0:Int) (hT:DownT s cu cg dir nm l b0 e0) (hlen:l.length≤1000) :
  Calls Tryz.prog 22 #[.pointer (some ⟨b,0,none⟩),.agg #[.int .i64 cu,.int .i64 cg],.int .i64 dir,.string (bs nm)] w (Ret w (.tuple #[.int .i64 (if e0=0 then lnkF (kndF s) (lksF s) (l.map (·.no)) else 0),.int .i64 e0])):=by
 refine (callsIn_wide (n:=4)).1 ?_;obtain ⟨F,hF⟩:∃F,F=Fence.wide:=⟨_,rfl⟩;have hro:F.round=none:=by rw[hF];rfl
 have hf1:F.fn 22:=by rw[hF];trivial
 have hf2:F.fn 41:=by rw[hF];trivial
 have hf3:F.fn 86:=by rw[hF];trivial
 have hf4:F.fn 45:=by rw[hF];trivial
 have KD:=fun (W:World)=>down_in F 3 hf2 hro b cu cg dir nm W
 have KST:Hid (∀(lb m:Nat) (u:World) (no:Int),Ext w u→CallsIn (F.inRound lb) m Tryz.prog 45 #[.pointer (some ⟨b,0,none⟩),.int .i64 no] u (Ret u (.tuple #[statV (rdM s (getN s.t.nodes no)),.int .i64 (rdE s (statE s.t no))]))):=by
  show ∀_ _ _ _,_;intro lb m u no hu;rw [hF];exact CallsIn.inRound lb (callsIn_wide.2 ((h.ext hu).stat hs no))
 have HLK:Hid (∀no,0≤lksF s no∧lksF s no≤1000):=fun no=>lksF_le hs no
 rw [←hF];have HF:=zH hF;clear hF;have hmm:=@run_makeMap Tryz.prog;refine callsIn_of_wp_marks Tryz.func22 rfl hf1 ?_ hro;simp only[Tryz.ntmps22,List.size_toArray,List.length_cons,List.length_nil,Nat.reduceAdd,Nat.reduceSub,Array.replicate_succ,Array.replicate_zero,List.push_toArray,List.append_toArray,List.nil_append,List.cons_append];gi_wp2_with (gi_at_call 41;refine (KD _).mono ?_;rintro e w3 ⟨rfl,C3,E3,Z3⟩);clear hmm;obtain ⟨W1,hW1⟩:∃V,V=(((w.alloc (.cells #[.pointer (some ⟨b,0,none⟩)] 33)).alloc (.cells #[.int .i64 cu,.int .i64 cg] 27)).alloc (.cells #[.int .i64 0] 3)).alloc (.cells #[.int .i64 0] 47):=⟨_,rfl⟩;obtain ⟨b4,hb4⟩:∃x,x=w.heap.size:=⟨_,rfl⟩;obtain ⟨b5,hb5⟩:∃x,x=w.heap.size+1:=⟨_,rfl⟩;obtain ⟨b8,hb8⟩:∃x,x=w.heap.size+1+1:=⟨_,rfl⟩;obtain ⟨b9,hb9⟩:∃x,x=w.heap.size+1+1+1:=⟨_,rfl⟩;obtain ⟨bS,hbS⟩:∃x,x=w.heap.size+1+1+1+1:=⟨_,rfl⟩;obtain ⟨bM,hbM⟩:∃x,x=w.heap.size+1+1+1+1+1:=⟨_,rfl⟩;obtain ⟨bB,hbB⟩:∃x,x=w.heap.size+1+1+1+1+1+1:=⟨_,rfl⟩;obtain ⟨k,hk⟩:∃x,x=w.heap.size+1+1+1+1+1+1+1:=⟨_,rfl⟩;have hs1:W1.heap.size=bS:=by rw[hW1,hbS];simp
 have E1:Ext w W1:=by rw[hW1];exact ((((Ext.refl _).alloc _).alloc _).alloc _).alloc _
 have H4:Has W1 b4 (.cells #[.pointer (some ⟨b,0,none⟩)] 33):=by
  rw [hW1,hb4];exact (((Has.new w _).alloc _).alloc _).alloc _
 have H5:Has W1 b5 (.cells #[.int .i64 cu,.int .i64 cg] 27):=by
  rw [hW1,hb5];have:=Has.new (w.alloc (.cells #[.pointer (some ⟨b,0,none⟩)] 33)) (.cells #[.int .i64 cu,.int .i64 cg] 27);rw [World.size_alloc]at this;exact (this.alloc _).alloc _
 have H8:Has W1 b8 (.cells #[.int .i64 0] 3):=by
  rw [hW1,hb8];have:=Has.new ((w.alloc (.cells #[.pointer (some ⟨b,0,none⟩)] 33)).alloc (.cells #[.int .i64 cu,.int .i64 cg] 27)) (.cells #[.int .i64 0] 3);simp only[World.size_alloc]at this;exact this.alloc _
 have H9:Has W1 b9 (.cells #[.int .i64 0] 47):=by
  rw [hW1,hb9];have:=Has.new (((w.alloc (.cells #[.pointer (some ⟨b,0,none⟩)] 33)).alloc (.cells #[.int .i64 cu,.int .i64 cg] 27)).alloc (.cells #[.int .i64 0] 3)) (.cells #[.int .i64 0] 47);simp only[World.size_alloc]at this;exact this
 rw [←hW1]at E3 C3 Z3;have HS0:Has (((W1.alloc (.cells #[.int .i64 0] 3)).alloc (.map #[] 0)).alloc (.cells #[.map (some bM)] 93)) bS (.cells #[.int .i64 0] 3):=by rw[←hs1];exact ((Has.new _ _).alloc _).alloc _
 have HM0:Has (((W1.alloc (.cells #[.int .i64 0] 3)).alloc (.map #[] 0)).alloc (.cells #[.map (some bM)] 93)) bM (.map #[] 0):=by
  have:=Has.new (W1.alloc (.cells #[.int .i64 0] 3)) (.map #[] 0);rw [World.size_alloc,hs1,hbS,←hbM]at this;exact this.alloc _
 have HB0:Has (((W1.alloc (.cells #[.int .i64 0] 3)).alloc (.map #[] 0)).alloc (.cells #[.map (some bM)] 93)) bB (.cells #[.map (some bM)] 93):=by
  have:=Has.new ((W1.alloc (.cells #[.int .i64 0] 3)).alloc (.map #[] 0)) (.cells #[.map (some bM)] 93);rw [World.size_alloc,World.size_alloc,hs1,hbS,←hbB]at this;exact this
 have e2:(((W1.alloc (.cells #[.int .i64 0] 3)).alloc (.map #[] 0)).alloc (.cells #[.map (some bM)] 93)).heap.size=k:=by rw[World.size_alloc,World.size_alloc,World.size_alloc,hs1,hbS,hk]
 rw [←hbM]at E3 C3 Z3;rw [e2]at C3 Z3;rw [←hk,←hbB,←hbM,←hbS,←hb9,←hb8,←hb5,←hb4];have X1:Ext W1 w3:=((((Ext.refl W1).alloc _).alloc _).alloc _).trans E3;obtain ⟨N,hN⟩:∃N,N=w3.heap.size:=⟨_,rfl⟩;have hNk1:N≤k+4:=by rw[hN,Z3];exact Nat.le_refl _
 have hNk2:k+4≤N:=by rw[hN,Z3];exact Nat.le_refl _
 have l1:w.heap.size≤b4:=by omega
 have l2:b4<b5:=by omega
 have l3:b5<b8:=by omega
 have l4:b8<b9:=by omega
 have l6:b9<bS:=by omega
 have l7:bS<bM:=by omega
 have l8:bM<bB:=by omega
 have l9:bB<k:=by omega
 have hs1a:W1.heap.size≤bS:=by rw[hs1];exact Nat.le_refl _
 have hs1b:bS≤W1.heap.size:=by rw[hs1];exact Nat.le_refl _
 have HN:=zH hN;have hN1:N≤w3.heap.size:=by rw[hN];exact Nat.le_refl _
 have hN2:w3.heap.size≤N:=by rw[hN];exact Nat.le_refl _
 have HP1:=zH (h.ext E1);have HE1:=zH E1;have HH4:=zH H4;have HH5:=zH H5;have HH8:=zH H8;have HH9:=zH H9;have HS3:=HS0.ext E3;have HM3:=HM0.ext E3;have HB3:=HB0.ext E3;have hLl:(told l b0 e0).length≤1001:=by have:=told_len l b0 e0;omega
 have KS:=down_seq (c:=c) F HF.out (4-1) (by omega) B b g s hs hc k cu cg dir nm l b0 e0 hT hlen w3;clear hW1 hb4 hb5 hb8 hb9 hbS hbM hbB hk H4 H5 H8 H9 E1 h hs hT KD hs1 e2 Z3 hN HS0 HM0 HB0;refine wpIn_range_o hro (by omega) (gf:=86) (lb:=#[.pointer (some ⟨k,0,none⟩),.pointer (some ⟨k+1,0,none⟩),.pointer (some ⟨k+2,0,none⟩),.pointer (some ⟨k+3,0,none⟩)]) rfl hf3 (enters_of Tryz.func86 (by kernel_rfl) rfl) KS (Nat.le_refl _) (fun _=>rfl)
  (WghI W1 N k bS bB bM b cu cg dir nm (lnkF (kndF s) (lksF s)))
  (fun cc pre V=>cc=.ret∧Ext w V∧Has V b8 (.cells #[.int .i64 0] 3)∧∃q y,pre=q++[y]∧y.2≠0∧Has V b9 (.cells #[.int .i64 y.2] 47))
  (by rw[←HN.out];exact WghI.bears (by omega) (by omega) (by omega) (by omega) (by omega))
  (by rintro cc pre V R V' ⟨a1,a2,a3,q,y,a4,a5,a6⟩ o hR;exact⟨a1,o.after a2 (fun x hx=>by have:=(hR x hx).1;omega),o.has a3 (fun hm=>by have:=(hR _ hm).1;omega),q,y,a4,a5,o.has a6 (fun hm=>by have:=(hR _ hm).1;omega)⟩)
  (fun O pre V hI=>⟨HP1.out.ext hI.1,hI.2.1⟩)
  ⟨X1,C3,HS3,HB3,⟨_,_,HM3,rfl,fun j hj=>absurd hj (Nat.not_lt_zero _)⟩,fun y hy=>(by cases hy),fun x hx=>(by cases hx),hN1⟩
  (fun x a' V=>∃Bx,N≤Bx∧Has V Bx (.cells #[.int .i64 x.1.dir,.string (bs x.1.name),.int .i64 x.1.no,.int .i64 x.1.depth] 41)∧a'={tmps:=#[.pointer (some ⟨b,0,none⟩),.agg #[.int .i64 cu,.int .i64 cg],.int .i64 dir,.string (bs nm),.pointer (some ⟨b4,0,none⟩),.pointer (some ⟨b5,0,none⟩),undef,undef,.pointer (some ⟨b8,0,none⟩),.pointer (some ⟨b9,0,none⟩),.pointer (some ⟨bS,0,none⟩),.pointer (some ⟨bB,0,none⟩),.pointer (some ⟨Bx,0,none⟩),.int .i64 x.2,undef,undef,.map (some bM),.pointer (some ⟨b,0,none⟩),.agg #[.int .i64 cu,.int .i64 cg],.int .i64 dir,.string (bs nm),.func (.func 86) #[] #[.pointer (some ⟨k,0,none⟩),.pointer (some ⟨k+1,0,none⟩),.pointer (some ⟨k+2,0,none⟩),.pointer (some ⟨k+3,0,none⟩)],.agg #[.int .i64 x.1.dir,.string (bs x.1.name),.int .i64 x.1.no,.int .i64 x.1.depth],.int .i64 x.2,undef,undef,undef,undef,undef,undef,undef,undef,undef,undef,undef,undef,undef,undef,undef,undef,undef,undef,undef,undef,undef,undef,undef,undef,undef,undef,undef,undef,undef,undef,undef,undef,undef,undef,undef],defers:=[]})
  ?hax ?assign ?body ?done ?stop
 case hax =>
  rintro x a' V l o o' ⟨Bx,h1,h2,rfl⟩ hl ho hc';refine ⟨Bx,h1,?_,rfl⟩;have hne:Bx≠l:=fun e=>by subst e;unfold Has at h2;rw[h2]at ho;cases ho;cases hc'
  exact (World.putObj_heap_other hne).trans h2
 case assign =>
  rintro lp O pre x V K hI hG hOB hK;gi_wp2;refine hK _ _ ((KeepsOthers.alloc _ _).from _) ((Only.allocN [] V _).keepO (fun b hb=>(hOB b hb).lt) (fun _ _=>by simp)) ?_ ⟨V.heap.size,hI.2.2.2.2.2.2.2,Has.new _ _,rfl⟩;exact (WghI.bears (W1:=W1) (N:=N) (by omega) (by omega) (by omega) (by omega) (by omega)) O pre V O [] _ hI (by rw[List.append_nil];exact Only.allocN _ _ _) (fun r hr=>by cases hr) (fun x hx=>.inl hx) (fun x hx=>(hOB x hx).ext ((Ext.refl V).alloc _))
 case body =>
  rintro lp O pre x a' V hI ⟨Bx,hBx,hXB,rfl⟩ hG hOB;rw [←HN.out];have hpl:pre.length≤1001:=by
   have:=hG.length_le;rw [List.length_append]at this;omega
  have HI:=zH hI;obtain ⟨a1,_,a3,a4,⟨es,cl,a5,a6⟩,_,_,a9⟩:=hI
  by_cases hx0:x.2=0
  ·have t0 : (x.2 != 0)=false:=by simpa using hx0
   have h4:=HH4.out.ext a1;have c4:=h4.cell 0;have z4:=h4.lt;have y2:=hXB.cell 2;have yz:=hXB.lt;simp only[gA,gB,gC]at y2 c4;have HCX:Hid ((nosF pre++[x.1.no]).count x.1.no=(nosF pre).count x.1.no+1):=by show _=_;rw[List.count_append];simp
   have hnl:(nosF pre).length=pre.length:=by unfold nosF;rw[List.length_map]
   have hqn:(nosF pre).count x.1.no≤1001:=by have:=List.count_le_length (a:=x.1.no) (l:=nosF pre);omega
   have hmem:(nosF pre).count x.1.no=0↔x.1.no∉nosF pre:=List.count_eq_zero;obtain ⟨q,hq⟩:∃q,q=(nosF pre).count x.1.no:=⟨_,rfl⟩;rw [←hq]at hqn hmem;have w1w:IntKind.i64.wrap ((q:Int)+1)=(q:Int)+1:=IntWalk.i64_in _ (by omega);obtain ⟨m,hm⟩:∃m,m=rdM s (getN s.t.nodes x.1.no):=⟨_,rfl⟩;have hlk:m.links=lksF s x.1.no:=by unfold lksF;rw[hm]
   have hkd:m.kind=kndF s x.1.no:=by unfold kndF;rw[hm]
   have hl2:=HLK.out x.1.no;rw [←hlk]at hl2;have hsb:=lnkF_le (kd:=kndF s) HLK.out (nosF pre);rw [hnl]at hsb;have KS1:Hid (∀j,CallsIn (F.inRound lp) j Tryz.prog 45 #[.pointer (some ⟨b,0,none⟩),.int .i64 x.1.no] V (Ret V (.tuple #[statV m,.int .i64 (rdE s (statE s.t x.1.no))]))):=by
    show ∀_,_;intro j;rw [hm];exact KST.out lp j V x.1.no (HE1.out.trans a1)
   obtain ⟨S0,hS0⟩:∃S0,S0=lnkF (kndF s) (lksF s) (nosF pre):=⟨_,rfl⟩;rw [←hS0]at a3 hsb;have hq0:(0:Int)≤(q:Int):=Int.natCast_nonneg _;have wA:IntKind.i64.wrap (S0+m.links)=S0+m.links:=IntWalk.i64_in _ (by omega);have wB:IntKind.i64.wrap (S0-1)=S0-1:=IntWalk.i64_in _ (by omega);have wC:IntKind.i64.wrap (S0+m.links-1)=S0+m.links-1:=IntWalk.i64_in _ (by omega);have HMEM:=zH hmem;have HQ:=zH hq;have HA3:=zH a3;have HA4:=zH a4;have HA5:=zH a5;have HC0:=zH a6;have HX0:=zH hx0;have HXB:=zH hXB;have HS0:=zH hS0;have HLK1:=zH hlk;have HKD1:=zH hkd;unfold statV at KS1;clear hmem hq hx0 hm hlk hkd hl2 hsb hnl a1 a3 a4 a5 a6 h4 hXB hS0 hG
   by_cases hk1:m.kind=1
   ·have tk:(m.kind != 1)=false:=by simpa using hk1
    have HK1:=zH hk1;have FIN:Hid (lnkF (kndF s) (lksF s) (nosF pre++[x.1.no])=S0):=by
     show _=_;rw [lnkF_snoc,if_pos (by rw[←HKD1.out];exact hk1),←HS0.out]
    clear hk1
    by_cases hqz:q=0
    ·have tq:((q:Int)+1 == 1)=true:=by simp[hqz]
     clear hqz;gi_wp2_with (gi_at_call 45;refine (KS1.out _).mono ?_;rintro e w2 ⟨rfl,b2⟩;clear c4 z4 y2 yz;have A5:=(HA5.out.ext b2).alloc (.cells #[.int .i64 m.no,.int .i64 m.dev,.int .i64 m.kind,.int .i64 m.mode,.int .i64 m.uid,.int .i64 m.gid,.int .i64 m.links,.int .i64 m.data.length,.int .i64 m.mtime,.int .i64 m.ctime] 95);have hr1:=run_met A5 HC0.out x.1.no;obtain⟨es2,cl2,hr2,hc2⟩:=run_meet A5 HC0.out x.1.no;obtain⟨V1,hV1⟩:∃V1,V1=putB (w2.alloc (.cells #[.int .i64 m.no,.int .i64 m.dev,.int .i64 m.kind,.int .i64 m.mode,.int .i64 m.uid,.int .i64 m.gid,.int .i64 m.links,.int .i64 m.data.length,.int .i64 m.mtime,.int .i64 m.ctime] 95)) bM (.map es2 cl2):=⟨_,rfl⟩;have o1:Only [bM] (w2.alloc (.cells #[.int .i64 m.no,.int .i64 m.dev,.int .i64 m.kind,.int .i64 m.mode,.int .i64 m.uid,.int .i64 m.gid,.int .i64 m.links,.int .i64 m.data.length,.int .i64 m.mtime,.int .i64 m.ctime] 95)) V1:=(by rw[hV1];exact Only.putB _ _ _);have a5b:Has V1 bM (.map es2 cl2):=(by rw[hV1];exact Has.putB _ A5.lt);rw[←hV1]at hr2;have hr3:=run_met a5b hc2 x.1.no;rw[HCX.out]at hr3;rw[←HQ.out]at hr1 hr2 hr3;have hr3b:(Instr.lookup 93 (.map (some bM)) (.int .i64 x.1.no) false).run Tryz.prog V1=.ok (.int .i64 ((q:Int)+1)) V1:=hr3;have s2:=b2.size;have m1:∀y∈[bM],y=bM:=(fun y hy=>by simpa using hy);have zz:=HA5.out.lt;have zS0:=HA3.out.lt;have BB:=(HA4.out.ext b2).alloc (.cells #[.int .i64 m.no,.int .i64 m.dev,.int .i64 m.kind,.int .i64 m.mode,.int .i64 m.uid,.int .i64 m.gid,.int .i64 m.links,.int .i64 m.data.length,.int .i64 m.mtime,.int .i64 m.ctime] 95);have BX:=(HXB.out.ext b2).alloc (.cells #[.int .i64 m.no,.int .i64 m.dev,.int .i64 m.kind,.int .i64 m.mode,.int .i64 m.uid,.int .i64 m.gid,.int .i64 m.links,.int .i64 m.data.length,.int .i64 m.mtime,.int .i64 m.ctime] 95);have BT:=Has.new w2 (.cells #[.int .i64 m.no,.int .i64 m.dev,.int .i64 m.kind,.int .i64 m.mode,.int .i64 m.uid,.int .i64 m.gid,.int .i64 m.links,.int .i64 m.data.length,.int .i64 m.mtime,.int .i64 m.ctime] 95);have BS:=(HA3.out.ext b2).alloc (.cells #[.int .i64 m.no,.int .i64 m.dev,.int .i64 m.kind,.int .i64 m.mode,.int .i64 m.uid,.int .i64 m.gid,.int .i64 m.links,.int .i64 m.data.length,.int .i64 m.mtime,.int .i64 m.ctime] 95);have BB1:=o1.has BB (fun hy=>by have:=m1 _ hy;omega);have BX1:=o1.has BX (fun hy=>by have:=m1 _ hy;omega);have BT1:=o1.has BT (fun hy=>by have:=m1 _ hy;omega);have BS1:=o1.has BS (fun hy=>by have:=m1 _ hy;omega);have n1:w2.heap.size≠bS:=(by omega);have n2:bS≠w2.heap.size:=(by omega);have cB:=BB.cell 0;have zB:=BB.lt;have cB1:=BB1.cell 0;have zB1:=BB1.lt;have y2:=BX.cell 2;have yz:=BX.lt;have y2b:=BX1.cell 2;have yzb:=BX1.lt;have t2:=BT1.cell 2;have t6:=BT1.cell 6;have tz:=BT1.lt;have dS:=BS1.cell 0;have fS:=BS1.free 0;have zS:=BS1.lt;simp only[gA,gB,gC]at cB cB1 y2 y2b t2 t6 dS;have HBS1:=zH BS1;have HA5b:=zH a5b;have HC2:=zH hc2;have HO1:=zH (((Only.of_ext (L:=[bM,bS]) b2).then (Only.allocN _ _ _)).then (o1.mono (fun y hy=>by simp at hy;simp[hy])));clear A5 hr3 hc2 o1 a5b BB BX BT BS BB1 BX1 BT1 BS1 hV1 b2 s2 m1 zz zS0)
     refine WghI.next (by omega) (by omega) (by omega) (by omega) (by omega) HI.out HO1.out ?_ HA5b.out HC2.out HX0.out hOB;rw [FIN.out];exact HBS1.out
    ·have tq:((q:Int)+1 == 1)=false:=by simp;omega
     clear hqz;gi_wp2_with (gi_at_call 45;refine (KS1.out _).mono ?_;rintro e w2 ⟨rfl,b2⟩;clear c4 z4 y2 yz;have A5:=(HA5.out.ext b2).alloc (.cells #[.int .i64 m.no,.int .i64 m.dev,.int .i64 m.kind,.int .i64 m.mode,.int .i64 m.uid,.int .i64 m.gid,.int .i64 m.links,.int .i64 m.data.length,.int .i64 m.mtime,.int .i64 m.ctime] 95);have hr1:=run_met A5 HC0.out x.1.no;obtain⟨es2,cl2,hr2,hc2⟩:=run_meet A5 HC0.out x.1.no;obtain⟨V1,hV1⟩:∃V1,V1=putB (w2.alloc (.cells #[.int .i64 m.no,.int .i64 m.dev,.int .i64 m.kind,.int .i64 m.mode,.int .i64 m.uid,.int .i64 m.gid,.int .i64 m.links,.int .i64 m.data.length,.int .i64 m.mtime,.int .i64 m.ctime] 95)) bM (.map es2 cl2):=⟨_,rfl⟩;have o1:Only [bM] (w2.alloc (.cells #[.int .i64 m.no,.int .i64 m.dev,.int .i64 m.kind,.int .i64 m.mode,.int .i64 m.uid,.int .i64 m.gid,.int .i64 m.links,.int .i64 m.data.length,.int .i64 m.mtime,.int .i64 m.ctime] 95)) V1:=(by rw[hV1];exact Only.putB _ _ _);have a5b:Has V1 bM (.map es2 cl2):=(by rw[hV1];exact Has.putB _ A5.lt);rw[←hV1]at hr2;have hr3:=run_met a5b hc2 x.1.no;rw[HCX.out]at hr3;rw[←HQ.out]at hr1 hr2 hr3;have hr3b:(Instr.lookup 93 (.map (some bM)) (.int .i64 x.1.no) false).run Tryz.prog V1=.ok (.int .i64 ((q:Int)+1)) V1:=hr3;have s2:=b2.size;have m1:∀y∈[bM],y=bM:=(fun y hy=>by simpa using hy);have zz:=HA5.out.lt;have zS0:=HA3.out.lt;have BB:=(HA4.out.ext b2).alloc (.cells #[.int .i64 m.no,.int .i64 m.dev,.int .i64 m.kind,.int .i64 m.mode,.int .i64 m.uid,.int .i64 m.gid,.int .i64 m.links,.int .i64 m.data.length,.int .i64 m.mtime,.int .i64 m.ctime] 95);have BX:=(HXB.out.ext b2).alloc (.cells #[.int .i64 m.no,.int .i64 m.dev,.int .i64 m.kind,.int .i64 m.mode,.int .i64 m.uid,.int .i64 m.gid,.int .i64 m.links,.int .i64 m.data.length,.int .i64 m.mtime,.int .i64 m.ctime] 95);have BT:=Has.new w2 (.cells #[.int .i64 m.no,.int .i64 m.dev,.int .i64 m.kind,.int .i64 m.mode,.int .i64 m.uid,.int .i64 m.gid,.int .i64 m.links,.int .i64 m.data.length,.int .i64 m.mtime,.int .i64 m.ctime] 95);have BS:=(HA3.out.ext b2).alloc (.cells #[.int .i64 m.no,.int .i64 m.dev,.int .i64 m.kind,.int .i64 m.mode,.int .i64 m.uid,.int .i64 m.gid,.int .i64 m.links,.int .i64 m.data.length,.int .i64 m.mtime,.int .i64 m.ctime] 95);have BB1:=o1.has BB (fun hy=>by have:=m1 _ hy;omega);have BX1:=o1.has BX (fun hy=>by have:=m1 _ hy;omega);have BT1:=o1.has BT (fun hy=>by have:=m1 _ hy;omega);have BS1:=o1.has BS (fun hy=>by have:=m1 _ hy;omega);have n1:w2.heap.size≠bS:=(by omega);have n2:bS≠w2.heap.size:=(by omega);have cB:=BB.cell 0;have zB:=BB.lt;have cB1:=BB1.cell 0;have zB1:=BB1.lt;have y2:=BX.cell 2;have yz:=BX.lt;have y2b:=BX1.cell 2;have yzb:=BX1.lt;have t2:=BT1.cell 2;have t6:=BT1.cell 6;have tz:=BT1.lt;have dS:=BS1.cell 0;have fS:=BS1.free 0;have zS:=BS1.lt;simp only[gA,gB,gC]at cB cB1 y2 y2b t2 t6 dS;have HBS1:=zH BS1;have HA5b:=zH a5b;have HC2:=zH hc2;have HO1:=zH (((Only.of_ext (L:=[bM,bS]) b2).then (Only.allocN _ _ _)).then (o1.mono (fun y hy=>by simp at hy;simp[hy])));clear A5 hr3 hc2 o1 a5b BB BX BT BS BB1 BX1 BT1 BS1 hV1 b2 s2 m1 zz zS0)
     refine WghI.next (by omega) (by omega) (by omega) (by omega) (by omega) HI.out HO1.out ?_ HA5b.out HC2.out HX0.out hOB;rw [FIN.out];exact HBS1.out
   ·have tk:(m.kind != 1)=true:=by simpa using hk1
    have HK1:=zH hk1;clear hk1
    by_cases hqz:q=0
    ·have tq:((q:Int)+1 == 1)=true:=by simp[hqz]
     have FIN:Hid (lnkF (kndF s) (lksF s) (nosF pre++[x.1.no])=S0+m.links-1):=by
      show _=_;rw [lnkF_snoc,if_neg (by rw[←HKD1.out];exact HK1.out),if_neg (HMEM.out.1 hqz),←HS0.out,←HLK1.out]
     clear hqz;gi_wp2_with (gi_at_call 45;refine (KS1.out _).mono ?_;rintro e w2 ⟨rfl,b2⟩;clear c4 z4 y2 yz;have A5:=(HA5.out.ext b2).alloc (.cells #[.int .i64 m.no,.int .i64 m.dev,.int .i64 m.kind,.int .i64 m.mode,.int .i64 m.uid,.int .i64 m.gid,.int .i64 m.links,.int .i64 m.data.length,.int .i64 m.mtime,.int .i64 m.ctime] 95);have hr1:=run_met A5 HC0.out x.1.no;obtain⟨es2,cl2,hr2,hc2⟩:=run_meet A5 HC0.out x.1.no;obtain⟨V1,hV1⟩:∃V1,V1=putB (w2.alloc (.cells #[.int .i64 m.no,.int .i64 m.dev,.int .i64 m.kind,.int .i64 m.mode,.int .i64 m.uid,.int .i64 m.gid,.int .i64 m.links,.int .i64 m.data.length,.int .i64 m.mtime,.int .i64 m.ctime] 95)) bM (.map es2 cl2):=⟨_,rfl⟩;have o1:Only [bM] (w2.alloc (.cells #[.int .i64 m.no,.int .i64 m.dev,.int .i64 m.kind,.int .i64 m.mode,.int .i64 m.uid,.int .i64 m.gid,.int .i64 m.links,.int .i64 m.data.length,.int .i64 m.mtime,.int .i64 m.ctime] 95)) V1:=(by rw[hV1];exact Only.putB _ _ _);have a5b:Has V1 bM (.map es2 cl2):=(by rw[hV1];exact Has.putB _ A5.lt);rw[←hV1]at hr2;have hr3:=run_met a5b hc2 x.1.no;rw[HCX.out]at hr3;rw[←HQ.out]at hr1 hr2 hr3;have hr3b:(Instr.lookup 93 (.map (some bM)) (.int .i64 x.1.no) false).run Tryz.prog V1=.ok (.int .i64 ((q:Int)+1)) V1:=hr3;have s2:=b2.size;have m1:∀y∈[bM],y=bM:=(fun y hy=>by simpa using hy);have zz:=HA5.out.lt;have zS0:=HA3.out.lt;have BB:=(HA4.out.ext b2).alloc (.cells #[.int .i64 m.no,.int .i64 m.dev,.int .i64 m.kind,.int .i64 m.mode,.int .i64 m.uid,.int .i64 m.gid,.int .i64 m.links,.int .i64 m.data.length,.int .i64 m.mtime,.int .i64 m.ctime] 95);have BX:=(HXB.out.ext b2).alloc (.cells #[.int .i64 m.no,.int .i64 m.dev,.int .i64 m.kind,.int .i64 m.mode,.int .i64 m.uid,.int .i64 m.gid,.int .i64 m.links,.int .i64 m.data.length,.int .i64 m.mtime,.int .i64 m.ctime] 95);have BT:=Has.new w2 (.cells #[.int .i64 m.no,.int .i64 m.dev,.int .i64 m.kind,.int .i64 m.mode,.int .i64 m.uid,.int .i64 m.gid,.int .i64 m.links,.int .i64 m.data.length,.int .i64 m.mtime,.int .i64 m.ctime] 95);have BS:=(HA3.out.ext b2).alloc (.cells #[.int .i64 m.no,.int .i64 m.dev,.int .i64 m.kind,.int .i64 m.mode,.int .i64 m.uid,.int .i64 m.gid,.int .i64 m.links,.int .i64 m.data.length,.int .i64 m.mtime,.int .i64 m.ctime] 95);have BB1:=o1.has BB (fun hy=>by have:=m1 _ hy;omega);have BX1:=o1.has BX (fun hy=>by have:=m1 _ hy;omega);have BT1:=o1.has BT (fun hy=>by have:=m1 _ hy;omega);have BS1:=o1.has BS (fun hy=>by have:=m1 _ hy;omega);have n1:w2.heap.size≠bS:=(by omega);have n2:bS≠w2.heap.size:=(by omega);have cB:=BB.cell 0;have zB:=BB.lt;have cB1:=BB1.cell 0;have zB1:=BB1.lt;have y2:=BX.cell 2;have yz:=BX.lt;have y2b:=BX1.cell 2;have yzb:=BX1.lt;have t2:=BT1.cell 2;have t6:=BT1.cell 6;have tz:=BT1.lt;have dS:=BS1.cell 0;have fS:=BS1.free 0;have zS:=BS1.lt;simp only[gA,gB,gC]at cB cB1 y2 y2b t2 t6 dS;have HBS1:=zH BS1;have HA5b:=zH a5b;have HC2:=zH hc2;have HO1:=zH (((Only.of_ext (L:=[bM,bS]) b2).then (Only.allocN _ _ _)).then (o1.mono (fun y hy=>by simp at hy;simp[hy])));clear A5 hr3 hc2 o1 a5b BB BX BT BS BB1 BX1 BT1 BS1 hV1 b2 s2 m1 zz zS0)
     refine WghI.next (by omega) (by omega) (by omega) (by omega) (by omega) HI.out ((HO1.out.then ((Only.setCell _ bS 0 _).mono (by simp))).then ((Only.setCell _ bS 0 _).mono (by simp))) ?_ ((Only.setCell _ bS 0 _).has ((Only.setCell _ bS 0 _).has HA5b.out (by simp;omega)) (by simp;omega)) HC2.out HX0.out hOB;rw [FIN.out];exact Has.setCell (Has.setCell HBS1.out 0 (.int .i64 (S0+m.links))) 0 _
    ·have tq:((q:Int)+1 == 1)=false:=by simp;omega
     have FIN:Hid (lnkF (kndF s) (lksF s) (nosF pre++[x.1.no])=S0-1):=by
      show _=_;rw [lnkF_snoc,if_neg (by rw[←HKD1.out];exact HK1.out),if_pos (Classical.byContradiction fun hn=>hqz (HMEM.out.2 hn)),←HS0.out]
     clear hqz;gi_wp2_with (gi_at_call 45;refine (KS1.out _).mono ?_;rintro e w2 ⟨rfl,b2⟩;clear c4 z4 y2 yz;have A5:=(HA5.out.ext b2).alloc (.cells #[.int .i64 m.no,.int .i64 m.dev,.int .i64 m.kind,.int .i64 m.mode,.int .i64 m.uid,.int .i64 m.gid,.int .i64 m.links,.int .i64 m.data.length,.int .i64 m.mtime,.int .i64 m.ctime] 95);have hr1:=run_met A5 HC0.out x.1.no;obtain⟨es2,cl2,hr2,hc2⟩:=run_meet A5 HC0.out x.1.no;obtain⟨V1,hV1⟩:∃V1,V1=putB (w2.alloc (.cells #[.int .i64 m.no,.int .i64 m.dev,.int .i64 m.kind,.int .i64 m.mode,.int .i64 m.uid,.int .i64 m.gid,.int .i64 m.links,.int .i64 m.data.length,.int .i64 m.mtime,.int .i64 m.ctime] 95)) bM (.map es2 cl2):=⟨_,rfl⟩;have o1:Only [bM] (w2.alloc (.cells #[.int .i64 m.no,.int .i64 m.dev,.int .i64 m.kind,.int .i64 m.mode,.int .i64 m.uid,.int .i64 m.gid,.int .i64 m.links,.int .i64 m.data.length,.int .i64 m.mtime,.int .i64 m.ctime] 95)) V1:=(by rw[hV1];exact Only.putB _ _ _);have a5b:Has V1 bM (.map es2 cl2):=(by rw[hV1];exact Has.putB _ A5.lt);rw[←hV1]at hr2;have hr3:=run_met a5b hc2 x.1.no;rw[HCX.out]at hr3;rw[←HQ.out]at hr1 hr2 hr3;have hr3b:(Instr.lookup 93 (.map (some bM)) (.int .i64 x.1.no) false).run Tryz.prog V1=.ok (.int .i64 ((q:Int)+1)) V1:=hr3;have s2:=b2.size;have m1:∀y∈[bM],y=bM:=(fun y hy=>by simpa using hy);have zz:=HA5.out.lt;have zS0:=HA3.out.lt;have BB:=(HA4.out.ext b2).alloc (.cells #[.int .i64 m.no,.int .i64 m.dev,.int .i64 m.kind,.int .i64 m.mode,.int .i64 m.uid,.int .i64 m.gid,.int .i64 m.links,.int .i64 m.data.length,.int .i64 m.mtime,.int .i64 m.ctime] 95);have BX:=(HXB.out.ext b2).alloc (.cells #[.int .i64 m.no,.int .i64 m.dev,.int .i64 m.kind,.int .i64 m.mode,.int .i64 m.uid,.int .i64 m.gid,.int .i64 m.links,.int .i64 m.data.length,.int .i64 m.mtime,.int .i64 m.ctime] 95);have BT:=Has.new w2 (.cells #[.int .i64 m.no,.int .i64 m.dev,.int .i64 m.kind,.int .i64 m.mode,.int .i64 m.uid,.int .i64 m.gid,.int .i64 m.links,.int .i64 m.data.length,.int .i64 m.mtime,.int .i64 m.ctime] 95);have BS:=(HA3.out.ext b2).alloc (.cells #[.int .i64 m.no,.int .i64 m.dev,.int .i64 m.kind,.int .i64 m.mode,.int .i64 m.uid,.int .i64 m.gid,.int .i64 m.links,.int .i64 m.data.length,.int .i64 m.mtime,.int .i64 m.ctime] 95);have BB1:=o1.has BB (fun hy=>by have:=m1 _ hy;omega);have BX1:=o1.has BX (fun hy=>by have:=m1 _ hy;omega);have BT1:=o1.has BT (fun hy=>by have:=m1 _ hy;omega);have BS1:=o1.has BS (fun hy=>by have:=m1 _ hy;omega);have n1:w2.heap.size≠bS:=(by omega);have n2:bS≠w2.heap.size:=(by omega);have cB:=BB.cell 0;have zB:=BB.lt;have cB1:=BB1.cell 0;have zB1:=BB1.lt;have y2:=BX.cell 2;have yz:=BX.lt;have y2b:=BX1.cell 2;have yzb:=BX1.lt;have t2:=BT1.cell 2;have t6:=BT1.cell 6;have tz:=BT1.lt;have dS:=BS1.cell 0;have fS:=BS1.free 0;have zS:=BS1.lt;simp only[gA,gB,gC]at cB cB1 y2 y2b t2 t6 dS;have HBS1:=zH BS1;have HA5b:=zH a5b;have HC2:=zH hc2;have HO1:=zH (((Only.of_ext (L:=[bM,bS]) b2).then (Only.allocN _ _ _)).then (o1.mono (fun y hy=>by simp at hy;simp[hy])));clear A5 hr3 hc2 o1 a5b BB BX BT BS BB1 BX1 BT1 BS1 hV1 b2 s2 m1 zz zS0)
     refine WghI.next (by omega) (by omega) (by omega) (by omega) (by omega) HI.out (HO1.out.then ((Only.setCell _ bS 0 _).mono (by simp))) ?_ ((Only.setCell _ bS 0 _).has HA5b.out (by simp;omega)) HC2.out HX0.out hOB;rw [FIN.out];exact Has.setCell HBS1.out 0 _
  ·have t0:(x.2 != 0)=true:=by simpa using hx0
   have V8:=HH8.out.ext a1;have V9:=HH9.out.ext a1;have c8:=V8.cell 0;have f8:=V8.free 0;have z8:=V8.lt;have c9:=V9.cell 0;have f9:=V9.free 0;have z9:=V9.lt;have EV:=zH (HE1.out.trans a1);have HX0:=zH hx0;have HV8:=zH V8;have HV9:=zH V9;clear hG hx0 V8 V9 hXB a1 a3 a4 a5 a6;gi_wp2;obtain ⟨Y1,hY1⟩:∃Y,Y=V.setCell ⟨b8,0,none⟩ (.int .i64 0):=⟨_,rfl⟩;have p1:Only [b8] V Y1:=by rw[hY1];exact Only.setCell _ _ _ _
   have q8:Has Y1 b8 (.cells #[.int .i64 0] 3):=by rw[hY1];exact Has.setCell HV8.out 0 _
   have q9:Has Y1 b9 (.cells #[.int .i64 0] 47):=p1.has HV9.out (by simp;omega);rw [←hY1];have p3:=Only.setCell Y1 b9 0 (.int .i64 x.2);have o9:Only [b8,b9] V (Y1.setCell ⟨b9,0,none⟩ (.int .i64 x.2)):=(p1.mono (by simp)).then (p3.mono (by simp));exact ⟨o9.keepsFrom (fun y hy=>.inl (by simp at hy;omega)),rfl,o9.after EV.out (fun y hy=>by simp at hy;omega),p3.has q8 (by simp;omega),pre,x,rfl,HX0.out,Has.setCell q9 0 _⟩
 case done =>
  rintro D O xs V hD hxs hI hK;have hn7:∀y∈told l b0 e0,y.2=0:=by rw[←hxs];exact hI.2.2.2.2.2.1
  obtain ⟨h0,hmap⟩:=told_zero (l:=l) (b:=b0) (e:=e0) hn7;have hnos:nosF xs=l.map (·.no):=by rw[hxs,←hmap];unfold nosF;rw[List.map_map];rw[hmap];rfl
  obtain ⟨a1,_,a3,a4,⟨es,cl,a5,a6⟩,_,_,a9⟩:=hI;rw [hnos]at a3;have V8:=HH8.out.ext a1;have V9:=HH9.out.ext a1;have c8:=V8.cell 0;have f8:=V8.free 0;have z8:=V8.lt;have c9:=V9.cell 0;have f9:=V9.free 0;have z9:=V9.lt;have cS:=a3.cell 0;have zS:=a3.lt;simp only[gA,gB]at cS;obtain ⟨X,hX⟩:∃X,X=lnkF (kndF s) (lksF s) (l.map (·.no)):=⟨_,rfl⟩;rw [←hX]at cS;have HX:=zH hX;have EV:=zH (HE1.out.trans a1);have HV8:=zH V8;have HV9:=zH V9;have HK:=zH hK;subst h0;clear hX V8 V9 hK hn7 hxs hmap hnos a1 a3 a4 a5 a6;gi_wp2;obtain ⟨Y1,hY1⟩:∃Y,Y=V.setCell ⟨b8,0,none⟩ (.int .i64 X):=⟨_,rfl⟩;obtain ⟨Y3,hY3⟩:∃Y,Y=Y1.setCell ⟨b9,0,none⟩ (.int .i64 0):=⟨_,rfl⟩;have p1:Only [b8] V Y1:=by rw[hY1];exact Only.setCell _ _ _ _
  have p3:Only [b9] Y1 Y3:=by rw[hY3];exact Only.setCell _ _ _ _
  have q8:Has Y3 b8 (.cells #[.int .i64 X] 3):=p3.has (by rw[hY1];exact Has.setCell HV8.out 0 _) (by simp;omega);have q9:Has Y3 b9 (.cells #[.int .i64 0] 47):=by rw[hY3];exact Has.setCell (p1.has HV9.out (by simp;omega)) 0 _
  rw [←hY1,←hY3];have o2:Only [b8,b9] V Y3:=(p1.mono (by simp)).then (p3.mono (by simp));have hK2:=o2.has HK.out (by simp;omega);refine ⟨by simp,.inl ⟨_,_,rfl,run_takeDeferred hK2,?_⟩⟩;have o3:Only [b8,b9,D] V (Y3.putObj D (.deferred none)):=(o2.mono (by simp)).then ((Only.putObj Y3 D _).mono (by simp));have r8:=((Only.putObj Y3 D (.deferred none)).has q8 (by simp;omega)).cell 0;have r9:=((Only.putObj Y3 D (.deferred none)).has q9 (by simp;omega)).cell 0;refine ⟨.tuple #[.int .i64 X,.int .i64 0],by simp[results,Tryz.results22,go_sem,r8,r9],?_⟩;exact Ret.mk (by rw[HX.out]) (o3.after EV.out (fun x hx=>by simp at hx;omega))
 case stop =>
  rintro D cc pre V hD hp ⟨rfl,hE,h8,q,y,rfl,hy,h9⟩ hK;obtain ⟨e1,e2,e3⟩:=told_last hp hy;have EV:=hE;gi_wp2;refine ⟨by simp,.inl ⟨_,_,rfl,run_takeDeferred hK,?_⟩⟩;have r8:=((Only.putObj V D (.deferred none)).has h8 (by simp;omega)).cell 0;have r9:=((Only.putObj V D (.deferred none)).has h9 (by simp;omega)).cell 0;rw [e1]at r9;refine ⟨.tuple #[.int .i64 0,.int .i64 e0],by simp[results,Tryz.results22,go_sem,r8,r9],?_⟩;exact Ret.mk rfl ((Only.putObj V D _).after EV (fun x hx=>by simp at hx;omega))
end Go.Proofs.YtpibnfdolojpcaaGreat
namespace Go.Proofs.YtpibnfdolojpcaaGreat
open Go.ChangeShapes Go.WideShapes Go.ChangeAt Go.RowKit
def seekG (S:TreeD) (cu cg:Int) (fol:Bool):Nat→Int→List (List UInt8)→Nat→Bool→Option (FndD×Int)
 | 0,_,_,_,_=>none
 | _+1,at_,[],_,_=>some (⟨0,[],at_,true⟩,0)
 | n + 1,at_,p::l,h,m =>
  if stepE S cu cg at_ p≠0 then some (fndZ,stepE S cu cg at_ p)
  else if p=[46,46] then seekG S cu cg fol n (aboveF S at_) l h m
  else if isN S.nodes (stepN S at_ p)=false then (if l=[] then some (⟨at_,p,0,m⟩,0) else some (fndZ,5))
  else if (getN S.nodes (stepN S at_ p)).kind=3∧(l≠[]∨m=true∨fol=true) then
   (if 8<h+1 then some (fndZ,12) else if (getN S.nodes (stepN S at_ p)).data=[] then some (fndZ,5)
    else seekG S cu cg fol n (if (getN S.nodes (stepN S at_ p)).data.head?=some 47 then 1 else at_) (partsN (getN S.nodes (stepN S at_ p)).data++l) (h+1) (m || (l.isEmpty&&slashB (getN S.nodes (stepN S at_ p)).data)))
  else if (getN S.nodes (stepN S at_ p)).kind≠1∧(l≠[]∨m=true) then some (fndZ,9)
  else if l=[] then some (⟨at_,p,stepN S at_ p,m⟩,0)
  else seekG S cu cg fol n (stepN S at_ p) l h m
theorem seekG_eq {S:TreeD} {cu cg:Int} {fol:Bool} {r:FndD×Int}:∀(n:Nat) (at_:Int) (l:List (List UInt8)) (h:Nat) (m:Bool),seekG S cu cg fol n at_ l h m=some r→seekF S cu cg fol at_ l h m=r
 | 0,_,_,_,_,k=>by cases k
 | n+1,at_,[],h,m,k=>by rw[seek_nil];unfold seekG at k;injection k
 | n + 1, at_, p::l,h,m,k=>by
  unfold seekG at k;rw [seekF];split at k
  ·rename_i c1;rw[if_pos c1];injection k
  ·rename_i c1
   rw [if_neg c1];split at k
   ·rename_i c2;rw[if_pos c2];exact seekG_eq n _ _ _ _ k
   ·rename_i c2
    rw [if_neg c2];split at k
    ·rename_i c3
     rw [if_pos c3];split at k
     ·rename_i c4;rw[if_pos c4];injection k
     ·rename_i c4;rw[if_neg c4];injection k
    ·rename_i c3
     rw [if_neg c3];split at k
     ·rename_i c4
      rw [if_pos c4];split at k
      ·rename_i c5;rw[dif_pos c5];injection k
      ·rename_i c5
       rw [dif_neg c5];split at k
       ·rename_i c6;rw[if_pos c6];injection k
       ·rename_i c6;rw[if_neg c6];exact seekG_eq n _ _ _ _ k
     ·rename_i c4
      rw [if_neg c4];split at k
      ·rename_i c5;rw[if_pos c5];injection k
      ·rename_i c5
       rw [if_neg c5];split at k
       ·rename_i c6;rw[if_pos c6];injection k
       ·rename_i c6;rw[if_neg c6];exact seekG_eq n _ _ _ _ k
def ex15A:ItemD:=⟨0,[100],1,448,0,0,[],0⟩
def ex15B:ItemD:=⟨0,[108],3,0,0,0,[100,47],0⟩
def ex15C:ItemD:=⟨1,[120],2,0,0,0,[],0⟩
def b15:TreeD:=growAll (firstT 99 99) [ex15A,ex15B,ex15C]
def pathG (S:TreeD) (cu cg:Int) (p:List UInt8) (fol:Bool):Option (FndD×Int):=if pathN p=0 then seekG S cu cg fol 40 1 (partsN p) 0 (slashB p) else some (fndZ,pathN p)
theorem pathG_eq {S:TreeD} {cu cg:Int} {p:List UInt8} {fol:Bool} {r:FndD×Int} (h:pathG S cu cg p fol=some r):pathF S cu cg p fol=r:=by
 unfold pathG at h;unfold pathF;split
 ·rename_i h1;rw[if_pos h1]at h;exact seekG_eq _ _ _ _ _ h
 ·rename_i h1;rw[if_neg h1]at h;injection h
def mntG (S:TreeD) (m:MntD):Option TreeD:=
 match pathG S 0 0 m.path false with
 | none=>none
 | some r=>some (if r.2≠0 then S
  else if r.1.no=0 then (if chgE S 0 0 0 (.mkdir r.1.dir r.1.name 493)=0 then mountT (chgT S 0 0 0 (.mkdir r.1.dir r.1.name 493)) (chgN S 0 0 0 (.mkdir r.1.dir r.1.name 493)) m.b m.n else chgT S 0 0 0 (.mkdir r.1.dir r.1.name 493))
  else mountT S r.1.no m.b m.n)
theorem mntG_eq {S T:TreeD} {m:MntD} (h:mntG S m=some T):mntT S m=T:=by
 unfold mntG at h;split at h
 ·cases h
 ·rename_i r hr
  injection h with h;have hp:mntP S m=r:=pathG_eq hr;unfold mntT mntC;rw [hp];exact h
def mntsG (S:TreeD):List MntD→Option TreeD
 | []=>some S
 | m::l=>if topB m=true then mntsG S l else match mntG S m with|none=>none|some T=>mntsG T l
theorem mntsG_eq {S T:TreeD} {l:List MntD} (h:mntsG S l=some T):mntsT S l=T:=by
 induction l generalizing S with
 | nil=>injection h
 | cons m l ih =>
  unfold mntsG at h;unfold mntsT;rw [List.foldl_cons];split at h
  ·rename_i h1;rw[if_pos h1];exact ih h
  ·rename_i h1
   rw [if_neg h1];split at h
   ·cases h
   ·rename_i T1 h2;rw[mntG_eq h2];exact ih h
def itmG (S:TreeD) (it:ItmD):Option (TreeD×Int):=
 match pathG S 0 0 it.path false,(if it.kind=4 then pathG S 0 0 it.data false else some (fndZ,1)) with
 | some r,some y =>
  let c:Option Chg:=if r.2≠0 then none else if r.1.no≠0 then none
   else if it.kind=1 then some (.mkdir r.1.dir r.1.name 493)
   else if it.kind=2 then some (.create r.1.dir r.1.name 420 it.data)
   else if it.kind=3 then some (.symlink r.1.dir r.1.name it.data)
   else if it.kind=4 then (if y.2=0 then some (.link y.1.no r.1.dir r.1.name) else none)
   else none
  let T:=match c with|some x=>chgT S 0 0 0 x|none=>S
  let n:=match c with|some x=>chgN S 0 0 0 x|none=>if r.2=0∧r.1.no≠0∧it.kind=1∧(getN S.nodes r.1.no).kind=1 then r.1.no else 0
  some (dressT T n it,n)
 | _,_=>none
theorem itmG_eq {S:TreeD} {it:ItmD} {r:TreeD×Int} (h:itmG S it=some r):dressT (itmT S it) (itmN S it) it=r.1∧itmN S it=r.2:=by
 unfold itmG at h;split at h
 case h_2=>cases h
 rename_i r1 y h1 h2;have hp:itmP S it=r1:=pathG_eq h1;have hc:itmC S it=(if r1.2≠0 then none else if r1.1.no≠0 then none
   else if it.kind=1 then some (.mkdir r1.1.dir r1.1.name 493)
   else if it.kind=2 then some (.create r1.1.dir r1.1.name 420 it.data)
   else if it.kind=3 then some (.symlink r1.1.dir r1.1.name it.data)
   else if it.kind=4 then (if y.2=0 then some (.link y.1.no r1.1.dir r1.1.name) else none)
   else none):=by
  unfold itmC;rw [hp]
  by_cases h4:it.kind=4
  ·rw [if_pos h4]at h2
   have hl:itmL S it=y:=pathG_eq h2;rw [hl]
  ·rw[if_neg h4,if_neg h4]
 injection h with h;unfold itmT itmN;rw [hc,hp,←h];exact ⟨rfl,rfl⟩
def itemsG (S:TreeD) (ns:List Int):List ItmD→Option (TreeD×List Int)
 | []=>some (S,ns)
 | it::l=>match itmG S it with|none=>none|some r=>itemsG r.1 (ns++[r.2]) l
theorem itemsG_eq {S:TreeD} {ns:List Int} {l:List ItmD} {r:TreeD×List Int} (h:itemsG S ns l=some r):itemsS (S,ns) l=r:=by
 induction l generalizing S ns with
 | nil=>injection h
 | cons it l ih =>
  unfold itemsG at h;unfold itemsS;rw [List.foldl_cons];split at h
  ·cases h
  ·rename_i r1 h1
   obtain ⟨k1,k2⟩:=itmG_eq h1;have:itemS (S,ns) it=(r1.1,ns++[r1.2]):=by unfold itemS;rw[k1,k2]
   rw [this];exact ih h
def plantG (ms:List MntD) (is:List ItmD):Option TreeD:=
 match mntsG (seed0 ms) ms with
 | none=>none
 | some T=>match itemsG T [] is with|none=>none|some r=>some (timesT r.1 (r.2.zip is))
theorem plantG_eq {ms:List MntD} {is:List ItmD} {T:TreeD} (h:plantG ms is=some T):plantT ms is=T:=by
 unfold plantG at h;split at h
 ·cases h
 ·rename_i T1 h1
  split at h
  ·cases h
  ·rename_i r h2
   injection h with h;unfold plantT seed2;rw [mntsG_eq h1,itemsG_eq h2,h]
def downG (S:TreeD) (cu cg:Int):Nat→List SpotD→Option (List SpotD×SpotD×Int)
 | 0,_=>none
 | _+1,[]=>some ([],spotZ,0)
 | n+1,x::t=>if intoE S cu cg x≠0 then some ([],x,intoE S cu cg x) else
  match downG S cu cg n (intoL S cu cg x++t) with|none=>none|some r=>some (x::r.1,r.2)
theorem downG_eq {S:TreeD} {cu cg:Int}:∀{n:Nat} {t:List SpotD} {r:List SpotD×SpotD×Int},downG S cu cg n t=some r→DownR S cu cg t r.1 r.2.1 r.2.2
 | 0,_,_,h=>by cases h
 | n+1,[],r,h=>by injection h with h;subst h;exact .nil
 | n + 1,x::t,r,h=>by
  unfold downG at h;split at h
  ·rename_i h1;injection h with h;subst h;exact .bad h1
  ·rename_i h1
   split at h
   ·cases h
   ·rename_i r1 h2;injection h with h;subst h;exact .step (Decidable.not_not.1 h1) (downG_eq h2)
theorem down_deep {S:TreeD} {cu cg:Int} {todo l:List SpotD} {b:SpotD} {e:Int} (h:DownR S cu cg todo l b e) (d:Int):(∀y∈todo,d≤y.depth)→∀y∈l,d≤y.depth:=by
 induction h with
 | nil=>intro _ y hy;cases hy
 | bad _=>intro _ y hy;cases hy
 | @step x t l b e _ _ ih =>
  intro h1 y hy;have hx:=h1 x (List.mem_cons_self ..);rcases List.mem_cons.1 hy with rfl|hy
  ·exact hx
  ·refine ih (fun z hz=>?_) y hy
   rcases List.mem_append.1 hz with hz|hz
   ·have:=intoL_depth hz;omega
   ·exact h1 z (List.mem_cons_of_mem _ hz)
theorem RowAt.of_has {α:Type} {R:RowK α} {w:World} {b:Nat} {l:List α} (h:Has w b (.cells (R.cells l).toArray R.t)):RowAt R w (some ⟨b,0,none⟩) l:=.inr ⟨b,0,rfl,h.lt,fun i hi j hj=>by rw[Nat.zero_add,h.cell,gA];exact R.cells_get l i hi j hj⟩
theorem below_paths {c:Nat} {S:TreeD} (h:Tre c S) (hn:NoEnts S) (hl:ListUp S) {r:Int→Nat} (hr:Rank S r) {t:List TodoD} {nos:List Int} {l:List RwD} (hd:BelowR S t nos l):(∀x∈t,PathOk S r x)→∀y∈l,y.path.length≤300*(S.nodes.length+2):=by
 induction hd with
 | nil=>intro _ y hy;cases hy
 | none _ _ ih=>intro hp y hy;exact ih (fun x hx=>hp x (List.mem_cons_of_mem _ hx)) y hy
 | @step x t nos l _ _ ih =>
  intro hp y hy;rcases List.mem_cons.1 hy with rfl|hy
  ·exact (hp x (List.mem_cons_self ..)).1
  ·refine ih (fun z hz=>?_) y hy
   rcases List.mem_append.1 hz with hz|hz
   ·exact pathOk_kids h hn hl hr (hp x (List.mem_cons_self ..)) z hz
   ·exact hp z (List.mem_cons_of_mem _ hz)
def SpotR (S:TreeD) (w:World) (e:Ending) (w':World):Prop:=∃(dir:Int) (nm:List UInt8) (is:Bool),e=.returned (.tuple #[.int .i64 dir,.string (bs nm),.bool is])∧nm.length≤255∧(is=true→nm≠[]∧∃p,(pathF S 0 0 p false).2=0∧(pathF S 0 0 p false).1.dir=dir∧(pathF S 0 0 p false).1.name=nm)∧Ext w w'
theorem spot_any {w:World} {B:Nat} {f:GhF} {s:SysD} (h:RS w B f s) (k:PlE 140 s.t) (a:Int) :
  Calls Tryz.prog 13 #[.pointer (some ⟨f.bF,0,none⟩),.int .i64 a] w (SpotR s.t w):=by
 obtain ⟨rows,r,hB,hl,hr,hp⟩:=plant_rows k;have KR:=zH (rrows_any h k rows hB hl hr hp);have hpl:=below_paths k.plt.tre k.plt.noe k.plt.kids.up hr hB (fun x hx=>by rw[List.mem_singleton]at hx;subst hx;exact hp);have hnl:s.t.nodes.length≤200:=by have:=k.plt.tre.count;have:=k.plt.last;omega
 obtain ⟨Xt,F⟩:=h.fat;have KP:Hid (∀(u:World) (p:List UInt8),Ext w u→p.length≤1000000→Calls Tryz.prog 40 #[.pointer (some ⟨f.bF,0,none⟩),.agg #[.int .i64 0,.int .i64 0],.string (bs p),.bool false] u (FndR u (pathF s.t 0 0 p false))):=fun u p hu hp=>rpath15_any B f s.t Xt 0 0 p false u (F.ext hu) k.plt.tre (by omega) (by have:=k.plt.last;omega) hp
 have HPL:=zH hpl;have HL:=zH hl;clear h F hB hl hr hp hpl;go_enter Tryz.func13,Tryz.ntmps13;go_wp2_with fail;refine KR.out.mono ?_;rintro e w1 ⟨v,rfl,hO,hE⟩;obtain ⟨A,cap,rfl,_,_,hat,_⟩:=hO.at_;obtain ⟨n,hn⟩:∃n,n=rows.length:=⟨_,rfl⟩;rw [←hn];have HN:=zH hn;have HAT:=zH hat;have HE:=zH hE;clear KR hO hE hn hat
 by_cases h2:(n:Int)<2
 case pos =>
  have t2:decide ((n:Int)<2)=true:=decide_eq_true h2;clear h2;go_wp2_with fail;refine bodyPost_ret (v:=.tuple #[.int .i64 1,.string ⟨#[110,111,110,101]⟩,.bool false]) (by simp[results,Tryz.results13,go_sem]) rfl ?_;exact ⟨1,[110,111,110,101],false,rfl,by decide,(fun h=>by cases h),HE.out⟩
 case neg =>
  have t2:decide ((n:Int)<2)=false:=decide_eq_false h2;obtain ⟨d,hd⟩:∃d,n=d+1:=⟨n-1,by omega⟩;have hd1:1≤d:=by omega
  have hdl:d≤200:=by have:=HL.out;have:=HN.out;omega
  subst hd;obtain ⟨q,hq⟩:∃q:Nat,((q:Nat):Int)=a % 18446744073709551616 % (d:Int):=⟨(a % 18446744073709551616 % (d:Int)).toNat,Int.toNat_of_nonneg (Int.emod_nonneg _ (by omega))⟩;have hqd:q<d:=by have:=Int.emod_lt_of_pos (a % 18446744073709551616) (show (0:Int)<d by omega);omega
  have y1:(IntKind.u64.wrap a).tmod (d:Int)=(q:Int):=by
   rw [wrap_u64_mod,Int.tmod_eq_emod_of_nonneg (Int.emod_nonneg _ (by decide)),hq]
  have y2:IntKind.u64.wrap (d:Int)=(d:Int):=by rw[wrap_u64_mod];omega
  have y3:IntKind.i64.wrap (((d+1:Nat):Int)-1)=(d:Int):=by rw[IntWalk.i64_in _ (by omega)];omega
  have y3':IntKind.i64.wrap ((d:Int)+1-1)=(d:Int):=by rw[IntWalk.i64_in _ (by omega)];omega
  have y4:IntKind.i64.wrap (q:Int)=(q:Int):=IntWalk.i64_in _ (by omega);obtain ⟨j,hj⟩:∃j,j=1+q:=⟨_,rfl⟩;have y5:IntKind.i64.wrap (1+(q:Int))=(j:Int):=by rw[IntWalk.i64_in _ (by omega)];omega
  have y6:(0:Int)≤(j:Int):=Int.natCast_nonneg _;have y7:(j:Int)<(d:Int)+1:=by omega
  have y8:((d:Int) == 0)=false:=by simp;omega
  have y9:(d:Int)≠0:=by omega
  have hjl:j<rows.length:=by have:=HN.out;omega
  obtain ⟨g,o,rfl,hg,hc⟩:∃b o,A=some ⟨b,o,none⟩∧b<w1.heap.size∧w1.cell? ⟨b,o+j*10,none⟩=some (.string (bs rows[j].path)):=by
   rcases HAT.out with h|⟨b,o,hA,hb,hc⟩
   ·rw[h]at hjl;cases hjl
   ·exact⟨b,o,hA,hb,hc j hjl 0 (by decide)⟩
  have hpj:=HPL.out rows[j] (List.getElem_mem hjl);obtain ⟨p,hp⟩:∃p,p=rows[j].path:=⟨_,rfl⟩;rw [←hp]at hc hpj;obtain ⟨R,hR⟩:∃R,R=pathF s.t 0 0 p false:=⟨_,rfl⟩;have KF:=KP.out w1 p HE.out (by omega);rw [←hR]at KF;have KF2:Hid (Calls Tryz.prog 40 #[.pointer (some ⟨f.bF,0,none⟩),.agg #[.int .i64 0,.int .i64 0],.string (bs p),.bool false] w1 (Ret w1 (.tuple #[.agg #[.int .i64 R.1.dir,.string (bs R.1.name),.int .i64 R.1.no,.bool R.1.slash],.int .i64 R.2]))):=KF;have HRR:=zH hR;have hnm:Hid (R.1.name.length≤255):=by show _≤_;rw[hR];exact path_name _ _ _ _ _
  clear h2 hq hqd hj hjl hp hpj KF hR hd1;go_wp2_with fail;refine KF2.out.mono ?_;rintro e w2 ⟨rfl,b2⟩;go_upto_region 5 with fail;obtain ⟨W3,hW3⟩:∃W,W=w2.alloc (.cells #[.int .i64 R.1.dir,.string (bs R.1.name),.int .i64 R.1.no,.bool R.1.slash] 82):=⟨_,rfl⟩;obtain ⟨b8,hb8⟩:∃b,b=w2.heap.size:=⟨_,rfl⟩;have E3:Ext w1 W3:=by rw[hW3];exact b2.alloc _
  have X3:Has W3 b8 (.cells #[.int .i64 R.1.dir,.string (bs R.1.name),.int .i64 R.1.no,.bool R.1.slash] 82):=by rw[hW3,hb8];exact Has.new _ _
  rw [←hW3,←hb8];clear hW3 hb8 b2 hc y1 y2 y3 y3' y4 y5 y6 y7 y8 y9 hg t2 KF2;have x0:=X3.cell 0;have x1:=X3.cell 1;have xz:=X3.lt;simp only[gA,gB,gC]at x0 x1;obtain ⟨t0,_,_,t3⟩:=txt_tests (p:=R.1.name);obtain ⟨P,hP⟩:∃P,P=bs R.1.name:=⟨_,rfl⟩;rw [←hP]at x1 t0 t3;have HPP:=zH hP;clear hP X3;have fin:Hid (∀(is:Bool) (u:World),Ext W3 u→(is=true→R.2=0∧R.1.name≠[])→SpotR s.t w (.returned (.tuple #[.int .i64 R.1.dir,.string P,.bool is])) u):=by
   show ∀_ _,_;intro is u hu hi;refine ⟨R.1.dir,R.1.name,is,by rw[HPP.out],hnm.out,fun his=>?_,HE.out.trans (E3.trans hu)⟩;obtain ⟨h5,h6⟩:=hi his;exact ⟨h6,p,by rw[←HRR.out];exact h5,by rw[←HRR.out],by rw[←HRR.out]⟩
  by_cases h5:R.2=0
  case neg =>
   have t5:(R.2 == 0)=false:=by simpa using h5
   clear h5;go_quiet (fail);go_wp2_with fail;go_ret3;exact fin.out false _ ((Ext.refl _).drewN nq) (fun h=>by cases h)
  case pos =>
   have t5:(R.2 == 0)=true:=by simpa using h5
   have H5:=zH h5
   by_cases h6:R.1.name=[]
   ·have t6:(R.1.name == [])=true:=by rw[h6];rfl
    rw [t6]at t0 t3;clear h5 h6 t6;go_quiet (fail);go_wp2_with fail;go_ret3;exact fin.out false _ ((Ext.refl _).drewN nq) (fun h=>by cases h)
   ·have t6:(R.1.name == [])=false:=by simpa using h6
    have H6:=zH h6;rw [t6]at t0 t3;clear h5 h6 t6;go_quiet (fail);go_wp2_with fail;go_ret3;exact fin.out true _ ((Ext.refl _).drewN nq) (fun _=>⟨H5.out,H6.out⟩)
theorem CaseAt.ext {w w':World} {x:CaseD} {cs:Array Value} (h:CaseAt w x cs) (E:Ext w w'):CaseAt w' x cs:=by
 obtain ⟨Am,cm,Ai,ci,Ap,cp,h0,h1,h2,h3,h4⟩:=h;exact ⟨Am,cm,Ai,ci,Ap,cp,h0,h1.ext E,h2.ext E,h3.ext E,h4⟩
theorem CaseAt.cells {w:World} {x:CaseD} {cs:Array Value} (h:CaseAt w x cs):∃Am cm Ai ci Ap cp,cs=#[.slice Am x.ms.length cm,.slice Ai x.is.length ci,.int .i64 x.uid,.int .i64 x.gid,.int .i64 x.at_,.int .i64 x.to_,.string (bs x.name),.slice Ap x.plan.length cp,.bool x.keep]:=by
 obtain ⟨Am,cm,Ai,ci,Ap,cp,h0,_⟩:=h;exact ⟨Am,cm,Ai,ci,Ap,cp,h0⟩
theorem planted_sane {x:CaseD} (h:FewX x):PlE 140 (plantT x.ms x.is)∧Sane 140 ⟨plantT x.ms x.is,0,0,x.plan,false⟩:=by
 have k:=plant_ple h.1.1.1 h.1.1.2;refine ⟨k,k.plt.tre,k.plt.noe,k.plt.last,Int.le_refl _,by show (0:Int)≤_;omega,?_⟩;have:=h.2.2;show x.plan.length≤1000;omega
theorem OwnP.lies {w:World} {base:Nat} {v:Value} {l:List SpotD} (h:OwnP w base v l):∃A cap,v=.slice A l.length cap∧SpotsAt w A l∧l.length≤cap:=by
 obtain ⟨A,cap,h1,h2,_,h3,_⟩:=h.at_;exact ⟨A,cap,h1,h3,h2⟩
def awvI:List ItmD:=[⟨[47,100],1,493,0,0,0,[]⟩,⟨[47,100,47,121],2,0,0,0,0,[97,98,99]⟩,⟨[47,100,47,120],4,0,0,0,0,[47,100,47,121]⟩]
def awvT:TreeD:=(plantG [] awvI).getD emptyT
theorem awv_plant:plantT [] awvI=awvT:=plantG_eq (by kernel_rfl)
def awvL:List SpotD:=[⟨1,[100],2,0⟩,⟨2,[120],3,1⟩,⟨2,[121],3,1⟩]
def awvM:List SpotD:=[⟨2,[120],3,0⟩]
abbrev awvS:SysD:=⟨awvT,0,0,[],false⟩
theorem awv_first:firstX awvS 0 0 1 [100]=⟨1,[100],2,0⟩∧firstE awvS 0 0 1 [100]=0:=⟨by kernel_rfl,by kernel_rfl⟩
theorem awv_first2:firstX awvS 0 0 2 [120]=⟨2,[120],3,0⟩∧firstE awvS 0 0 2 [120]=0:=⟨by kernel_rfl,by kernel_rfl⟩
theorem awv_down:DownT awvS 0 0 1 [100] awvL spotZ 0:=.inr ⟨awv_first.2,rfl,by
 rw [awv_first.1];exact downG_eq (n:=9) (r:=(awvL,spotZ,0)) (by kernel_rfl)⟩
theorem awv_down2:DownT awvS 0 0 2 [120] awvM spotZ 0:=.inr ⟨awv_first2.2,rfl,by
 rw [awv_first2.1];exact downG_eq (n:=9) (r:=(awvM,spotZ,0)) (by kernel_rfl)⟩
theorem awv_sane:Sane 140 awvS:=by
 have k:Plt 140 awvT:=by rw[←awv_plant];exact (plant_ple (by decide) (by decide)).plt
 exact k.sane (Int.le_refl _) (by decide)
theorem awv_r1:wghF (datF awvS) (awvL.map (·.no))=3∧(distF (awvL.map (·.no))).length=2:=⟨by kernel_rfl,by kernel_rfl⟩
theorem awv_r2:lnkF (kndF awvS) (lksF awvS) (awvL.map (·.no))=0:=by kernel_rfl
theorem awv_r3:lnkF (kndF awvS) (lksF awvS) (awvM.map (·.no))=1:=by kernel_rfl
theorem awake25 (w:World):Calls Tryz.prog 19 #[] w (Ret w (.bool true)):=by
 obtain ⟨W1,hW1⟩:∃W,W=w.alloc (.cells (rowT.cells awvI).toArray 72):=⟨_,rfl⟩;obtain ⟨b1,hb1⟩:∃b,b=w.heap.size:=⟨_,rfl⟩;have E1:Ext w W1:=by rw[hW1];exact (Ext.refl _).alloc _
 have B1:Has W1 b1 (.cells (rowT.cells awvI).toArray 72):=by rw[hW1,hb1];exact Has.new _ _
 have KP:=zH (pplant_any none [] 0 (some ⟨b1,0,none⟩) awvI 3 W1 (.inl rfl) (RowAt.of_has (R:=rowT) B1) (by decide) (by decide) (fun m hm=>by cases hm) (by decide));have hW1':w.alloc (.cells #[.string ⟨#[47,100]⟩,.int .i64 1,.int .i64 493,.int .i64 0,.int .i64 0,.int .i64 0,.string ⟨#[]⟩,.string ⟨#[47,100,47,121]⟩,.int .i64 2,.int .i64 0,.int .i64 0,.int .i64 0,.int .i64 0,.string ⟨#[97,98,99]⟩,.string ⟨#[47,100,47,120]⟩,.int .i64 4,.int .i64 0,.int .i64 0,.int .i64 0,.int .i64 0,.string ⟨#[47,100,47,121]⟩] 72)=W1:=by rw[hW1];rfl
 clear hW1;go_enter Tryz.func19,Tryz.ntmps19;go_wp2_with fail;rw [←hb1];clear hW1' hb1 B1;refine KP.out.mono ?_;rintro e w2 ⟨b,B,g,rfl,hB,P2,E2⟩;rw [awv_plant]at P2;clear KP;have HE2:=zH (E1.trans E2);have K1:Hid (∀u,Ext w2 u→Calls Tryz.prog 20 #[.pointer (some ⟨b,0,none⟩),.agg #[.int .i64 0,.int .i64 0],.int .i64 1,.string ⟨#[100]⟩] u (Ret u (.tuple #[.int .i64 3,.int .i64 2,.int .i64 0]))):=by
  show ∀_,_;intro u hu;have:=(P2.ext hu).tree awv_sane (by omega) 0 0 1 [100] awvL spotZ 0 awv_down (by decide);rw [if_pos rfl,if_pos rfl,awv_r1.1,awv_r1.2]at this;exact this
 have K2:Hid (∀u,Ext w2 u→Calls Tryz.prog 22 #[.pointer (some ⟨b,0,none⟩),.agg #[.int .i64 0,.int .i64 0],.int .i64 1,.string ⟨#[100]⟩] u (Ret u (.tuple #[.int .i64 0,.int .i64 0]))):=by
  show ∀_,_;intro u hu;have:=(P2.ext hu).links awv_sane (by omega) 0 0 1 [100] awvL spotZ 0 awv_down (by decide);rw [if_pos rfl,awv_r2]at this;exact this
 have K3:Hid (∀u,Ext w2 u→Calls Tryz.prog 22 #[.pointer (some ⟨b,0,none⟩),.agg #[.int .i64 0,.int .i64 0],.int .i64 2,.string ⟨#[120]⟩] u (Ret u (.tuple #[.int .i64 1,.int .i64 0]))):=by
  show ∀_,_;intro u hu;have:=(P2.ext hu).links awv_sane (by omega) 0 0 2 [120] awvM spotZ 0 awv_down2 (by decide);rw [if_pos rfl,awv_r3]at this;exact this
 clear P2 E1 E2;go_wp2_with fail;refine (K1.out _ (Ext.refl _)).mono ?_;rintro e w3 ⟨rfl,E3⟩;go_wp2_with fail;refine (K2.out _ E3).mono ?_;rintro e w4 ⟨rfl,E4⟩;go_wp2_with fail;refine (K3.out _ (E3.trans E4)).mono ?_;rintro e w5 ⟨rfl,E5⟩;go_wp2_with fail;go_ret;exact Ret.mk rfl (HE2.out.trans (E3.trans (E4.trans E5)))
theorem down_split {S:TreeD} {cu cg:Int} {t L:List SpotD} {b:SpotD} {e:Int} (h:DownR S cu cg t L b e):e=0→∀t1 t2,t=t1++t2→∃l1 l2,L=l1++l2∧DownR S cu cg t1 l1 spotZ 0∧DownR S cu cg t2 l2 spotZ 0:=by
 induction h with
 | nil =>
  intro _ t1 t2 ht;obtain ⟨rfl,rfl⟩:=List.append_eq_nil_iff.1 ht.symm;exact ⟨[],[],rfl,.nil,.nil⟩
 | bad h=>exact fun he=>absurd he h
 | @step x t l b e h1 h2 ih =>
  intro he t1 t2 ht;subst he
  cases t1 with
  | nil =>
   rw [List.nil_append]at ht;subst ht;have hb:=h2.err rfl;subst hb;exact ⟨[],x::l,rfl,.nil,.step h1 h2⟩
  | cons y t1 =>
   rw [List.cons_append]at ht;injection ht with ha ht;subst ha;subst ht;obtain ⟨l1,l2,rfl,k1,k2⟩:=ih rfl (intoL S cu cg x++t1) t2 (by rw[List.append_assoc]);exact ⟨x::l1,l2,rfl,.step h1 k1,k2⟩
def shD (d:Int) (x:SpotD):SpotD:={x with depth:=x.depth+d}
theorem into_sh (S:TreeD) (cu cg d:Int) (x:SpotD):intoL S cu cg (shD d x)=(intoL S cu cg x).map (shD d):=by
 have he:intoE S cu cg (shD d x)=intoE S cu cg x:=rfl;have hn:(shD d x).no=x.no:=rfl;unfold intoL;rw [he,hn]
 by_cases h:intoE S cu cg x=0∧(getN S.nodes x.no).kind=1
 ·rw [if_pos h,if_pos h,List.map_map]
  refine List.map_congr_left fun y _=>?_
  show SpotD.mk _ _ _ _=SpotD.mk _ _ _ _
  congr 1
  show x.depth+d+1=x.depth+1+d;omega
 ·rw [if_neg h,if_neg h]
  rfl
theorem down_sh {S:TreeD} {cu cg:Int} (d:Int) {t L:List SpotD} {b:SpotD} {e:Int} (h:DownR S cu cg t L b e):e=0→DownR S cu cg (t.map (shD d)) (L.map (shD d)) spotZ 0:=by
 induction h with
 | nil=>exact fun _=>.nil
 | bad h=>exact fun he=>absurd he h
 | @step x t l b e h1 h2 ih =>
  intro he;have:=ih he;rw [List.map_append,←into_sh]at this;exact .step h1 this
theorem sum_sub (g:Int→Nat):∀(A B:List Int),A.Nodup→(∀a∈A,a∈B)→(A.map g).sum≤(B.map g).sum:=by
 intro A
 induction A with
 | nil=>intro B _ _;exact Nat.zero_le _
 | cons a A ih =>
  intro B hn hs;have hp:=List.perm_cons_erase (hs a (List.mem_cons_self ..));have h1:(B.map g).sum=g a+((B.erase a).map g).sum:=by rw[(hp.map g).sum_nat];rfl
  have hn2:=List.nodup_cons.1 hn;have:=ih (B.erase a) hn2.2 (fun y hy=>by
   refine (List.mem_erase_of_ne ?_).2 (hs y (List.mem_cons_of_mem _ hy));rintro rfl;exact hn2.1 hy)
  rw [h1,List.map_cons,List.sum_cons];omega
def sumF (g:Int→Nat) (L:List Int):Nat:=((distF L).map g).sum
theorem sumF_mono (g:Int→Nat) {A B:List Int} (h:∀a∈A,a∈B):sumF g A≤sumF g B:=
 sum_sub g _ _ (distF_nodup A) (fun a ha=>mem_distF.2 (h a (mem_distF.1 ha)))
theorem sumF_append (g:Int→Nat) (A B:List Int):sumF g (A++B)≤sumF g A+sumF g B:=by
 have:=sum_sub g (distF (A++B)) (distF A++distF B) (distF_nodup _) (fun a ha=>by
  rcases List.mem_append.1 (mem_distF.1 ha) with h|h
  ·exact List.mem_append_left _ (mem_distF.2 h)
  ·exact List.mem_append_right _ (mem_distF.2 h))
 rw [List.map_append,List.sum_append]at this;exact this
theorem sumF_cons (g:Int→Nat) {x:Int} {A:List Int} (hx:x∉A) {B:List Int} (h:∀a∈x::A,a∈B):g x+sumF g A≤sumF g B:=by
 have:=sum_sub g (x::distF A) (distF B) (List.nodup_cons.2 ⟨fun h=>hx (mem_distF.1 h),distF_nodup A⟩) (fun a ha=>by
  refine mem_distF.2 (h a ?_);rcases List.mem_cons.1 ha with rfl|ha
  ·exact List.mem_cons_self ..
  ·exact List.mem_cons_of_mem _ (mem_distF.1 ha))
 rw [List.map_cons,List.sum_cons]at this;exact this
theorem sumF_one (L:List Int):sumF (fun _=>1) L=(distF L).length:=by
 unfold sumF
 generalize distF L=D
 induction D with
 | nil=>rfl
 | cons a D ih=>rw[List.map_cons,List.sum_cons,ih,List.length_cons];omega
theorem sumF_le (g:Int→Nat) (m:Nat) (h:∀n,g n≤m) (L:List Int):sumF g L≤m*L.length:=by
 have:∀D:List Int,(D.map g).sum≤m*D.length:=by
  intro D
  induction D with
  | nil=>exact Nat.zero_le _
  | cons a D ih=>rw[List.map_cons,List.sum_cons,List.length_cons,Nat.mul_succ];have:=h a;omega
 exact Nat.le_trans (this _) (Nat.mul_le_mul_left m (distF_len L))
theorem wgh_sum (g:Int→Nat) (m:Nat) (h:∀n,g n≤m) (hm:m≤1000000) (L:List Int) (hl:L.length≤1000000):wghF (fun n=>(g n:Int)) L=(sumF g L:Nat):=by
 induction L using rev_ind with
 | h0=>rfl
 | h1 L x ih =>
  rw [List.length_append,List.length_singleton]at hl;have hi:=ih (by omega);rw [wghF_snoc];have e:sumF g (L++[x])=if x∈L then sumF g L else sumF g L+g x:=by
   unfold sumF;rw [distF_snoc]
   by_cases hx:x∈L
   ·rw[if_pos hx,if_pos (mem_distF.2 hx)]
   ·rw [if_neg hx,if_neg (fun k=>hx (mem_distF.1 k)),List.map_append,List.sum_append]
    simp
  rw [e]
  by_cases hx:x∈L
  ·rw[if_pos hx,if_pos hx,hi]
  ·rw [if_neg hx,if_neg hx,hi]
   have h1:=sumF_le g m h L;have h2:m*L.length≤1000000*1000000:=Nat.mul_le_mul hm (by omega);have h3:=h x;unfold wrap64;omega
theorem findF_kid {l:List EntD} {nm:List UInt8} (hr:Rise l) {x:EntD} (hx:x∈l) (he:x.1=nm):findF l nm=x.2:=by
 unfold findF
 cases hf:l.find? (fun x=>x.1 == nm) with
 | none=>have:=List.find?_eq_none.1 hf x hx;simp at this;exact absurd he this
 | some y =>
  have h2:=List.find?_some (p:=fun x:EntD=>x.1 == nm) hf;have h2':y.1=nm:=by simpa using h2
  have hy:=List.mem_of_find?_eq_some hf;have : y=x:=by
   obtain ⟨i,hi,rfl⟩:=List.getElem_of_mem hy;obtain ⟨j,hj,rfl⟩:=List.getElem_of_mem hx;rcases Nat.lt_trichotomy i j with g|g|g
   ·have:=bl_ne (List.pairwise_iff_getElem.1 hr i j hi hj g)
    rw [h2',he]at this;exact absurd rfl this
   ·subst g;rfl
   ·have:=bl_ne (List.pairwise_iff_getElem.1 hr j i hj hi g)
    rw [h2',he]at this;exact absurd rfl this
  subst this;rfl
theorem kid_first {c:Nat} {s:SysD} (h:Tre c s.t) (hd:s.dead=false) {x y:SpotD} (hx:Live24 s.t 0 0 x) (hy:y∈intoL s.t 0 0 x):firstX s 0 0 y.dir y.name={y with depth:=0}∧firstE s 0 0 y.dir y.name=0:=by
 rw [into_live hx,List.mem_map]at hy;obtain ⟨z',hz',rfl⟩:=hy;unfold listF at hz';rw [List.mem_map]at hz';obtain ⟨z,hz,rfl⟩:=hz';have hi:=(into_zero hx.1).1;have ho:openE s.t 0 0 x.no 1 1=0:=by
  unfold openE;rw [if_neg (by rw[hi];decide),if_pos hx.2,if_neg (by rw[mayB_0 _ _ _ _ _ rfl];decide)]
 have hn:openN s.t 0 0 x.no 1 1=getN s.t.nodes x.no:=by unfold openN;rw[if_pos ho]
 have hm:=(isN_true hi).2.2;have hp:=h.pos _ hm z hz;have hf:findF (getN s.t.nodes x.no).ents z.1=z.2:=findF_kid (h.rise _ hm) hz rfl;have hl:lookE s.t 0 0 x.no z.1=0:=by
  unfold lookE;rw [if_pos ho,hn,hf,if_neg (by omega)]
 have hln:lookN s.t 0 0 x.no z.1=overF s.t.devs z.2:=by unfold lookN;rw[if_pos hl,hn,hf]
 constructor
 ·show SpotD.mk x.no z.1 (rdN s (lookN s.t 0 0 x.no z.1)) 0=SpotD.mk x.no z.1 (overF s.t.devs z.2) 0
  unfold rdN;rw [if_neg (by rw[hd];decide),hln]
 ·show rdE s (lookE s.t 0 0 x.no z.1)=0
  unfold rdE;rw [if_neg (by rw[hd];decide),hl]
theorem down_nil {S:TreeD} {cu cg:Int} {t L:List SpotD} {b:SpotD} {e:Int} (h:DownR S cu cg t L b e) (ht:t=[]):L=[]:=by
 cases h with
 | nil=>rfl
 | bad _=>cases ht
 | step _ _=>cases ht
theorem down_cons {S:TreeD} {cu cg:Int} {t L:List SpotD} {b:SpotD} {e:Int} (h:DownR S cu cg t L b e) (he:e=0) {x:SpotD} {t':List SpotD} (ht:t=x::t'):∃l,L=x::l∧intoE S cu cg x=0∧DownR S cu cg (intoL S cu cg x++t') l b e:=by
 cases h with
 | nil=>cases ht
 | bad h=>exact absurd he h
 | step h1 h2=>injection ht with h3 h4;subst h3;subst h4;exact⟨_,rfl,h1,h2⟩
inductive PartsR (S:TreeD) (cu cg:Int):List SpotD→List (List SpotD)→Prop
 | nil:PartsR S cu cg [] []
 | cons {y:SpotD} {t l:List SpotD} {ls:List (List SpotD)}:DownR S cu cg [y] l spotZ 0→PartsR S cu cg t ls→PartsR S cu cg (y::t) (l::ls)
theorem parts_of {S:TreeD} {cu cg:Int}:∀(t L:List SpotD),DownR S cu cg t L spotZ 0→∃ls,PartsR S cu cg t ls∧L=ls.flatten:=by
 intro t
 induction t with
 | nil=>intro L h;cases h;exact⟨[],.nil,rfl⟩
 | cons y t ih =>
  intro L h;obtain ⟨l1,l2,rfl,h1,h2⟩:=down_split h rfl [y] t rfl;obtain ⟨ls,k1,rfl⟩:=ih l2 h2;exact ⟨l1::ls,.cons h1 k1,rfl⟩
theorem parts_ones {S:TreeD} {cu cg:Int} {t:List SpotD} {ls:List (List SpotD)} (h:PartsR S cu cg t ls):(∀y∈t,y.depth=1)→ls.flatten.filter (fun y=>y.depth == 1)=t:=by
 induction h with
 | nil=>exact fun _=>rfl
 | @cons y t l ls h1 h2 ih =>
  intro hd;rw [List.flatten_cons,List.filter_append,ih (fun z hz=>hd z (List.mem_cons_of_mem _ hz))];have hy:=hd y (List.mem_cons_self ..);obtain ⟨l',rfl,h3,h4⟩:=down_cons h1 rfl rfl;have h5:=down_deep h4 2 (fun z hz=>by rw[List.append_nil]at hz;have:=intoL_depth hz;omega);rw [List.filter_cons_of_pos (by simpa using hy),List.filter_eq_nil_iff.2 (fun z hz=>by have:=h5 z hz;simp;omega)];rfl
theorem down_deeper {c:Nat} {S:TreeD} (h:Tre c S) (k:Kids S) {cu cg:Int} {d:Int→Nat} (hd:∀n∈S.nodes,n.kind=1→n.up≠n.no→d n.up<d n.no) (m:Nat) {t L:List SpotD} {b:SpotD} {e:Int} (hR:DownR S cu cg t L b e) :
  (∀y∈t,∃x,Live24 S cu cg x∧y∈intoL S cu cg x∧m≤d x.no)→∀z∈L,(getN S.nodes z.no).kind=1→m<d z.no:=by
 induction hR with
 | nil=>exact fun _ z hz=>absurd hz List.not_mem_nil
 | bad _=>exact fun _ z hz=>absurd hz List.not_mem_nil
 | @step y t l b e h1 h2 ih =>
  intro ht z hz hk;have hself:Live24 S cu cg y→m<d y.no:=fun ly=>by
   obtain ⟨x,hx,hyx,hm⟩:=ht y (List.mem_cons_self ..);obtain ⟨_,u1,u2,_⟩:=child_up h k hx hyx ly;obtain ⟨j1,j2,j3⟩:=getN_node ly.2;have:=hd _ j3 ly.2 (by rw[u1,j2];exact fun e=>u2 e.symm);rw [u1,j2]at this;omega
  rcases List.mem_cons.1 hz with rfl|hz
  ·exact hself ⟨h1,hk⟩
  ·refine ih (fun y' hy'=>?_) z hz hk
   rcases List.mem_append.1 hy' with hy'|hy'
   ·by_cases ly:Live24 S cu cg y
    ·exact⟨y,ly,hy',Nat.le_of_lt (hself ly)⟩
    ·rw[into_dead ly]at hy';cases hy'
   ·exact ht y' (List.mem_cons_of_mem _ hy')
theorem top_out {c:Nat} {S:TreeD} (h:Tre c S) (k:Kids S) {cu cg:Int} {x:SpotD} {L:List SpotD} (hx:Live24 S cu cg x) (hR:DownR S cu cg (intoL S cu cg x) L spotZ 0):x.no∉L.map (·.no):=by
 obtain ⟨d,hd⟩:=h.deep;intro hm;obtain ⟨z,hz,he⟩:=List.mem_map.1 hm;have:=down_deeper h k hd (d x.no) hR (fun y hy=>⟨x,hx,hy,Nat.le_refl _⟩) z hz (by rw[he];exact hx.2);rw [he]at this;omega
def DatN (n:NodeD):Prop:=n.data.length≤1500∧(n.kind=1→n.data=[])
def DatOk (S:TreeD):Prop:=∀n∈S.nodes,DatN n
theorem DatOk.get {S:TreeD} (h:DatOk S) (no:Int):DatN (getN S.nodes no):=by
 cases hi:isN S.nodes no
 ·rw[(isN_false hi).1];exact⟨by decide,fun _=>rfl⟩
 ·exact h _ (isN_true hi).2.2
theorem DatOk.set {S:TreeD} (h:DatOk S) {n:NodeD} (hn:DatN n):DatOk (setT S n):=fun m hm=>by
 rcases mem_setT hm with⟨hm,_⟩|rfl
 ·exact h m hm
 ·exact hn
theorem DatOk.touch {S:TreeD} (h:DatOk S) (dir now:Int) (l:List EntD):DatOk (touchT S dir now l):=h.set (h.get dir)
theorem DatOk.make {S:TreeD} (h:DatOk S) {n:NodeD} (hn:DatN n):DatOk (makeT S n):=by
 unfold makeT;split
 ·intro m hm
  rcases List.mem_append.1 hm with hm|hm
  ·exact h m hm
  ·rw[List.mem_singleton]at hm;subst hm;exact hn
 ·exact h
theorem DatOk.come {S:TreeD} (h:DatOk S) (cu cg now dir:Int) (nm:List UInt8) {n:NodeD} (hn:DatN n):DatOk (comeT S cu cg now dir nm n):=by
 unfold comeT;split
 ·exact (h.make (n:=newN S cu cg now dir n) hn).touch _ _ _
 ·exact h
theorem DatOk.pre {S T:TreeD} {p:Int} (h:DatOk S) (k:DatOk T):DatOk (preT p S T):=by unfold preT;split;exact h;exact k
theorem DatOk.hard {S:TreeD} (h:DatOk S) (cu cg now no dir:Int) (nm:List UInt8):DatOk (hardT S cu cg now no dir nm):=by
 unfold hardT;split
 ·exact (h.set (n:=hardN S now no) (h.get no)).touch _ _ _
 ·exact h
theorem DatOk.mode {S:TreeD} (h:DatOk S) (cu now no mode:Int):DatOk (modeT S cu now no mode):=by
 unfold modeT;split;exact h.set (h.get no);exact h
theorem DatOk.ownr {S:TreeD} (h:DatOk S) (cu now no uid gid:Int):DatOk (ownrT S cu now no uid gid):=by
 unfold ownrT;split;exact h.set (h.get no);exact h
theorem DatOk.time {S:TreeD} (h:DatOk S) (cu now no mt:Int):DatOk (timeT S cu now no mt):=by
 unfold timeT;split;exact h.set (h.get no);exact h
theorem DatOk.root {S:TreeD} (h:DatOk S) (over b n:Int):DatOk (rootT S over b n):=fun m hm=>by
 rcases List.mem_append.1 hm with hm|hm
 ·exact h m hm
 ·rw[List.mem_singleton]at hm;subst hm;exact⟨by show (0:Nat)≤_;omega,fun _=>rfl⟩
theorem DatOk.mount {S:TreeD} (h:DatOk S) (a b n:Int):DatOk (mountT S a b n):=by
 unfold mountT;split;exact h.root _ _ _;exact h
theorem DatOk.dir {S:TreeD} (h:DatOk S) (cu cg now dir:Int) (nm:List UInt8) (mode:Int):DatOk (chgT S cu cg now (.mkdir dir nm mode)):=h.pre (h.come _ _ _ _ _ ⟨by show (0:Nat)≤_;omega,fun _=>rfl⟩)
theorem DatOk.mnt {S:TreeD} (h:DatOk S) (m:MntD):DatOk (mntT S m):=by
 unfold mntT;split
 ·exact h
 ·split
  ·split
   ·exact (h.dir _ _ _ _ _ _).mount _ _ _
   ·exact h.dir _ _ _ _ _ _
  ·exact h.mount _ _ _
theorem DatOk.mnts {S:TreeD} (h:DatOk S) (l:List MntD):DatOk (mntsT S l):=by
 unfold mntsT
 induction l generalizing S with
 | nil=>exact h
 | cons m l ih =>
  rw [List.foldl_cons];refine ih ?_;split
  ·exact h
  ·exact h.mnt m
theorem DatOk.itm {S:TreeD} (h:DatOk S) (it:ItmD) (hd:it.data.length≤1500):DatOk (itmT S it):=by
 unfold itmT;split
 ·rename_i x hx
  unfold itmC at hx;split at hx
  ·cases hx
  split at hx
  ·cases hx
  split at hx
  ·injection hx with hx;subst hx;exact h.dir _ _ _ _ _ _
  split at hx
  ·injection hx with hx;subst hx;exact h.pre (h.come _ _ _ _ _ ⟨hd,fun hk=>by cases hk⟩)
  split at hx
  ·injection hx with hx;subst hx;exact h.pre (h.come _ _ _ _ _ ⟨hd,fun hk=>by cases hk⟩)
  split at hx
  ·split at hx
   ·injection hx with hx;subst hx;exact h.hard _ _ _ _ _ _
   ·cases hx
  ·cases hx
 ·exact h
theorem DatOk.dress {S:TreeD} (h:DatOk S) (no:Int) (it:ItmD):DatOk (dressT S no it):=by
 unfold dressT;split;exact (h.ownr _ _ _ _ _).mode _ _ _ _;exact h
theorem DatOk.items (l:List ItmD) (p:TreeD×List Int) (h:DatOk p.1) (hl:∀it∈l,it.data.length≤1500):DatOk (itemsS p l).1:=by
 unfold itemsS
 induction l generalizing p with
 | nil=>exact h
 | cons m l ih =>
  rw [List.foldl_cons];exact ih _ ((h.itm m (hl m (List.mem_cons_self ..))).dress _ _) (fun it hi=>hl it (List.mem_cons_of_mem _ hi))
theorem DatOk.times (l:List (Int×ItmD)) {S:TreeD} (h:DatOk S):DatOk (timesT S l):=by
 unfold timesT
 induction l generalizing S with
 | nil=>exact h
 | cons x l ih =>
  rw [List.foldl_cons];refine ih ?_;unfold timeS;split
  ·exact h.time _ _ _ _
  ·exact h
theorem plant_dat (ms:List MntD) (is:List ItmD) (hl:∀it∈is,it.data.length≤1500):DatOk (plantT ms is):=
 (DatOk.items is _ ((DatOk.root (S:=emptyT) (fun n hn=>by cases hn) _ _ _).mnts ms) hl).times _
def datG (S:TreeD) (no:Int):Nat:=(getN S.nodes no).data.length
theorem parts_kids {c:Nat} {s:SysD} (h:Tre c s.t) (hd:s.dead=false) {x:SpotD} (hx:Live24 s.t 0 0 x) {t:List SpotD} {ls:List (List SpotD)} (hp:PartsR s.t 0 0 t ls):(∀y∈t,y∈intoL s.t 0 0 x∧y.depth=1) →
  t.length=ls.length∧∀i,(h1:i<t.length)→(h2:i<ls.length)→∃l',DownT s 0 0 t[i].dir t[i].name l' spotZ 0∧l'.map (·.no)=ls[i].map (·.no):=by
 induction hp with
 | nil=>exact fun _=>⟨rfl,fun i h1=>absurd h1 (Nat.not_lt_zero i)⟩
 | @cons y t l ls h1 h2 ih =>
  intro hk;obtain ⟨k1,k2⟩:=ih (fun z hz=>hk z (List.mem_cons_of_mem _ hz));refine ⟨by rw[List.length_cons,List.length_cons,k1],fun i i1 i2=>?_⟩
  cases i with
  | zero =>
   obtain ⟨hy,hy1⟩:=hk y (List.mem_cons_self ..);obtain ⟨f1,f2⟩:=kid_first h hd hx hy;have:=down_sh (-1) h1 rfl;refine ⟨l.map (shD (-1)),.inr ⟨f2,hd,?_⟩,?_⟩
   ·show DownR s.t 0 0 [firstX s 0 0 y.dir y.name] _ _ _
    rw [f1];have e:({y with depth:=0}:SpotD)=shD (-1) y:=by unfold shD;rw[hy1];rfl
    rw [e];exact this
   ·show (l.map (shD (-1))).map (·.no)=l.map (·.no)
    rw [List.map_map];rfl
  | succ i=>exact k2 i (by simpa using i1) (by simpa using i2)
theorem DownT.det {s:SysD} {cu cg dir:Int} {nm:List UInt8} {l l':List SpotD} {b b':SpotD} (h:DownT s cu cg dir nm l b 0) (k:DownT s cu cg dir nm l' b' 0):l=l':=by
 rcases h with⟨h1,_,_,h2⟩|⟨_,_,h⟩
 ·exact absurd h2.symm h1
 ·rcases k with⟨h1,_,_,h2⟩|⟨_,_,k⟩
  ·exact absurd h2.symm h1
  ·exact (h.det k).1
open Classical in
noncomputable def ownL (s:SysD) (y:SpotD):List SpotD:=if h:∃l',DownT s 0 0 y.dir y.name l' spotZ 0 then h.choose else []
theorem ownL_eq {s:SysD} {y:SpotD} {l':List SpotD} (h:DownT s 0 0 y.dir y.name l' spotZ 0):ownL s y=l':=by
 have hx:∃l',DownT s 0 0 y.dir y.name l' spotZ 0:=⟨l',h⟩;unfold ownL;rw [dif_pos hx];exact hx.choose_spec.det h
theorem sum_parts (g:Int→Nat) {s:SysD}:∀(t:List SpotD) (ls:List (List SpotD)),t.length=ls.length→(∀i,(h1:i<t.length)→(h2:i<ls.length)→(ownL s t[i]).map (·.no)=ls[i].map (·.no)) →
  sumF g (ls.flatten.map (·.no))≤(t.map fun y=>sumF g ((ownL s y).map (·.no))).sum:=by
 intro t
 induction t with
 | nil=>intro ls hl _;rw[List.eq_nil_of_length_eq_zero hl.symm];exact Nat.le_refl _
 | cons y t ih =>
  intro ls hl hi
  cases ls with
  | nil=>cases hl
  | cons l ls =>
   have h0:=hi 0 (by simp) (by simp);have h1:=ih ls (by simpa using hl) (fun i i1 i2=>hi (i+1) (by simpa using i1) (by simpa using i2));rw [List.flatten_cons,List.map_append,List.map_cons,List.sum_cons];have h2:=sumF_append g (l.map (·.no)) (ls.flatten.map (·.no));have h3:(ownL s y).map (·.no)=l.map (·.no):=h0;rw [h3];omega
theorem top_is {c:Nat} {s:SysD} (h:Tre c s.t) (k:Kids s.t) (_hD:DatOk s.t) {dir:Int} {nm:List UInt8} {l:List SpotD} (hT:DownT s 0 0 dir nm l spotZ 0) (g:Int→Nat) (hg:∀no,(getN s.t.nodes no).kind=1→g no=0) :
  (∀ y∈l,y.depth=1→DownT s 0 0 y.dir y.name (ownL s y) spotZ 0∧(ownL s y).length≤l.length∧sumF g ((ownL s y).map (·.no))≤sumF g (l.map (·.no))∧(distF ((ownL s y).map (·.no))).length<(distF (l.map (·.no))).length) ∧
   (l.length=1∨(sumF g (l.map (·.no))≤((l.filter fun y=>y.depth == 1).map fun y=>sumF g ((ownL s y).map (·.no))).sum∧(distF (l.map (·.no))).length≤1+((l.filter fun y=>y.depth == 1).map fun y=>(distF ((ownL s y).map (·.no))).length).sum)):=by
 rcases hT with⟨h1,_,_,h2⟩|⟨_,hd,hR⟩
 ·exact absurd h2.symm h1
 obtain ⟨x,hx⟩:∃x,x=firstX s 0 0 dir nm:=⟨_,rfl⟩;have hx0:x.depth=0:=by rw[hx];rfl
 rw [←hx]at hR;clear hx;obtain ⟨L,rfl,hi,hL⟩:=down_cons hR rfl rfl;rw [List.append_nil]at hL
 by_cases lx:Live24 s.t 0 0 x
 case neg =>
  rw [into_dead lx]at hL;have:=down_nil hL rfl;subst this;refine ⟨fun y hy h1=>?_,.inl rfl⟩;rw [List.mem_singleton]at hy;subst hy;omega
 case pos =>
  obtain ⟨ls,hp,rfl⟩:=parts_of _ _ hL;have hdep:∀y∈intoL s.t 0 0 x,y.depth=1:=fun y hy=>by have:=intoL_depth hy;omega
  have hones:=parts_ones hp hdep;obtain ⟨hlen,hown⟩:=parts_kids h hd lx hp (fun y hy=>⟨hy,hdep y hy⟩);have hout:=top_out h k lx hL;have hf:(x::ls.flatten).filter (fun y=>y.depth == 1)=intoL s.t 0 0 x:=by
   rw [List.filter_cons_of_neg (by simp[hx0]),hones]
  have hown2:∀i,(h1:i<(intoL s.t 0 0 x).length)→(h2:i<ls.length)→(ownL s (intoL s.t 0 0 x)[i]).map (·.no)=ls[i].map (·.no):=fun i h1 h2=>by
   obtain ⟨l',k1,k2⟩:=hown i h1 h2;rw [ownL_eq k1];exact k2
  constructor
  ·intro y hy h1
   have hy2:y∈intoL s.t 0 0 x:=by rw[←hf,List.mem_filter];exact⟨hy,by simp[h1]⟩
   obtain ⟨i,hi1,rfl⟩:=List.getElem_of_mem hy2;obtain ⟨l',k1,k2⟩:=hown i hi1 (by omega);have hsub:∀a∈ls[i].map (·.no),a∈ls.flatten.map (·.no):=fun a ha=>by
    obtain ⟨z,hz,rfl⟩:=List.mem_map.1 ha;exact List.mem_map_of_mem (List.mem_flatten.2 ⟨ls[i],List.getElem_mem _,hz⟩)
   rw [ownL_eq k1];refine ⟨k1,?_,?_,?_⟩
   ·have e1:l'.length=ls[i].length:=by have:=congrArg List.length k2;simpa using this
    rw [e1,List.length_cons];have:ls[i].Sublist ls.flatten:=List.sublist_flatten_of_mem (List.getElem_mem _);have:=this.length_le;omega
   ·rw [k2]
    exact sumF_mono g (fun a ha=>by rw[List.map_cons];exact List.mem_cons_of_mem _ (hsub a ha))
   ·rw [k2,←sumF_one,←sumF_one]
    have:=sumF_cons (fun _=>1) (x:=x.no) (A:=ls[i].map (·.no)) (fun hm=>hout (hsub _ hm)) (B:=(x::ls.flatten).map (·.no)) (fun a ha=>by
     rw [List.map_cons];rcases List.mem_cons.1 ha with rfl|ha
     ·exact List.mem_cons_self ..
     ·exact List.mem_cons_of_mem _ (hsub a ha))
    omega
  ·right
   rw [hf];have e:(x::ls.flatten).map (·.no)=[x.no]++ls.flatten.map (·.no):=rfl
   constructor
   ·rw [e]
    have h1:=sumF_append g [x.no] (ls.flatten.map (·.no));have h2:=sum_parts g (intoL s.t 0 0 x) ls hlen hown2;have h3:sumF g [x.no]=0:=by
     have:sumF g [x.no]=g x.no+0:=rfl;rw [this,hg _ lx.2]
    omega
   ·rw [e,←sumF_one]
    have h1:=sumF_append (fun _=>1) [x.no] (ls.flatten.map (·.no));have h2:=sum_parts (fun _=>1) (intoL s.t 0 0 x) ls hlen hown2;have h3:sumF (fun _=>1) [x.no]=1:=rfl;simp only[sumF_one]at h2;simp only[sumF_one]at h1 h3⊢;omega
theorem weighTop_any (x:CaseD) (cs:Array Value) (w:World) (h:CaseAt w x cs):Calls Tryz.prog 5 #[.agg cs] w (Ret w (.bool true)):=by
 obtain ⟨W1,hW1⟩:∃W,W=w.alloc (.cells cs 30):=⟨_,rfl⟩;obtain ⟨b1,hb1⟩:∃b,b=w.heap.size:=⟨_,rfl⟩;have E1:Ext w W1:=by rw[hW1];exact (Ext.refl _).alloc _
 have B1:Has W1 b1 (.cells cs 30):=by rw[hW1,hb1];exact Has.new _ _
 have KF:=zH (few24_any x cs W1 (h.ext E1));have KB:=zH (fun (hF:FewX x) (u:World) (hu:Ext W1 u)=>both_any x cs u ((h.ext E1).ext hu) hF);obtain ⟨Am,cm,Ai,ci,Ap,cp,rfl⟩:=h.cells;obtain ⟨nm,hnm⟩:∃n,n=x.ms.length:=⟨_,rfl⟩;obtain ⟨ni,hni⟩:∃n,n=x.is.length:=⟨_,rfl⟩;obtain ⟨np,hnp⟩:∃n,n=x.plan.length:=⟨_,rfl⟩;obtain ⟨Pn,hPn⟩:∃P,P=bs x.name:=⟨_,rfl⟩;rw [←hnm,←hni,←hnp,←hPn]at hW1 B1 KF KB⊢;have HPN:=zH hPn;have HB1:=zH B1;have c0:=B1.cell 0;have c1:=B1.cell 1;have c2:=B1.cell 2;have c3:=B1.cell 3;have c4:=B1.cell 4;have c5:=B1.cell 5;have c6:=B1.cell 6;have c7:=B1.cell 7;have c8:=B1.cell 8;have cz:=B1.lt;simp only[gA,gB,gC]at c0 c1 c2 c3 c4 c5 c6 c7 c8;clear hnm hni hnp hPn B1 h;go_enter Tryz.func5,Tryz.ntmps5;go_upto_region 1 with fail;rw [←hW1,←hb1];clear hW1 hb1;go_wp2_with fail;refine KF.out.mono ?_;rintro e w2 ⟨h2,E2⟩;clear KF;rcases h2 with⟨rfl,hF⟩|rfl
 case inr =>
  go_wp2_with fail;refine (awake25 _).mono ?_;rintro e wz ⟨rfl,bz⟩;go_wp2_with fail;go_ret;exact Ret.mk rfl ((E1.trans E2).trans bz)
 have HF:=zH hF;have KB2:=zH (KB.out hF w2 E2);have B2:=HB1.out.ext E2;clear hF KB c0 c1 c2 c3 c4 c5 c6 c7 c8 cz;have c0:=B2.cell 0;have c1:=B2.cell 1;have c2:=B2.cell 2;have c3:=B2.cell 3;have c4:=B2.cell 4;have c5:=B2.cell 5;have c6:=B2.cell 6;have c7:=B2.cell 7;have c8:=B2.cell 8;have cz:=B2.lt;simp only[gA,gB,gC]at c0 c1 c2 c3 c4 c5 c6 c7 c8;clear B2;go_wp2_with fail;refine KB2.out.mono ?_;rintro e w4 ⟨B,b,g,f,rfl,hB,hP,hR,E4⟩;obtain ⟨hpl,hs⟩:=planted_sane HF.out;obtain ⟨s,hs0⟩:∃s:SysD,s=⟨plantT x.ms x.is,0,0,x.plan,false⟩:=⟨_,rfl⟩;have hst:s.t=plantT x.ms x.is:=by rw[hs0]
 have hdead:s.dead=false:=by rw[hs0]
 have HDEAD:=zH hdead;have HDAT:Hid (DatOk s.t):=by show DatOk _;rw[hst];exact plant_dat _ _ (fun it hi=>(HF.out.1.2.2 it hi).2)
 rw [←hs0]at hP hR hs;rw [←hst]at hpl;have E14:Ext W1 w4:=E2.trans E4;have HE14:=zH E14;have HP:=zH hP;have HR:=zH hR;have HS:=zH hs;have HPL:=zH hpl;have B4:=HB1.out.ext E14;have HB4:=zH B4;have KS:=zH (spot_any hR hpl x.at_);clear hB hs0 hst hdead hP hR hs hpl KB2 E2 E4 E14 c0 c1 c2 c3 c4 c5 c6 c7 c8 cz;have c4:=B4.cell 4;have cz:=B4.lt;simp only[gA,gB,gC]at c4;clear B4;go_wp2_with fail;refine KS.out.mono ?_;rintro e w5 ⟨dir,nm0,is,rfl,_,_,E5⟩;clear KS c4 cz;obtain ⟨l,b0,e0,hT,hll⟩:=down_is HS.out.tre HPL.out.plt.kids 0 0 dir nm0;have hl1:l.length≤1000:=by have:=HPL.out.ens;omega
 have hspz:e0=0→b0=spotZ:=by
  intro he;rcases hT with⟨h1,_,_,h2⟩|⟨_,_,h2⟩
  ·exact absurd (h2.symm.trans he) h1
  ·exact h2.err he
 have HT:=zH hT;have HSPZ:=zH hspz;have KR:=zH (fun (u:World) (hu:Ext w4 u)=>(HR.out.ext hu).down24 HS.out (by omega) 0 0 dir nm0 l b0 e0 HT.out hl1);obtain ⟨n,hn⟩:∃n,n=l.length:=⟨_,rfl⟩;have HN:=zH hn;have hn1:n≤1000:=by omega
 clear hll hl1 hspz hT hn;go_wp2_with fail;refine (KR.out _ E5).mono ?_;rintro e w7 ⟨v,rfl,O7,E7⟩;go_upto_region 8 with fail;obtain ⟨A,cap,hv,hA,_⟩:=OwnP.lies O7;rw [←HN.out]at hv;subst hv;obtain ⟨W8,hW8⟩:∃W,W=w7.alloc (.cells #[.int .i64 b0.dir,.string (bs b0.name),.int .i64 b0.no,.int .i64 b0.depth] 41):=⟨_,rfl⟩;have E8:Ext w4 W8:=by rw[hW8];exact (E5.trans E7).alloc _
 have HA:Hid (SpotsAt W8 A l):=by rw[hW8];exact hA.ext ((Ext.refl _).alloc _)
 have HE8:=zH E8;rw [←hW8];clear hW8 E8 E5 E7 O7 hA KR;have Ew8:=zH (E1.trans (HE14.out.trans HE8.out))
 cases is with
 | false =>
  go_wp2_with fail;refine (awake25 _).mono ?_;rintro e wz ⟨rfl,bz⟩;go_wp2_with fail;go_ret;exact Ret.mk rfl (Ew8.out.trans bz)
 | true =>
  by_cases he0:e0=0
  case neg =>
   have t0:(e0 != 0)=true:=by simpa using he0
   clear he0;go_wp2_with fail;refine (awake25 _).mono ?_;rintro e wz ⟨rfl,bz⟩;go_wp2_with fail;go_ret;exact Ret.mk rfl (Ew8.out.trans bz)
  case pos =>
   subst he0;have hb0:=HSPZ.out rfl;subst hb0;have hg:∀no,datG s.t no≤1500:=fun no=>(HDAT.out.get no).1
   have q1:datF s=fun no=>(datG s.t no:Int):=by funext no;unfold datF datG rdM;rw[HDEAD.out];rfl
   obtain ⟨p1,p2⟩:=top_is HS.out.tre HPL.out.plt.kids HDAT.out HT.out (datG s.t) (fun no hk=>by unfold datG;rw[(HDAT.out.get no).2 hk];rfl);obtain ⟨aF,haF⟩:∃aF:SpotD→Nat,aF=fun y=>sumF (datG s.t) ((ownL s y).map (·.no)):=⟨_,rfl⟩
   obtain ⟨bF,hbF⟩:∃bF:SpotD→Nat,bF=fun y=>(distF ((ownL s y).map (·.no))).length:=⟨_,rfl⟩
   have hl1:l.length≤1000:=by have:=HN.out;omega
   have KT:Hid (∀(y:SpotD),y∈l→y.depth=1→∀u,Ext W8 u→Calls Tryz.prog 20 #[.pointer (some ⟨b,0,none⟩),.agg #[.int .i64 0,.int .i64 0],.int .i64 y.dir,.string (bs y.name)] u (Ret u (.tuple #[.int .i64 (aF y:Nat),.int .i64 (bF y:Nat),.int .i64 0]))):=by
    show ∀_ _ _ _ _,_;intro y hy h1 u hu;obtain ⟨z1,z2,_,_⟩:=p1 y hy h1;have:=(HP.out.ext (HE8.out.trans hu)).tree HS.out (by omega) 0 0 y.dir y.name _ _ 0 z1 (by omega);rw [if_pos rfl,if_pos rfl,q1,wgh_sum (datG s.t) 1500 hg (by omega) _ (by rw[List.length_map];omega)]at this;rw [haF,hbF];exact this
   have hab:Hid (∀y∈l,y.depth=1→aF y≤sumF (datG s.t) (l.map (·.no))∧bF y<(distF (l.map (·.no))).length):=by
    show ∀_ _ _,_;intro y hy h1;obtain ⟨_,_,z3,z4⟩:=p1 y hy h1;rw [haF,hbF];exact ⟨z3,z4⟩
   rw [←haF,←hbF]at p2;have KT0:=(HP.out.ext HE8.out).tree HS.out (by omega) 0 0 dir nm0 _ _ 0 HT.out hl1;rw [if_pos rfl,if_pos rfl,q1,wgh_sum (datG s.t) 1500 hg (by omega) _ (by rw[List.length_map];omega)]at KT0;have hAll:sumF (datG s.t) (l.map (·.no))≤1500*1000:=by
    have h1:=sumF_le (datG s.t) 1500 hg (l.map (·.no));rw [List.length_map]at h1;have:1500*l.length≤1500*1000:=Nat.mul_le_mul_left _ hl1;omega
   have hNod:(distF (l.map (·.no))).length≤1000:=by have:=distF_len (l.map (·.no));rw[List.length_map]at this;omega
   obtain ⟨all,hall⟩:∃a,a=sumF (datG s.t) (l.map (·.no)):=⟨_,rfl⟩;obtain ⟨nod,hnod⟩:∃a,a=(distF (l.map (·.no))).length:=⟨_,rfl⟩;rw [←hall]at hAll hab KT0 p2;rw [←hnod]at hNod hab KT0 p2;have KT1:=zH KT0;have HP2:=zH p2;clear p1 p2 q1 hg haF hbF KT0 hall hnod hl1;go_wp2_with fail;refine KT1.out.mono ?_;rintro e w9 ⟨rfl,E9⟩;have HE9:=zH E9;clear KT1 E9;go_wp2_with fail;go_loopw [14,15,16] (fun vs vm vi wr=>∃(i S0 D0:Nat),vi=.int .i64 i∧i≤n∧vs=.int .i64 S0∧vm=.int .i64 D0∧S0≤1500000*i∧D0≤1+1000*i∧Hid (S0=(((l.take i).filter fun y=>y.depth == 1).map aF).sum)∧Hid (D0=1+(((l.take i).filter fun y=>y.depth == 1).map bF).sum)∧Ext w9 wr) (fun _ _ vi _=>n-(intOf vi).toNat)
   case atStart=>exact⟨0,0,1,rfl,Nat.zero_le _,rfl,rfl,Nat.le_refl _,Nat.le_refl _,rfl,rfl,Ext.refl _⟩
   case round =>
    obtain ⟨i,S0,D0,rfl,hi,rfl,rfl,hS1,hD1,hS,hD,hE⟩:=hrel;have HE:=zH hE;have i0:(0:Int)≤(i:Int):=Int.natCast_nonneg _;clear hE
    by_cases hlt:(i:Int)<n
    case neg =>
     have hin:i=n:=by omega
     have e1:l.take i=l:=List.take_of_length_le (by rw[←HN.out];omega);have hS2:S0=((l.filter fun y=>y.depth == 1).map aF).sum:=by rw[hS.out,e1]
     have hD2:D0=1+((l.filter fun y=>y.depth == 1).map bF).sum:=by rw[hD.out,e1]
     have hfin:=HP2.out;rw [←hS2,←hD2,←HN.out]at hfin;clear hin e1 hS hD hS2 hD2
     by_cases hn0:n=1
     ·have t1:((n:Int) == 1)=true:=by simp[hn0]
      clear hn0 hfin;go_wp2_with fail;refine (awake25 _).mono ?_;rintro e wz ⟨rfl,bz⟩;go_wp2_with fail;go_ret;exact Ret.mk rfl (Ew8.out.trans (HE9.out.trans (HE.out.trans bz)))
     ·have t1:((n:Int) == 1)=false:=by simp;omega
      obtain ⟨f1,f2⟩:=hfin.resolve_left hn0;have f1':(all:Int)≤(S0:Int):=by omega
      have f2':(nod:Int)≤(D0:Int):=by omega
      clear hn0 f1 f2;go_wp2_with fail;refine (awake25 _).mono ?_;rintro e wz ⟨rfl,bz⟩;go_wp2_with fail;go_ret;exact Ret.mk rfl (Ew8.out.trans (HE9.out.trans (HE.out.trans bz)))
    case pos =>
     have hil:i<l.length:=by have:=HN.out;omega
     obtain ⟨y,hy⟩:∃y,y=l[i]:=⟨_,rfl⟩;have hmem:y∈l:=by rw[hy];exact List.getElem_mem hil
     have htk:l.take (i+1)=l.take i++[y]:=by rw[List.take_succ_eq_append_getElem hil,hy]
     obtain ⟨ba,oa,rfl,hba,p0,p1,_,p3⟩:=((HA.out.ext HE9.out).ext HE.out).at_ hil;rw [←hy]at p0 p1 p3;have w1w:IntKind.i64.wrap ((i:Int)+1)=(i:Int)+1:=IntWalk.i64_in _ (by omega);have HTK:=zH htk;have HMEM:=zH hmem;obtain ⟨P,hP⟩:∃P,P=bs y.name:=⟨_,rfl⟩;rw [←hP]at p1;have HPP:=zH hP;clear hy hmem htk hP
     by_cases hd1:y.depth=1
     ·have t1:(y.depth != 1)=false:=by simpa using hd1
      obtain ⟨z1,z2⟩:=hab.out y HMEM.out hd1;have HS2:Hid (S0+aF y=(((l.take (i+1)).filter fun y=>y.depth == 1).map aF).sum):=by
       show _=_;rw [HTK.out,List.filter_append,List.filter_cons_of_pos (by simpa using hd1),List.map_append,List.sum_append,←hS.out];simp
      have HD2:Hid (D0+bF y=1+(((l.take (i+1)).filter fun y=>y.depth == 1).map bF).sum):=by
       show _=_;rw [HTK.out,List.filter_append,List.filter_cons_of_pos (by simpa using hd1),List.map_append,List.sum_append,hD.out];simp;omega
      have KT2:Hid (∀u,Ext W8 u→Calls Tryz.prog 20 #[.pointer (some ⟨b,0,none⟩),.agg #[.int .i64 0,.int .i64 0],.int .i64 y.dir,.string P] u (Ret u (.tuple #[.int .i64 (aF y:Nat),.int .i64 (bF y:Nat),.int .i64 0]))):=by
       show ∀_ _,_;rw [HPP.out];exact KT.out y HMEM.out hd1
      obtain ⟨a,ha⟩:∃a,a=aF y:=⟨_,rfl⟩;obtain ⟨d,hd⟩:∃d,d=bF y:=⟨_,rfl⟩;rw [←ha]at HS2 KT2 z1;rw [←hd]at HD2 KT2 z2;have z1':(a:Int)≤(all:Int):=by omega
      have z2':(d:Int)<(nod:Int):=by omega
      have hbS:S0+a≤1500000*(i+1):=by omega
      have hbD:D0+d≤1+1000*(i+1):=by omega
      have w2w:IntKind.i64.wrap ((S0:Int)+(a:Int))=(S0:Int)+(a:Int):=IntWalk.i64_in _ (by omega);have w3w:IntKind.i64.wrap ((D0:Int)+(d:Int))=(D0:Int)+(d:Int):=IntWalk.i64_in _ (by omega);clear hS hD ha hd hd1 z1 z2;have q0:=Gr.cell hba p0;have q1:=Gr.cell hba p1;have KT3:Hid (∀u:World,Ext wr u→Calls Tryz.prog 20 #[.pointer (some ⟨b,0,none⟩),.agg #[.int .i64 0,.int .i64 0],.int .i64 y.dir,.string P] u (Ret u (.tuple #[.int .i64 (a:Nat),.int .i64 (d:Nat),.int .i64 0]))):=by
       show ∀_ _,_;intro u hu;exact KT2.out u (HE9.out.trans (HE.out.trans hu))
      clear KT2 p0 p1;go_upto_region 16 with fail;clear p3 hba;refine wp_region_grow wr (by kernel_rfl) (by kernel_rfl) (Ext.refl _).drew ?_
      repeat (quiet_step (first
       | ((with_reducible refine (KT3.out _ (Gr.h _)).mono ?_);rintro e w'' ⟨rfl,hEx⟩;exact⟨rfl,⟨w'',Ext.trans (Gr.h _) hEx⟩,rfl⟩)))
      refine wpQuiet_nil ?_;rintro w10 ⟨⟨w10',E10⟩,h10⟩;dsimp only at h10;subst h10;have HE10:=zH E10;clear E10 q0 q1 KT3;go_wp2_with fail;go_roundw
      case rel=>exact⟨i+1,S0+a,D0+d,by go_num,by omega,by go_num,by go_num,hbS,hbD,HS2,HD2,HE.out.trans HE10.out⟩
      case measure=>simp[intOf];omega
     ·have t1:(y.depth != 1)=true:=by simpa using hd1
      have HS2:Hid (S0=(((l.take (i+1)).filter fun y=>y.depth == 1).map aF).sum):=by
       show _=_;rw [HTK.out,List.filter_append,List.filter_cons_of_neg (by simpa using hd1),List.filter_nil,List.append_nil];exact hS.out
      have HD2:Hid (D0=1+(((l.take (i+1)).filter fun y=>y.depth == 1).map bF).sum):=by
       show _=_;rw [HTK.out,List.filter_append,List.filter_cons_of_neg (by simpa using hd1),List.filter_nil,List.append_nil];exact hD.out
      have hbS:S0≤1500000*(i+1):=by omega
      have hbD:D0≤1+1000*(i+1):=by omega
      clear hS hD hd1;go_wp2_with fail;go_roundw
      case rel=>exact⟨i+1,S0,D0,by go_num,by omega,rfl,rfl,hbS,hbD,HS2,HD2,HE.out⟩
      case measure=>simp[intOf];omega
theorem weighTop_walk {H:Type} {enc:TypeId×Value→H} (W:World) (base:Nat) (v0:Value) (d0:DataW H) (p0:List MemPlace)
  (k0:Value.okWide Tryz.prog W .any base 30 v0) (h0:DataW.Trod enc Tryz.prog W 0 (fun _=>true) true 30 v0 d0 p0)
  : Calls Tryz.prog 5 #[v0] W (Ret W (.bool true)):=by
 obtain ⟨x,cs,rfl,hx⟩:=open_Case k0 h0;exact weighTop_any x cs W hx
end Go.Proofs.YtpibnfdolojpcaaGreat
