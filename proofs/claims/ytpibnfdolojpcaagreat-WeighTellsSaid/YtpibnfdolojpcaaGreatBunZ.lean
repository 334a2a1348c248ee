import Derived.Test.YtpibnfdolojpcaaGreatBunO
import Derived.Test.YtpibnfdolojpcaaGreatBunL
import Derived.Test.YtpibnfdolojpcaaGreatBunN
import Derived.Test.YtpibnfdolojpcaaGreatBunI
import Derived.Test.YtpibnfdolojpcaaGreatBunS
import Derived.Test.YtpibnfdolojpcaaGreatBunR
import Derived.Test.YtpibnfdolojpcaaGreatBunV
import Derived.Test.YtpibnfdolojpcaaGreatBunC
import Derived.Test.YtpibnfdolojpcaaGreatBunU
import Derived.Test.YtpibnfdolojpcaaGreatBunQ
import Derived.OpenShut
set_option maxHeartbeats 16000000
set_option maxRecDepth 100000
namespace Go.Proofs.YtpibnfdolojpcaaGreat
open Go.ChangeShapes Go.WideShapes Go.ChangeAt Go.RowKit
def distF (L:List Int):List Int:=L.foldl (fun acc x=>if x∈acc then acc else acc++[x]) []
theorem distF_snoc (L:List Int) (x:Int):distF (L++[x])=if x∈distF L then distF L else distF L++[x]:=by
 unfold distF;rw [List.foldl_append];rfl
theorem rev_ind {P:List Int→Prop} (h0:P []) (h1:∀l x,P l→P (l++[x])):∀l,P l:=by
 intro l;have : ∀n,∀l:List Int,l.length=n→P l:=by
  intro n
  induction n with
  | zero=>intro l hl;rw[List.eq_nil_of_length_eq_zero hl];exact h0
  | succ n ih =>
   intro l hl;rcases List.eq_nil_or_concat l with rfl|⟨q,y,rfl⟩
   ·cases hl
   ·rw [List.concat_eq_append]at hl⊢
    exact h1 q y (ih q (by simpa using hl))
 exact this _ l rfl
theorem mem_distF {L:List Int} {x:Int}:x∈distF L↔x∈L:=by
 induction L using rev_ind generalizing x with
 | h0=>exact Iff.rfl
 | h1 L y ih =>
  rw [distF_snoc]
  by_cases h:y∈distF L
  ·rw [if_pos h,List.mem_append,List.mem_singleton]
   constructor
   ·exact fun h2=>.inl (ih.1 h2)
   ·rintro (h2|rfl)
    ·exact ih.2 h2
    ·exact h
  ·rw[if_neg h,List.mem_append,List.mem_append,ih]
theorem distF_nodup (L:List Int):(distF L).Nodup:=by
 induction L using rev_ind with
 | h0=>exact List.nodup_nil
 | h1 L y ih =>
  rw [distF_snoc]
  by_cases h:y∈distF L
  ·rw[if_pos h];exact ih
  ·rw [if_neg h,List.nodup_append]
   exact ⟨ih,by simp,fun a ha b hb=>by rw[List.mem_singleton]at hb;subst hb;exact fun e=>h (e▸ha)⟩
def wghF (g:Int→Int) (L:List Int):Int:=(distF L).foldl (fun a n=>wrap64 (a+g n)) 0
theorem wghF_snoc (g:Int→Int) (L:List Int) (x:Int):wghF g (L++[x])=if x∈L then wghF g L else wrap64 (wghF g L+g x):=by
 unfold wghF;rw [distF_snoc]
 by_cases h:x∈L
 ·rw[if_pos h,if_pos (mem_distF.2 h)]
 ·rw [if_neg h,if_neg (fun h2=>h (mem_distF.1 h2)),List.foldl_append]
  rfl
theorem nodesF_snoc (L:List Int) (x:Int):(distF (L++[x])).length=(distF L).length+if x∈L then 0 else 1:=by
 rw [distF_snoc]
 by_cases h:x∈L
 ·rw[if_pos h,if_pos (mem_distF.2 h)];rfl
 ·rw[if_neg h,if_neg (fun h2=>h (mem_distF.1 h2)),List.length_append];rfl
def lnkF (kd lk:Int→Int) (L:List Int):Int:=(((distF L).filter fun n=>kd n != 1).map lk).sum-((L.filter fun n=>kd n != 1).length:Nat)
theorem lnkF_snoc (kd lk:Int→Int) (L:List Int) (x:Int):lnkF kd lk (L++[x])=if kd x=1 then lnkF kd lk L else (if x∈L then lnkF kd lk L else lnkF kd lk L+lk x)-1:=by
 unfold lnkF;rw [distF_snoc]
 by_cases hk:kd x=1
 ·have hb:(kd x != 1)=false:=by simpa using hk
  rw [if_pos hk];have e2:(L++[x]).filter (fun n=>kd n != 1)=L.filter (fun n=>kd n != 1):=by rw[List.filter_append];simp[hb]
  rw [e2]
  by_cases h:x∈distF L
  ·rw[if_pos h]
  ·rw[if_neg h,List.filter_append];simp[hb]
 ·have hb:(kd x != 1)=true:=by simpa using hk
  rw [if_neg hk];have e2:((L++[x]).filter (fun n=>kd n != 1)).length=(L.filter (fun n=>kd n != 1)).length+1:=by rw[List.filter_append];simp[hb]
  rw [e2]
  by_cases h:x∈L
  ·rw[if_pos h,if_pos (mem_distF.2 h)];omega
  ·rw [if_neg h,if_neg (fun h2=>h (mem_distF.1 h2)),List.filter_append]
   simp [hb];omega
theorem lnkF_le {kd lk:Int→Int} (h:∀n,0≤lk n∧lk n≤1000) (L:List Int):-(L.length:Int)≤lnkF kd lk L∧lnkF kd lk L≤1000*L.length:=by
 induction L using rev_ind with
 | h0=>exact⟨Int.le_refl _,Int.le_refl _⟩
 | h1 L x ih =>
  have hx:=h x;rw [lnkF_snoc,List.length_append,List.length_singleton];split
  ·omega
  ·split<;>omega
def CntIs (es:List MapEntry) (L:List Int):Prop:=
 es.length=(distF L).length∧∀k,(h:k<(distF L).length)→∃e,es[k]?=some e∧e.key=.int .i64 (distF L)[k]∧e.val=.int .i64 (L.count (distF L)[k]:Nat)
theorem findNow_ints (x:Int):∀(es:List MapEntry) (D:List Int) (i:Nat),es.length=D.length→(∀k,(h:k<D.length)→∃e,es[k]?=some e∧e.key=.int .i64 D[k]) →
  (x∉D∧Instr.findNow (.int .i64) (.int .i64 x) es i=some none)∨(∃k e,∃h:k<D.length,es[k]?=some e∧Instr.findNow (.int .i64) (.int .i64 x) es i=some (some (i+k,e.val))∧D[k]=x):=by
 intro es
 induction es with
 | nil =>
  intro D i hl hk;obtain rfl:D=[]:=List.eq_nil_of_length_eq_zero hl.symm;exact .inl ⟨List.not_mem_nil,rfl⟩
 | cons e es ih =>
  intro D i hl hk
  cases D with
  | nil=>simp at hl
  | cons n D =>
   obtain ⟨e',h1,h2⟩:=hk 0 (by simp);simp at h1;subst h1;simp at h2;have hs:Instr.sameNow (.int .i64) (.int .i64 x) e.key=some (x == n):=by rw[h2];simp[Instr.sameNow]
   by_cases hq:x=n
   ·right
    refine ⟨0,e,by simp,rfl,?_,hq.symm⟩;unfold Instr.findNow;rw [hs];simp [hq]
   ·have hb:(x == n)=false:=by simpa using hq
    have hstep:Instr.findNow (.int .i64) (.int .i64 x) (e::es) i=Instr.findNow (.int .i64) (.int .i64 x) es (i+1):=by
     conv=>lhs;unfold Instr.findNow
     rw [hs,hb]
    rcases ih D (i+1) (by simpa using hl) (fun k h=>by
     obtain ⟨y,hx1,hx2⟩:=hk (k+1) (by simpa using h);exact ⟨y,by simpa using hx1,by simpa using hx2⟩) with⟨g1,g2⟩|⟨k,y,g1,g2,g3,g4⟩
    ·exact .inl ⟨fun hm=>(List.mem_cons.1 hm).elim hq g1,hstep.trans g2⟩
    ·refine .inr ⟨k+1,y,by simpa using g1,by simpa using g2,?_,by simpa using g4⟩
     rw [hstep,g3]
     congr 3
     omega
theorem run_met {w:World} {bM:Nat} {es:Array MapEntry} {clock:Nat} {L:List Int} (hm:Has w bM (.map es clock)) (h:CntIs es.toList L) (x:Int) :
  (Instr.lookup 93 (.map (some bM)) (.int .i64 x) false).run Tryz.prog w=.ok (.int .i64 (L.count x:Nat)) w:=by
 have hk:∀r,Instr.findNow (.int .i64) (.int .i64 x) es.toList 0=some r→(Instr.findKey 3 (.int .i64 x) es.toList).run Tryz.prog w=.ok r w:=fun r hr=>by
  unfold Instr.findKey;rw [Sem.run_bind,run_underlying Tryz.underlying3];simp [hr]
 have hz:(zeroValue 3).run Tryz.prog w=.ok (.int .i64 0) w:=by kernel_rfl
 rcases findNow_ints x es.toList (distF L) 0 h.1 (fun k hk=>by obtain⟨e,h1,h2,_⟩:=h.2 k hk;exact⟨e,h1,h2⟩) with⟨g1,g2⟩|⟨k,e,g1,g2,g3,g4⟩
 ·have hc:L.count x=0:=List.count_eq_zero.2 fun hx=>g1 (mem_distF.2 hx)
  rw [hc];simp [Instr.lookup,run_underlying Tryz.underlying93,MapKept.run_getObj_map hm,run_checkInt,hk _ g2,hz]
 ·obtain ⟨e',h1,_,h3⟩:=h.2 k g1
  rw [h1]at g2;injection g2 with g2;subst g2;rw [g4]at h3;simp [Instr.lookup,run_underlying Tryz.underlying93,MapKept.run_getObj_map hm,run_checkInt,hk _ g3,h3]
theorem run_meet {w:World} {bM:Nat} {es:Array MapEntry} {clock:Nat} {L:List Int} (hm:Has w bM (.map es clock)) (h:CntIs es.toList L) (x:Int) :
  ∃ es' clock',(Instr.mapUpdate 93 (.map (some bM)) (.int .i64 x) (.int .i64 ((L.count x:Nat)+1))).run Tryz.prog w=.ok () (putB w bM (.map es' clock'))∧CntIs es'.toList (L++[x]):=by
 have hk:∀r,Instr.findNow (.int .i64) (.int .i64 x) es.toList 0=some r→(Instr.findKey 3 (.int .i64 x) es.toList).run Tryz.prog w=.ok r w:=fun r hr=>by
  unfold Instr.findKey;rw [Sem.run_bind,run_underlying Tryz.underlying3];simp [hr]
 have hcx:(L++[x]).count x=L.count x+1:=by rw[List.count_append];simp
 have hcn:∀n,n≠x→(L++[x]).count n=L.count n:=fun n hn=>by rw[List.count_append,List.count_singleton,if_neg (by simpa using fun e:x=n=>hn e.symm),Nat.add_zero]
 rcases findNow_ints x es.toList (distF L) 0 h.1 (fun k hk=>by obtain⟨e,h1,h2,_⟩:=h.2 k hk;exact⟨e,h1,h2⟩) with⟨g1,g2⟩|⟨k,e,g1,g2,g3,g4⟩
 ·refine ⟨es.push ⟨.int .i64 x,.int .i64 ((L.count x:Nat)+1),clock⟩,clock+1,?_,?_⟩
  ·simp[Instr.mapUpdate,run_underlying Tryz.underlying93,MapKept.run_getObj_map hm,run_checkInt,hk _ g2,MapKept.run_setObj_map _ hm,Result.andThen,putB]
  ·have e1:distF (L++[x])=distF L++[x]:=by rw[distF_snoc,if_neg g1]
   have hl:es.size=(distF L).length:=by simpa using h.1
   unfold CntIs;rw [e1];refine ⟨by simp;simpa using h.1,fun j hj=>?_⟩;rw [List.length_append,List.length_singleton]at hj;rw [Array.getElem?_toList,Array.getElem?_push,hl]
   by_cases ej:j=(distF L).length
   ·subst ej
    refine ⟨_,by rw[if_pos rfl],?_⟩;rw [List.getElem_append_right (Nat.le_refl _)];simp only[Nat.sub_self,List.getElem_singleton];exact ⟨trivial,by rw[hcx];rfl⟩
   ·obtain ⟨e',h1,h2,h3⟩:=h.2 j (by omega)
    rw [Array.getElem?_toList]at h1;refine ⟨e',by rw[if_neg ej];exact h1,?_⟩;rw [List.getElem_append_left (by omega)];refine ⟨h2,?_⟩;rw [h3,hcn _ (fun e=>g1 (e▸List.getElem_mem _))]
 ·obtain ⟨e',h1,h2,h3⟩:=h.2 k g1
  rw [h1]at g2;injection g2 with g2;subst g2;refine ⟨es.modify k fun e=>{e with key:=.int .i64 x,val:=.int .i64 ((L.count x:Nat)+1)},clock,?_,?_⟩
  ·rw [Array.getElem?_toList]at h1
   simp [Instr.mapUpdate,run_underlying Tryz.underlying93,MapKept.run_getObj_map hm,run_checkInt,hk _ g3,MapKept.run_setObj_map _ hm,Result.andThen,putB,h1,h2,g4,keyStays]
  ·have e1:distF (L++[x])=distF L:=by rw[distF_snoc,if_pos (by rw[←g4];exact List.getElem_mem _)]
   unfold CntIs;rw [e1];refine ⟨by simp;simpa using h.1,fun j hj=>?_⟩;obtain ⟨e2,k1,k2,k3⟩:=h.2 j hj;rw [Array.getElem?_toList]at k1;rw [Array.getElem?_toList,Array.getElem?_modify,k1]
   by_cases ej:k=j
   ·subst ej
    exact ⟨_,by rw[if_pos rfl];rfl,by rw[g4],by rw[g4,hcx];rfl⟩
   ·refine ⟨e2,by rw[if_neg ej],k2,?_⟩
    rw [k3,hcn _ (fun e=>ej ((List.getElem_inj (distF_nodup L)).1 (g4.trans e.symm)))]
attribute [local go_sem] Oper.semAt_some
def nosF (pre:List (SpotD×Int)):List Int:=pre.map (·.1.no)
theorem nosF_snoc (pre:List (SpotD×Int)) (x:SpotD×Int):nosF (pre++[x])=nosF pre++[x.1.no]:=by unfold nosF;rw[List.map_append];rfl
def datF (s:SysD) (no:Int):Int:=((rdM s (getN s.t.nodes no)).data.length:Nat)
def WghI (W1:World) (N k bS bB bM b:Nat) (cu cg dir:Int) (nm:List UInt8) (Fv:List Int→Int) (O:List Nat) (pre:List (SpotD×Int)) (V:World):Prop:=
 Ext W1 V∧CapD V k b cu cg dir nm∧Has V bS (.cells #[.int .i64 (Fv (nosF pre))] 3)∧Has V bB (.cells #[.map (some bM)] 93)∧(∃es cl,Has V bM (.map es cl)∧CntIs es.toList (nosF pre))∧(∀y∈pre,y.2=0)∧(∀x∈O,N≤x)∧N≤V.heap.size
theorem WghI.bears {W1:World} {N k bS bB bM b:Nat} {cu cg dir:Int} {nm:List UInt8} {Fv:List Int→Int} (h1:W1.heap.size≤N) (h2:k+3<N) (h3:bS<N) (h4:bB<N) (h5:bM<N):Bears N (WghI W1 N k bS bB bM b cu cg dir nm Fv):=by
 rintro O pre V O' R V' ⟨a1,a2,a3,a4,⟨es,cl,a5,a6⟩,a7,a8,a9⟩ o hR hO hO';have hL:∀x∈O++R,N≤x:=fun x hx=>by
  rcases List.mem_append.1 hx with hx|hx
  ·exact a8 x hx
  ·exact (hR x hx).1
 refine ⟨o.after a1 fun x hx=>by have:=hL x hx;omega,a2.only o fun x hx=>.inr (by have:=hL x hx;omega),o.has a3 (fun hm=>by have:=hL _ hm;omega),o.has a4 (fun hm=>by have:=hL _ hm;omega),⟨es,cl,o.has a5 (fun hm=>by have:=hL _ hm;omega),a6⟩,a7,fun x hx=>?_,by have:=o.size;omega⟩;rcases hO x hx with e|e
 ·exact a8 x e
 ·omega
theorem WghI.next {W1 V V':World} {N k bS bB bM b:Nat} {cu cg dir:Int} {nm:List UInt8} {Fv:List Int→Int} {O:List Nat} {pre:List (SpotD×Int)} {x:SpotD×Int} {es':Array MapEntry} {cl':Nat} (l1:W1.heap.size≤bS) (l2:bS<bM) (l3:bM<bB) (l4:bB<k) (l5:k+3<N) (h:WghI W1 N k bS bB bM b cu cg dir nm Fv O pre V)
  (o:Only [bM,bS] V V') (hS:Has V' bS (.cells #[.int .i64 (Fv (nosF pre++[x.1.no]))] 3)) (hM:Has V' bM (.map es' cl')) (hc:CntIs es'.toList (nosF pre++[x.1.no])) (hx:x.2=0) (hO:∀y∈O,OwnB V y):KeepsFrom N V V'∧KeepO O V V'∧WghI W1 N k bS bB bM b cu cg dir nm Fv O (pre++[x]) V':=by
 obtain ⟨a1,a2,a3,a4,⟨es,cl,a5,a6⟩,a7,a8,a9⟩:=h;have hm:∀y∈[bM,bS],y=bM∨y=bS:=fun y hy=>by simpa using hy
 refine ⟨o.keepsFrom (fun y hy=>.inl (by rcases hm y hy with rfl|rfl<;>omega)),o.keepO (fun y hy=>(hO y hy).lt) (fun y hy2 hy=>by have:=a8 y hy2;rcases hm y hy with rfl|rfl<;>omega),o.after a1 (fun y hy=>by rcases hm y hy with rfl|rfl<;>omega),a2.only o (fun y hy=>.inl (by rcases hm y hy with rfl|rfl<;>omega)),by rw[nosF_snoc];exact hS,o.has a4 (fun hy=>by rcases hm _ hy with e|e<;>omega),⟨es',cl',hM,by rw[nosF_snoc];exact hc⟩,fun y hy=>?_,a8,by have:=o.size;omega⟩;rcases List.mem_append.1 hy with hy|hy
 ·exact a7 y hy
 ·rw[List.mem_singleton]at hy;subst hy;exact hx
theorem PS.tree {c:Nat} {w:World} {B b:Nat} {g:GhW} {s:SysD} (h:PS w B b g s) (hs:Sane c s) (hc:c≤900) (cu cg dir:Int) (nm:List UInt8) (l:List SpotD) (b0:SpotD) (e0:Int) (hT:DownT s cu cg dir nm l b0 e0) (hlen:l.length≤1000) :
  Calls Tryz.prog 20 #[.pointer (some ⟨b,0,none⟩),.agg #[.int .i64 cu,.int .i64 cg],.int .i64 dir,.string (bs nm)] w (Ret w (.tuple #[.int .i64 (if e0=0 then wghF (datF s) (l.map (·.no)) else 0),.int .i64 (if e0=0 then ((distF (l.map (·.no))).length:Nat) else 0),.int .i64 e0])):=by
 refine (callsIn_wide (n:=4)).1 ?_;obtain ⟨F,hF⟩:∃F,F=Fence.wide:=⟨_,rfl⟩;have hro:F.round=none:=by rw[hF];rfl
 have hf1:F.fn 20:=by rw[hF];trivial
 have hf2:F.fn 41:=by rw[hF];trivial
 have hf3:F.fn 86:=by rw[hF];trivial
 have hf4:F.fn 45:=by rw[hF];trivial
 have KD:=fun (W:World)=>down_in F 3 hf2 hro b cu cg dir nm W
 have KST:Hid (∀(lb m:Nat) (u:World) (no:Int),Ext w u→CallsIn (F.inRound lb) m Tryz.prog 45 #[.pointer (some ⟨b,0,none⟩),.int .i64 no] u (Ret u (.tuple #[statV (rdM s (getN s.t.nodes no)),.int .i64 (rdE s (statE s.t no))]))):=by
  show ∀_ _ _ _,_;intro lb m u no hu;rw [hF];exact CallsIn.inRound lb (callsIn_wide.2 ((h.ext hu).stat hs no))
 rw [←hF];have HF:=zH hF;clear hF;have hmm:=@run_makeMap Tryz.prog;refine callsIn_of_wp_marks Tryz.func20 rfl hf1 ?_ hro;simp only[Tryz.ntmps20,List.size_toArray,List.length_cons,List.length_nil,Nat.reduceAdd,Nat.reduceSub,Array.replicate_succ,Array.replicate_zero,List.push_toArray,List.append_toArray,List.nil_append,List.cons_append];gi_wp2_with (gi_at_call 41;refine (KD _).mono ?_;rintro e w3 ⟨rfl,C3,E3,Z3⟩);clear hmm;obtain ⟨W1,hW1⟩:∃V,V=((((w.alloc (.cells #[.pointer (some ⟨b,0,none⟩)] 33)).alloc (.cells #[.int .i64 cu,.int .i64 cg] 27)).alloc (.cells #[.int .i64 0] 3)).alloc (.cells #[.int .i64 0] 3)).alloc (.cells #[.int .i64 0] 47):=⟨_,rfl⟩;obtain ⟨b4,hb4⟩:∃x,x=w.heap.size:=⟨_,rfl⟩;obtain ⟨b5,hb5⟩:∃x,x=w.heap.size+1:=⟨_,rfl⟩;obtain ⟨b8,hb8⟩:∃x,x=w.heap.size+1+1:=⟨_,rfl⟩;obtain ⟨b9,hb9⟩:∃x,x=w.heap.size+1+1+1:=⟨_,rfl⟩;obtain ⟨b10,hb10⟩:∃x,x=w.heap.size+1+1+1+1:=⟨_,rfl⟩;obtain ⟨bS,hbS⟩:∃x,x=w.heap.size+1+1+1+1+1:=⟨_,rfl⟩;obtain ⟨bM,hbM⟩:∃x,x=w.heap.size+1+1+1+1+1+1:=⟨_,rfl⟩;obtain ⟨bB,hbB⟩:∃x,x=w.heap.size+1+1+1+1+1+1+1:=⟨_,rfl⟩;obtain ⟨k,hk⟩:∃x,x=w.heap.size+1+1+1+1+1+1+1+1:=⟨_,rfl⟩;have hs1:W1.heap.size=bS:=by rw[hW1,hbS];simp
 have E1:Ext w W1:=by rw[hW1];exact (((((Ext.refl _).alloc _).alloc _).alloc _).alloc _).alloc _
 have H4:Has W1 b4 (.cells #[.pointer (some ⟨b,0,none⟩)] 33):=by
  rw [hW1,hb4];exact ((((Has.new w _).alloc _).alloc _).alloc _).alloc _
 have H5:Has W1 b5 (.cells #[.int .i64 cu,.int .i64 cg] 27):=by
  rw [hW1,hb5];have:=Has.new (w.alloc (.cells #[.pointer (some ⟨b,0,none⟩)] 33)) (.cells #[.int .i64 cu,.int .i64 cg] 27);rw [World.size_alloc]at this;exact ((this.alloc _).alloc _).alloc _
 have H8:Has W1 b8 (.cells #[.int .i64 0] 3):=by
  rw [hW1,hb8];have:=Has.new ((w.alloc (.cells #[.pointer (some ⟨b,0,none⟩)] 33)).alloc (.cells #[.int .i64 cu,.int .i64 cg] 27)) (.cells #[.int .i64 0] 3);simp only[World.size_alloc]at this;exact (this.alloc _).alloc _
 have H9:Has W1 b9 (.cells #[.int .i64 0] 3):=by
  rw [hW1,hb9];have:=Has.new (((w.alloc (.cells #[.pointer (some ⟨b,0,none⟩)] 33)).alloc (.cells #[.int .i64 cu,.int .i64 cg] 27)).alloc (.cells #[.int .i64 0] 3)) (.cells #[.int .i64 0] 3);simp only[World.size_alloc]at this;exact this.alloc _
 have H10:Has W1 b10 (.cells #[.int .i64 0] 47):=by
  rw [hW1,hb10];have:=Has.new ((((w.alloc (.cells #[.pointer (some ⟨b,0,none⟩)] 33)).alloc (.cells #[.int .i64 cu,.int .i64 cg] 27)).alloc (.cells #[.int .i64 0] 3)).alloc (.cells #[.int .i64 0] 3)) (.cells #[.int .i64 0] 47);simp only[World.size_alloc]at this;exact this
 rw [←hW1]at E3 C3 Z3;have HS0:Has (((W1.alloc (.cells #[.int .i64 0] 3)).alloc (.map #[] 0)).alloc (.cells #[.map (some bM)] 93)) bS (.cells #[.int .i64 0] 3):=by rw[←hs1];exact ((Has.new _ _).alloc _).alloc _
 have HM0:Has (((W1.alloc (.cells #[.int .i64 0] 3)).alloc (.map #[] 0)).alloc (.cells #[.map (some bM)] 93)) bM (.map #[] 0):=by
  have:=Has.new (W1.alloc (.cells #[.int .i64 0] 3)) (.map #[] 0);rw [World.size_alloc,hs1,hbS,←hbM]at this;exact this.alloc _
 have HB0:Has (((W1.alloc (.cells #[.int .i64 0] 3)).alloc (.map #[] 0)).alloc (.cells #[.map (some bM)] 93)) bB (.cells #[.map (some bM)] 93):=by
  have:=Has.new ((W1.alloc (.cells #[.int .i64 0] 3)).alloc (.map #[] 0)) (.cells #[.map (some bM)] 93);rw [World.size_alloc,World.size_alloc,hs1,hbS,←hbB]at this;exact this
 have e2:(((W1.alloc (.cells #[.int .i64 0] 3)).alloc (.map #[] 0)).alloc (.cells #[.map (some bM)] 93)).heap.size=k:=by rw[World.size_alloc,World.size_alloc,World.size_alloc,hs1,hbS,hk]
 rw [←hbM]at E3 C3 Z3;rw [e2]at C3 Z3;rw [←hk,←hbB,←hbM,←hbS,←hb10,←hb9,←hb8,←hb5,←hb4];have X1:Ext W1 w3:=((((Ext.refl W1).alloc _).alloc _).alloc _).trans E3;obtain ⟨N,hN⟩:∃N,N=w3.heap.size:=⟨_,rfl⟩;have hNk1:N≤k+4:=by rw[hN,Z3];exact Nat.le_refl _
 have hNk2:k+4≤N:=by rw[hN,Z3];exact Nat.le_refl _
 have l1:w.heap.size≤b4:=by omega
 have l2:b4<b5:=by omega
 have l3:b5<b8:=by omega
 have l4:b8<b9:=by omega
 have l5:b9<b10:=by omega
 have l6:b10<bS:=by omega
 have l7:bS<bM:=by omega
 have l8:bM<bB:=by omega
 have l9:bB<k:=by omega
 have hs1a:W1.heap.size≤bS:=by rw[hs1];exact Nat.le_refl _
 have hs1b:bS≤W1.heap.size:=by rw[hs1];exact Nat.le_refl _
 have HN:=zH hN;have hN1:N≤w3.heap.size:=by rw[hN];exact Nat.le_refl _
 have hN2:w3.heap.size≤N:=by rw[hN];exact Nat.le_refl _
 have HP1:=zH (h.ext E1);have HE1:=zH E1;have HH4:=zH H4;have HH5:=zH H5;have HH8:=zH H8;have HH9:=zH H9;have HH10:=zH H10;have HS3:=HS0.ext E3;have HM3:=HM0.ext E3;have HB3:=HB0.ext E3;have hLl:(told l b0 e0).length≤1001:=by have:=told_len l b0 e0;omega
 have KS:=down_seq (c:=c) F HF.out (4-1) (by omega) B b g s hs hc k cu cg dir nm l b0 e0 hT hlen w3;clear hW1 hb4 hb5 hb8 hb9 hb10 hbS hbM hbB hk H4 H5 H8 H9 H10 E1 h hs hT KD hs1 e2 Z3 hN HS0 HM0 HB0;refine wpIn_range_o hro (by omega) (gf:=86) (lb:=#[.pointer (some ⟨k,0,none⟩),.pointer (some ⟨k+1,0,none⟩),.pointer (some ⟨k+2,0,none⟩),.pointer (some ⟨k+3,0,none⟩)]) rfl hf3 (enters_of Tryz.func86 (by kernel_rfl) rfl) KS (Nat.le_refl _) (fun _=>rfl)
  (WghI W1 N k bS bB bM b cu cg dir nm (wghF (datF s)))
  (fun cc pre V=>cc=.ret∧Ext w V∧Has V b8 (.cells #[.int .i64 0] 3)∧Has V b9 (.cells #[.int .i64 0] 3)∧∃q y,pre=q++[y]∧y.2≠0∧Has V b10 (.cells #[.int .i64 y.2] 47))
  (by rw[←HN.out];exact WghI.bears (by omega) (by omega) (by omega) (by omega) (by omega))
  (by rintro cc pre V R V' ⟨a1,a2,a3,a3',q,y,a4,a5,a6⟩ o hR;exact⟨a1,o.after a2 (fun x hx=>by have:=(hR x hx).1;omega),o.has a3 (fun hm=>by have:=(hR _ hm).1;omega),o.has a3' (fun hm=>by have:=(hR _ hm).1;omega),q,y,a4,a5,o.has a6 (fun hm=>by have:=(hR _ hm).1;omega)⟩)
  (fun O pre V hI=>⟨HP1.out.ext hI.1,hI.2.1⟩)
  ⟨X1,C3,HS3,HB3,⟨_,_,HM3,rfl,fun j hj=>absurd hj (Nat.not_lt_zero _)⟩,fun y hy=>(by cases hy),fun x hx=>(by cases hx),hN1⟩
  (fun x a' V=>∃Bx,N≤Bx∧Has V Bx (.cells #[.int .i64 x.1.dir,.string (bs x.1.name),.int .i64 x.1.no,.int .i64 x.1.depth] 41)∧a'={tmps:=#[.pointer (some ⟨b,0,none⟩),.agg #[.int .i64 cu,.int .i64 cg],.int .i64 dir,.string (bs nm),.pointer (some ⟨b4,0,none⟩),.pointer (some ⟨b5,0,none⟩),undef,undef,.pointer (some ⟨b8,0,none⟩),.pointer (some ⟨b9,0,none⟩),.pointer (some ⟨b10,0,none⟩),.pointer (some ⟨bS,0,none⟩),.pointer (some ⟨bB,0,none⟩),.pointer (some ⟨Bx,0,none⟩),.int .i64 x.2,undef,undef,.map (some bM),.pointer (some ⟨b,0,none⟩),.agg #[.int .i64 cu,.int .i64 cg],.int .i64 dir,.string (bs nm),.func (.func 86) #[] #[.pointer (some ⟨k,0,none⟩),.pointer (some ⟨k+1,0,none⟩),.pointer (some ⟨k+2,0,none⟩),.pointer (some ⟨k+3,0,none⟩)],.agg #[.int .i64 x.1.dir,.string (bs x.1.name),.int .i64 x.1.no,.int .i64 x.1.depth],.int .i64 x.2,undef,undef,undef,undef,undef,undef,undef,undef,undef,undef,undef,undef,undef,undef,undef,undef,undef,undef,undef,undef,undef,undef,undef,undef,undef,undef,undef],defers:=[]})
  ?hax ?assign ?body ?done ?stop
 case hax =>
  rintro x a' V l o o' ⟨Bx,h1,h2,rfl⟩ hl ho hc';refine ⟨Bx,h1,?_,rfl⟩;have hne:Bx≠l:=fun e=>by subst e;unfold Has at h2;rw[h2]at ho;cases ho;cases hc'
  exact (World.putObj_heap_other hne).trans h2
 case assign =>
  rintro lp O pre x V K hI hG hOB hK;gi_wp2;refine hK _ _ ((KeepsOthers.alloc _ _).from _) ((Only.allocN [] V _).keepO (fun b hb=>(hOB b hb).lt) (fun _ _=>by simp)) ?_ ⟨V.heap.size,hI.2.2.2.2.2.2.2,Has.new _ _,rfl⟩;exact (WghI.bears (W1:=W1) (N:=N) (by omega) (by omega) (by omega) (by omega) (by omega)) O pre V O [] _ hI (by rw[List.append_nil];exact Only.allocN _ _ _) (fun r hr=>by cases hr) (fun x hx=>.inl hx) (fun x hx=>(hOB x hx).ext ((Ext.refl V).alloc _))
 case body =>
  rintro lp O pre x a' V hI ⟨Bx,hBx,hXB,rfl⟩ hG hOB;rw [←HN.out];have hpl:pre.length≤1001:=by
   have:=hG.length_le;rw [List.length_append]at this;omega
  have HI:=zH hI;obtain ⟨a1,_,a3,a4,⟨es,cl,a5,a6⟩,_,_,a9⟩:=hI;have h4:=HH4.out.ext a1
  by_cases hx0:x.2=0
  ·have t0:(x.2 != 0)=false:=by simpa using hx0
   have hr1:=run_met a5 a6 x.1.no;obtain ⟨es',cl',hr2,hc'⟩:=run_meet a5 a6 x.1.no;obtain ⟨V1,hV1⟩:∃V1,V1=putB V bM (.map es' cl'):=⟨_,rfl⟩;have o1:Only [bM] V V1:=by rw[hV1];exact Only.putB _ _ _
   have a5':Has V1 bM (.map es' cl'):=by rw[hV1];exact Has.putB _ a5.lt
   rw [←hV1]at hr2;have hr3:=run_met a5' hc' x.1.no;have hcx:(nosF pre++[x.1.no]).count x.1.no=(nosF pre).count x.1.no+1:=by rw[List.count_append];simp
   rw [hcx]at hr3;have hqn:(nosF pre).count x.1.no≤1001:=by have:=List.count_le_length (a:=x.1.no) (l:=nosF pre);unfold nosF at this⊢;rw[List.length_map]at this;omega
   have hmem:(nosF pre).count x.1.no=0↔x.1.no∉nosF pre:=List.count_eq_zero;obtain ⟨q,hq⟩:∃q,q=(nosF pre).count x.1.no:=⟨_,rfl⟩;rw [←hq]at hr1 hr2 hr3 hqn hmem;have hr3':(Instr.lookup 93 (.map (some bM)) (.int .i64 x.1.no) false).run Tryz.prog V1=.ok (.int .i64 ((q:Int)+1)) V1:=hr3;have w1w:IntKind.i64.wrap ((q:Int)+1)=(q:Int)+1:=IntWalk.i64_in _ (by omega);have m1:∀y∈[bM],y=bM:=fun y hy=>by simpa using hy
   have h4':=o1.has h4 (fun hy=>by have:=m1 _ hy;omega);have a3':=o1.has a3 (fun hy=>by have:=m1 _ hy;omega);have a4':=o1.has a4 (fun hy=>by have:=m1 _ hy;omega);have hXB':=o1.has hXB (fun hy=>by have:=m1 _ hy;omega);have EV1:Ext w V1:=HE1.out.trans (o1.after a1 (fun y hy=>by have:=m1 _ hy;omega));have c4:=h4'.cell 0;have z4:=h4'.lt;have cB:=a4.cell 0;have zB:=a4.lt;have cB':=a4'.cell 0;have zB':=a4'.lt;have y2:=hXB.cell 2;have yz:=hXB.lt;have y2':=hXB'.cell 2;have yz':=hXB'.lt;simp only[gA,gB,gC]at y2 y2' c4 cB cB';have HMEM:=zH hmem;have HQ:=zH hq;have HO1:=zH o1;have HA5:=zH a5';obtain ⟨S0,hS0⟩:∃S0,S0=wghF (datF s) (nosF pre):=⟨_,rfl⟩;rw [←hS0]at a3';have HA3:=zH a3';have HX0:=zH hx0;have HC:=zH hc';have HXB':=zH hXB';have HEV:=zH EV1;have HS0:=zH hS0;clear hr3 hmem hq o1 a5' a3' hx0 hc' hXB' EV1 hV1 hcx a5 a6 a1 a3 a4 a4' h4 h4' hXB m1 hS0
   by_cases hgt:(1:Int)<(q:Int)+1
   ·gi_wp2
    refine WghI.next (by omega) (by omega) (by omega) (by omega) (by omega) HI.out (HO1.out.mono (fun y hy=>by simp at hy;simp[hy])) ?_ HA5.out HC.out HX0.out hOB;rw [wghF_snoc,if_pos (Classical.byContradiction fun hn=>by have:=HMEM.out.2 hn;omega),←HS0.out];exact HA3.out
   ·have hnew:=HMEM.out.1 (by omega)
    obtain ⟨m,hm⟩:∃m,m=rdM s (getN s.t.nodes x.1.no):=⟨_,rfl⟩;have KS1:Hid (∀j,CallsIn (F.inRound lp) j Tryz.prog 45 #[.pointer (some ⟨b,0,none⟩),.int .i64 x.1.no] V1 (Ret V1 (.tuple #[statV m,.int .i64 (rdE s (statE s.t x.1.no))]))):=by
     show ∀_,_;intro j;rw [hm];exact KST.out lp j V1 x.1.no HEV.out
    have hdat:datF s x.1.no=(m.data.length:Nat):=by unfold datF;rw[hm]
    have HDAT:=zH hdat;have HNEW:=zH hnew;unfold statV at KS1;clear hm hdat hnew;gi_wp2_with (gi_at_call 45;refine (KS1.out _).mono ?_;rintro e w2 ⟨rfl,b2⟩;have HS2:=zH (HA3.out.ext b2);have HE2:=zH b2;have dS:=HS2.out.cell 0;have fS:=HS2.out.free 0;have zS:=HS2.out.lt;simp only[gA,gB]at dS;clear b2 c4 z4 cB zB cB' zB' y2 y2' yz yz');refine WghI.next (by omega) (by omega) (by omega) (by omega) (by omega) HI.out ((((HO1.out.mono (fun y hy=>by simp at hy;simp[hy])).then (Only.of_ext (L:=[bM,bS]) HE2.out)).then ((Only.setCell _ bS 0 _).mono (by simp))).then (Only.allocN _ _ _)) ?_ (((Only.setCell _ bS 0 _).has (HA5.out.ext HE2.out) (by simp;omega)).alloc _) HC.out HX0.out hOB;rw [wghF_snoc,if_neg HNEW.out,←HS0.out,HDAT.out];exact (Has.setCell HS2.out 0 _).alloc _
  ·have t0:(x.2 != 0)=true:=by simpa using hx0
   have V8:=HH8.out.ext a1;have V9:=HH9.out.ext a1;have V10:=HH10.out.ext a1;have c8:=V8.cell 0;have f8:=V8.free 0;have z8:=V8.lt;have c9:=V9.cell 0;have f9:=V9.free 0;have z9:=V9.lt;have c10:=V10.cell 0;have f10:=V10.free 0;have z10:=V10.lt;have EV:=zH (HE1.out.trans a1);have HX0:=zH hx0;have HV8:=zH V8;have HV9:=zH V9;have HV10:=zH V10;clear hG hx0 V8 V9 V10 hXB a1 a3 a4 a5 a6 h4;gi_wp2;obtain ⟨Y1,hY1⟩:∃Y,Y=V.setCell ⟨b8,0,none⟩ (.int .i64 0):=⟨_,rfl⟩;obtain ⟨Y2,hY2⟩:∃Y,Y=Y1.setCell ⟨b9,0,none⟩ (.int .i64 0):=⟨_,rfl⟩;have p1:Only [b8] V Y1:=by rw[hY1];exact Only.setCell _ _ _ _
   have p2:Only [b9] Y1 Y2:=by rw[hY2];exact Only.setCell _ _ _ _
   have q8:Has Y2 b8 (.cells #[.int .i64 0] 3):=p2.has (by rw[hY1];exact Has.setCell HV8.out 0 _) (by simp;omega);have q9:Has Y2 b9 (.cells #[.int .i64 0] 3):=by rw[hY2];exact Has.setCell (p1.has HV9.out (by simp;omega)) 0 _
   have q10:Has Y2 b10 (.cells #[.int .i64 0] 47):=p2.has (p1.has HV10.out (by simp;omega)) (by simp;omega);rw [←hY1,←hY2];have p3:=Only.setCell Y2 b10 0 (.int .i64 x.2);have o9:Only [b8,b9,b10] V (Y2.setCell ⟨b10,0,none⟩ (.int .i64 x.2)):=((p1.mono (by simp)).then (p2.mono (by simp))).then (p3.mono (by simp));exact ⟨o9.keepsFrom (fun y hy=>.inl (by simp at hy;omega)),rfl,o9.after EV.out (fun y hy=>by simp at hy;omega),p3.has q8 (by simp;omega),p3.has q9 (by simp;omega),pre,x,rfl,HX0.out,Has.setCell q10 0 _⟩
 case done =>
  rintro D O xs V hD hxs hI hK;have hn7:∀y∈told l b0 e0,y.2=0:=by rw[←hxs];exact hI.2.2.2.2.2.1
  obtain ⟨h0,hmap⟩:=told_zero (l:=l) (b:=b0) (e:=e0) hn7;have hnos:nosF xs=l.map (·.no):=by rw[hxs,←hmap];unfold nosF;rw[List.map_map];rw[hmap];rfl
  obtain ⟨a1,_,a3,a4,⟨es,cl,a5,a6⟩,_,_,a9⟩:=hI;rw [hnos]at a3 a6;have V8:=HH8.out.ext a1;have V9:=HH9.out.ext a1;have V10:=HH10.out.ext a1;have c8:=V8.cell 0;have f8:=V8.free 0;have z8:=V8.lt;have c9:=V9.cell 0;have f9:=V9.free 0;have z9:=V9.lt;have c10:=V10.cell 0;have f10:=V10.free 0;have z10:=V10.lt;have cS:=a3.cell 0;have zS:=a3.lt;have cB:=a4.cell 0;have zB:=a4.lt;simp only[gA,gB]at cS cB;obtain ⟨X,hX⟩:∃X,X=wghF (datF s) (l.map (·.no)):=⟨_,rfl⟩;rw [←hX]at cS;have hsz:es.size=(distF (l.map (·.no))).length:=by simpa using a6.1
  have hum:Tryz.prog.underlying 93=some (.map (Tryz.prog.mapKeyOf 93) (Tryz.prog.mapElemOf 93)):=by kernel_rfl
  have hl:=run_len_map (w:=V) 93 3 bM es cl hum a5;clear hum;have HX:=zH hX;have HSZ:=zH hsz;have EV:=zH (HE1.out.trans a1);have HV8:=zH V8;have HV9:=zH V9;have HV10:=zH V10;have HK:=zH hK;subst h0;clear hX hsz V8 V9 V10 hK hn7 hxs hmap hnos a1 a3 a4 a5 a6;gi_wp2;obtain ⟨Y1,hY1⟩:∃Y,Y=V.setCell ⟨b8,0,none⟩ (.int .i64 X):=⟨_,rfl⟩;obtain ⟨Y2,hY2⟩:∃Y,Y=Y1.setCell ⟨b9,0,none⟩ (.int .i64 (es.size:Int)):=⟨_,rfl⟩;obtain ⟨Y3,hY3⟩:∃Y,Y=Y2.setCell ⟨b10,0,none⟩ (.int .i64 0):=⟨_,rfl⟩;have p1:Only [b8] V Y1:=by rw[hY1];exact Only.setCell _ _ _ _
  have p2:Only [b9] Y1 Y2:=by rw[hY2];exact Only.setCell _ _ _ _
  have p3:Only [b10] Y2 Y3:=by rw[hY3];exact Only.setCell _ _ _ _
  have q8:Has Y3 b8 (.cells #[.int .i64 X] 3):=p3.has (p2.has (by rw[hY1];exact Has.setCell HV8.out 0 _) (by simp;omega)) (by simp;omega);have q9:Has Y3 b9 (.cells #[.int .i64 (es.size:Int)] 3):=p3.has (by rw[hY2];exact Has.setCell (p1.has HV9.out (by simp;omega)) 0 _) (by simp;omega);have q10:Has Y3 b10 (.cells #[.int .i64 0] 47):=by rw[hY3];exact Has.setCell (p2.has (p1.has HV10.out (by simp;omega)) (by simp;omega)) 0 _
  rw [←hY1,←hY2,←hY3];have o2:Only [b8,b9,b10] V Y3:=((p1.mono (by simp)).then (p2.mono (by simp))).then (p3.mono (by simp));have hK2:=o2.has HK.out (by simp;omega);refine ⟨by simp,.inl ⟨_,_,rfl,run_takeDeferred hK2,?_⟩⟩;have o3:Only [b8,b9,b10,D] V (Y3.putObj D (.deferred none)):=(o2.mono (by simp)).then ((Only.putObj Y3 D _).mono (by simp));have r8:=((Only.putObj Y3 D (.deferred none)).has q8 (by simp;omega)).cell 0;have r9:=((Only.putObj Y3 D (.deferred none)).has q9 (by simp;omega)).cell 0;have r10:=((Only.putObj Y3 D (.deferred none)).has q10 (by simp;omega)).cell 0;refine ⟨.tuple #[.int .i64 X,.int .i64 (es.size:Int),.int .i64 0],by simp[results,Tryz.results20,go_sem,r8,r9,r10],?_⟩;exact Ret.mk (by rw[HX.out,HSZ.out]) (o3.after EV.out (fun x hx=>by simp at hx;omega))
 case stop =>
  rintro D cc pre V hD hp ⟨rfl,hE,h8,h9,q,y,rfl,hy,h10⟩ hK;obtain ⟨e1,e2,e3⟩:=told_last hp hy;have EV:=hE;gi_wp2;refine ⟨by simp,.inl ⟨_,_,rfl,run_takeDeferred hK,?_⟩⟩;have r8:=((Only.putObj V D (.deferred none)).has h8 (by simp;omega)).cell 0;have r9:=((Only.putObj V D (.deferred none)).has h9 (by simp;omega)).cell 0;have r10:=((Only.putObj V D (.deferred none)).has h10 (by simp;omega)).cell 0;rw [e1]at r10;refine ⟨.tuple #[.int .i64 0,.int .i64 0,.int .i64 e0],by simp[results,Tryz.results20,go_sem,r8,r9,r10],?_⟩;exact Ret.mk rfl ((Only.putObj V D _).after EV (fun x hx=>by simp at hx;omega))
end Go.Proofs.YtpibnfdolojpcaaGreat
namespace Go.Proofs.YtpibnfdolojpcaaGreat
open Go.ChangeShapes Go.WideShapes Go.ChangeAt Go.RowKit
attribute [local go_sem] Oper.semAt_some
def kndF (s:SysD) (no:Int):Int:=(rdM s (getN s.t.nodes no)).kind
def lksF (s:SysD) (no:Int):Int:=(rdM s (getN s.t.nodes no)).links
theorem lksF_le {c:Nat} {s:SysD} (hs:Sane c s) (no:Int):0≤lksF s no∧lksF s no≤1000:=by
 unfold lksF rdM;split
 ·exact⟨by decide,by decide⟩
 ·cases hi:isN s.t.nodes no
  ·rw[(isN_false hi).1];exact⟨by decide,by decide⟩
  ·have:=hs.tre.bits _ (isN_true hi).2.2
   omega
theorem PS.links {c:Nat} {w:World} {B b:Nat} {g:GhW} {s:SysD} (h:PS w B b g s) (hs:Sane c s) (hc:c≤900) (cu cg dir:Int) (nm:List UInt8) (l:List SpotD) (b0:SpotD) (e0:Int) (hT:DownT s cu cg dir nm l b0 e0) (hlen:l.length≤1000) :
  Calls Tryz.prog 22 #[.pointer (some ⟨b,0,none⟩),.agg #[.int .i64 cu,.int .i64 cg],.int .i64 dir,.string (bs nm)] w (Ret w (.tuple #[.int .i64 (if e0=0 then lnkF (kndF s) (lksF s) (l.map (·.no)) else 0),.int .i64 e0])):=by
 refine (callsIn_wide (n:=4)).1 ?_;obtain ⟨F,hF⟩:∃F,F=Fence.wide:=⟨_,rfl⟩;have hro:F.round=none:=by rw[hF];rfl
 have hf1:F.fn 22:=by rw[hF];trivial
 have hf2:F.fn 41:=by rw[hF];trivial
 have hf3:F.fn 86:=by rw[hF];trivial
 have hf4:F.fn 45:=by rw[hF];trivial
 have KD:=fun (W:World)=>down_in F 3 hf2 hro b cu cg dir nm W
 have KST:Hid (∀(lb m:Nat) (u:World) (no:Int),Ext w u→CallsIn (F.inRound lb) m Tryz.prog 45 #[.pointer (some ⟨b,0,none⟩),.int .i64 no] u (Ret u (.tuple #[statV (rdM s (getN s.t.nodes no)),.int .i64 (rdE s (statE s.t no))]))):=by
  show ∀_ _ _ _,_;intro lb m u no hu;rw [hF];exact CallsIn.inRound lb (callsIn_wide.2 ((h.ext hu).stat hs no))
 have HLK:Hid (∀no,0≤lksF s no∧lksF s no≤1000):=fun no=>lksF_le hs no
 rw [←hF];have HF:=zH hF;clear hF;have hmm:=@run_makeMap Tryz.prog;refine callsIn_of_wp_marks Tryz.func22 rfl hf1 ?_ hro;simp only[Tryz.ntmps22,List.size_toArray,List.length_cons,List.length_nil,Nat.reduceAdd,Nat.reduceSub,Array.replicate_succ,Array.replicate_zero,List.push_toArray,List.append_toArray,List.nil_append,List.cons_append];gi_wp2_with (gi_at_call 41;refine (KD _).mono ?_;rintro e w3 ⟨rfl,C3,E3,Z3⟩);clear hmm;obtain ⟨W1,hW1⟩:∃V,V=(((w.alloc (.cells #[.pointer (some ⟨b,0,none⟩)] 33)).alloc (.cells #[.int .i64 cu,.int .i64 cg] 27)).alloc (.cells #[.int .i64 0] 3)).alloc (.cells #[.int .i64 0] 47):=⟨_,rfl⟩;obtain ⟨b4,hb4⟩:∃x,x=w.heap.size:=⟨_,rfl⟩;obtain ⟨b5,hb5⟩:∃x,x=w.heap.size+1:=⟨_,rfl⟩;obtain ⟨b8,hb8⟩:∃x,x=w.heap.size+1+1:=⟨_,rfl⟩;obtain ⟨b9,hb9⟩:∃x,x=w.heap.size+1+1+1:=⟨_,rfl⟩;obtain ⟨bS,hbS⟩:∃x,x=w.heap.size+1+1+1+1:=⟨_,rfl⟩;obtain ⟨bM,hbM⟩:∃x,x=w.heap.size+1+1+1+1+1:=⟨_,rfl⟩;obtain ⟨bB,hbB⟩:∃x,x=w.heap.size+1+1+1+1+1+1:=⟨_,rfl⟩;obtain ⟨k,hk⟩:∃x,x=w.heap.size+1+1+1+1+1+1+1:=⟨_,rfl⟩;have hs1:W1.heap.size=bS:=by rw[hW1,hbS];simp
 have E1:Ext w W1:=by rw[hW1];exact ((((Ext.refl _).alloc _).alloc _).alloc _).alloc _
 have H4:Has W1 b4 (.cells #[.pointer (some ⟨b,0,none⟩)] 33):=by
  rw [hW1,hb4];exact (((Has.new w _).alloc _).alloc _).alloc _
 have H5:Has W1 b5 (.cells #[.int .i64 cu,.int .i64 cg] 27):=by
  rw [hW1,hb5];have:=Has.new (w.alloc (.cells #[.pointer (some ⟨b,0,none⟩)] 33)) (.cells #[.int .i64 cu,.int .i64 cg] 27);rw [World.size_alloc]at this;exact (this.alloc _).alloc _
 have H8:Has W1 b8 (.cells #[.int .i64 0] 3):=by
  rw [hW1,hb8];have:=Has.new ((w.alloc (.cells #[.pointer (some ⟨b,0,none⟩)] 33)).alloc (.cells #[.int .i64 cu,.int .i64 cg] 27)) (.cells #[.int .i64 0] 3);simp only[World.size_alloc]at this;exact this.alloc _
 have H9:Has W1 b9 (.cells #[.int .i64 0] 47):=by
  rw [hW1,hb9];have:=Has.new (((w.alloc (.cells #[.pointer (some ⟨b,0,none⟩)] 33)).alloc (.cells #[.int .i64 cu,.int .i64 cg] 27)).alloc (.cells #[.int .i64 0] 3)) (.cells #[.int .i64 0] 47);simp only[World.size_alloc]at this;exact this
 rw [←hW1]at E3 C3 Z3;have HS0:Has (((W1.alloc (.cells #[.int .i64 0] 3)).alloc (.map #[] 0)).alloc (.cells #[.map (some bM)] 93)) bS (.cells #[.int .i64 0] 3):=by rw[←hs1];exact ((Has.new _ _).alloc _).alloc _
 have HM0:Has (((W1.alloc (.cells #[.int .i64 0] 3)).alloc (.map #[] 0)).alloc (.cells #[.map (some bM)] 93)) bM (.map #[] 0):=by
  have:=Has.new (W1.alloc (.cells #[.int .i64 0] 3)) (.map #[] 0);rw [World.size_alloc,hs1,hbS,←hbM]at this;exact this.alloc _
 have HB0:Has (((W1.alloc (.cells #[.int .i64 0] 3)).alloc (.map #[] 0)).alloc (.cells #[.map (some bM)] 93)) bB (.cells #[.map (some bM)] 93):=by
  have:=Has.new ((W1.alloc (.cells #[.int .i64 0] 3)).alloc (.map #[] 0)) (.cells #[.map (some bM)] 93);rw [World.size_alloc,World.size_alloc,hs1,hbS,←hbB]at this;exact this
 have e2:(((W1.alloc (.cells #[.int .i64 0] 3)).alloc (.map #[] 0)).alloc (.cells #[.map (some bM)] 93)).heap.size=k:=by rw[World.size_alloc,World.size_alloc,World.size_alloc,hs1,hbS,hk]
 rw [←hbM]at E3 C3 Z3;rw [e2]at C3 Z3;rw [←hk,←hbB,←hbM,←hbS,←hb9,←hb8,←hb5,←hb4];have X1:Ext W1 w3:=((((Ext.refl W1).alloc _).alloc _).alloc _).trans E3;obtain ⟨N,hN⟩:∃N,N=w3.heap.size:=⟨_,rfl⟩;have hNk1:N≤k+4:=by rw[hN,Z3];exact Nat.le_refl _
 have hNk2:k+4≤N:=by rw[hN,Z3];exact Nat.le_refl _
 have l1:w.heap.size≤b4:=by omega
 have l2:b4<b5:=by omega
 have l3:b5<b8:=by omega
 have l4:b8<b9:=by omega
 have l6:b9<bS:=by omega
 have l7:bS<bM:=by omega
 have l8:bM<bB:=by omega
 have l9:bB<k:=by omega
 have hs1a:W1.heap.size≤bS:=by rw[hs1];exact Nat.le_refl _
 have hs1b:bS≤W1.heap.size:=by rw[hs1];exact Nat.le_refl _
 have HN:=zH hN;have hN1:N≤w3.heap.size:=by rw[hN];exact Nat.le_refl _
 have hN2:w3.heap.size≤N:=by rw[hN];exact Nat.le_refl _
 have HP1:=zH (h.ext E1);have HE1:=zH E1;have HH4:=zH H4;have HH5:=zH H5;have HH8:=zH H8;have HH9:=zH H9;have HS3:=HS0.ext E3;have HM3:=HM0.ext E3;have HB3:=HB0.ext E3;have hLl:(told l b0 e0).length≤1001:=by have:=told_len l b0 e0;omega
 have KS:=down_seq (c:=c) F HF.out (4-1) (by omega) B b g s hs hc k cu cg dir nm l b0 e0 hT hlen w3;clear hW1 hb4 hb5 hb8 hb9 hbS hbM hbB hk H4 H5 H8 H9 E1 h hs hT KD hs1 e2 Z3 hN HS0 HM0 HB0;refine wpIn_range_o hro (by omega) (gf:=86) (lb:=#[.pointer (some ⟨k,0,none⟩),.pointer (some ⟨k+1,0,none⟩),.pointer (some ⟨k+2,0,none⟩),.pointer (some ⟨k+3,0,none⟩)]) rfl hf3 (enters_of Tryz.func86 (by kernel_rfl) rfl) KS (Nat.le_refl _) (fun _=>rfl)
  (WghI W1 N k bS bB bM b cu cg dir nm (lnkF (kndF s) (lksF s)))
  (fun cc pre V=>cc=.ret∧Ext w V∧Has V b8 (.cells #[.int .i64 0] 3)∧∃q y,pre=q++[y]∧y.2≠0∧Has V b9 (.cells #[.int .i64 y.2] 47))
  (by rw[←HN.out];exact WghI.bears (by omega) (by omega) (by omega) (by omega) (by omega))
  (by rintro cc pre V R V' ⟨a1,a2,a3,q,y,a4,a5,a6⟩ o hR;exact⟨a1,o.after a2 (fun x hx=>by have:=(hR x hx).1;omega),o.has a3 (fun hm=>by have:=(hR _ hm).1;omega),q,y,a4,a5,o.has a6 (fun hm=>by have:=(hR _ hm).1;omega)⟩)
  (fun O pre V hI=>⟨HP1.out.ext hI.1,hI.2.1⟩)
  ⟨X1,C3,HS3,HB3,⟨_,_,HM3,rfl,fun j hj=>absurd hj (Nat.not_lt_zero _)⟩,fun y hy=>(by cases hy),fun x hx=>(by cases hx),hN1⟩
  (fun x a' V=>∃Bx,N≤Bx∧Has V Bx (.cells #[.int .i64 x.1.dir,.string (bs x.1.name),.int .i64 x.1.no,.int .i64 x.1.depth] 41)∧a'={tmps:=#[.pointer (some ⟨b,0,none⟩),.agg #[.int .i64 cu,.int .i64 cg],.int .i64 dir,.string (bs nm),.pointer (some ⟨b4,0,none⟩),.pointer (some ⟨b5,0,none⟩),undef,undef,.pointer (some ⟨b8,0,none⟩),.pointer (some ⟨b9,0,none⟩),.pointer (some ⟨bS,0,none⟩),.pointer (some ⟨bB,0,none⟩),.pointer (some ⟨Bx,0,none⟩),.int .i64 x.2,undef,undef,.map (some bM),.pointer (some ⟨b,0,none⟩),.agg #[.int .i64 cu,.int .i64 cg],.int .i64 dir,.string (bs nm),.func (.func 86) #[] #[.pointer (some ⟨k,0,none⟩),.pointer (some ⟨k+1,0,none⟩),.pointer (some ⟨k+2,0,none⟩),.pointer (some ⟨k+3,0,none⟩)],.agg #[.int .i64 x.1.dir,.string (bs x.1.name),.int .i64 x.1.no,.int .i64 x.1.depth],.int .i64 x.2,undef,undef,undef,undef,undef,undef,undef,undef,undef,undef,undef,undef,undef,undef,undef,undef,undef,undef,undef,undef,undef,undef,undef,undef,undef,undef,undef,undef,undef,undef,undef,undef,undef,undef,undef],defers:=[]})
  ?hax ?assign ?body ?done ?stop
 case hax =>
  rintro x a' V l o o' ⟨Bx,h1,h2,rfl⟩ hl ho hc';refine ⟨Bx,h1,?_,rfl⟩;have hne:Bx≠l:=fun e=>by subst e;unfold Has at h2;rw[h2]at ho;cases ho;cases hc'
  exact (World.putObj_heap_other hne).trans h2
 case assign =>
  rintro lp O pre x V K hI hG hOB hK;gi_wp2;refine hK _ _ ((KeepsOthers.alloc _ _).from _) ((Only.allocN [] V _).keepO (fun b hb=>(hOB b hb).lt) (fun _ _=>by simp)) ?_ ⟨V.heap.size,hI.2.2.2.2.2.2.2,Has.new _ _,rfl⟩;exact (WghI.bears (W1:=W1) (N:=N) (by omega) (by omega) (by omega) (by omega) (by omega)) O pre V O [] _ hI (by rw[List.append_nil];exact Only.allocN _ _ _) (fun r hr=>by cases hr) (fun x hx=>.inl hx) (fun x hx=>(hOB x hx).ext ((Ext.refl V).alloc _))
 case body =>
  rintro lp O pre x a' V hI ⟨Bx,hBx,hXB,rfl⟩ hG hOB;rw [←HN.out];have hpl:pre.length≤1001:=by
   have:=hG.length_le;rw [List.length_append]at this;omega
  have HI:=zH hI;obtain ⟨a1,_,a3,a4,⟨es,cl,a5,a6⟩,_,_,a9⟩:=hI
  by_cases hx0:x.2=0
  ·have t0 : (x.2 != 0)=false:=by simpa using hx0
   have h4:=HH4.out.ext a1;have c4:=h4.cell 0;have z4:=h4.lt;have y2:=hXB.cell 2;have yz:=hXB.lt;simp only[gA,gB,gC]at y2 c4;have HCX:Hid ((nosF pre++[x.1.no]).count x.1.no=(nosF pre).count x.1.no+1):=by show _=_;rw[List.count_append];simp
   have hnl:(nosF pre).length=pre.length:=by unfold nosF;rw[List.length_map]
   have hqn:(nosF pre).count x.1.no≤1001:=by have:=List.count_le_length (a:=x.1.no) (l:=nosF pre);omega
   have hmem:(nosF pre).count x.1.no=0↔x.1.no∉nosF pre:=List.count_eq_zero;obtain ⟨q,hq⟩:∃q,q=(nosF pre).count x.1.no:=⟨_,rfl⟩;rw [←hq]at hqn hmem;have w1w:IntKind.i64.wrap ((q:Int)+1)=(q:Int)+1:=IntWalk.i64_in _ (by omega);obtain ⟨m,hm⟩:∃m,m=rdM s (getN s.t.nodes x.1.no):=⟨_,rfl⟩;have hlk:m.links=lksF s x.1.no:=by unfold lksF;rw[hm]
   have hkd:m.kind=kndF s x.1.no:=by unfold kndF;rw[hm]
   have hl2:=HLK.out x.1.no;rw [←hlk]at hl2;have hsb:=lnkF_le (kd:=kndF s) HLK.out (nosF pre);rw [hnl]at hsb;have KS1:Hid (∀j,CallsIn (F.inRound lp) j Tryz.prog 45 #[.pointer (some ⟨b,0,none⟩),.int .i64 x.1.no] V (Ret V (.tuple #[statV m,.int .i64 (rdE s (statE s.t x.1.no))]))):=by
    show ∀_,_;intro j;rw [hm];exact KST.out lp j V x.1.no (HE1.out.trans a1)
   obtain ⟨S0,hS0⟩:∃S0,S0=lnkF (kndF s) (lksF s) (nosF pre):=⟨_,rfl⟩;rw [←hS0]at a3 hsb;have hq0:(0:Int)≤(q:Int):=Int.natCast_nonneg _;have wA:IntKind.i64.wrap (S0+m.links)=S0+m.links:=IntWalk.i64_in _ (by omega);have wB:IntKind.i64.wrap (S0-1)=S0-1:=IntWalk.i64_in _ (by omega);have wC:IntKind.i64.wrap (S0+m.links-1)=S0+m.links-1:=IntWalk.i64_in _ (by omega);have HMEM:=zH hmem;have HQ:=zH hq;have HA3:=zH a3;have HA4:=zH a4;have HA5:=zH a5;have HC0:=zH a6;have HX0:=zH hx0;have HXB:=zH hXB;have HS0:=zH hS0;have HLK1:=zH hlk;have HKD1:=zH hkd;unfold statV at KS1;clear hmem hq hx0 hm hlk hkd hl2 hsb hnl a1 a3 a4 a5 a6 h4 hXB hS0 hG
   by_cases hk1:m.kind=1
   ·have tk:(m.kind != 1)=false:=by simpa using hk1
    have HK1:=zH hk1;have FIN:Hid (lnkF (kndF s) (lksF s) (nosF pre++[x.1.no])=S0):=by
     show _=_;rw [lnkF_snoc,if_pos (by rw[←HKD1.out];exact hk1),←HS0.out]
    clear hk1
    by_cases hqz:q=0
    ·have tq:((q:Int)+1 == 1)=true:=by simp[hqz]
     clear hqz;gi_wp2_with (gi_at_call 45;refine (KS1.out _).mono ?_;rintro e w2 ⟨rfl,b2⟩;clear c4 z4 y2 yz;have A5:=(HA5.out.ext b2).alloc (.cells #[.int .i64 m.no,.int .i64 m.dev,.int .i64 m.kind,.int .i64 m.mode,.int .i64 m.uid,.int .i64 m.gid,.int .i64 m.links,.int .i64 m.data.length,.int .i64 m.mtime,.int .i64 m.ctime] 95);have hr1:=run_met A5 HC0.out x.1.no;obtain⟨es2,cl2,hr2,hc2⟩:=run_meet A5 HC0.out x.1.no;obtain⟨V1,hV1⟩:∃V1,V1=putB (w2.alloc (.cells #[.int .i64 m.no,.int .i64 m.dev,.int .i64 m.kind,.int .i64 m.mode,.int .i64 m.uid,.int .i64 m.gid,.int .i64 m.links,.int .i64 m.data.length,.int .i64 m.mtime,.int .i64 m.ctime] 95)) bM (.map es2 cl2):=⟨_,rfl⟩;have o1:Only [bM] (w2.alloc (.cells #[.int .i64 m.no,.int .i64 m.dev,.int .i64 m.kind,.int .i64 m.mode,.int .i64 m.uid,.int .i64 m.gid,.int .i64 m.links,.int .i64 m.data.length,.int .i64 m.mtime,.int .i64 m.ctime] 95)) V1:=(by rw[hV1];exact Only.putB _ _ _);have a5b:Has V1 bM (.map es2 cl2):=(by rw[hV1];exact Has.putB _ A5.lt);rw[←hV1]at hr2;have hr3:=run_met a5b hc2 x.1.no;rw[HCX.out]at hr3;rw[←HQ.out]at hr1 hr2 hr3;have hr3b:(Instr.lookup 93 (.map (some bM)) (.int .i64 x.1.no) false).run Tryz.prog V1=.ok (.int .i64 ((q:Int)+1)) V1:=hr3;have s2:=b2.size;have m1:∀y∈[bM],y=bM:=(fun y hy=>by simpa using hy);have zz:=HA5.out.lt;have zS0:=HA3.out.lt;have BB:=(HA4.out.ext b2).alloc (.cells #[.int .i64 m.no,.int .i64 m.dev,.int .i64 m.kind,.int .i64 m.mode,.int .i64 m.uid,.int .i64 m.gid,.int .i64 m.links,.int .i64 m.data.length,.int .i64 m.mtime,.int .i64 m.ctime] 95);have BX:=(HXB.out.ext b2).alloc (.cells #[.int .i64 m.no,.int .i64 m.dev,.int .i64 m.kind,.int .i64 m.mode,.int .i64 m.uid,.int .i64 m.gid,.int .i64 m.links,.int .i64 m.data.length,.int .i64 m.mtime,.int .i64 m.ctime] 95);have BT:=Has.new w2 (.cells #[.int .i64 m.no,.int .i64 m.dev,.int .i64 m.kind,.int .i64 m.mode,.int .i64 m.uid,.int .i64 m.gid,.int .i64 m.links,.int .i64 m.data.length,.int .i64 m.mtime,.int .i64 m.ctime] 95);have BS:=(HA3.out.ext b2).alloc (.cells #[.int .i64 m.no,.int .i64 m.dev,.int .i64 m.kind,.int .i64 m.mode,.int .i64 m.uid,.int .i64 m.gid,.int .i64 m.links,.int .i64 m.data.length,.int .i64 m.mtime,.int .i64 m.ctime] 95);have BB1:=o1.has BB (fun hy=>by have:=m1 _ hy;omega);have BX1:=o1.has BX (fun hy=>by have:=m1 _ hy;omega);have BT1:=o1.has BT (fun hy=>by have:=m1 _ hy;omega);have BS1:=o1.has BS (fun hy=>by have:=m1 _ hy;omega);have n1:w2.heap.size≠bS:=(by omega);have n2:bS≠w2.heap.size:=(by omega);have cB:=BB.cell 0;have zB:=BB.lt;have cB1:=BB1.cell 0;have zB1:=BB1.lt;have y2:=BX.cell 2;have yz:=BX.lt;have y2b:=BX1.cell 2;have yzb:=BX1.lt;have t2:=BT1.cell 2;have t6:=BT1.cell 6;have tz:=BT1.lt;have dS:=BS1.cell 0;have fS:=BS1.free 0;have zS:=BS1.lt;simp only[gA,gB,gC]at cB cB1 y2 y2b t2 t6 dS;have HBS1:=zH BS1;have HA5b:=zH a5b;have HC2:=zH hc2;have HO1:=zH (((Only.of_ext (L:=[bM,bS]) b2).then (Only.allocN _ _ _)).then (o1.mono (fun y hy=>by simp at hy;simp[hy])));clear A5 hr3 hc2 o1 a5b BB BX BT BS BB1 BX1 BT1 BS1 hV1 b2 s2 m1 zz zS0)
     refine WghI.next (by omega) (by omega) (by omega) (by omega) (by omega) HI.out HO1.out ?_ HA5b.out HC2.out HX0.out hOB;rw [FIN.out];exact HBS1.out
    ·have tq:((q:Int)+1 == 1)=false:=by simp;omega
     clear hqz;gi_wp2_with (gi_at_call 45;refine (KS1.out _).mono ?_;rintro e w2 ⟨rfl,b2⟩;clear c4 z4 y2 yz;have A5:=(HA5.out.ext b2).alloc (.cells #[.int .i64 m.no,.int .i64 m.dev,.int .i64 m.kind,.int .i64 m.mode,.int .i64 m.uid,.int .i64 m.gid,.int .i64 m.links,.int .i64 m.data.length,.int .i64 m.mtime,.int .i64 m.ctime] 95);have hr1:=run_met A5 HC0.out x.1.no;obtain⟨es2,cl2,hr2,hc2⟩:=run_meet A5 HC0.out x.1.no;obtain⟨V1,hV1⟩:∃V1,V1=putB (w2.alloc (.cells #[.int .i64 m.no,.int .i64 m.dev,.int .i64 m.kind,.int .i64 m.mode,.int .i64 m.uid,.int .i64 m.gid,.int .i64 m.links,.int .i64 m.data.length,.int .i64 m.mtime,.int .i64 m.ctime] 95)) bM (.map es2 cl2):=⟨_,rfl⟩;have o1:Only [bM] (w2.alloc (.cells #[.int .i64 m.no,.int .i64 m.dev,.int .i64 m.kind,.int .i64 m.mode,.int .i64 m.uid,.int .i64 m.gid,.int .i64 m.links,.int .i64 m.data.length,.int .i64 m.mtime,.int .i64 m.ctime] 95)) V1:=(by rw[hV1];exact Only.putB _ _ _);have a5b:Has V1 bM (.map es2 cl2):=(by rw[hV1];exact Has.putB _ A5.lt);rw[←hV1]at hr2;have hr3:=run_met a5b hc2 x.1.no;rw[HCX.out]at hr3;rw[←HQ.out]at hr1 hr2 hr3;have hr3b:(Instr.lookup 93 (.map (some bM)) (.int .i64 x.1.no) false).run Tryz.prog V1=.ok (.int .i64 ((q:Int)+1)) V1:=hr3;have s2:=b2.size;have m1:∀y∈[bM],y=bM:=(fun y hy=>by simpa using hy);have zz:=HA5.out.lt;have zS0:=HA3.out.lt;have BB:=(HA4.out.ext b2).alloc (.cells #[.int .i64 m.no,.int .i64 m.dev,.int .i64 m.kind,.int .i64 m.mode,.int .i64 m.uid,.int .i64 m.gid,.int .i64 m.links,.int .i64 m.data.length,.int .i64 m.mtime,.int .i64 m.ctime] 95);have BX:=(HXB.out.ext b2).alloc (.cells #[.int .i64 m.no,.int .i64 m.dev,.int .i64 m.kind,.int .i64 m.mode,.int .i64 m.uid,.int .i64 m.gid,.int .i64 m.links,.int .i64 m.data.length,.int .i64 m.mtime,.int .i64 m.ctime] 95);have BT:=Has.new w2 (.cells #[.int .i64 m.no,.int .i64 m.dev,.int .i64 m.kind,.int .i64 m.mode,.int .i64 m.uid,.int .i64 m.gid,.int .i64 m.links,.int .i64 m.data.length,.int .i64 m.mtime,.int .i64 m.ctime] 95);have BS:=(HA3.out.ext b2).alloc (.cells #[.int .i64 m.no,.int .i64 m.dev,.int .i64 m.kind,.int .i64 m.mode,.int .i64 m.uid,.int .i64 m.gid,.int .i64 m.links,.int .i64 m.data.length,.int .i64 m.mtime,.int .i64 m.ctime] 95);have BB1:=o1.has BB (fun hy=>by have:=m1 _ hy;omega);have BX1:=o1.has BX (fun hy=>by have:=m1 _ hy;omega);have BT1:=o1.has BT (fun hy=>by have:=m1 _ hy;omega);have BS1:=o1.has BS (fun hy=>by have:=m1 _ hy;omega);have n1:w2.heap.size≠bS:=(by omega);have n2:bS≠w2.heap.size:=(by omega);have cB:=BB.cell 0;have zB:=BB.lt;have cB1:=BB1.cell 0;have zB1:=BB1.lt;have y2:=BX.cell 2;have yz:=BX.lt;have y2b:=BX1.cell 2;have yzb:=BX1.lt;have t2:=BT1.cell 2;have t6:=BT1.cell 6;have tz:=BT1.lt;have dS:=BS1.cell 0;have fS:=BS1.free 0;have zS:=BS1.lt;simp only[gA,gB,gC]at cB cB1 y2 y2b t2 t6 dS;have HBS1:=zH BS1;have HA5b:=zH a5b;have HC2:=zH hc2;have HO1:=zH (((Only.of_ext (L:=[bM,bS]) b2).then (Only.allocN _ _ _)).then (o1.mono (fun y hy=>by simp at hy;simp[hy])));clear A5 hr3 hc2 o1 a5b BB BX BT BS BB1 BX1 BT1 BS1 hV1 b2 s2 m1 zz zS0)
     refine WghI.next (by omega) (by omega) (by omega) (by omega) (by omega) HI.out HO1.out ?_ HA5b.out HC2.out HX0.out hOB;rw [FIN.out];exact HBS1.out
   ·have tk:(m.kind != 1)=true:=by simpa using hk1
    have HK1:=zH hk1;clear hk1
    by_cases hqz:q=0
    ·have tq:((q:Int)+1 == 1)=true:=by simp[hqz]
     have FIN:Hid (lnkF (kndF s) (lksF s) (nosF pre++[x.1.no])=S0+m.links-1):=by
      show _=_;rw [lnkF_snoc,if_neg (by rw[←HKD1.out];exact HK1.out),if_neg (HMEM.out.1 hqz),←HS0.out,←HLK1.out]
     clear hqz;gi_wp2_with (gi_at_call 45;refine (KS1.out _).mono ?_;rintro e w2 ⟨rfl,b2⟩;clear c4 z4 y2 yz;have A5:=(HA5.out.ext b2).alloc (.cells #[.int .i64 m.no,.int .i64 m.dev,.int .i64 m.kind,.int .i64 m.mode,.int .i64 m.uid,.int .i64 m.gid,.int .i64 m.links,.int .i64 m.data.length,.int .i64 m.mtime,.int .i64 m.ctime] 95);have hr1:=run_met A5 HC0.out x.1.no;obtain⟨es2,cl2,hr2,hc2⟩:=run_meet A5 HC0.out x.1.no;obtain⟨V1,hV1⟩:∃V1,V1=putB (w2.alloc (.cells #[.int .i64 m.no,.int .i64 m.dev,.int .i64 m.kind,.int .i64 m.mode,.int .i64 m.uid,.int .i64 m.gid,.int .i64 m.links,.int .i64 m.data.length,.int .i64 m.mtime,.int .i64 m.ctime] 95)) bM (.map es2 cl2):=⟨_,rfl⟩;have o1:Only [bM] (w2.alloc (.cells #[.int .i64 m.no,.int .i64 m.dev,.int .i64 m.kind,.int .i64 m.mode,.int .i64 m.uid,.int .i64 m.gid,.int .i64 m.links,.int .i64 m.data.length,.int .i64 m.mtime,.int .i64 m.ctime] 95)) V1:=(by rw[hV1];exact Only.putB _ _ _);have a5b:Has V1 bM (.map es2 cl2):=(by rw[hV1];exact Has.putB _ A5.lt);rw[←hV1]at hr2;have hr3:=run_met a5b hc2 x.1.no;rw[HCX.out]at hr3;rw[←HQ.out]at hr1 hr2 hr3;have hr3b:(Instr.lookup 93 (.map (some bM)) (.int .i64 x.1.no) false).run Tryz.prog V1=.ok (.int .i64 ((q:Int)+1)) V1:=hr3;have s2:=b2.size;have m1:∀y∈[bM],y=bM:=(fun y hy=>by simpa using hy);have zz:=HA5.out.lt;have zS0:=HA3.out.lt;have BB:=(HA4.out.ext b2).alloc (.cells #[.int .i64 m.no,.int .i64 m.dev,.int .i64 m.kind,.int .i64 m.mode,.int .i64 m.uid,.int .i64 m.gid,.int .i64 m.links,.int .i64 m.data.length,.int .i64 m.mtime,.int .i64 m.ctime] 95);have BX:=(HXB.out.ext b2).alloc (.cells #[.int .i64 m.no,.int .i64 m.dev,.int .i64 m.kind,.int .i64 m.mode,.int .i64 m.uid,.int .i64 m.gid,.int .i64 m.links,.int .i64 m.data.length,.int .i64 m.mtime,.int .i64 m.ctime] 95);have BT:=Has.new w2 (.cells #[.int .i64 m.no,.int .i64 m.dev,.int .i64 m.kind,.int .i64 m.mode,.int .i64 m.uid,.int .i64 m.gid,.int .i64 m.links,.int .i64 m.data.length,.int .i64 m.mtime,.int .i64 m.ctime] 95);have BS:=(HA3.out.ext b2).alloc (.cells #[.int .i64 m.no,.int .i64 m.dev,.int .i64 m.kind,.int .i64 m.mode,.int .i64 m.uid,.int .i64 m.gid,.int .i64 m.links,.int .i64 m.data.length,.int .i64 m.mtime,.int .i64 m.ctime] 95);have BB1:=o1.has BB (fun hy=>by have:=m1 _ hy;omega);have BX1:=o1.has BX (fun hy=>by have:=m1 _ hy;omega);have BT1:=o1.has BT (fun hy=>by have:=m1 _ hy;omega);have BS1:=o1.has BS (fun hy=>by have:=m1 _ hy;omega);have n1:w2.heap.size≠bS:=(by omega);have n2:bS≠w2.heap.size:=(by omega);have cB:=BB.cell 0;have zB:=BB.lt;have cB1:=BB1.cell 0;have zB1:=BB1.lt;have y2:=BX.cell 2;have yz:=BX.lt;have y2b:=BX1.cell 2;have yzb:=BX1.lt;have t2:=BT1.cell 2;have t6:=BT1.cell 6;have tz:=BT1.lt;have dS:=BS1.cell 0;have fS:=BS1.free 0;have zS:=BS1.lt;simp only[gA,gB,gC]at cB cB1 y2 y2b t2 t6 dS;have HBS1:=zH BS1;have HA5b:=zH a5b;have HC2:=zH hc2;have HO1:=zH (((Only.of_ext (L:=[bM,bS]) b2).then (Only.allocN _ _ _)).then (o1.mono (fun y hy=>by simp at hy;simp[hy])));clear A5 hr3 hc2 o1 a5b BB BX BT BS BB1 BX1 BT1 BS1 hV1 b2 s2 m1 zz zS0)
     refine WghI.next (by omega) (by omega) (by omega) (by omega) (by omega) HI.out ((HO1.out.then ((Only.setCell _ bS 0 _).mono (by simp))).then ((Only.setCell _ bS 0 _).mono (by simp))) ?_ ((Only.setCell _ bS 0 _).has ((Only.setCell _ bS 0 _).has HA5b.out (by simp;omega)) (by simp;omega)) HC2.out HX0.out hOB;rw [FIN.out];exact Has.setCell (Has.setCell HBS1.out 0 (.int .i64 (S0+m.links))) 0 _
    ·have tq:((q:Int)+1 == 1)=false:=by simp;omega
     have FIN:Hid (lnkF (kndF s) (lksF s) (nosF pre++[x.1.no])=S0-1):=by
      show _=_;rw [lnkF_snoc,if_neg (by rw[←HKD1.out];exact HK1.out),if_pos (Classical.byContradiction fun hn=>hqz (HMEM.out.2 hn)),←HS0.out]
     clear hqz;gi_wp2_with (gi_at_call 45;refine (KS1.out _).mono ?_;rintro e w2 ⟨rfl,b2⟩;clear c4 z4 y2 yz;have A5:=(HA5.out.ext b2).alloc (.cells #[.int .i64 m.no,.int .i64 m.dev,.int .i64 m.kind,.int .i64 m.mode,.int .i64 m.uid,.int .i64 m.gid,.int .i64 m.links,.int .i64 m.data.length,.int .i64 m.mtime,.int .i64 m.ctime] 95);have hr1:=run_met A5 HC0.out x.1.no;obtain⟨es2,cl2,hr2,hc2⟩:=run_meet A5 HC0.out x.1.no;obtain⟨V1,hV1⟩:∃V1,V1=putB (w2.alloc (.cells #[.int .i64 m.no,.int .i64 m.dev,.int .i64 m.kind,.int .i64 m.mode,.int .i64 m.uid,.int .i64 m.gid,.int .i64 m.links,.int .i64 m.data.length,.int .i64 m.mtime,.int .i64 m.ctime] 95)) bM (.map es2 cl2):=⟨_,rfl⟩;have o1:Only [bM] (w2.alloc (.cells #[.int .i64 m.no,.int .i64 m.dev,.int .i64 m.kind,.int .i64 m.mode,.int .i64 m.uid,.int .i64 m.gid,.int .i64 m.links,.int .i64 m.data.length,.int .i64 m.mtime,.int .i64 m.ctime] 95)) V1:=(by rw[hV1];exact Only.putB _ _ _);have a5b:Has V1 bM (.map es2 cl2):=(by rw[hV1];exact Has.putB _ A5.lt);rw[←hV1]at hr2;have hr3:=run_met a5b hc2 x.1.no;rw[HCX.out]at hr3;rw[←HQ.out]at hr1 hr2 hr3;have hr3b:(Instr.lookup 93 (.map (some bM)) (.int .i64 x.1.no) false).run Tryz.prog V1=.ok (.int .i64 ((q:Int)+1)) V1:=hr3;have s2:=b2.size;have m1:∀y∈[bM],y=bM:=(fun y hy=>by simpa using hy);have zz:=HA5.out.lt;have zS0:=HA3.out.lt;have BB:=(HA4.out.ext b2).alloc (.cells #[.int .i64 m.no,.int .i64 m.dev,.int .i64 m.kind,.int .i64 m.mode,.int .i64 m.uid,.int .i64 m.gid,.int .i64 m.links,.int .i64 m.data.length,.int .i64 m.mtime,.int .i64 m.ctime] 95);have BX:=(HXB.out.ext b2).alloc (.cells #[.int .i64 m.no,.int .i64 m.dev,.int .i64 m.kind,.int .i64 m.mode,.int .i64 m.uid,.int .i64 m.gid,.int .i64 m.links,.int .i64 m.data.length,.int .i64 m.mtime,.int .i64 m.ctime] 95);have BT:=Has.new w2 (.cells #[.int .i64 m.no,.int .i64 m.dev,.int .i64 m.kind,.int .i64 m.mode,.int .i64 m.uid,.int .i64 m.gid,.int .i64 m.links,.int .i64 m.data.length,.int .i64 m.mtime,.int .i64 m.ctime] 95);have BS:=(HA3.out.ext b2).alloc (.cells #[.int .i64 m.no,.int .i64 m.dev,.int .i64 m.kind,.int .i64 m.mode,.int .i64 m.uid,.int .i64 m.gid,.int .i64 m.links,.int .i64 m.data.length,.int .i64 m.mtime,.int .i64 m.ctime] 95);have BB1:=o1.has BB (fun hy=>by have:=m1 _ hy;omega);have BX1:=o1.has BX (fun hy=>by have:=m1 _ hy;omega);have BT1:=o1.has BT (fun hy=>by have:=m1 _ hy;omega);have BS1:=o1.has BS (fun hy=>by have:=m1 _ hy;omega);have n1:w2.heap.size≠bS:=(by omega);have n2:bS≠w2.heap.size:=(by omega);have cB:=BB.cell 0;have zB:=BB.lt;have cB1:=BB1.cell 0;have zB1:=BB1.lt;have y2:=BX.cell 2;have yz:=BX.lt;have y2b:=BX1.cell 2;have yzb:=BX1.lt;have t2:=BT1.cell 2;have t6:=BT1.cell 6;have tz:=BT1.lt;have dS:=BS1.cell 0;have fS:=BS1.free 0;have zS:=BS1.lt;simp only[gA,gB,gC]at cB cB1 y2 y2b t2 t6 dS;have HBS1:=zH BS1;have HA5b:=zH a5b;have HC2:=zH hc2;have HO1:=zH (((Only.of_ext (L:=[bM,bS]) b2).then (Only.allocN _ _ _)).then (o1.mono (fun y hy=>by simp at hy;simp[hy])));clear A5 hr3 hc2 o1 a5b BB BX BT BS BB1 BX1 BT1 BS1 hV1 b2 s2 m1 zz zS0)
     refine WghI.next (by omega) (by omega) (by omega) (by omega) (by omega) HI.out (HO1.out.then ((Only.setCell _ bS 0 _).mono (by simp))) ?_ ((Only.setCell _ bS 0 _).has HA5b.out (by simp;omega)) HC2.out HX0.out hOB;rw [FIN.out];exact Has.setCell HBS1.out 0 _
  ·have t0:(x.2 != 0)=true:=by simpa using hx0
   have V8:=HH8.out.ext a1;have V9:=HH9.out.ext a1;have c8:=V8.cell 0;have f8:=V8.free 0;have z8:=V8.lt;have c9:=V9.cell 0;have f9:=V9.free 0;have z9:=V9.lt;have EV:=zH (HE1.out.trans a1);have HX0:=zH hx0;have HV8:=zH V8;have HV9:=zH V9;clear hG hx0 V8 V9 hXB a1 a3 a4 a5 a6;gi_wp2;obtain ⟨Y1,hY1⟩:∃Y,Y=V.setCell ⟨b8,0,none⟩ (.int .i64 0):=⟨_,rfl⟩;have p1:Only [b8] V Y1:=by rw[hY1];exact Only.setCell _ _ _ _
   have q8:Has Y1 b8 (.cells #[.int .i64 0] 3):=by rw[hY1];exact Has.setCell HV8.out 0 _
   have q9:Has Y1 b9 (.cells #[.int .i64 0] 47):=p1.has HV9.out (by simp;omega);rw [←hY1];have p3:=Only.setCell Y1 b9 0 (.int .i64 x.2);have o9:Only [b8,b9] V (Y1.setCell ⟨b9,0,none⟩ (.int .i64 x.2)):=(p1.mono (by simp)).then (p3.mono (by simp));exact ⟨o9.keepsFrom (fun y hy=>.inl (by simp at hy;omega)),rfl,o9.after EV.out (fun y hy=>by simp at hy;omega),p3.has q8 (by simp;omega),pre,x,rfl,HX0.out,Has.setCell q9 0 _⟩
 case done =>
  rintro D O xs V hD hxs hI hK;have hn7:∀y∈told l b0 e0,y.2=0:=by rw[←hxs];exact hI.2.2.2.2.2.1
  obtain ⟨h0,hmap⟩:=told_zero (l:=l) (b:=b0) (e:=e0) hn7;have hnos:nosF xs=l.map (·.no):=by rw[hxs,←hmap];unfold nosF;rw[List.map_map];rw[hmap];rfl
  obtain ⟨a1,_,a3,a4,⟨es,cl,a5,a6⟩,_,_,a9⟩:=hI;rw [hnos]at a3;have V8:=HH8.out.ext a1;have V9:=HH9.out.ext a1;have c8:=V8.cell 0;have f8:=V8.free 0;have z8:=V8.lt;have c9:=V9.cell 0;have f9:=V9.free 0;have z9:=V9.lt;have cS:=a3.cell 0;have zS:=a3.lt;simp only[gA,gB]at cS;obtain ⟨X,hX⟩:∃X,X=lnkF (kndF s) (lksF s) (l.map (·.no)):=⟨_,rfl⟩;rw [←hX]at cS;have HX:=zH hX;have EV:=zH (HE1.out.trans a1);have HV8:=zH V8;have HV9:=zH V9;have HK:=zH hK;subst h0;clear hX V8 V9 hK hn7 hxs hmap hnos a1 a3 a4 a5 a6;gi_wp2;obtain ⟨Y1,hY1⟩:∃Y,Y=V.setCell ⟨b8,0,none⟩ (.int .i64 X):=⟨_,rfl⟩;obtain ⟨Y3,hY3⟩:∃Y,Y=Y1.setCell ⟨b9,0,none⟩ (.int .i64 0):=⟨_,rfl⟩;have p1:Only [b8] V Y1:=by rw[hY1];exact Only.setCell _ _ _ _
  have p3:Only [b9] Y1 Y3:=by rw[hY3];exact Only.setCell _ _ _ _
  have q8:Has Y3 b8 (.cells #[.int .i64 X] 3):=p3.has (by rw[hY1];exact Has.setCell HV8.out 0 _) (by simp;omega);have q9:Has Y3 b9 (.cells #[.int .i64 0] 47):=by rw[hY3];exact Has.setCell (p1.has HV9.out (by simp;omega)) 0 _
  rw [←hY1,←hY3];have o2:Only [b8,b9] V Y3:=(p1.mono (by simp)).then (p3.mono (by simp));have hK2:=o2.has HK.out (by simp;omega);refine ⟨by simp,.inl ⟨_,_,rfl,run_takeDeferred hK2,?_⟩⟩;have o3:Only [b8,b9,D] V (Y3.putObj D (.deferred none)):=(o2.mono (by simp)).then ((Only.putObj Y3 D _).mono (by simp));have r8:=((Only.putObj Y3 D (.deferred none)).has q8 (by simp;omega)).cell 0;have r9:=((Only.putObj Y3 D (.deferred none)).has q9 (by simp;omega)).cell 0;refine ⟨.tuple #[.int .i64 X,.int .i64 0],by simp[results,Tryz.results22,go_sem,r8,r9],?_⟩;exact Ret.mk (by rw[HX.out]) (o3.after EV.out (fun x hx=>by simp at hx;omega))
 case stop =>
  rintro D cc pre V hD hp ⟨rfl,hE,h8,q,y,rfl,hy,h9⟩ hK;obtain ⟨e1,e2,e3⟩:=told_last hp hy;have EV:=hE;gi_wp2;refine ⟨by simp,.inl ⟨_,_,rfl,run_takeDeferred hK,?_⟩⟩;have r8:=((Only.putObj V D (.deferred none)).has h8 (by simp;omega)).cell 0;have r9:=((Only.putObj V D (.deferred none)).has h9 (by simp;omega)).cell 0;rw [e1]at r9;refine ⟨.tuple #[.int .i64 0,.int .i64 e0],by simp[results,Tryz.results22,go_sem,r8,r9],?_⟩;exact Ret.mk rfl ((Only.putObj V D _).after EV (fun x hx=>by simp at hx;omega))
end Go.Proofs.YtpibnfdolojpcaaGreat
namespace Go.Proofs.YtpibnfdolojpcaaGreat
open Go.ChangeShapes Go.WideShapes Go.ChangeAt Go.RowKit
def seekG (S:TreeD) (cu cg:Int) (fol:Bool):Nat→Int→List (List UInt8)→Nat→Bool→Option (FndD×Int)
 | 0,_,_,_,_=>none
 | _+1,at_,[],_,_=>some (⟨0,[],at_,true⟩,0)
 | n + 1,at_,p::l,h,m =>
  if stepE S cu cg at_ p≠0 then some (fndZ,stepE S cu cg at_ p)
  else if p=[46,46] then seekG S cu cg fol n (aboveF S at_) l h m
  else if isN S.nodes (stepN S at_ p)=false then (if l=[] then some (⟨at_,p,0,m⟩,0) else some (fndZ,5))
  else if (getN S.nodes (stepN S at_ p)).kind=3∧(l≠[]∨m=true∨fol=true) then
   (if 8<h+1 then some (fndZ,12) else if (getN S.nodes (stepN S at_ p)).data=[] then some (fndZ,5)
    else seekG S cu cg fol n (if (getN S.nodes (stepN S at_ p)).data.head?=some 47 then 1 else at_) (partsN (getN S.nodes (stepN S at_ p)).data++l) (h+1) (m || (l.isEmpty&&slashB (getN S.nodes (stepN S at_ p)).data)))
  else if (getN S.nodes (stepN S at_ p)).kind≠1∧(l≠[]∨m=true) then some (fndZ,9)
  else if l=[] then some (⟨at_,p,stepN S at_ p,m⟩,0)
  else seekG S cu cg fol n (stepN S at_ p) l h m
theorem seekG_eq {S:TreeD} {cu cg:Int} {fol:Bool} {r:FndD×Int}:∀(n:Nat) (at_:Int) (l:List (List UInt8)) (h:Nat) (m:Bool),seekG S cu cg fol n at_ l h m=some r→seekF S cu cg fol at_ l h m=r
 | 0,_,_,_,_,k=>by cases k
 | n+1,at_,[],h,m,k=>by rw[seek_nil];unfold seekG at k;injection k
 | n + 1, at_, p::l,h,m,k=>by
  unfold seekG at k;rw [seekF];split at k
  ·rename_i c1;rw[if_pos c1];injection k
  ·rename_i c1
   rw [if_neg c1];split at k
   ·rename_i c2;rw[if_pos c2];exact seekG_eq n _ _ _ _ k
   ·rename_i c2
    rw [if_neg c2];split at k
    ·rename_i c3
     rw [if_pos c3];split at k
     ·rename_i c4;rw[if_pos c4];injection k
     ·rename_i c4;rw[if_neg c4];injection k
    ·rename_i c3
     rw [if_neg c3];split at k
     ·rename_i c4
      rw [if_pos c4];split at k
      ·rename_i c5;rw[dif_pos c5];injection k
      ·rename_i c5
       rw [dif_neg c5];split at k
       ·rename_i c6;rw[if_pos c6];injection k
       ·rename_i c6;rw[if_neg c6];exact seekG_eq n _ _ _ _ k
     ·rename_i c4
      rw [if_neg c4];split at k
      ·rename_i c5;rw[if_pos c5];injection k
      ·rename_i c5
       rw [if_neg c5];split at k
       ·rename_i c6;rw[if_pos c6];injection k
       ·rename_i c6;rw[if_neg c6];exact seekG_eq n _ _ _ _ k
def ex15A:ItemD:=⟨0,[100],1,448,0,0,[],0⟩
def ex15B:ItemD:=⟨0,[108],3,0,0,0,[100,47],0⟩
def ex15C:ItemD:=⟨1,[120],2,0,0,0,[],0⟩
def b15:TreeD:=growAll (firstT 99 99) [ex15A,ex15B,ex15C]
def pathG (S:TreeD) (cu cg:Int) (p:List UInt8) (fol:Bool):Option (FndD×Int):=if pathN p=0 then seekG S cu cg fol 40 1 (partsN p) 0 (slashB p) else some (fndZ,pathN p)
theorem pathG_eq {S:TreeD} {cu cg:Int} {p:List UInt8} {fol:Bool} {r:FndD×Int} (h:pathG S cu cg p fol=some r):pathF S cu cg p fol=r:=by
 unfold pathG at h;unfold pathF;split
 ·rename_i h1;rw[if_pos h1]at h;exact seekG_eq _ _ _ _ _ h
 ·rename_i h1;rw[if_neg h1]at h;injection h
def mntG (S:TreeD) (m:MntD):Option TreeD:=
 match pathG S 0 0 m.path false with
 | none=>none
 | some r=>some (if r.2≠0 then S
  else if r.1.no=0 then (if chgE S 0 0 0 (.mkdir r.1.dir r.1.name 493)=0 then mountT (chgT S 0 0 0 (.mkdir r.1.dir r.1.name 493)) (chgN S 0 0 0 (.mkdir r.1.dir r.1.name 493)) m.b m.n else chgT S 0 0 0 (.mkdir r.1.dir r.1.name 493))
  else mountT S r.1.no m.b m.n)
theorem mntG_eq {S T:TreeD} {m:MntD} (h:mntG S m=some T):mntT S m=T:=by
 unfold mntG at h;split at h
 ·cases h
 ·rename_i r hr
  injection h with h;have hp:mntP S m=r:=pathG_eq hr;unfold mntT mntC;rw [hp];exact h
def mntsG (S:TreeD):List MntD→Option TreeD
 | []=>some S
 | m::l=>if topB m=true then mntsG S l else match mntG S m with|none=>none|some T=>mntsG T l
theorem mntsG_eq {S T:TreeD} {l:List MntD} (h:mntsG S l=some T):mntsT S l=T:=by
 induction l generalizing S with
 | nil=>injection h
 | cons m l ih =>
  unfold mntsG at h;unfold mntsT;rw [List.foldl_cons];split at h
  ·rename_i h1;rw[if_pos h1];exact ih h
  ·rename_i h1
   rw [if_neg h1];split at h
   ·cases h
   ·rename_i T1 h2;rw[mntG_eq h2];exact ih h
def itmG (S:TreeD) (it:ItmD):Option (TreeD×Int):=
 match pathG S 0 0 it.path false,(if it.kind=4 then pathG S 0 0 it.data false else some (fndZ,1)) with
 | some r,some y =>
  let c:Option Chg:=if r.2≠0 then none else if r.1.no≠0 then none
   else if it.kind=1 then some (.mkdir r.1.dir r.1.name 493)
   else if it.kind=2 then some (.create r.1.dir r.1.name 420 it.data)
   else if it.kind=3 then some (.symlink r.1.dir r.1.name it.data)
   else if it.kind=4 then (if y.2=0 then some (.link y.1.no r.1.dir r.1.name) else none)
   else none
  let T:=match c with|some x=>chgT S 0 0 0 x|none=>S
  let n:=match c with|some x=>chgN S 0 0 0 x|none=>if r.2=0∧r.1.no≠0∧it.kind=1∧(getN S.nodes r.1.no).kind=1 then r.1.no else 0
  some (dressT T n it,n)
 | _,_=>none
theorem itmG_eq {S:TreeD} {it:ItmD} {r:TreeD×Int} (h:itmG S it=some r):dressT (itmT S it) (itmN S it) it=r.1∧itmN S it=r.2:=by
 unfold itmG at h;split at h
 case h_2=>cases h
 rename_i r1 y h1 h2;have hp:itmP S it=r1:=pathG_eq h1;have hc:itmC S it=(if r1.2≠0 then none else if r1.1.no≠0 then none
   else if it.kind=1 then some (.mkdir r1.1.dir r1.1.name 493)
   else if it.kind=2 then some (.create r1.1.dir r1.1.name 420 it.data)
   else if it.kind=3 then some (.symlink r1.1.dir r1.1.name it.data)
   else if it.kind=4 then (if y.2=0 then some (.link y.1.no r1.1.dir r1.1.name) else none)
   else none):=by
  unfold itmC;rw [hp]
  by_cases h4:it.kind=4
  ·rw [if_pos h4]at h2
   have hl:itmL S it=y:=pathG_eq h2;rw [hl]
  ·rw[if_neg h4,if_neg h4]
 injection h with h;unfold itmT itmN;rw [hc,hp,←h];exact ⟨rfl,rfl⟩
def itemsG (S:TreeD) (ns:List Int):List ItmD→Option (TreeD×List Int)
 | []=>some (S,ns)
 | it::l=>match itmG S it with|none=>none|some r=>itemsG r.1 (ns++[r.2]) l
theorem itemsG_eq {S:TreeD} {ns:List Int} {l:List ItmD} {r:TreeD×List Int} (h:itemsG S ns l=some r):itemsS (S,ns) l=r:=by
 induction l generalizing S ns with
 | nil=>injection h
 | cons it l ih =>
  unfold itemsG at h;unfold itemsS;rw [List.foldl_cons];split at h
  ·cases h
  ·rename_i r1 h1
   obtain ⟨k1,k2⟩:=itmG_eq h1;have:itemS (S,ns) it=(r1.1,ns++[r1.2]):=by unfold itemS;rw[k1,k2]
   rw [this];exact ih h
def plantG (ms:List MntD) (is:List ItmD):Option TreeD:=
 match mntsG (seed0 ms) ms with
 | none=>none
 | some T=>match itemsG T [] is with|none=>none|some r=>some (timesT r.1 (r.2.zip is))
theorem plantG_eq {ms:List MntD} {is:List ItmD} {T:TreeD} (h:plantG ms is=some T):plantT ms is=T:=by
 unfold plantG at h;split at h
 ·cases h
 ·rename_i T1 h1
  split at h
  ·cases h
  ·rename_i r h2
   injection h with h;unfold plantT seed2;rw [mntsG_eq h1,itemsG_eq h2,h]
def downG (S:TreeD) (cu cg:Int):Nat→List SpotD→Option (List SpotD×SpotD×Int)
 | 0,_=>none
 | _+1,[]=>some ([],spotZ,0)
 | n+1,x::t=>if intoE S cu cg x≠0 then some ([],x,intoE S cu cg x) else
  match downG S cu cg n (intoL S cu cg x++t) with|none=>none|some r=>some (x::r.1,r.2)
theorem downG_eq {S:TreeD} {cu cg:Int}:∀{n:Nat} {t:List SpotD} {r:List SpotD×SpotD×Int},downG S cu cg n t=some r→DownR S cu cg t r.1 r.2.1 r.2.2
 | 0,_,_,h=>by cases h
 | n+1,[],r,h=>by injection h with h;subst h;exact .nil
 | n + 1,x::t,r,h=>by
  unfold downG at h;split at h
  ·rename_i h1;injection h with h;subst h;exact .bad h1
  ·rename_i h1
   split at h
   ·cases h
   ·rename_i r1 h2;injection h with h;subst h;exact .step (Decidable.not_not.1 h1) (downG_eq h2)
theorem RowAt.of_has {α:Type} {R:RowK α} {w:World} {b:Nat} {l:List α} (h:Has w b (.cells (R.cells l).toArray R.t)):RowAt R w (some ⟨b,0,none⟩) l:=.inr ⟨b,0,rfl,h.lt,fun i hi j hj=>by rw[Nat.zero_add,h.cell,gA];exact R.cells_get l i hi j hj⟩
theorem below_paths {c:Nat} {S:TreeD} (h:Tre c S) (hn:NoEnts S) (hl:ListUp S) {r:Int→Nat} (hr:Rank S r) {t:List TodoD} {nos:List Int} {l:List RwD} (hd:BelowR S t nos l):(∀x∈t,PathOk S r x)→∀y∈l,y.path.length≤300*(S.nodes.length+2):=by
 induction hd with
 | nil=>intro _ y hy;cases hy
 | none _ _ ih=>intro hp y hy;exact ih (fun x hx=>hp x (List.mem_cons_of_mem _ hx)) y hy
 | @step x t nos l _ _ ih =>
  intro hp y hy;rcases List.mem_cons.1 hy with rfl|hy
  ·exact (hp x (List.mem_cons_self ..)).1
  ·refine ih (fun z hz=>?_) y hy
   rcases List.mem_append.1 hz with hz|hz
   ·exact pathOk_kids h hn hl hr (hp x (List.mem_cons_self ..)) z hz
   ·exact hp z (List.mem_cons_of_mem _ hz)
def SpotR (S:TreeD) (w:World) (e:Ending) (w':World):Prop:=∃(dir:Int) (nm:List UInt8) (is:Bool),e=.returned (.tuple #[.int .i64 dir,.string (bs nm),.bool is])∧nm.length≤255∧(is=true→nm≠[]∧∃p,(pathF S 0 0 p false).2=0∧(pathF S 0 0 p false).1.dir=dir∧(pathF S 0 0 p false).1.name=nm)∧Ext w w'
theorem spot_any {w:World} {B:Nat} {f:GhF} {s:SysD} (h:RS w B f s) (k:PlE 140 s.t) (a:Int) :
  Calls Tryz.prog 13 #[.pointer (some ⟨f.bF,0,none⟩),.int .i64 a] w (SpotR s.t w):=by
 obtain ⟨rows,r,hB,hl,hr,hp⟩:=plant_rows k;have KR:=zH (rrows_any h k rows hB hl hr hp);have hpl:=below_paths k.plt.tre k.plt.noe k.plt.kids.up hr hB (fun x hx=>by rw[List.mem_singleton]at hx;subst hx;exact hp);have hnl:s.t.nodes.length≤200:=by have:=k.plt.tre.count;have:=k.plt.last;omega
 obtain ⟨Xt,F⟩:=h.fat;have KP:Hid (∀(u:World) (p:List UInt8),Ext w u→p.length≤1000000→Calls Tryz.prog 40 #[.pointer (some ⟨f.bF,0,none⟩),.agg #[.int .i64 0,.int .i64 0],.string (bs p),.bool false] u (FndR u (pathF s.t 0 0 p false))):=fun u p hu hp=>rpath15_any B f s.t Xt 0 0 p false u (F.ext hu) k.plt.tre (by omega) (by have:=k.plt.last;omega) hp
 have HPL:=zH hpl;have HL:=zH hl;clear h F hB hl hr hp hpl;go_enter Tryz.func13,Tryz.ntmps13;go_wp2_with fail;refine KR.out.mono ?_;rintro e w1 ⟨v,rfl,hO,hE⟩;obtain ⟨A,cap,rfl,_,_,hat,_⟩:=hO.at_;obtain ⟨n,hn⟩:∃n,n=rows.length:=⟨_,rfl⟩;rw [←hn];have HN:=zH hn;have HAT:=zH hat;have HE:=zH hE;clear KR hO hE hn hat
 by_cases h2:(n:Int)<2
 case pos =>
  have t2:decide ((n:Int)<2)=true:=decide_eq_true h2;clear h2;go_wp2_with fail;refine bodyPost_ret (v:=.tuple #[.int .i64 1,.string ⟨#[110,111,110,101]⟩,.bool false]) (by simp[results,Tryz.results13,go_sem]) rfl ?_;exact ⟨1,[110,111,110,101],false,rfl,by decide,(fun h=>by cases h),HE.out⟩
 case neg =>
  have t2:decide ((n:Int)<2)=false:=decide_eq_false h2;obtain ⟨d,hd⟩:∃d,n=d+1:=⟨n-1,by omega⟩;have hd1:1≤d:=by omega
  have hdl:d≤200:=by have:=HL.out;have:=HN.out;omega
  subst hd;obtain ⟨q,hq⟩:∃q:Nat,((q:Nat):Int)=a % 18446744073709551616 % (d:Int):=⟨(a % 18446744073709551616 % (d:Int)).toNat,Int.toNat_of_nonneg (Int.emod_nonneg _ (by omega))⟩;have hqd:q<d:=by have:=Int.emod_lt_of_pos (a % 18446744073709551616) (show (0:Int)<d by omega);omega
  have y1:(IntKind.u64.wrap a).tmod (d:Int)=(q:Int):=by
   rw [wrap_u64_mod,Int.tmod_eq_emod_of_nonneg (Int.emod_nonneg _ (by decide)),hq]
  have y2:IntKind.u64.wrap (d:Int)=(d:Int):=by rw[wrap_u64_mod];omega
  have y3:IntKind.i64.wrap (((d+1:Nat):Int)-1)=(d:Int):=by rw[IntWalk.i64_in _ (by omega)];omega
  have y3':IntKind.i64.wrap ((d:Int)+1-1)=(d:Int):=by rw[IntWalk.i64_in _ (by omega)];omega
  have y4:IntKind.i64.wrap (q:Int)=(q:Int):=IntWalk.i64_in _ (by omega);obtain ⟨j,hj⟩:∃j,j=1+q:=⟨_,rfl⟩;have y5:IntKind.i64.wrap (1+(q:Int))=(j:Int):=by rw[IntWalk.i64_in _ (by omega)];omega
  have y6:(0:Int)≤(j:Int):=Int.natCast_nonneg _;have y7:(j:Int)<(d:Int)+1:=by omega
  have y8:((d:Int) == 0)=false:=by simp;omega
  have y9:(d:Int)≠0:=by omega
  have hjl:j<rows.length:=by have:=HN.out;omega
  obtain ⟨g,o,rfl,hg,hc⟩:∃b o,A=some ⟨b,o,none⟩∧b<w1.heap.size∧w1.cell? ⟨b,o+j*10,none⟩=some (.string (bs rows[j].path)):=by
   rcases HAT.out with h|⟨b,o,hA,hb,hc⟩
   ·rw[h]at hjl;cases hjl
   ·exact⟨b,o,hA,hb,hc j hjl 0 (by decide)⟩
  have hpj:=HPL.out rows[j] (List.getElem_mem hjl);obtain ⟨p,hp⟩:∃p,p=rows[j].path:=⟨_,rfl⟩;rw [←hp]at hc hpj;obtain ⟨R,hR⟩:∃R,R=pathF s.t 0 0 p false:=⟨_,rfl⟩;have KF:=KP.out w1 p HE.out (by omega);rw [←hR]at KF;have KF2:Hid (Calls Tryz.prog 40 #[.pointer (some ⟨f.bF,0,none⟩),.agg #[.int .i64 0,.int .i64 0],.string (bs p),.bool false] w1 (Ret w1 (.tuple #[.agg #[.int .i64 R.1.dir,.string (bs R.1.name),.int .i64 R.1.no,.bool R.1.slash],.int .i64 R.2]))):=KF;have HRR:=zH hR;have hnm:Hid (R.1.name.length≤255):=by show _≤_;rw[hR];exact path_name _ _ _ _ _
  clear h2 hq hqd hj hjl hp hpj KF hR hd1;go_wp2_with fail;refine KF2.out.mono ?_;rintro e w2 ⟨rfl,b2⟩;go_upto_region 5 with fail;obtain ⟨W3,hW3⟩:∃W,W=w2.alloc (.cells #[.int .i64 R.1.dir,.string (bs R.1.name),.int .i64 R.1.no,.bool R.1.slash] 82):=⟨_,rfl⟩;obtain ⟨b8,hb8⟩:∃b,b=w2.heap.size:=⟨_,rfl⟩;have E3:Ext w1 W3:=by rw[hW3];exact b2.alloc _
  have X3:Has W3 b8 (.cells #[.int .i64 R.1.dir,.string (bs R.1.name),.int .i64 R.1.no,.bool R.1.slash] 82):=by rw[hW3,hb8];exact Has.new _ _
  rw [←hW3,←hb8];clear hW3 hb8 b2 hc y1 y2 y3 y3' y4 y5 y6 y7 y8 y9 hg t2 KF2;have x0:=X3.cell 0;have x1:=X3.cell 1;have xz:=X3.lt;simp only[gA,gB,gC]at x0 x1;obtain ⟨t0,_,_,t3⟩:=txt_tests (p:=R.1.name);obtain ⟨P,hP⟩:∃P,P=bs R.1.name:=⟨_,rfl⟩;rw [←hP]at x1 t0 t3;have HPP:=zH hP;clear hP X3;have fin:Hid (∀(is:Bool) (u:World),Ext W3 u→(is=true→R.2=0∧R.1.name≠[])→SpotR s.t w (.returned (.tuple #[.int .i64 R.1.dir,.string P,.bool is])) u):=by
   show ∀_ _,_;intro is u hu hi;refine ⟨R.1.dir,R.1.name,is,by rw[HPP.out],hnm.out,fun his=>?_,HE.out.trans (E3.trans hu)⟩;obtain ⟨h5,h6⟩:=hi his;exact ⟨h6,p,by rw[←HRR.out];exact h5,by rw[←HRR.out],by rw[←HRR.out]⟩
  by_cases h5:R.2=0
  case neg =>
   have t5:(R.2 == 0)=false:=by simpa using h5
   clear h5;go_quiet (fail);go_wp2_with fail;go_ret3;exact fin.out false _ ((Ext.refl _).drewN nq) (fun h=>by cases h)
  case pos =>
   have t5:(R.2 == 0)=true:=by simpa using h5
   have H5:=zH h5
   by_cases h6:R.1.name=[]
   ·have t6:(R.1.name == [])=true:=by rw[h6];rfl
    rw [t6]at t0 t3;clear h5 h6 t6;go_quiet (fail);go_wp2_with fail;go_ret3;exact fin.out false _ ((Ext.refl _).drewN nq) (fun h=>by cases h)
   ·have t6:(R.1.name == [])=false:=by simpa using h6
    have H6:=zH h6;rw [t6]at t0 t3;clear h5 h6 t6;go_quiet (fail);go_wp2_with fail;go_ret3;exact fin.out true _ ((Ext.refl _).drewN nq) (fun _=>⟨H5.out,H6.out⟩)
theorem CaseAt.ext {w w':World} {x:CaseD} {cs:Array Value} (h:CaseAt w x cs) (E:Ext w w'):CaseAt w' x cs:=by
 obtain ⟨Am,cm,Ai,ci,Ap,cp,h0,h1,h2,h3,h4⟩:=h;exact ⟨Am,cm,Ai,ci,Ap,cp,h0,h1.ext E,h2.ext E,h3.ext E,h4⟩
theorem CaseAt.cells {w:World} {x:CaseD} {cs:Array Value} (h:CaseAt w x cs):∃Am cm Ai ci Ap cp,cs=#[.slice Am x.ms.length cm,.slice Ai x.is.length ci,.int .i64 x.uid,.int .i64 x.gid,.int .i64 x.at_,.int .i64 x.to_,.string (bs x.name),.slice Ap x.plan.length cp,.bool x.keep]:=by
 obtain ⟨Am,cm,Ai,ci,Ap,cp,h0,_⟩:=h;exact ⟨Am,cm,Ai,ci,Ap,cp,h0⟩
theorem planted_sane {x:CaseD} (h:FewX x):PlE 140 (plantT x.ms x.is)∧Sane 140 ⟨plantT x.ms x.is,0,0,x.plan,false⟩:=by
 have k:=plant_ple h.1.1.1 h.1.1.2;refine ⟨k,k.plt.tre,k.plt.noe,k.plt.last,Int.le_refl _,by show (0:Int)≤_;omega,?_⟩;have:=h.2.2;show x.plan.length≤1000;omega
theorem OwnP.lies {w:World} {base:Nat} {v:Value} {l:List SpotD} (h:OwnP w base v l):∃A cap,v=.slice A l.length cap∧SpotsAt w A l∧l.length≤cap:=by
 obtain ⟨A,cap,h1,h2,_,h3,_⟩:=h.at_;exact ⟨A,cap,h1,h3,h2⟩
def datN (S:TreeD) (no:Int):Int:=((getN S.nodes no).data.length:Nat)
theorem RS.weigh {c:Nat} {w:World} {B:Nat} {f:GhF} {s:SysD} (h:RS w B f s) (hs:Sane c s) (hc:c≤900) (cu cg dir:Int) (nm:List UInt8) (l:List SpotD) (b0:SpotD) (e0:Int) (hT:DownT s cu cg dir nm l b0 e0) (hlen:l.length≤1000) :
  Calls Tryz.prog 21 #[.pointer (some ⟨f.bF,0,none⟩),.agg #[.int .i64 cu,.int .i64 cg],.int .i64 dir,.string (bs nm)] w (Ret w (.tuple #[.int .i64 (if e0=0 then wghF (datN s.t) (l.map (·.no)) else 0),.int .i64 (if e0=0 then ((distF (l.map (·.no))).length:Nat) else 0),.int .i64 e0])):=by
 have KR:=zH (fun (u:World) (hu:Ext w u)=>(h.ext hu).down24 hs hc cu cg dir nm l b0 e0 hT hlen);have KG:Hid (∀(u:World) (no:Int),Ext w u→Calls Tryz.prog 30 #[.pointer (some ⟨f.bF,0,none⟩),.int .i64 no] u (GetF u B s.t.nodes no)):=by
  show ∀_ _ _,_;intro u no hu;obtain ⟨A,cap,h1⟩:=h.ext hu;exact rget_any B f s.t _ no u h1.1 (by have:=hs.tre.count;have:=hs.last;omega) hs.tre.nos
 obtain ⟨n,hn⟩:∃n,n=l.length:=⟨_,rfl⟩;have HN:=zH hn;have hn1:n≤1000:=by omega
 clear h hs hc hT hlen hn;go_enter Tryz.func21,Tryz.ntmps21;go_wp2_with fail;refine (KR.out _ ((Ext.refl _).alloc _)).mono ?_;rintro e w2 ⟨v,rfl,O2,E2⟩;go_upto_region 2 with fail;obtain ⟨A,cap,hv,hA,hcap⟩:=O2.lies;rw [←HN.out]at hv;subst hv;obtain ⟨W3,hW3⟩:∃W,W=w2.alloc (.cells #[.int .i64 b0.dir,.string (bs b0.name),.int .i64 b0.no,.int .i64 b0.depth] 41):=⟨_,rfl⟩;have E3:Ext w W3:=by rw[hW3];exact (((Ext.refl _).alloc _).trans E2).alloc _
 have HA:Hid (SpotsAt W3 A l):=by rw[hW3];exact hA.ext ((Ext.refl _).alloc _)
 have HE3:=zH E3
 try rw[←hW3]
 clear hW3 E3 E2 O2 hA KR
 by_cases he0:e0=0
 case neg =>
  have t0:(e0 != 0)=true:=by simpa using he0
  have HE0:=zH he0;clear he0;go_wp2_with fail;go_ret3;exact Ret.mk rfl HE3.out
 case pos =>
  subst he0;obtain ⟨nos,hnos⟩:∃nos,nos=l.map (·.no):=⟨_,rfl⟩;have hnl:nos.length=n:=by rw[hnos,List.length_map,HN.out]
  have hat:∀k,(hk:k<l.length)→∃h:k<nos.length,nos[k]=l[k].no:=fun k hk=>⟨by rw[hnos,List.length_map];exact hk,by simp only[hnos,List.getElem_map]⟩
  have HAT:=zH hat;have HNL:=zH hnl;have HNOS:=zH hnos;clear hnos hat hnl;go_wp2_with fail;go_loopw [14,15,16] (fun vs vn vi wr=>∃(i:Nat) (S0 D0:Int),vi=.int .i64 i∧i≤n∧vs=.int .i64 S0∧vn=.int .i64 D0∧0≤D0∧D0≤i∧Hid (S0=wghF (datN s.t) (nos.take i))∧Hid (D0=((distF (nos.take i)).length:Nat))∧Ext W3 wr) (fun _ _ vi _=>n-(intOf vi).toNat)
  case atStart=>exact⟨0,0,0,rfl,Nat.zero_le _,rfl,rfl,Int.le_refl _,Int.le_refl _,rfl,rfl,Ext.refl _⟩
  case round =>
   obtain ⟨i,S0,D0,rfl,hi,rfl,rfl,d0,d1,hS,hD,hE⟩:=hrel;obtain ⟨V,hV⟩:∃V,V=wr:=⟨_,rfl⟩;subst hV;have HE:=zH hE;have i0:(0:Int)≤(i:Int):=Int.natCast_nonneg _;clear hE
   by_cases hlt:(i:Int)<n
   case neg =>
    have hin:i=n:=by omega
    have e1:nos.take i=nos:=List.take_of_length_le (by rw[HNL.out];omega);have HS2:Hid (S0=wghF (datN s.t) nos):=by show _=_;rw[hS.out,e1]
    have HD2:Hid (D0=((distF nos).length:Nat)):=by show _=_;rw[hD.out,e1]
    clear hin e1 hS hD;go_wp2_with fail;go_ret3;exact Ret.mk (by rw[HS2.out,HD2.out,HNOS.out];rfl) (HE3.out.trans HE.out)
   case pos =>
    have hil:i<l.length:=by have:=HN.out;omega
    obtain ⟨hin,hia⟩:=HAT.out i hil;obtain ⟨y,hy⟩:∃y,y=l[i].no:=⟨_,rfl⟩;obtain ⟨ba,oa,rfl,hba,_,_,p2,_⟩:=(HA.out.ext HE.out).at_ hil;rw [←hy]at p2 hia;have HTK:Hid (nos.take (i+1)=nos.take i++[y]):=by show _=_;rw[List.take_succ_eq_append_getElem hin,hia]
    clear hy hia;have w1w:IntKind.i64.wrap ((i:Int)+1)=(i:Int)+1:=IntWalk.i64_in _ (by omega);have w2w:IntKind.i64.wrap (D0+1)=D0+1:=IntWalk.i64_in _ (by omega);go_wp2_with fail;go_loopw [17,18] (fun vm vk wq=>∃(k:Nat) (mt:Bool),vk=.int .i64 k∧k≤i∧vm=.bool mt∧Hid (mt=true↔y∈nos.take k)∧Ext V wq) (fun _ vk _=>i-(intOf vk).toNat)
    case atStart=>exact⟨0,false,rfl,Nat.zero_le _,rfl,by show _↔_;simp,Ext.refl _⟩
    case round =>
     obtain ⟨k,mt,rfl,hk,rfl,hmt,hEk⟩:=hrel;have HEk:=zH hEk;have k0:(0:Int)≤(k:Int):=Int.natCast_nonneg _;have p2':=(hEk.cell hba).trans p2;have hba':ba<wr.heap.size:=by have:=hEk.size;omega
     clear hEk
     by_cases hlt2:(k:Int)<i
     case pos =>
      have hkl:k<l.length:=by omega
      obtain ⟨hkn,hka⟩:=HAT.out k hkl;obtain ⟨b1',o1',hA',_,_,_,g2,_⟩:=((HA.out.ext HE.out).ext HEk.out).at_ hkl;injection hA' with hA';injection hA' with hA1 hA2;subst hA1;subst hA2;obtain ⟨z,hz⟩:∃z,z=l[k].no:=⟨_,rfl⟩;rw [←hz]at g2 hka;have HTK2:Hid (nos.take (k+1)=nos.take k++[z]):=by show _=_;rw[List.take_succ_eq_append_getElem hkn,hka]
      have w3w:IntKind.i64.wrap ((k:Int)+1)=(k:Int)+1:=IntWalk.i64_in _ (by omega);clear hz hka
      cases mt with
      | true =>
       go_upto_region 12 with fail;go_quiet (fail);have EQ:=zH ((Ext.refl wr).drewN nq);go_wp2_with fail;go_roundw
       case rel=>exact⟨k+1,true,by go_num,by omega,rfl,by show _↔_;rw[HTK2.out,List.mem_append];exact⟨fun _=>.inl (hmt.out.1 rfl),fun _=>rfl⟩,HEk.out.trans EQ.out⟩
       case measure=>simp[intOf];omega
      | false =>
       have hno:Hid (y∉nos.take k):=fun hm=>by have:=hmt.out.2 hm;cases this
       by_cases hzy:z=y
       ·have t1:(z == y)=true:=by simpa using hzy
        have HZY:=zH hzy;clear hzy;go_upto_region 12 with fail;go_quiet (fail);have EQ:=zH ((Ext.refl wr).drewN nq);go_wp2_with fail;go_roundw
        case rel=>exact⟨k+1,true,by go_num,by omega,rfl,by show _↔_;rw[HTK2.out,List.mem_append];exact⟨fun _=>.inr (by rw[HZY.out];simp),fun _=>rfl⟩,HEk.out.trans EQ.out⟩
        case measure=>simp[intOf];omega
       ·have t1:(z == y)=false:=by simpa using hzy
        have HZY:=zH hzy;clear hzy;go_upto_region 12 with fail;go_quiet (fail);have EQ:=zH ((Ext.refl wr).drewN nq);go_wp2_with fail;go_roundw
        case rel=>exact⟨k+1,false,by go_num,by omega,rfl,by show _↔_;rw[HTK2.out,List.mem_append];exact⟨fun h=>(by cases h),fun h=>h.elim (fun h=>absurd h hno.out) (fun h=>absurd (List.mem_singleton.1 h).symm HZY.out)⟩,HEk.out.trans EQ.out⟩
        case measure=>simp[intOf];omega
     case neg =>
      have hki:k=i:=by omega
      have hmt2:Hid (mt=true↔y∈nos.take i):=by rw[←hki];exact hmt
      clear hmt hki
      cases mt with
      | true =>
       have hin2:=hmt2.out.1 rfl;have e1:=wghF_snoc (datN s.t) (nos.take i) y;have e2:=nodesF_snoc (nos.take i) y;rw [if_pos hin2]at e1 e2;have F1:Hid (S0=wghF (datN s.t) (nos.take (i+1))):=by show _=_;rw[HTK.out,e1,hS.out]
       have F2:Hid (D0=((distF (nos.take (i+1))).length:Nat)):=by show _=_;rw[HTK.out,e2,hD.out];rfl
       clear hin2 e1 e2;go_wp2_with fail;go_roundw
       case rel=>exact⟨i+1,S0,D0,by go_num,by omega,rfl,rfl,d0,by omega,F1,F2,HE.out.trans HEk.out⟩
       case measure=>simp[intOf];omega
      | false =>
       have hin2:y∉nos.take i:=fun hm=>by have:=hmt2.out.2 hm;cases this
       have e1:=wghF_snoc (datN s.t) (nos.take i) y;have e2:=nodesF_snoc (nos.take i) y;rw [if_neg hin2]at e1 e2;obtain ⟨m,hm⟩:∃m,m=getN s.t.nodes y:=⟨_,rfl⟩;have F1:Hid (wrap64 (S0+(m.data.length:Int))=wghF (datN s.t) (nos.take (i+1))):=by show _=_;rw[HTK.out,e1,←hS.out];unfold datN;rw[←hm]
       have F2:Hid (D0+1=((distF (nos.take (i+1))).length:Nat)):=by show _=_;rw[HTK.out,e2,hD.out];rfl
       have KG1:=zH (KG.out wr y (HE3.out.trans (HE.out.trans HEk.out)));unfold GetF at KG1;rw [←hm]at KG1;have hsz:(bs m.data).size=m.data.length:=bs_size _;have hfd:∀(W:World) (A9:Option Addr) (c9:Nat),(Instr.field 66 (.agg #[.int .i64 m.no,.int .i64 m.dev,.int .i64 m.kind,.int .i64 m.mode,.int .i64 m.uid,.int .i64 m.gid,.int .i64 m.mtime,.int .i64 m.ctime,.int .i64 m.links,.int .i64 m.up,.string (bs m.data),.slice A9 m.ents.length c9]) 10).run Tryz.prog W=.ok (.string (bs m.data)) W:=fun W A9 c9=>by kernel_rfl
       clear hin2 e1 e2 hm;go_wp2_with fail;refine KG1.out.mono ?_;rintro e w9 ⟨A9,c9,rfl,_,E9⟩;have HE9:=zH E9;clear E9 p2' hba';go_wp2_with fail;go_roundw
       case rel=>exact⟨i+1,_,D0+1,by go_num,by omega,rfl,rfl,by omega,by omega,F1,F2,(HE.out.trans HEk.out).trans HE9.out⟩
       case measure=>simp[intOf];omega
def kndN (S:TreeD) (no:Int):Int:=(getN S.nodes no).kind
def lksN (S:TreeD) (no:Int):Int:=(getN S.nodes no).links
theorem lksN_le {c:Nat} {s:SysD} (hs:Sane c s) (no:Int):0≤lksN s.t no∧lksN s.t no≤1000:=by
 unfold lksN
 cases hi:isN s.t.nodes no
 ·rw[(isN_false hi).1];exact⟨by decide,by decide⟩
 ·have:=hs.tre.bits _ (isN_true hi).2.2
  omega
theorem RS.links {c : Nat} {w:World} {B:Nat} {f:GhF} {s:SysD} (h:RS w B f s) (hs:Sane c s) (hc:c≤900) (cu cg dir:Int) (nm:List UInt8) (l:List SpotD) (b0:SpotD) (e0:Int) (hT:DownT s cu cg dir nm l b0 e0) (hlen:l.length≤1000) :
  Calls Tryz.prog 23 #[.pointer (some ⟨f.bF,0,none⟩),.agg #[.int .i64 cu,.int .i64 cg],.int .i64 dir,.string (bs nm)] w (Ret w (.tuple #[.int .i64 (if e0=0 then lnkF (kndN s.t) (lksN s.t) (l.map (·.no)) else 0),.int .i64 e0])):=by
 have KR:=zH (fun (u:World) (hu:Ext w u)=>(h.ext hu).down24 hs hc cu cg dir nm l b0 e0 hT hlen);have KG:Hid (∀(u:World) (no:Int),Ext w u→Calls Tryz.prog 30 #[.pointer (some ⟨f.bF,0,none⟩),.int .i64 no] u (GetF u B s.t.nodes no)):=by
  show ∀_ _ _,_;intro u no hu;obtain ⟨A,cap,h1⟩:=h.ext hu;exact rget_any B f s.t _ no u h1.1 (by have:=hs.tre.count;have:=hs.last;omega) hs.tre.nos
 have HLK:Hid (∀no,0≤lksN s.t no∧lksN s.t no≤1000):=fun no=>lksN_le hs no
 obtain ⟨n,hn⟩:∃n,n=l.length:=⟨_,rfl⟩;have HN:=zH hn;have hn1:n≤1000:=by omega
 clear h hs hc hT hlen hn;go_enter Tryz.func23,Tryz.ntmps23;go_wp2_with fail;refine (KR.out _ ((Ext.refl _).alloc _)).mono ?_;rintro e w2 ⟨v,rfl,O2,E2⟩;go_upto_region 2 with fail;obtain ⟨A,cap,hv,hA,hcap⟩:=O2.lies;rw [←HN.out]at hv;subst hv;obtain ⟨W3,hW3⟩:∃W,W=w2.alloc (.cells #[.int .i64 b0.dir,.string (bs b0.name),.int .i64 b0.no,.int .i64 b0.depth] 41):=⟨_,rfl⟩;have E3:Ext w W3:=by rw[hW3];exact (((Ext.refl _).alloc _).trans E2).alloc _
 have HA:Hid (SpotsAt W3 A l):=by rw[hW3];exact hA.ext ((Ext.refl _).alloc _)
 have HE3:=zH E3
 try rw[←hW3]
 clear hW3 E3 E2 O2 hA KR
 by_cases he0:e0=0
 case neg =>
  have t0:(e0 != 0)=true:=by simpa using he0
  have HE0:=zH he0;clear he0;go_wp2_with fail;go_ret2;exact Ret.mk rfl HE3.out
 case pos =>
  subst he0;obtain ⟨nos,hnos⟩:∃nos,nos=l.map (·.no):=⟨_,rfl⟩;have hnl:nos.length=n:=by rw[hnos,List.length_map,HN.out]
  have hat:∀k,(hk:k<l.length)→∃h:k<nos.length,nos[k]=l[k].no:=fun k hk=>⟨by rw[hnos,List.length_map];exact hk,by simp only[hnos,List.getElem_map]⟩
  have HAT:=zH hat;have HNL:=zH hnl;have HNOS:=zH hnos;clear hnos hat hnl;go_wp2_with fail;go_loopw [13,14] (fun vs vi wr=>∃(i:Nat) (S0:Int),vi=.int .i64 i∧i≤n∧vs=.int .i64 S0∧Hid (S0=lnkF (kndN s.t) (lksN s.t) (nos.take i))∧Ext W3 wr) (fun _ vi _=>n-(intOf vi).toNat)
  case atStart=>exact⟨0,0,rfl,Nat.zero_le _,rfl,rfl,Ext.refl _⟩
  case round =>
   obtain ⟨i,S0,rfl,hi,rfl,hS,hE⟩:=hrel;obtain ⟨V,hV⟩:∃V,V=wr:=⟨_,rfl⟩;subst hV;have HE:=zH hE;have i0:(0:Int)≤(i:Int):=Int.natCast_nonneg _;clear hE
   by_cases hlt:(i:Int)<n
   case neg =>
    have hin:i=n:=by omega
    have e1:nos.take i=nos:=List.take_of_length_le (by rw[HNL.out];omega);have HS2:Hid (S0=lnkF (kndN s.t) (lksN s.t) nos):=by show _=_;rw[hS.out,e1]
    clear hin e1 hS;go_wp2_with fail;go_ret2;exact Ret.mk (by rw[HS2.out,HNOS.out];rfl) (HE3.out.trans HE.out)
   case pos =>
    have hil:i<l.length:=by have:=HN.out;omega
    obtain ⟨hin,hia⟩:=HAT.out i hil;obtain ⟨y,hy⟩:∃y,y=l[i].no:=⟨_,rfl⟩;obtain ⟨ba,oa,rfl,hba,_,_,p2,_⟩:=(HA.out.ext HE.out).at_ hil;rw [←hy]at p2 hia;have HTK:Hid (nos.take (i+1)=nos.take i++[y]):=by show _=_;rw[List.take_succ_eq_append_getElem hin,hia]
    clear hy hia;have w1w:IntKind.i64.wrap ((i:Int)+1)=(i:Int)+1:=IntWalk.i64_in _ (by omega);obtain ⟨m,hm⟩:∃m,m=getN s.t.nodes y:=⟨_,rfl⟩;have KG1:=zH (KG.out V y (HE3.out.trans HE.out));unfold GetF at KG1;rw [←hm]at KG1;have hlk:m.links=lksN s.t y:=by unfold lksN;rw[hm]
    have hkd:m.kind=kndN s.t y:=by unfold kndN;rw[hm]
    have hl2:=HLK.out y;rw [←hlk]at hl2;have hsb:=lnkF_le (kd:=kndN s.t) HLK.out (nos.take i);rw [←hS.out]at hsb;have htl:(nos.take i).length≤1000:=by have:=List.length_take_le i nos;omega
    have wA:IntKind.i64.wrap (S0-1+m.links)=S0-1+m.links:=IntWalk.i64_in _ (by omega);have wB:IntKind.i64.wrap (S0-1)=S0-1:=IntWalk.i64_in _ (by omega);have HLK1:=zH hlk;have HKD1:=zH hkd;clear hm hlk hkd hl2 hsb htl;go_wp2_with fail;refine KG1.out.mono ?_;rintro e w8 ⟨A9,c9,rfl,_,E9⟩;go_upto_region 9 with fail;obtain ⟨W9,hW9⟩:∃W,W=w8.alloc (.cells #[.int .i64 m.no,.int .i64 m.dev,.int .i64 m.kind,.int .i64 m.mode,.int .i64 m.uid,.int .i64 m.gid,.int .i64 m.mtime,.int .i64 m.ctime,.int .i64 m.links,.int .i64 m.up,.string (bs m.data),.slice A9 m.ents.length c9] 66):=⟨_,rfl⟩;obtain ⟨bm,hbm⟩:∃b,b=w8.heap.size:=⟨_,rfl⟩;have HBM:Hid (Has W9 bm (.cells #[.int .i64 m.no,.int .i64 m.dev,.int .i64 m.kind,.int .i64 m.mode,.int .i64 m.uid,.int .i64 m.gid,.int .i64 m.mtime,.int .i64 m.ctime,.int .i64 m.links,.int .i64 m.up,.string (bs m.data),.slice A9 m.ents.length c9] 66)):=by rw[hW9,hbm];exact Has.new _ _
    have HE9:Hid (Ext V W9):=by rw[hW9];exact E9.alloc _
    rw [←hW9,←hbm];clear hW9 hbm E9 p2 hba KG1;obtain ⟨b9',o9',hA9,hba,_,_,p2,_⟩:=((HA.out.ext HE.out).ext HE9.out).at_ hil;injection hA9 with hA9;injection hA9 with h91 h92;subst h91;subst h92;have hyy:y=l[i].no:=by
     obtain ⟨hin',hia'⟩:=HAT.out i hil;have:=HTK.out;rw [List.take_succ_eq_append_getElem hin',hia']at this;have:=List.append_cancel_left this;injection this with this _;exact this.symm
    rw [←hyy]at p2;clear hyy;go_wp2_with fail;go_loopw [16,17] (fun vm vk wq=>∃(k:Nat) (mt:Bool),vk=.int .i64 k∧k≤i∧vm=.bool mt∧Hid (mt=true↔y∈nos.take k)∧Ext W9 wq) (fun _ vk _=>i-(intOf vk).toNat)
    case atStart=>exact⟨0,false,rfl,Nat.zero_le _,rfl,by show _↔_;simp,Ext.refl _⟩
    case round =>
     obtain ⟨k,mt,rfl,hk,rfl,hmt,hEk⟩:=hrel;have HEk:=zH hEk;have k0:(0:Int)≤(k:Int):=Int.natCast_nonneg _;have p2':=(hEk.cell hba).trans p2;have hba':ba<wr.heap.size:=by have:=hEk.size;omega
     have BM:=HBM.out.ext hEk;have m2:=BM.cell 2;have m8:=BM.cell 8;have mz:=BM.lt;simp only[gA,gB,gC]at m2 m8;clear hEk BM
     by_cases hlt2:(k:Int)<i
     case pos =>
      clear m2 m8 mz;have hkl:k<l.length:=by omega
      obtain ⟨hkn,hka⟩:=HAT.out k hkl;obtain ⟨b1',o1',hA',_,_,_,g2,_⟩:=(((HA.out.ext HE.out).ext HE9.out).ext HEk.out).at_ hkl;injection hA' with hA';injection hA' with hA1 hA2;subst hA1;subst hA2;obtain ⟨z,hz⟩:∃z,z=l[k].no:=⟨_,rfl⟩;rw [←hz]at g2 hka;have HTK2:Hid (nos.take (k+1)=nos.take k++[z]):=by show _=_;rw[List.take_succ_eq_append_getElem hkn,hka]
      have w3w:IntKind.i64.wrap ((k:Int)+1)=(k:Int)+1:=IntWalk.i64_in _ (by omega);clear hz hka
      cases mt with
      | true =>
       go_upto_region 13 with fail;go_quiet (fail);have EQ:=zH ((Ext.refl wr).drewN nq);go_wp2_with fail;go_roundw
       case rel=>exact⟨k+1,true,by go_num,by omega,rfl,by show _↔_;rw[HTK2.out,List.mem_append];exact⟨fun _=>.inl (hmt.out.1 rfl),fun _=>rfl⟩,HEk.out.trans EQ.out⟩
       case measure=>simp[intOf];omega
      | false =>
       have hno:Hid (y∉nos.take k):=fun hm=>by have:=hmt.out.2 hm;cases this
       by_cases hzy:z=y
       ·have t1:(z == y)=true:=by simpa using hzy
        have HZY:=zH hzy;clear hzy;go_upto_region 13 with fail;go_quiet (fail);have EQ:=zH ((Ext.refl wr).drewN nq);go_wp2_with fail;go_roundw
        case rel=>exact⟨k+1,true,by go_num,by omega,rfl,by show _↔_;rw[HTK2.out,List.mem_append];exact⟨fun _=>.inr (by rw[HZY.out];simp),fun _=>rfl⟩,HEk.out.trans EQ.out⟩
        case measure=>simp[intOf];omega
       ·have t1:(z == y)=false:=by simpa using hzy
        have HZY:=zH hzy;clear hzy;go_upto_region 13 with fail;go_quiet (fail);have EQ:=zH ((Ext.refl wr).drewN nq);go_wp2_with fail;go_roundw
        case rel=>exact⟨k+1,false,by go_num,by omega,rfl,by show _↔_;rw[HTK2.out,List.mem_append];exact⟨fun h=>(by cases h),fun h=>h.elim (fun h=>absurd h hno.out) (fun h=>absurd (List.mem_singleton.1 h).symm HZY.out)⟩,HEk.out.trans EQ.out⟩
        case measure=>simp[intOf];omega
     case neg =>
      have hki:k=i:=by omega
      have hmt2:Hid (mt=true↔y∈nos.take i):=by rw[←hki];exact hmt
      have e1:=lnkF_snoc (kndN s.t) (lksN s.t) (nos.take i) y;rw [←HTK.out,←hS.out,←HLK1.out,←HKD1.out]at e1;have HE1:=zH e1;have EX:=zH ((HE.out.trans HE9.out).trans HEk.out);clear hmt hki e1 p2' hba'
      by_cases hk1:m.kind=1
      ·have tk:(m.kind != 1)=false:=by simpa using hk1
       have F1:Hid (S0=lnkF (kndN s.t) (lksN s.t) (nos.take (i+1))):=by show _=_;rw[HE1.out,if_pos hk1]
       clear hk1;go_wp2_with fail;go_roundw
       case rel=>exact⟨i+1,S0,by go_num,by omega,rfl,F1,EX.out⟩
       case measure=>simp[intOf];omega
      ·have tk:(m.kind != 1)=true:=by simpa using hk1
       cases mt with
       | true =>
        have F1:Hid (S0-1=lnkF (kndN s.t) (lksN s.t) (nos.take (i+1))):=by show _=_;rw[HE1.out,if_neg hk1,if_pos (hmt2.out.1 rfl)]
        clear hk1;go_wp2_with fail;go_roundw
        case rel=>exact⟨i+1,_,by go_num,by omega,rfl,F1,EX.out⟩
        case measure=>simp[intOf];omega
       | false =>
        have F1:Hid (S0-1+m.links=lnkF (kndN s.t) (lksN s.t) (nos.take (i+1))):=by
         show _=_;rw [HE1.out,if_neg hk1,if_neg (fun hm=>by have:=hmt2.out.2 hm;cases this)];omega
        clear hk1;go_wp2_with fail;go_roundw
        case rel=>exact⟨i+1,_,by go_num,by omega,rfl,F1,EX.out⟩
        case measure=>simp[intOf];omega
theorem alike24 {c:Nat} {w:World} {B b:Nat} {g:GhW} {f:GhF} {s:SysD} (h:PS w B b g s) (hr:RS w B f s) (hs:Sane c s) (hc:c≤900):Calls Tryz.prog 24 #[.pointer (some ⟨b,0,none⟩),.pointer (some ⟨f.bF,0,none⟩)] w (Ret w (.bool true)):=by
 obtain ⟨A,cap,K,S,_⟩:=h;obtain ⟨A2,cap2,F,_⟩:=hr;have KA:=zH (fun (u:World) (hu:Ext w u)=>alike_any B g f s.t _ u (K.ext hu) (F.ext hu) (hs.tre.fit (by omega) (by have:=hs.last;omega)));have HS:=zH S;obtain ⟨d4,_,d6,_,_,dz⟩:=F.cells7;have k0:=Has.cell S 0;have kz:=Has.lt S;have KC:=zH (fun (u:World) (hu:Ext w u)=>countS u (SAt.ext S hu));have KD:=zH (fun (u:World) (hu:Ext w u)=>deadS u (SAt.ext S hu));simp only[gA,gB]at k0;have KS:Hid (∀w',Ext w w'→(Ext w w'∧w'.cell? ⟨f.bF,4,none⟩=some (.int .i64 s.count)∧w'.cell? ⟨f.bF,6,none⟩=some (.bool s.dead)∧w'.cell? ⟨b,0,none⟩=some (.pointer (some ⟨g.bW,0,none⟩)))):=fun w' h'=>⟨h',(h'.cell dz).trans d4,(h'.cell dz).trans d6,(h'.cell kz).trans k0⟩
 have hW1:Ext w w.drew:=(Ext.refl _).drew;clear K S F d4 d6 dz k0 kz HS;go_enter Tryz.func24,Tryz.ntmps24;go_upto_region 1 with fail;go_region_held3 (fun w'=>Ext w w'∧w'.cell? ⟨f.bF,4,none⟩=some (.int .i64 s.count)∧w'.cell? ⟨f.bF,6,none⟩=some (.bool s.dead)∧w'.cell? ⟨b,0,none⟩=some (.pointer (some ⟨g.bW,0,none⟩)))
  ((first|exact KS.out _ hW1|exact KS.out _ (hW1.trans hb1)|exact KS.out _ ((hW1.trans hb1).trans hb2)|exact KS.out _ (((hW1.trans hb1).trans hb2).trans hb3)))
  ((first|(go_at_call 46;refine (KC.out _ hW1).mono ?_;rintro e w1 ⟨rfl,hb1⟩)|(go_at_call 47;refine (KD.out _ (hW1.trans hb1)).mono ?_;rintro e w2 ⟨rfl,hb2⟩)|(go_at_call 48;refine (KA.out _ ((hW1.trans hb1).trans hb2)).mono ?_;rintro e w3 ⟨rfl,hb3⟩)))
 go_wp2_with fail;go_ret;exact Ret.mk rfl (((hW1.trans hb1).trans hb2).trans hb3)
def awvI:List ItmD:=[⟨[47,100],1,493,0,0,0,[]⟩,⟨[47,100,47,121],2,0,0,0,0,[97,98,99]⟩,⟨[47,100,47,120],4,0,0,0,0,[47,100,47,121]⟩]
def awvT:TreeD:=(plantG [] awvI).getD emptyT
theorem awv_plant:plantT [] awvI=awvT:=plantG_eq (by kernel_rfl)
def awvL:List SpotD:=[⟨1,[100],2,0⟩,⟨2,[120],3,1⟩,⟨2,[121],3,1⟩]
def awvM:List SpotD:=[⟨2,[120],3,0⟩]
abbrev awvS:SysD:=⟨awvT,0,0,[],false⟩
theorem awv_first:firstX awvS 0 0 1 [100]=⟨1,[100],2,0⟩∧firstE awvS 0 0 1 [100]=0:=⟨by kernel_rfl,by kernel_rfl⟩
theorem awv_first2:firstX awvS 0 0 2 [120]=⟨2,[120],3,0⟩∧firstE awvS 0 0 2 [120]=0:=⟨by kernel_rfl,by kernel_rfl⟩
theorem awv_down:DownT awvS 0 0 1 [100] awvL spotZ 0:=.inr ⟨awv_first.2,rfl,by
 rw [awv_first.1];exact downG_eq (n:=9) (r:=(awvL,spotZ,0)) (by kernel_rfl)⟩
theorem awv_down2:DownT awvS 0 0 2 [120] awvM spotZ 0:=.inr ⟨awv_first2.2,rfl,by
 rw [awv_first2.1];exact downG_eq (n:=9) (r:=(awvM,spotZ,0)) (by kernel_rfl)⟩
theorem awv_sane:Sane 140 awvS:=by
 have k:Plt 140 awvT:=by rw[←awv_plant];exact (plant_ple (by decide) (by decide)).plt
 exact k.sane (Int.le_refl _) (by decide)
theorem awv_r1:wghF (datF awvS) (awvL.map (·.no))=3∧(distF (awvL.map (·.no))).length=2:=⟨by kernel_rfl,by kernel_rfl⟩
theorem awv_r2:lnkF (kndF awvS) (lksF awvS) (awvL.map (·.no))=0:=by kernel_rfl
theorem awv_r3:lnkF (kndF awvS) (lksF awvS) (awvM.map (·.no))=1:=by kernel_rfl
theorem awake25 (w:World):Calls Tryz.prog 19 #[] w (Ret w (.bool true)):=by
 obtain ⟨W1,hW1⟩:∃W,W=w.alloc (.cells (rowT.cells awvI).toArray 72):=⟨_,rfl⟩;obtain ⟨b1,hb1⟩:∃b,b=w.heap.size:=⟨_,rfl⟩;have E1:Ext w W1:=by rw[hW1];exact (Ext.refl _).alloc _
 have B1:Has W1 b1 (.cells (rowT.cells awvI).toArray 72):=by rw[hW1,hb1];exact Has.new _ _
 have KP:=zH (pplant_any none [] 0 (some ⟨b1,0,none⟩) awvI 3 W1 (.inl rfl) (RowAt.of_has (R:=rowT) B1) (by decide) (by decide) (fun m hm=>by cases hm) (by decide));have hW1':w.alloc (.cells #[.string ⟨#[47,100]⟩,.int .i64 1,.int .i64 493,.int .i64 0,.int .i64 0,.int .i64 0,.string ⟨#[]⟩,.string ⟨#[47,100,47,121]⟩,.int .i64 2,.int .i64 0,.int .i64 0,.int .i64 0,.int .i64 0,.string ⟨#[97,98,99]⟩,.string ⟨#[47,100,47,120]⟩,.int .i64 4,.int .i64 0,.int .i64 0,.int .i64 0,.int .i64 0,.string ⟨#[47,100,47,121]⟩] 72)=W1:=by rw[hW1];rfl
 clear hW1;go_enter Tryz.func19,Tryz.ntmps19;go_wp2_with fail;rw [←hb1];clear hW1' hb1 B1;refine KP.out.mono ?_;rintro e w2 ⟨b,B,g,rfl,hB,P2,E2⟩;rw [awv_plant]at P2;clear KP;have HE2:=zH (E1.trans E2);have K1:Hid (∀u,Ext w2 u→Calls Tryz.prog 20 #[.pointer (some ⟨b,0,none⟩),.agg #[.int .i64 0,.int .i64 0],.int .i64 1,.string ⟨#[100]⟩] u (Ret u (.tuple #[.int .i64 3,.int .i64 2,.int .i64 0]))):=by
  show ∀_,_;intro u hu;have:=(P2.ext hu).tree awv_sane (by omega) 0 0 1 [100] awvL spotZ 0 awv_down (by decide);rw [if_pos rfl,if_pos rfl,awv_r1.1,awv_r1.2]at this;exact this
 have K2:Hid (∀u,Ext w2 u→Calls Tryz.prog 22 #[.pointer (some ⟨b,0,none⟩),.agg #[.int .i64 0,.int .i64 0],.int .i64 1,.string ⟨#[100]⟩] u (Ret u (.tuple #[.int .i64 0,.int .i64 0]))):=by
  show ∀_,_;intro u hu;have:=(P2.ext hu).links awv_sane (by omega) 0 0 1 [100] awvL spotZ 0 awv_down (by decide);rw [if_pos rfl,awv_r2]at this;exact this
 have K3:Hid (∀u,Ext w2 u→Calls Tryz.prog 22 #[.pointer (some ⟨b,0,none⟩),.agg #[.int .i64 0,.int .i64 0],.int .i64 2,.string ⟨#[120]⟩] u (Ret u (.tuple #[.int .i64 1,.int .i64 0]))):=by
  show ∀_,_;intro u hu;have:=(P2.ext hu).links awv_sane (by omega) 0 0 2 [120] awvM spotZ 0 awv_down2 (by decide);rw [if_pos rfl,awv_r3]at this;exact this
 clear P2 E1 E2;go_wp2_with fail;refine (K1.out _ (Ext.refl _)).mono ?_;rintro e w3 ⟨rfl,E3⟩;go_wp2_with fail;refine (K2.out _ E3).mono ?_;rintro e w4 ⟨rfl,E4⟩;go_wp2_with fail;refine (K3.out _ (E3.trans E4)).mono ?_;rintro e w5 ⟨rfl,E5⟩;go_wp2_with fail;go_ret;exact Ret.mk rfl (HE2.out.trans (E3.trans (E4.trans E5)))
theorem weighTells_any (x:CaseD) (cs:Array Value) (w:World) (h:CaseAt w x cs):Calls Tryz.prog 6 #[.agg cs] w (Ret w (.bool true)):=by
 obtain ⟨W1,hW1⟩:∃W,W=w.alloc (.cells cs 30):=⟨_,rfl⟩;obtain ⟨b1,hb1⟩:∃b,b=w.heap.size:=⟨_,rfl⟩;have E1:Ext w W1:=by rw[hW1];exact (Ext.refl _).alloc _
 have B1:Has W1 b1 (.cells cs 30):=by rw[hW1,hb1];exact Has.new _ _
 have KF:=zH (few24_any x cs W1 (h.ext E1));have KB:=zH (fun (hF:FewX x) (u:World) (hu:Ext W1 u)=>both_any x cs u ((h.ext E1).ext hu) hF);obtain ⟨Am,cm,Ai,ci,Ap,cp,rfl⟩:=h.cells;obtain ⟨nm,hnm⟩:∃n,n=x.ms.length:=⟨_,rfl⟩;obtain ⟨ni,hni⟩:∃n,n=x.is.length:=⟨_,rfl⟩;obtain ⟨np,hnp⟩:∃n,n=x.plan.length:=⟨_,rfl⟩;obtain ⟨Pn,hPn⟩:∃P,P=bs x.name:=⟨_,rfl⟩;rw [←hnm,←hni,←hnp,←hPn]at hW1 B1 KF KB⊢;have HPN:=zH hPn;have HB1:=zH B1;have c0:=B1.cell 0;have c1:=B1.cell 1;have c2:=B1.cell 2;have c3:=B1.cell 3;have c4:=B1.cell 4;have c5:=B1.cell 5;have c6:=B1.cell 6;have c7:=B1.cell 7;have c8:=B1.cell 8;have cz:=B1.lt;simp only[gA,gB,gC]at c0 c1 c2 c3 c4 c5 c6 c7 c8;clear hnm hni hnp hPn B1 h;go_enter Tryz.func6,Tryz.ntmps6;go_upto_region 1 with fail;rw [←hW1,←hb1];clear hW1 hb1;go_wp2_with fail;refine KF.out.mono ?_;rintro e w2 ⟨h2,E2⟩;clear KF;rcases h2 with⟨rfl,hF⟩|rfl
 case inr =>
  go_wp2_with fail;refine (awake25 _).mono ?_;rintro e wz ⟨rfl,bz⟩;go_wp2_with fail;go_ret;exact Ret.mk rfl ((E1.trans E2).trans bz)
 have HF:=zH hF;have KB2:=zH (KB.out hF w2 E2);have B2:=HB1.out.ext E2;clear hF KB c0 c1 c2 c3 c4 c5 c6 c7 c8 cz;have c0:=B2.cell 0;have c1:=B2.cell 1;have c2:=B2.cell 2;have c3:=B2.cell 3;have c4:=B2.cell 4;have c5:=B2.cell 5;have c6:=B2.cell 6;have c7:=B2.cell 7;have c8:=B2.cell 8;have cz:=B2.lt;simp only[gA,gB,gC]at c0 c1 c2 c3 c4 c5 c6 c7 c8;clear B2;go_wp2_with fail;refine KB2.out.mono ?_;rintro e w4 ⟨B,b,g,f,rfl,hB,hP,hR,E4⟩;obtain ⟨hpl,hs⟩:=planted_sane HF.out;obtain ⟨s,hs0⟩:∃s:SysD,s=⟨plantT x.ms x.is,0,0,x.plan,false⟩:=⟨_,rfl⟩;have hst:s.t=plantT x.ms x.is:=by rw[hs0]
 have hdead:s.dead=false:=by rw[hs0]
 have HDEAD:=zH hdead;rw [←hs0]at hP hR hs;rw [←hst]at hpl;have E14:Ext W1 w4:=E2.trans E4;have HE14:=zH E14;have HP:=zH hP;have HR:=zH hR;have HS:=zH hs;have HPL:=zH hpl;have B4:=HB1.out.ext E14;have HB4:=zH B4;have KS:=zH (spot_any hR hpl x.at_);clear hB hs0 hst hdead hP hR hs hpl KB2 E2 E4 E14 c0 c1 c2 c3 c4 c5 c6 c7 c8 cz;have c4:=B4.cell 4;have cz:=B4.lt;simp only[gA,gB,gC]at c4;clear B4;go_wp2_with fail;refine KS.out.mono ?_;rintro e w5 ⟨dir,nm0,is,rfl,_,_,E5⟩;clear KS c4 cz;go_upto_if 38 with fail;go_cut [6] (fun v wc=>∃nm1,v=.string (bs nm1)∧Ext w4 wc)
 case first =>
  have B5:=HB4.out.ext E5;have c6:=B5.cell 6;have cz:=B5.lt;simp only[gA,gB,gC]at c6;clear B5
  cases is with
  | true =>
   go_wp2_with fail;go_meet;exact ⟨nm0,rfl,E5⟩
  | false =>
   go_wp2_with fail;go_meet;exact ⟨x.name,by rw[HPN.out],E5⟩
 case rest =>
  obtain ⟨nm1,rfl,E6⟩:=hcut;clear E5;obtain ⟨l,b0,e0,hT,hll⟩:=down_is HS.out.tre HPL.out.plt.kids x.uid x.gid dir nm1;have hl141:l.length≤1000:=by have:=HPL.out.ens;omega
  have q1:datF s=datN s.t:=by funext no;unfold datF datN rdM;rw[HDEAD.out];rfl
  have q2:kndF s=kndN s.t:=by funext no;unfold kndF kndN rdM;rw[HDEAD.out];rfl
  have q3:lksF s=lksN s.t:=by funext no;unfold lksF lksN rdM;rw[HDEAD.out];rfl
  obtain ⟨a0,ha0⟩:∃a,a=(if e0=0 then wghF (datN s.t) (l.map (·.no)) else 0):=⟨_,rfl⟩;obtain ⟨d0,hd0⟩:∃a:Int,a=(if e0=0 then (((distF (l.map (·.no))).length:Nat):Int) else 0):=⟨_,rfl⟩;obtain ⟨k0,hk0⟩:∃a,a=(if e0=0 then lnkF (kndN s.t) (lksN s.t) (l.map (·.no)) else 0):=⟨_,rfl⟩;have K1:Hid (∀u,Ext w4 u→Calls Tryz.prog 20 #[.pointer (some ⟨b,0,none⟩),.agg #[.int .i64 x.uid,.int .i64 x.gid],.int .i64 dir,.string (bs nm1)] u (Ret u (.tuple #[.int .i64 a0,.int .i64 d0,.int .i64 e0]))):=by
   show ∀_,_;intro u hu;have:=(HP.out.ext hu).tree HS.out (by omega) x.uid x.gid dir nm1 l b0 e0 hT hl141;rw [q1,←ha0,←hd0]at this;exact this
  have K2:Hid (∀u,Ext w4 u→Calls Tryz.prog 21 #[.pointer (some ⟨f.bF,0,none⟩),.agg #[.int .i64 x.uid,.int .i64 x.gid],.int .i64 dir,.string (bs nm1)] u (Ret u (.tuple #[.int .i64 a0,.int .i64 d0,.int .i64 e0]))):=by
   show ∀_,_;intro u hu;have:=(HR.out.ext hu).weigh HS.out (by omega) x.uid x.gid dir nm1 l b0 e0 hT hl141;rw [←ha0,←hd0]at this;exact this
  have K3:Hid (∀u,Ext w4 u→Calls Tryz.prog 22 #[.pointer (some ⟨b,0,none⟩),.agg #[.int .i64 x.uid,.int .i64 x.gid],.int .i64 dir,.string (bs nm1)] u (Ret u (.tuple #[.int .i64 k0,.int .i64 e0]))):=by
   show ∀_,_;intro u hu;have:=(HP.out.ext hu).links HS.out (by omega) x.uid x.gid dir nm1 l b0 e0 hT hl141;rw [q2,q3,←hk0]at this;exact this
  have K4:Hid (∀u,Ext w4 u→Calls Tryz.prog 23 #[.pointer (some ⟨f.bF,0,none⟩),.agg #[.int .i64 x.uid,.int .i64 x.gid],.int .i64 dir,.string (bs nm1)] u (Ret u (.tuple #[.int .i64 k0,.int .i64 e0]))):=by
   show ∀_,_;intro u hu;have:=(HR.out.ext hu).links HS.out (by omega) x.uid x.gid dir nm1 l b0 e0 hT hl141;rw [←hk0]at this;exact this
  have K5:=zH (fun (u:World) (hu:Ext w4 u)=>alike24 (HP.out.ext hu) (HR.out.ext hu) HS.out (by omega));have KC:Hid (∀u,Ext w4 u→u.cell? ⟨b1,2,none⟩=some (.int .i64 x.uid)∧u.cell? ⟨b1,3,none⟩=some (.int .i64 x.gid)∧b1<u.heap.size):=by
   show ∀_,_;intro u hu;have B6:=HB4.out.ext hu;have c2:=B6.cell 2;have c3:=B6.cell 3;simp only[gA,gB,gC]at c2 c3;exact ⟨c2,c3,B6.lt⟩
  clear hll hl141 hT q1 q2 q3 ha0 hd0 hk0;obtain ⟨c2,c3,cz⟩:=KC.out _ E6;go_wp2_with fail;refine (K1.out _ E6).mono ?_;rintro e w7 ⟨rfl,E7⟩;have F7:=E6.trans E7;clear c2 c3 cz;obtain ⟨c2,c3,cz⟩:=KC.out _ F7;go_wp2_with fail;refine (K2.out _ F7).mono ?_;rintro e w8 ⟨rfl,E8⟩;have F8:=F7.trans E8;clear c2 c3 cz;obtain ⟨c2,c3,cz⟩:=KC.out _ F8;go_wp2_with fail;refine (K3.out _ F8).mono ?_;rintro e w9 ⟨rfl,E9⟩;have F9:=F8.trans E9;clear c2 c3 cz;obtain ⟨c2,c3,cz⟩:=KC.out _ F9;go_wp2_with fail;refine (K4.out _ F9).mono ?_;rintro e w10 ⟨rfl,E10⟩;have F10:=F9.trans E10;clear c2 c3 cz;go_wp2_with fail;refine (K5.out _ F10).mono ?_;rintro e w11 ⟨rfl,E11⟩;go_wp2_with fail;refine (awake25 _).mono ?_;rintro e w12 ⟨rfl,E12⟩;go_wp2_with fail;go_ret;exact Ret.mk rfl (E1.trans (HE14.out.trans (F10.trans (E11.trans E12))))
theorem weighTells_walk {H:Type} {enc:TypeId×Value→H} (W:World) (base:Nat) (v0:Value) (d0:DataW H) (p0:List MemPlace)
  (k0:Value.okWide Tryz.prog W .any base 30 v0) (h0:DataW.Trod enc Tryz.prog W 0 (fun _=>true) true 30 v0 d0 p0)
  : Calls Tryz.prog 6 #[v0] W (Ret W (.bool true)):=by
 obtain ⟨x,cs,rfl,hx⟩:=open_Case k0 h0;exact weighTells_any x cs W hx
end Go.Proofs.YtpibnfdolojpcaaGreat
