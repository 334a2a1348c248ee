import Derived.Test.YtpibnfdolojpcaaGreatBunI
import Derived.Test.YtpibnfdolojpcaaGreatBunD
import Derived.Test.YtpibnfdolojpcaaGreatBunC
import Derived.Test.YtpibnfdolojpcaaGreatBunH
import Derived.Deep.RegionWith
set_option maxHeartbeats 8000000
set_option maxRecDepth 100000
namespace Go.Proofs.YtpibnfdolojpcaaGreat
theorem getN_setT {S:TreeD} {n:NodeD} {no:Int} (hne:no≠n.no):getN (setT S n).nodes no=getN S.nodes no:=(setN_get hne).1
theorem kill_set {S:TreeD} (hu:NosUp S.nodes S.last) {n:NodeD} (hkb:killB S n.no=true) (hi:isN S.nodes n.no=true) (hv:n.dev=(getN S.nodes n.no).dev) (hk:n.kind=(getN S.nodes n.no).kind) (hd:n.data=(getN S.nodes n.no).data):killT (setT S n) n.no=killT S n.no:=by
 have hg:=set_self hu hi;have hi2:isN (setT S n).nodes n.no=true:=by show isN (setN S.nodes n) n.no=true;rw[isN_set];exact hi
 have hb:killB (setT S n) n.no=killB S n.no:=by
  unfold killB;rw [hi,hi2,hg,hv];rfl
 unfold killT;have hq:killQ (setT S n) (getN (setT S n).nodes n.no)=killQ S (getN S.nodes n.no):=by
  unfold killQ;rw [hg,hv,hk,hd];rfl
 have hn:dropN (setT S n).nodes n.no=dropN S.nodes n.no:=by
  unfold dropN setT setN
  induction S.nodes with
  | nil=>rfl
  | cons m ms ih =>
   simp only[List.map_cons,List.filter_cons]at ih⊢;rw [ih]
   by_cases e:m.no=n.no
   ·simp[e]
   ·simp[e]
 rw [hq,hn,hb,if_pos hkb,if_pos hkb];rfl
theorem tre_less {c:Nat} {k:Int} {S:TreeD} (h:TreB c k S) {no now:Int} (hi:isN S.nodes no=true) (ho:overF S.devs no=no) (hr:rootF S.devs (getN S.nodes no).dev≠no) (hne:(getN S.nodes no).kind=1→(getN S.nodes no).ents=[]) (hkk:k=0∨(k=no∧(getN S.nodes no).kind=1)):Tre c (lessT S now (getN S.nodes no)):=by
 obtain ⟨_,hno,hm⟩:=isN_true hi;have hb:=h.bits _ hm;unfold lessT;split
 ·have hkb:killB S no=true:=by unfold killB;rw[hi];simpa using hr
  have e:killT (setT S (lessN now (getN S.nodes no))) (getN S.nodes no).no=killT S no:=by
   have:=kill_set h.nos (n:=lessN now (getN S.nodes no)) (by show killB S (getN S.nodes no).no=true;rw[hno];exact hkb) (by show isN S.nodes (getN S.nodes no).no=true;rw[hno];exact hi) (by show _=(getN S.nodes (getN S.nodes no).no).dev;rw[hno];rfl) (by show _=(getN S.nodes (getN S.nodes no).no).kind;rw[hno];rfl) (by show _=(getN S.nodes (getN S.nodes no).no).data;rw[hno];rfl);have e2:(lessN now (getN S.nodes no)).no=no:=hno;rw [e2]at this;rw [hno];exact this
  rw [e];refine tre_kill h hkb ho ?_ hne
  ·rcases hkk with e|e
   ·exact .inr (.inr e)
   ·exact .inr (.inl e.1)
 ·rename_i hl
  have hnk:(getN S.nodes no).kind≠1:=fun hk=>by
   have:=h.dlinks _ hm hk;rw [this]at hl;omega
  have hk0:k=0:=by
   rcases hkk with e|e
   ·exact e
   ·exact absurd e.2 hnk
  subst hk0;have e1:∀{P:NodeD→Prop},P (getN S.nodes no)→P (getN S.nodes (lessN now (getN S.nodes no)).no):=fun hp=>by
   have:(lessN now (getN S.nodes no)).no=no:=hno;rw [this];exact hp
  refine tre_set h (.inl rfl) (by show isN S.nodes (getN S.nodes no).no=true;rw[hno];exact hi) (Nat.le_refl _) (e1 (P:=fun m=>(lessN now (getN S.nodes no)).kind=m.kind) rfl) (e1 (P:=fun m=>(lessN now (getN S.nodes no)).dev=m.dev) rfl) (e1 (P:=fun m=>(lessN now (getN S.nodes no)).up=m.up) rfl) (fun hk1=>absurd hk1 hnk) (h.rise (getN S.nodes no) hm) (h.names (getN S.nodes no) hm) (h.pos (getN S.nodes no) hm) (h.small (getN S.nodes no) hm) (h.on (getN S.nodes no) hm).2
   ⟨hb.1,hb.2.1,by show 1≤(getN S.nodes no).links-1;omega,by show (getN S.nodes no).links-1≤1000;omega⟩ (fun x hx=>h.kin (getN S.nodes no) hm x hx) (fun q hq hqk _ hqu hqn=>?_)
  rcases h.ups q hq hqk (by have:=(h.nos.2 q hq).1;omega) with⟨_,u2⟩|⟨_,_,m,hm2,u3,u4,_⟩
  ·exact absurd (u2.symm.trans hqu) hqn
  ·have:m=getN S.nodes no:=node_eq h.nos hm2 hm (by rw[u3,hqu];rfl)
   subst this;exact absurd u4 hnk
theorem findF_mem {l:List EntD} {nm:List UInt8} (hr:Rise l) {x:EntD} (hx:x∈l) (he:x.1=nm):findF l nm=x.2:=by
 unfold findF
 cases hf:l.find? (fun x=>x.1 == nm) with
 | none=>have:=List.find?_eq_none.1 hf x hx;simp at this;exact absurd he this
 | some y =>
  have h2:=List.find?_some (p:=fun x:EntD=>x.1 == nm) hf;have h2':y.1=nm:=by simpa using h2
  have hy:=List.mem_of_find?_eq_some hf;have : y=x:=by
   obtain ⟨i,hi,rfl⟩:=List.getElem_of_mem hy;obtain ⟨j,hj,rfl⟩:=List.getElem_of_mem hx;rcases Nat.lt_trichotomy i j with g|g|g
   ·have:=bl_ne (List.pairwise_iff_getElem.1 hr i j hi hj g)
    rw [h2',he]at this;exact absurd rfl this
   ·subst g;rfl
   ·have:=bl_ne (List.pairwise_iff_getElem.1 hr j i hj hi g)
    rw [h2',he]at this;exact absurd rfl this
  subst this;rfl
theorem findF_in {l:List EntD} {nm:List UInt8} (h:findF l nm≠0):∃x∈l,x.1=nm∧x.2=findF l nm:=by
 unfold findF at h⊢
 cases hf:l.find? (fun x=>x.1 == nm) with
 | none=>rw[hf]at h;exact absurd rfl h
 | some y =>
  have h2:=List.find?_some (p:=fun x:EntD=>x.1 == nm) hf;exact ⟨y,List.mem_of_find?_eq_some hf,by simpa using h2,rfl⟩
theorem mem_dropF {l:List EntD} {nm:List UInt8} {x:EntD} (h:x∈dropF l nm):x∈l∧x.1≠nm:=by
 unfold dropF at h;rw [List.mem_filter]at h;exact ⟨h.1,by simpa using h.2⟩
theorem tre_unname {c:Nat} {S:TreeD} (h:Tre c S) {dir now:Int} {nm:List UInt8} (hi:isN S.nodes dir=true) (hkd:(getN S.nodes dir).kind=1) {k':Int} (hk':∀q∈S.nodes,q.kind=1→q.no≠k'→q.no≠findF (getN S.nodes dir).ents nm):TreB c k' (touchT S dir now (dropF (getN S.nodes dir).ents nm)):=by
 obtain ⟨_,hno,hmem⟩:=isN_true hi;refine tre_touch h (.inl rfl) hi hkd (Nat.le_refl _) (h.rise _ hmem |>.sublist List.filter_sublist) (fun x hx=>h.names _ hmem x (mem_dropF hx).1) (fun x hx=>h.pos _ hmem x (mem_dropF hx).1) ?_ (fun x hx=>h.kin _ hmem x (mem_dropF hx).1) (fun q hq hqk hqk' hqu hqn=>?_)
 ·have h1:(dropF (getN S.nodes dir).ents nm).length≤(getN S.nodes dir).ents.length:=List.length_filter_le ..
  have:=h.small _ hmem;omega
 ·rcases h.ups0 q hq hqk with⟨_,u2⟩|⟨_,_,m,hm,u3,_,_,x,hx,u6⟩
  ·exact absurd (u2.symm.trans hqu) hqn
  ·have:m=getN S.nodes dir:=node_eq h.nos hm hmem (by rw[u3,hqu,hno])
   subst this;refine ⟨x,?_,u6⟩;unfold dropF;rw [List.mem_filter];refine ⟨hx,?_⟩;have:x.1≠nm:=fun e=>by
    have:=findF_mem (h.rise _ hmem) hx e;exact hk' q hq hqk hqk' (by rw[this,u6])
   simpa using this
theorem kin_root {c:Nat} {k:Int} {S:TreeD} (h:TreB c k S) {no y dev:Int} (hK:Kin S no dev y) (d:Int) (hd:hasD S.devs d=true):rootF S.devs d≠y:=by
 rcases rootF_zero h.roots d with⟨_,e2⟩|⟨j,hj,_,_,_,e4,_⟩
 ·rw[e2]at hd;cases hd
 ·rw [e4]
  exact fun e=>hK.2.1 _ (List.getElem_mem hj) e.symm
theorem tre_gone {c:Nat} {S:TreeD} (h:Tre c S) {cu cg now dir:Int} {nm:List UInt8} (hl:leaveE S cu cg dir nm=0) (hne:(leaveN S cu cg dir nm).kind=1→(leaveN S cu cg dir nm).ents=[]):Tre c (goneT S now (leaveD S cu cg dir nm) (leaveN S cu cg dir nm) nm):=by
 obtain ⟨z1,z2,z3,z4,z5⟩:=leaveE_zero hl;obtain ⟨hi,hkd,_⟩:=placeE_zero z1;obtain ⟨_,hno,hmem⟩:=isN_true hi;rw [z5]at hne;obtain ⟨no,hn⟩:∃no,no=findF (getN S.nodes dir).ents nm:=⟨_,rfl⟩;rw [←hn]at z2 z3 z5 hne;have hpos:=(h.nos.2 _ (isN_true z2).2.2).1;rw [(isN_true z2).2.1]at hpos;obtain ⟨x,hx,hx1,hx2⟩:=findF_in (l:=(getN S.nodes dir).ents) (nm:=nm) (by rw[←hn];omega);have hK:=h.kin _ hmem x hx;rw [hx2,←hn,hno]at hK;have hnd:no≠dir:=hK.1;unfold goneT;rw [z4,z5,hno];have hgn:getN (touchT S dir now (dropF (getN S.nodes dir).ents nm)).nodes no=getN S.nodes no:=getN_setT (by show no≠(getN S.nodes dir).no;rw[hno];exact hnd);have hin:isN (touchT S dir now (dropF (getN S.nodes dir).ents nm)).nodes no=true:=by
  show isN (setN S.nodes _) no=true;rw[isN_set];exact z2
 have hrt:=kin_root h hK (getN S.nodes no).dev (h.on _ (isN_true z2).2.2).1;rw [←hgn]at hrt hne⊢
 by_cases hk:(getN S.nodes no).kind=1
 ·have hT:=tre_unname h (now:=now) (nm:=nm) hi hkd (k':=no) (fun q _ _ hq=>by rw[←hn];exact hq)
  exact tre_less hT hin z3 hrt hne (.inr ⟨rfl,by rw[hgn];exact hk⟩)
 ·have hT:=tre_unname h (now:=now) (nm:=nm) hi hkd (k':=0) (fun q hq hqk _ e=>by
   rw [←hn]at e;have:=(mem_getN h.nos hq).1;rw [e]at this;rw [this]at hk;exact hk hqk)
  exact tre_less hT hin z3 hrt hne (.inl rfl)
theorem tre_unlink {c:Nat} {S:TreeD} (h:Tre c S) (cu cg now dir:Int) (nm:List UInt8):Tre c (unlinkT S cu cg now dir nm):=by
 unfold unlinkT;split
 ·rename_i h0
  unfold unlinkE at h0;split at h0
  ·rename_i h1;exact absurd h0 h1
  ·rename_i h1
   split at h0
   ·cases h0
   ·rename_i h2
    exact tre_gone h (Decidable.not_not.1 h1) (fun hk=>absurd hk h2)
 ·exact h
theorem tre_rmdir {c:Nat} {S:TreeD} (h:Tre c S) (cu cg now dir:Int) (nm:List UInt8):Tre c (rmdirT S cu cg now dir nm):=by
 unfold rmdirT;split
 ·rename_i h0
  unfold rmdirE at h0;split at h0
  ·rename_i h1;exact absurd h0 h1
  ·rename_i h1
   split at h0
   ·cases h0
   ·split at h0
    ·cases h0
    ·rename_i h3
     refine tre_gone h (Decidable.not_not.1 h1) (fun _=>?_);exact List.eq_nil_of_length_eq_zero (by omega)
 ·exact h
theorem over_get {c:Nat} {S:TreeD} (_h:Tre c S) (now:Int) {no q:Int} (hq:q≠no):getN (overT S now no).nodes q=getN S.nodes q∧isN (overT S now no).nodes q=isN S.nodes q:=by
 unfold overT;split
 ·rename_i hi
  have hno:=(isN_true hi).2.1;have hs:=setN_get (S:=S) (n:=lessN now (getN S.nodes no)) (no:=q) (by show q≠(getN S.nodes no).no;rw[hno];exact hq);unfold lessT;split
  ·unfold killT
   split
   ·have hd : ∀ns:List NodeD,getO (dropN ns no) q=getO ns q:=by
     intro ns;unfold getO dropN
     induction ns with
     | nil=>rfl
     | cons m ms ih =>
      rw [List.find?_cons]
      by_cases e:m.no=no
      ·rw [List.filter_cons_of_neg (by simpa using e),ih]
       have:(m.no == q)=false:=by rw[e];simpa using Ne.symm hq
       rw [this]
      ·rw[List.filter_cons_of_pos (by simpa using e),List.find?_cons,ih]
    rw [hno];refine ⟨?_,?_⟩
    ·show (getO (dropN (setT S _).nodes no) q).getD nodeZ=_
     rw [hd];exact hs.1
    ·show (getO (dropN (setT S _).nodes no) q).isSome=_
     rw [hd];exact hs.2
   ·exact hs
  ·exact hs
 ·exact⟨rfl,rfl⟩
theorem over_devs (S:TreeD) (now no:Int):(overT S now no).last=S.last∧∀i,rootF (overT S now no).devs i=rootF S.devs i:=by
 unfold overT;split
 ·unfold lessT
  split
  ·unfold killT
   split
   ·exact⟨rfl,fun i=>by show rootF (setQ _ _ _) i=_;rw[rootQ];rfl⟩
   ·exact⟨rfl,fun _=>rfl⟩
  ·exact⟨rfl,fun _=>rfl⟩
 ·exact⟨rfl,fun _=>rfl⟩
theorem over_mem {S:TreeD} {now no:Int} {m:NodeD} (hm:m∈(overT S now no).nodes):∃m'∈S.nodes,m'.no=m.no∧m'.kind=m.kind∧m'.up=m.up∧m'.dev=m.dev:=by
 refine all_over (S:=S) (P:=fun m=>∃m'∈S.nodes,m'.no=m.no∧m'.kind=m.kind∧m'.up=m.up∧m'.dev=m.dev) (fun m hm=>⟨m,hm,rfl,rfl,rfl,rfl⟩) now no ?_ m hm;rintro m ⟨m',h1,h2,h3,h4,h5⟩;exact ⟨m',h1,h2,h3,h4,h5⟩
theorem over_gone {c:Nat} {S:TreeD} (h:Tre c S) {now no:Int} (hk:(getN S.nodes no).kind=1) (hr:rootF S.devs (getN S.nodes no).dev≠no):∀m∈(overT S now no).nodes,m.no≠no:=by
 obtain ⟨hi,hno,hmem⟩:=getN_node hk;have hl:=h.dlinks _ hmem hk;have hkb:killB S no=true:=by unfold killB;rw[hi];simpa using hr
 have hi2:isN (setT S (lessN now (getN S.nodes no))).nodes no=true:=by show isN (setN S.nodes _) no=true;rw[isN_set];exact hi
 have hg:getN (setT S (lessN now (getN S.nodes no))).nodes no=lessN now (getN S.nodes no):=by
  have:=set_self (n:=lessN now (getN S.nodes no)) h.nos (by show isN S.nodes (getN S.nodes no).no=true;rw[hno];exact hi);have e:(lessN now (getN S.nodes no)).no=no:=hno;rw [e]at this;exact this
 have hkb2:killB (setT S (lessN now (getN S.nodes no))) no=true:=by
  unfold killB;rw [hi2,hg];have e:rootF (setT S (lessN now (getN S.nodes no))).devs (lessN now (getN S.nodes no)).dev≠no:=hr;simpa using e
 unfold overT;rw [if_pos hi];unfold lessT;rw [if_pos (by omega),hno];unfold killT;rw [if_pos hkb2];intro m hm;exact (mem_drop hm).2
theorem putF_mem (l:List EntD) (x:EntD):x∈putF l x:=by
 unfold putF;exact List.mem_append_left _ (List.mem_append_right _ (List.mem_singleton.2 rfl))
theorem putF_old {l:List EntD} {x y:EntD} (hy:y∈l) (hne:y.1≠x.1):y∈putF l x:=by
 unfold putF lessF moreF;rcases bl_tri y.1 x.1 with g|g|g
 ·exact List.mem_append_left _ (List.mem_append_left _ (List.mem_filter.2 ⟨hy,g⟩))
 ·exact absurd g hne
 ·exact List.mem_append_right _ (List.mem_filter.2 ⟨hy,g⟩)
theorem moveE_zero {S:TreeD} {cu cg fr to_:Int} {a b:List UInt8} (h:moveE S cu cg fr to_ a b=0) (hs:¬sameB S cu cg fr to_ a b) :
  leaveE S cu cg fr a=0∧placeE S cu cg to_ b=0∧(leaveD S cu cg fr a).dev=(placeN S cu cg to_ b).dev∧¬((leaveN S cu cg fr a).kind=1∧withinF S to_ (leaveN S cu cg fr a).no=true) ∧
  (isN S.nodes (oldNo S cu cg to_ b)=true→putE S cu (placeN S cu cg to_ b) (leaveN S cu cg fr a) (getN S.nodes (oldNo S cu cg to_ b))=0):=by
 unfold moveE moveX at h;split at h
 ·rename_i h1;exact absurd h h1
 ·rename_i h1
  split at h
  ·rename_i h2;exact absurd h h2
  ·rename_i h2
   split at h
   ·cases h
   ·rename_i h3
    split at h
    ·cases h
    ·rename_i h4
     split at h
     ·rename_i h5;exact absurd h5 hs
     ·split at h
      ·cases h
      ·refine ⟨Decidable.not_not.1 h1,Decidable.not_not.1 h2,Decidable.not_not.1 h3,h4,fun hi=>?_⟩
       rw [if_pos hi]at h;exact h
theorem putE_zero {S:TreeD} {cu:Int} {d n o:NodeD} (h:putE S cu d n o=0):overF S.devs o.no=o.no∧(n.kind=1→o.kind=1)∧(¬n.kind=1→¬o.kind=1)∧o.ents=[]:=by
 unfold putE at h;split at h
 ·cases h
 ·rename_i h1
  split at h
  ·cases h
  ·rename_i h2
   split at h
   ·cases h
   ·rename_i h3
    split at h
    ·cases h
    ·rename_i h4
     refine ⟨Decidable.not_not.1 h1,fun hk=>Decidable.byContradiction fun e=>h2 ⟨hk,e⟩,fun hk e=>h3 ⟨hk,e⟩,?_⟩
     cases ho:o.ents with
     | nil=>rfl
     | cons x l=>rw[ho]at h4;simp at h4
theorem tre_move {c:Nat} {S:TreeD} (h:Tre c S) (cu cg now fr to_:Int) (a b:List UInt8):Tre (c+1) (moveT S cu cg now fr to_ a b):=by
 unfold moveT;split
 case isFalse=>exact tre_mono h (by omega)
 rename_i hc;obtain ⟨p1,p2,p3,p4,p5⟩:=moveE_zero hc.1 hc.2;have hns:=hc.2;obtain ⟨z1,z2,z3,z4,z5⟩:=leaveE_zero p1;obtain ⟨if0,kf,_⟩:=placeE_zero z1;obtain ⟨it0,kt,ckb⟩:=placeE_zero p2;have pt:=placeN_zero p2;unfold sameB at hns;unfold oldNo at hns p5⊢;rw [z5,pt]at hns;rw [z4,pt]at p3;rw [z5]at p4;rw [z5,pt]at p5;rw [z4,z5,pt];clear z4 z5 pt hc p1 p2;obtain ⟨no,hno⟩:∃no,no=findF (getN S.nodes fr).ents a:=⟨_,rfl⟩;obtain ⟨old,hold⟩:∃old,old=findF (getN S.nodes to_).ents b:=⟨_,rfl⟩;rw [←hno]at z2 z3 p4 p5 hns⊢;rw [←hold]at p5 hns⊢;have nfr:=(isN_true if0).2.1;have nto:=(isN_true it0).2.1;have mfr:=(isN_true if0).2.2;have mto:=(isN_true it0).2.2;have nno:=(isN_true z2).2.1;have mno:=(isN_true z2).2.2;have hpos:=h.nos.2 _ mno;rw [nno]at hpos;have hpt:=(h.nos.2 _ mto).1;rw [nto]at hpt;obtain ⟨x,hx,hx1,hx2⟩:=findF_in (l:=(getN S.nodes fr).ents) (nm:=a) (by rw[←hno];omega);rw [←hno]at hx2;have hK:=h.kin _ mfr x hx;rw [hx2,nfr]at hK;have hnfr:no≠fr:=hK.1;have hdv:(getN S.nodes no).dev=(getN S.nodes fr).dev:=hK.2.2 _ mno nno;have hrt:rootF S.devs (getN S.nodes no).dev≠no:=kin_root h hK _ (h.on _ mno).1;have hO:isN S.nodes old=true→old≠to_∧old≠fr∧old≠no∧rootF S.devs (getN S.nodes old).dev≠old∧overF S.devs old=old∧((getN S.nodes no).kind=1→(getN S.nodes old).kind=1)∧(getN S.nodes old).ents=[]:=by
  intro hi;have mo:=(isN_true hi).2.2;have eo:=(isN_true hi).2.1;obtain ⟨u1,u2,u3,u4⟩:=putE_zero (p5 hi);have hpo:=(h.nos.2 _ mo).1;rw [eo]at hpo;obtain ⟨y,hy,hy1,hy2⟩:=findF_in (l:=(getN S.nodes to_).ents) (nm:=b) (by rw[←hold];omega);rw [←hold]at hy2;have hKo:=h.kin _ mto y hy;rw [hy2,nto]at hKo;refine ⟨hKo.1,fun e=>?_,fun e=>hns ⟨hi,by rw[e]⟩,kin_root h hKo _ (h.on _ mo).1,by rw[eo]at u1;exact u1,u2,u4⟩;rw [e]at u4;rw [u4]at hx;cases hx
 obtain ⟨T,hT⟩:∃T,T=overT S now old:=⟨_,rfl⟩;have h0:Tre c T:=by
  rw [hT];unfold overT;split
  ·rename_i hi
   obtain ⟨_,_,_,o4,o5,_,o7⟩:=hO hi;exact tre_less h hi o5 o4 (fun _=>o7) (.inl rfl)
  ·exact h
 have hgT:∀q,(isN S.nodes old=true→old≠q)→getN T.nodes q=getN S.nodes q∧isN T.nodes q=isN S.nodes q:=by
  intro q hq;rw [hT]
  cases hi:isN S.nodes old
  ·unfold overT;rw[if_neg (by rw[hi];decide)];exact⟨rfl,rfl⟩
  ·exact over_get h now (Ne.symm (hq hi))
 have gfr:=hgT fr fun hi=>(hO hi).2.1
 have gto:=hgT to_ fun hi=>(hO hi).1
 have gno:=hgT no fun hi=>(hO hi).2.2.1
 have hold':∀q∈T.nodes,q.kind=1→q.no≠old:=by
  intro q hq hqk e;rw [hT]at hq;obtain ⟨m',hm',e1,e2,_⟩:=over_mem hq;have hi:isN S.nodes old=true:=by
   have:=(mem_getN h.nos hm').2;rw [e1,e]at this;exact this
  have hmo:m'=getN S.nodes old:=node_eq h.nos hm' (isN_true hi).2.2 (by rw[e1,e,(isN_true hi).2.1]);have hok:(getN S.nodes old).kind=1:=by rw[←hmo,e2];exact hqk
  exact over_gone h hok (hO hi).2.2.2.1 q hq e
 obtain ⟨k',hk'⟩:∃k',k'=if (getN S.nodes no).kind=1 then no else 0:=⟨_,rfl⟩
 have hkq:∀q∈T.nodes,q.kind=1→q.no≠k'→q.no≠no:=by
  intro q hq hqk hqk' e;have:q=getN T.nodes no:=node_eq h0.nos hq (isN_true (gno.2.trans z2)).2.2 (by rw[e,(isN_true (gno.2.trans z2)).2.1]);have hkn:(getN S.nodes no).kind=1:=by rw[←gno.1,←this];exact hqk
  rw [if_pos hkn]at hk';exact hqk' (e.trans hk'.symm)
 have h1:TreB c k' (touchT T fr now (dropF (getN S.nodes fr).ents a)):=by
  have:=tre_unname h0 (dir:=fr) (now:=now) (nm:=a) (gfr.2.trans if0) (by rw[gfr.1];exact kf) (k':=k') (by rw[gfr.1,←hno];exact hkq);rw [gfr.1]at this;exact this
 obtain ⟨T1,hT1⟩:∃T1,T1=touchT T fr now (dropF (getN S.nodes fr).ents a):=⟨_,rfl⟩;rw [←hT1]at h1;unfold laidT;rw [←hT,←hT1];have nT:(getN T.nodes fr).no=fr:=by rw[gfr.1];exact nfr
 have g1:∀q,q≠fr→getN T1.nodes q=getN T.nodes q∧isN T1.nodes q=isN T.nodes q:=by
  intro q hq;rw [hT1];exact setN_get (n:=touchN T fr now (dropF (getN S.nodes fr).ents a)) (by show q≠(getN T.nodes fr).no;rw[nT];exact hq)
 have gf1:getN T1.nodes fr=touchN T fr now (dropF (getN S.nodes fr).ents a):=by
  have:=set_self (n:=touchN T fr now (dropF (getN S.nodes fr).ents a)) h0.nos (by show isN T.nodes (getN T.nodes fr).no=true;rw[nT];exact gfr.2.trans if0);have e:(touchN T fr now (dropF (getN S.nodes fr).ents a)).no=fr:=nT;rw [e]at this;rw [hT1];exact this
 have if1:isN T1.nodes fr=true:=by
  rw [hT1];show isN (setN T.nodes _) fr=true;rw[isN_set];exact gfr.2.trans if0
 have hto1:isN T1.nodes to_=true∧(getN T1.nodes to_).kind=1∧(getN T1.nodes to_).dev=(getN S.nodes to_).dev∧(∀x∈(getN T1.nodes to_).ents,x∈(getN S.nodes to_).ents):=by
  by_cases e:to_=fr
  ·rw [e,gf1]
   refine ⟨if1,by show (getN T.nodes fr).kind=1;rw[gfr.1];exact kf,by show (getN T.nodes fr).dev=_;rw[gfr.1],fun x hx=>?_⟩;exact (mem_dropF hx).1
  ·rw [(g1 to_ e).1,(g1 to_ e).2,gto.1,gto.2]
   exact ⟨it0,kt,rfl,fun x hx=>hx⟩
 obtain ⟨it1,kt1,dt1,et1⟩:=hto1;have nt1:=(isN_true it1).2.1;have mt1:=(isN_true it1).2.2;have hnto:no≠to_:=by
  intro e
  by_cases hk:(getN S.nodes no).kind=1
  ·refine p4 ⟨hk,?_⟩
   rw [nno,←e];exact within_base (by omega) rfl
  ·rw[e]at hk;exact hk kt
 have hKT:=h0.kin _ (isN_true (gfr.2.trans if0)).2.2 x (by rw[gfr.1];exact hx);rw [hx2,nT]at hKT;have h2 : TreB (c+1) k' (touchT T1 to_ now (putF (getN T1.nodes to_).ents (b,(getN S.nodes no).no))):=by
  rw [nno];refine tre_touch h1 (.inr rfl) it1 kt1 (by omega) (rise_putF _ (h1.rise _ mt1)) (fun y hy=>?_) (fun y hy=>?_) ?_ (fun y hy=>?_) (fun q hq hqk hqk' hqu hqn=>?_)
  ·rcases mem_putF hy with hy|rfl
   ·exact h1.names _ mt1 y hy
   ·exact checkN_short ckb
  ·rcases mem_putF hy with hy|rfl
   ·exact h1.pos _ mt1 y hy
   ·have e:T1.last=S.last:=by rw[hT1];show T.last=_;rw[hT];exact (over_devs S now old).1
    rw [e];exact hpos
  ·have:=putF_len (getN T1.nodes to_).ents (b,no)
   have:=h1.small _ mt1;omega
  ·rcases mem_putF hy with hy|rfl
   ·exact h1.kin _ mt1 y hy
   ·refine ⟨by rw[nt1];exact hnto,by rw[hT1];exact hKT.2.1,fun q hq e=>?_⟩
    rw [hT1]at hq;rcases mem_setT hq with⟨hq,_⟩|rfl
    ·rw[hKT.2.2 q hq e,gfr.1,dt1,p3]
    ·exact absurd (nT.symm.trans e).symm hnfr
  ·rcases h1.ups q hq hqk hqk' with⟨_,u2⟩|⟨_,_,m,hm,u3,_,_,y,hy,u6⟩
   ·exact absurd (u2.symm.trans hqu) hqn
   ·have:m=getN T1.nodes to_:=node_eq h1.nos hm mt1 (by rw[u3,hqu,nt1])
    subst this;refine ⟨y,putF_old hy fun e=>?_,u6⟩;have e2:=findF_mem (h.rise _ mto) (et1 y hy) e;rw [←hold,u6]at e2;rw [hT1]at hq;rcases mem_setT hq with⟨hq,_⟩|rfl
    ·exact hold' q hq hqk e2.symm
    ·have e3:old=fr:=e2.trans nT
     have hq2:getN T.nodes fr∈T.nodes:=(isN_true (gfr.2.trans if0)).2.2;exact hold' _ hq2 (by rw[gfr.1];exact kf) (by rw[nT];exact e3.symm)
 obtain ⟨T2,hT2⟩:∃T2,T2=touchT T1 to_ now (putF (getN T1.nodes to_).ents (b,(getN S.nodes no).no)):=⟨_,rfl⟩;rw [←hT2]at h2⊢;have g2:getN T2.nodes no=getN S.nodes no∧isN T2.nodes no=true:=by
  have:=setN_get (S:=T1) (n:=touchN T1 to_ now (putF (getN T1.nodes to_).ents (b,(getN S.nodes no).no))) (no:=no) (by show no≠(getN T1.nodes to_).no;rw[nt1];exact hnto);rw [hT2];exact ⟨this.1.trans ((g1 no hnfr).1.trans gno.1),this.2.trans ((g1 no hnfr).2.trans (gno.2.trans z2))⟩
 have m2:=(isN_true g2.2).2.2;rw [g2.1]at m2;have hb:=h.bits _ mno
 by_cases hk:(getN S.nodes no).kind=1
 ·rw [if_pos hk]at hk'
  subst hk';have gt2:getN T2.nodes to_=touchN T1 to_ now (putF (getN T1.nodes to_).ents (b,(getN S.nodes k').no))∧isN T2.nodes to_=true:=by
   have:=set_self (n:=touchN T1 to_ now (putF (getN T1.nodes to_).ents (b,(getN S.nodes k').no))) h1.nos (by show isN T1.nodes (getN T1.nodes to_).no=true;rw[nt1];exact it1);have e:(touchN T1 to_ now (putF (getN T1.nodes to_).ents (b,(getN S.nodes k').no))).no=to_:=nt1;rw [e]at this;rw [hT2];exact ⟨this,by show isN (setN T1.nodes _) to_=true;rw[isN_set];exact it1⟩
  have mt2:=(isN_true gt2.2).2.2;rw [gt2.1]at mt2;refine tre_lies (n:=laidN now to_ (getN S.nodes k')) (m0:=getN S.nodes k') (t:=touchN T1 to_ now (putF (getN T1.nodes to_).ents (b,(getN S.nodes k').no))) ?_ m2 rfl hk hk rfl rfl (h.on _ mno).2 (show (getN S.nodes k').links=1 from h.dlinks _ mno hk) rfl mt2 kt1 ?_ ⟨_,putF_mem _ _,rfl⟩ ?_ ?_ ?_
  ·have e:(laidN now to_ (getN S.nodes k')).no=k':=nno
   rw [e];exact h2
  ·show (getN T1.nodes to_).dev=(getN S.nodes k').dev
   rw [dt1,←p3,hdv]
  ·show (if (getN S.nodes k').kind=1 then to_ else _)=(getN T1.nodes to_).no
   rw [if_pos hk,nt1]
  ·show rootF T2.devs (getN S.nodes k').dev≠(getN S.nodes k').no
   rw [nno,hT2];show rootF T1.devs _≠_;rw [hT1];show rootF T.devs _≠_;rw [hT,(over_devs S now old).2];exact hrt
  ·intro hU
   have hU':UpTo T2 k' to_:=by
    have e1:(laidN now to_ (getN S.nodes k')).no=k':=nno;have e2:(touchN T1 to_ now (putF (getN T1.nodes to_).ents (b,(getN S.nodes k').no))).no=to_:=nt1;rw [e1,e2]at hU;exact hU
   have hback:∀q∈T2.nodes,q.kind=1→∃q'∈S.nodes,q'.no=q.no∧q'.kind=1∧q'.up=q.up:=by
    have bT:∀q∈T.nodes,∃q'∈S.nodes,q'.no=q.no∧q'.kind=q.kind∧q'.up=q.up:=fun q hq=>by
     rw [hT]at hq;obtain ⟨m',a1,a2,a3,a4,_⟩:=over_mem hq;exact ⟨m',a1,a2,a3,a4⟩
    have b1:∀q∈T1.nodes,∃q'∈S.nodes,q'.no=q.no∧q'.kind=q.kind∧q'.up=q.up:=fun q hq=>by
     rw [hT1]at hq;rcases mem_setT hq with⟨hq,_⟩|rfl
     ·exact bT q hq
     ·exact bT (getN T.nodes fr) (isN_true (gfr.2.trans if0)).2.2
    intro q hq hqk;rw [hT2]at hq;rcases mem_setT hq with⟨hq,_⟩|rfl
    ·obtain ⟨q',a1,a2,a3,a4⟩:=b1 q hq
     exact ⟨q',a1,a2,a3.trans hqk,a4⟩
    ·obtain ⟨q',a1,a2,a3,a4⟩:=b1 (getN T1.nodes to_) mt1
     exact ⟨q',a1,a2,a3.trans kt1,a4⟩
   have:=UpTo.within h (by omega) (UpTo.mono hU' hback);exact p4 ⟨hk,by rw[nno];exact this⟩
 ·rw [if_neg hk]at hk'
  subst hk';refine tre_same h2 (no:=no) g2.2 nno ?_ ?_ ?_ ?_ ?_ ?_ ?_
  ·rw[g2.1];rfl
  ·exact (h.on _ mno).2
  ·rw[g2.1];rfl
  ·rw[g2.1];rfl
  ·rw[g2.1];unfold laidN;show (if (getN S.nodes no).kind=1 then to_ else (getN S.nodes no).up)=_;rw[if_neg hk]
  ·rw[g2.1];rfl
  ·exact⟨hb.1,hb.2.1⟩
open Go.ChangeShapes Go.WideShapes Go.ChangeAt Go.RowKit
theorem rchecks_any (nm:List UInt8) (w:World) (h:nm.length≤1000000):Calls Tryz.prog 197 #[.string (bs nm)] w (Ret w (.int .i64 (checkN nm))):=by
 have:=rcheck_any (bs nm) (by rw[bs_size];exact h) w;rw [bs_list]at this;exact this
theorem rplace_any (B:Nat) (g:GhF) (S:TreeD) (X:Xtra) (cu cg dir:Int) (nm:List UInt8) (w:World) (h:FAt w B g S X) (hl:S.nodes.length≤1000000) (hu:NosUp S.nodes S.last) (hnm:nm.length≤1000000) :
  Calls Tryz.prog 165 #[.pointer (some ⟨g.bF,0,none⟩),.agg #[.int .i64 cu,.int .i64 cg],.int .i64 dir,.string (bs nm)] w (PlaceQ w B S cu cg dir nm):=by
 have h0:=h;have E0:Ext w ((w.alloc (.cells #[.int .i64 cu,.int .i64 cg] 27)).alloc (.cells #[.int .i64 0,.int .i64 0,.int .i64 0,.int .i64 0,.int .i64 0,.int .i64 0,.int .i64 0,.int .i64 0,.int .i64 0,.int .i64 0,.string ⟨#[]⟩,.slice none 0 0] 66)):=((Ext.refl _).alloc _).alloc _;go_enter Tryz.func165,Tryz.ntmps165;go_wp2_with fail;have b1:=Ext.refl ((w.alloc (.cells #[.int .i64 cu,.int .i64 cg] 27)).alloc (.cells #[.int .i64 0,.int .i64 0,.int .i64 0,.int .i64 0,.int .i64 0,.int .i64 0,.int .i64 0,.int .i64 0,.int .i64 0,.int .i64 0,.string ⟨#[]⟩,.slice none 0 0] 66));have E1:=E0;have R0:=Has.new (w.alloc (.cells #[.int .i64 cu,.int .i64 cg] 27)) (.cells #[.int .i64 nodeZ.no,.int .i64 nodeZ.dev,.int .i64 nodeZ.kind,.int .i64 nodeZ.mode,.int .i64 nodeZ.uid,.int .i64 nodeZ.gid,.int .i64 nodeZ.mtime,.int .i64 nodeZ.ctime,.int .i64 nodeZ.links,.int .i64 nodeZ.up,.string (bs nodeZ.data),.slice none nodeZ.ents.length 0] 66);rw [World.size_alloc]at R0;have R1:=R0.ext b1;have C1:=((Has.new w (.cells #[.int .i64 cu,.int .i64 cg] 27)).alloc (.cells #[.int .i64 0,.int .i64 0,.int .i64 0,.int .i64 0,.int .i64 0,.int .i64 0,.int .i64 0,.int .i64 0,.int .i64 0,.int .i64 0,.string ⟨#[]⟩,.slice none 0 0] 66)).ext b1;refine (rget_any B g S X dir _ (h.ext E1) hl hu).mono ?_;rintro e w2 ⟨A2,k2,rfl,ok2,b2⟩;have R2:=R1.ext b2;have C2:=C1.ext b2;have hm:Hid (placeE S cu cg dir nm=if isN S.nodes dir=false then 5 else if ¬(getN S.nodes dir).kind=1 then 9 else if ¬checkN nm=0 then checkN nm
  else if mayB cu cg (getN S.nodes dir).uid (getN S.nodes dir).gid (getN S.nodes dir).mode 3=false then 6 else 0):=by show _=_;rfl
 have hm2:Hid (placeN S cu cg dir nm=if placeE S cu cg dir nm=0 then getN S.nodes dir else nodeZ):=by show _=_;rfl
 have hnz:Hid (((getN S.nodes dir).no == 0)=!isN S.nodes dir):=by
  refine zH ?_
  cases hi:isN S.nodes dir
  ·rw[(isN_false hi).1];rfl
  ·have h1:=(hu.2 _ (isN_true hi).2.2).1
   simp;omega
 obtain ⟨m,hmm⟩:∃m,m=getN S.nodes dir:=⟨_,rfl⟩;rw [←hmm]at ok2 hm hm2 hnz⊢;obtain ⟨W3,hW3⟩:∃W3,W3=w2.alloc (.cells #[.int .i64 m.no,.int .i64 m.dev,.int .i64 m.kind,.int .i64 m.mode,.int .i64 m.uid,.int .i64 m.gid,.int .i64 m.mtime,.int .i64 m.ctime,.int .i64 m.links,.int .i64 m.up,.string (bs m.data),.slice A2 m.ents.length k2] 66):=⟨_,rfl⟩;have E23:Ext w2 W3:=by rw[hW3];exact (Ext.refl _).alloc _
 have N3:Has W3 w2.heap.size (.cells #[.int .i64 m.no,.int .i64 m.dev,.int .i64 m.kind,.int .i64 m.mode,.int .i64 m.uid,.int .i64 m.gid,.int .i64 m.mtime,.int .i64 m.ctime,.int .i64 m.links,.int .i64 m.up,.string (bs m.data),.slice A2 m.ents.length k2] 66):=by rw[hW3];exact Has.new _ _
 have R3:=R2.ext E23;have C3:=C2.ext E23;have E3:Ext w W3:=(E1.trans b2).trans E23;obtain ⟨b8,hb8⟩:∃b8,b8=w2.heap.size:=⟨_,rfl⟩;obtain ⟨i,hi⟩:∃i,i=isN S.nodes dir:=⟨_,rfl⟩;rw [←hi]at hm hnz;clear hmm hi R1 C1 R2 C2;go_upto_region 2 with fail;rw [←hW3];rw [←hb8]at N3⊢;have ok3:=ok2.ext E23;clear hW3 hb8 E23;have HS:Hid (∀(w5 w6:World) (x:Int),Ext w w5→Only [w.heap.size+1] w5 w6→placeE S cu cg dir nm=x→x≠0→PlaceQ w B S cu cg dir nm (.returned (.tuple #[.agg #[.int .i64 nodeZ.no,.int .i64 nodeZ.dev,.int .i64 nodeZ.kind,.int .i64 nodeZ.mode,.int .i64 nodeZ.uid,.int .i64 nodeZ.gid,.int .i64 nodeZ.mtime,.int .i64 nodeZ.ctime,.int .i64 nodeZ.links,.int .i64 nodeZ.up,.string (bs nodeZ.data),.slice none nodeZ.ents.length 0],.int .i64 x])) w6):=by
  show ∀(w5 w6:World) (x:Int),_;intro w5 w6 x hE hO hx hx0;have hN:placeN S cu cg dir nm=nodeZ:=by rw[hm2.out,if_neg (by rw[hx];exact hx0)]
  exact ⟨none,0,by rw[hx,hN],by rw[hN];exact NodeOk.zero _ _,hO.after hE (by simp)⟩
 have k0':W3.cell? ⟨b8,0,none⟩=some (.int .i64 m.no):=N3.cell 0;have k2':W3.cell? ⟨b8,2,none⟩=some (.int .i64 m.kind):=N3.cell 2;have kz:=N3.lt
 cases i
 ·have hE:Hid (placeE S cu cg dir nm=5):=by show _=_;rw[hm.out];rfl
  have tn:(m.no == 0)=true:=hnz.out;clear hm;go_wp2_with (refine wpList_store_node rfl _ _ rfl (w.heap.size+1) nodeZ none 0 rfl rfl R3 ?_;intro w9 R9 O9);refine bodyPost_ret (v:=.tuple #[.agg #[.int .i64 nodeZ.no,.int .i64 nodeZ.dev,.int .i64 nodeZ.kind,.int .i64 nodeZ.mode,.int .i64 nodeZ.uid,.int .i64 nodeZ.gid,.int .i64 nodeZ.mtime,.int .i64 nodeZ.ctime,.int .i64 nodeZ.links,.int .i64 nodeZ.up,.string (bs nodeZ.data),.slice none nodeZ.ents.length 0],.int .i64 5]) (res_node Tryz.results165 _ _ (w.heap.size+1) nodeZ none 0 _ rfl rfl R9) rfl ?_;exact HS.out _ _ _ E3 O9 hE.out (by decide)
 have tn:(m.no == 0)=false:=hnz.out
 by_cases c1:m.kind=1
 case neg =>
  have t1:(m.kind == 1)=false:=by simpa using c1
  have t1b:(m.kind != 1)=true:=by simpa using c1
  have hE:Hid (placeE S cu cg dir nm=9):=by show _=_;rw[hm.out,if_neg (by decide),if_pos c1]
  clear hm c1;go_wp2_with (refine wpList_store_node rfl _ _ rfl (w.heap.size+1) nodeZ none 0 rfl rfl R3 ?_;intro w9 R9 O9);refine bodyPost_ret (v:=.tuple #[.agg #[.int .i64 nodeZ.no,.int .i64 nodeZ.dev,.int .i64 nodeZ.kind,.int .i64 nodeZ.mode,.int .i64 nodeZ.uid,.int .i64 nodeZ.gid,.int .i64 nodeZ.mtime,.int .i64 nodeZ.ctime,.int .i64 nodeZ.links,.int .i64 nodeZ.up,.string (bs nodeZ.data),.slice none nodeZ.ents.length 0],.int .i64 9]) (res_node Tryz.results165 _ _ (w.heap.size+1) nodeZ none 0 _ rfl rfl R9) rfl ?_;exact HS.out _ _ _ E3 O9 hE.out (by decide)
 have t1:(m.kind == 1)=true:=by simpa using c1
 have t1b:(m.kind != 1)=false:=by simpa using c1
 have hma:Hid (placeE S cu cg dir nm=if ¬checkN nm=0 then checkN nm else if mayB cu cg m.uid m.gid m.mode 3=false then 6 else 0):=by show _=_;rw[hm.out,if_neg (by decide),if_neg (by simpa using c1)]
 clear hm c1;go_wp2_with fail;refine (rchecks_any nm _ hnm).mono ?_;rintro e w4 ⟨rfl,b4⟩;have R4:=R3.ext b4;have N4:=N3.ext b4;have C4:=C3.ext b4;have E4:=E3.trans b4;have ok4:=ok3.ext b4;obtain ⟨v,hv⟩:∃v,v=checkN nm:=⟨_,rfl⟩;rw [←hv]at hma⊢;clear hv k0' k2' kz R3 N3 C3
 by_cases hv0:v=0
 case neg =>
  have tv:(v == 0)=false:=by simpa using hv0
  have tvb:(v != 0)=true:=by simpa using hv0
  have hE:Hid (placeE S cu cg dir nm=v):=by show _=_;rw[hma.out,if_pos hv0]
  have HV0:=zH hv0;clear hma hv0;go_wp2_with (refine wpList_store_node rfl _ _ rfl (w.heap.size+1) nodeZ none 0 rfl rfl R4 ?_;intro w9 R9 O9);refine bodyPost_ret (v:=.tuple #[.agg #[.int .i64 nodeZ.no,.int .i64 nodeZ.dev,.int .i64 nodeZ.kind,.int .i64 nodeZ.mode,.int .i64 nodeZ.uid,.int .i64 nodeZ.gid,.int .i64 nodeZ.mtime,.int .i64 nodeZ.ctime,.int .i64 nodeZ.links,.int .i64 nodeZ.up,.string (bs nodeZ.data),.slice none nodeZ.ents.length 0],.int .i64 v]) (res_node Tryz.results165 _ _ (w.heap.size+1) nodeZ none 0 _ rfl rfl R9) rfl ?_;exact HS.out _ _ _ E4 O9 hE.out HV0.out
 have tv:(v == 0)=true:=by simpa using hv0
 have tvb:(v != 0)=false:=by simpa using hv0
 obtain ⟨u,hu'⟩:∃u,u=mayB cu cg m.uid m.gid m.mode 3:=⟨_,rfl⟩;have hm3:Hid (placeE S cu cg dir nm=if u=false then 6 else 0):=by show _=_;rw[hma.out,if_neg (by simpa using hv0),hu']
 have HU:=zH hu';have x0:w4.cell? ⟨w.heap.size,0,none⟩=some (.int .i64 cu):=C4.cell 0;have x1:w4.cell? ⟨w.heap.size,1,none⟩=some (.int .i64 cg):=C4.cell 1;have xz:=C4.lt;clear hma hu' hv0;go_wp2_with (refine wpList_load_node rfl _ rfl b8 m A2 k2 rfl N4 ?_);refine (rnode_any cu cg _ _ _ m.mode m.uid m.gid _ _ _ _ _ _ 3 _).mono ?_;rw [←HU.out];rintro e w5 ⟨rfl,b5⟩;have R5:=R4.ext b5;have N5:=N4.ext b5;have E5:=E4.trans b5;clear x0 x1 xz R4 N4
 cases u
 ·have hE:Hid (placeE S cu cg dir nm=6):=by show _=_;rw[hm3.out];rfl
  clear hm3;go_wp2_with (refine wpList_store_node rfl _ _ rfl (w.heap.size+1) nodeZ none 0 rfl rfl R5 ?_;intro w9 R9 O9);refine bodyPost_ret (v:=.tuple #[.agg #[.int .i64 nodeZ.no,.int .i64 nodeZ.dev,.int .i64 nodeZ.kind,.int .i64 nodeZ.mode,.int .i64 nodeZ.uid,.int .i64 nodeZ.gid,.int .i64 nodeZ.mtime,.int .i64 nodeZ.ctime,.int .i64 nodeZ.links,.int .i64 nodeZ.up,.string (bs nodeZ.data),.slice none nodeZ.ents.length 0],.int .i64 6]) (res_node Tryz.results165 _ _ (w.heap.size+1) nodeZ none 0 _ rfl rfl R9) rfl ?_;exact HS.out _ _ _ E5 O9 hE.out (by decide)
 ·have hE:Hid (placeE S cu cg dir nm=0):=by show _=_;rw[hm3.out];rfl
  have hN:Hid (placeN S cu cg dir nm=m):=by show _=_;rw[hm2.out,hE.out];rfl
  clear hm3;go_wp2_with (first|(refine wpList_load_node rfl _ rfl b8 m A2 k2 rfl N5 ?_)|(refine wpList_store_node rfl _ _ rfl (w.heap.size+1) m A2 k2 rfl rfl R5 ?_;intro w6 R6 O6));refine bodyPost_ret (v:=.tuple #[.agg #[.int .i64 m.no,.int .i64 m.dev,.int .i64 m.kind,.int .i64 m.mode,.int .i64 m.uid,.int .i64 m.gid,.int .i64 m.mtime,.int .i64 m.ctime,.int .i64 m.links,.int .i64 m.up,.string (bs m.data),.slice A2 m.ents.length k2],.int .i64 0]) (res_node Tryz.results165 _ _ (w.heap.size+1) m A2 k2 _ rfl rfl R6) rfl ?_;have ok6:NodeOk w6 B m A2 k2:=((ok4.ext b5).only O6 (by
   intro b hb;rw [List.mem_singleton]at hb;subst hb;exact ⟨by have:=h0.1;have:=h0.lt.1;omega,R5.noTag (by decide)⟩))
  exact ⟨A2,k2,by rw[hE.out,hN.out],by rw[hN.out];exact ok6,O6.after E5 (by simp)⟩
def NoF (w:World) (B:Nat) (g:GhF) (T:TreeD) (X:Xtra) (a x:Int) (e:Ending) (w':World):Prop:=e=.returned (.tuple #[.int .i64 a,.int .i64 x])∧∃g2,FAt w' B g2 T X∧Only g.list w w'∧GhF.on g2 g w
theorem noF_same {w w':World} {B:Nat} {g:GhF} {S:TreeD} {X:Xtra} {cu cg dir x:Int} {nm:List UInt8} {n:NodeD} (h:FAt w B g S X) (hE:Ext w w') (hx:comeE S cu cg X.now dir nm n=x) (h0:x≠0):NoF w B g (comeT S cu cg X.now dir nm n) X (comeN S cu cg X.now dir nm n) (comeE S cu cg X.now dir nm n) (.returned (.tuple #[.int .i64 0,.int .i64 x])) w':=by
 refine ⟨?_,g,?_,Only.of_ext hE,GhF.on_refl _ _⟩
 ·unfold comeN;rw[hx,if_neg h0]
 ·unfold comeT;rw[hx,if_neg h0];exact h.ext hE
theorem rcome_any (B:Nat) (g:GhF) (S:TreeD) (X:Xtra) (cu cg dir:Int) (nm:List UInt8) (n:NodeD) (A:Option Addr) (c:Nat) (w:World) (h:FAt w B g S X) (O:Ok S) (hl1:S.last≤100000) (hn:NodeOk w B n A c) (hdl:n.data.length≤1000000000) (hnm:nm.length≤1000000) :
  Calls Tryz.prog 164 #[.pointer (some ⟨g.bF,0,none⟩),.agg #[.int .i64 cu,.int .i64 cg],.int .i64 dir,.string (bs nm),.agg #[.int .i64 n.no,.int .i64 n.dev,.int .i64 n.kind,.int .i64 n.mode,.int .i64 n.uid,.int .i64 n.gid,.int .i64 n.mtime,.int .i64 n.ctime,.int .i64 n.links,.int .i64 n.up,.string (bs n.data),.slice A n.ents.length c]] w (NoF w B g (comeT S cu cg X.now dir nm n) X (comeN S cu cg X.now dir nm n) (comeE S cu cg X.now dir nm n)):=by
 obtain ⟨W0,hW0⟩:∃W0,W0=(w.alloc (.cells #[.int .i64 cu,.int .i64 cg] 27)).alloc (.cells #[.int .i64 n.no,.int .i64 n.dev,.int .i64 n.kind,.int .i64 n.mode,.int .i64 n.uid,.int .i64 n.gid,.int .i64 n.mtime,.int .i64 n.ctime,.int .i64 n.links,.int .i64 n.up,.string (bs n.data),.slice A n.ents.length c] 66):=⟨_,rfl⟩;have E0:Ext w W0:=by rw[hW0];exact ((Ext.refl _).alloc _).alloc _
 obtain ⟨b7,hb7⟩:∃b,b=w.heap.size:=⟨_,rfl⟩;have C0:Has W0 b7 (.cells #[.int .i64 cu,.int .i64 cg] 27):=by rw[hW0,hb7];exact (Has.new w _).alloc _
 have N0:Has W0 (b7+1) (.cells #[.int .i64 n.no,.int .i64 n.dev,.int .i64 n.kind,.int .i64 n.mode,.int .i64 n.uid,.int .i64 n.gid,.int .i64 n.mtime,.int .i64 n.ctime,.int .i64 n.links,.int .i64 n.up,.string (bs n.data),.slice A n.ents.length c] 66):=by
  rw [hW0,hb7];have:=Has.new (w.alloc (.cells #[.int .i64 cu,.int .i64 cg] 27)) (.cells #[.int .i64 n.no,.int .i64 n.dev,.int .i64 n.kind,.int .i64 n.mode,.int .i64 n.uid,.int .i64 n.gid,.int .i64 n.mtime,.int .i64 n.ctime,.int .i64 n.links,.int .i64 n.up,.string (bs n.data),.slice A n.ents.length c] 66)
  rwa [World.size_alloc]at this
 have HSZ0:w.heap.size+2≤W0.heap.size:=by rw[hW0];simp
 have HO:=zH O;have hcnt:=O.live.count;have hcl:S.nodes.length≤100000:=by omega
 have HCL:=zH hcl;have hm:Hid (comeE S cu cg X.now dir nm n=if ¬placeE S cu cg dir nm=0 then placeE S cu cg dir nm else if ¬findF (getN S.nodes dir).ents nm=0 then 7 else makeE S (newN S cu cg X.now dir n)):=by show _=_;rfl
 have hp:Hid (placeE S cu cg dir nm=0→placeN S cu cg dir nm=getN S.nodes dir∧isN S.nodes dir=true):=fun h0=>⟨placeN_zero h0,(placeE_zero h0).1⟩
 obtain ⟨now,hnow⟩:∃now,now=X.now:=⟨_,rfl⟩;have HS:Hid (∀(w':World) (x:Int),Ext w w'→comeE S cu cg now dir nm n=x→x≠0→NoF w B g (comeT S cu cg now dir nm n) X (comeN S cu cg now dir nm n) (comeE S cu cg now dir nm n) (.returned (.tuple #[.int .i64 0,.int .i64 x])) w'):=by
  show ∀(w':World) (x:Int),_;rw [hnow];exact fun w' x hE hx h0=>noF_same h hE hx h0
 rw [←hnow]at hm⊢;have HNW:=zH hnow;have HE0:=zH E0;clear O hcnt hcl hnow;go_enter Tryz.func164,Tryz.ntmps164;go_upto_region 1 with fail;rw [←hW0];rw [←hb7];have hb7a:b7≤w.heap.size:=by omega
 have hb7b:w.heap.size≤b7:=by omega
 clear hW0 hb7;have x0:W0.cell? ⟨b7,0,none⟩=some (.int .i64 cu):=C0.cell 0;have x1:W0.cell? ⟨b7,1,none⟩=some (.int .i64 cg):=C0.cell 1;have xz:=C0.lt;go_wp2_with fail;refine (rplace_any B g S X cu cg dir nm _ (h.ext E0) (by have:=HCL.out;omega) HO.out.live.nos hnm).mono ?_;rintro e w2 ⟨A2,k2,rfl,ok2,b2⟩;obtain ⟨m,hmm⟩:∃m,m=placeN S cu cg dir nm:=⟨_,rfl⟩;obtain ⟨x,hx⟩:∃x,x=placeE S cu cg dir nm:=⟨_,rfl⟩;rw [←hmm]at ok2 hp;rw [←hx]at hm hp;rw [←hmm,←hx];obtain ⟨W3,hW3⟩:∃W3,W3=w2.alloc (.cells #[.int .i64 m.no,.int .i64 m.dev,.int .i64 m.kind,.int .i64 m.mode,.int .i64 m.uid,.int .i64 m.gid,.int .i64 m.mtime,.int .i64 m.ctime,.int .i64 m.links,.int .i64 m.up,.string (bs m.data),.slice A2 m.ents.length k2] 66):=⟨_,rfl⟩;obtain ⟨b14,hb14⟩:∃b,b=w2.heap.size:=⟨_,rfl⟩;have E23:Ext w2 W3:=by rw[hW3];exact (Ext.refl _).alloc _
 have M3:Has W3 b14 (.cells #[.int .i64 m.no,.int .i64 m.dev,.int .i64 m.kind,.int .i64 m.mode,.int .i64 m.uid,.int .i64 m.gid,.int .i64 m.mtime,.int .i64 m.ctime,.int .i64 m.links,.int .i64 m.up,.string (bs m.data),.slice A2 m.ents.length k2] 66):=by rw[hW3,hb14];exact Has.new _ _
 have E03:Ext W0 W3:=b2.trans E23;have C3:=C0.ext E03;have N3:=N0.ext E03;have ok3:=ok2.ext E23;have hb14w:W0.heap.size≤b14:=by rw[hb14];exact b2.size
 clear x0 x1 xz hmm hx C0 N0;go_upto_region 2 with fail;rw [←hW3];rw [←hb14];clear hW3 hb14
 by_cases hx0:x=0
 case neg =>
  have t0:(x == 0)=false:=by simpa using hx0
  have t0b:(x != 0)=true:=by simpa using hx0
  have hE:Hid (comeE S cu cg now dir nm n=x):=by show _=_;rw[hm.out,if_pos hx0]
  have HX:=zH hx0;clear hm hx0;go_wp2_with fail;go_ret2;exact HS.out _ _ (HE0.out.trans E03) hE.out HX.out
 have t0:(x == 0)=true:=by simpa using hx0
 have t0b:(x != 0)=false:=by simpa using hx0
 obtain ⟨hmg,hid⟩:=hp.out hx0;have hm2:Hid (comeE S cu cg now dir nm n=if ¬findF m.ents nm=0 then 7 else makeE S (newN S cu cg now dir n)):=by show _=_;rw[hm.out,if_neg (by simpa using hx0),←hmg]
 have HMG:=zH hmg;have HID:=zH hid;have hen:=HO.out.entsN dir;rw [←hmg]at hen;have HEN:=zH hen;have k11:W3.cell? ⟨b14,11,none⟩=some (.slice A2 m.ents.length k2):=M3.cell 11;have kz:=M3.lt;clear hm hp hx0 hmg hid hen;go_wp2_with fail;refine (rfind_any A2 m.ents k2 nm _ ok3.ents.ents (by have:=HEN.out.2;omega)).mono ?_;rintro e w4 ⟨rfl,b4⟩;obtain ⟨v,hv⟩:∃v,v=findF m.ents nm:=⟨_,rfl⟩;rw [←hv]at hm2;rw [←hv];have C4:=C3.ext b4;have N4:=N3.ext b4;have M4:=M3.ext b4;have ok4:=ok3.ext b4;have E4:=E03.trans b4;clear hv k11 kz C3 N3 M3 ok3 E03 b4
 by_cases hv0:v=0
 case neg =>
  have t1:(v == 0)=false:=by simpa using hv0
  have t1b:(v != 0)=true:=by simpa using hv0
  have hE:Hid (comeE S cu cg now dir nm n=7):=by show _=_;rw[hm2.out,if_pos hv0]
  clear hm2 hv0;go_wp2_with fail;go_ret2;exact HS.out _ _ (HE0.out.trans E4) hE.out (by decide)
 have t1:(v == 0)=true:=by simpa using hv0
 have t1b:(v != 0)=false:=by simpa using hv0
 have hm3:Hid (comeE S cu cg now dir nm n=makeE S (newN S cu cg now dir n)):=by show _=_;rw[hm2.out,if_neg (by simpa using hv0)]
 clear hm2 hv0;go_upto_region 6 with fail;obtain ⟨b11,hb11⟩:∃b,b=b7+1:=⟨_,rfl⟩;rw [←hb11]at N4⊢;have hb11a:b11≤b7+1:=by omega
 have hb11b:b7+1≤b11:=by omega
 clear hb11;have hlw:=h.lt;have s0:=E0.size;have hne1:b14≠b11:=by have:=b2.size;omega
 have hne2:b7≠b11:=by omega
 have hne3:g.bF≠b11:=by omega
 have nbf:(b11=g.bF)=False:=eq_false (by omega);have nbf2:(g.bF=b11)=False:=eq_false (by omega);have n1:(b11=b14)=False:=eq_false (Ne.symm hne1);have n2:(b14=b11)=False:=eq_false hne1;have n3:(b11=b7)=False:=eq_false (Ne.symm hne2);have n4:(b7=b11)=False:=eq_false hne2;have Ew4:Ext w w4:=HE0.out.trans E4;have u1:w4.cell? ⟨b14,1,none⟩=some (.int .i64 m.dev):=M4.cell 1;have u2:w4.cell? ⟨b7,0,none⟩=some (.int .i64 cu):=C4.cell 0;have u3:w4.cell? ⟨b7,1,none⟩=some (.int .i64 cg):=C4.cell 1;have u4:w4.cell? ⟨g.bF,3,none⟩=some (.int .i64 now):=by rw[HNW.out];obtain⟨_,_,_,k,_⟩:=h.ext Ew4;exact k.cell 3
 have f1:w4.cell? ⟨b11,1,none⟩=some (.int .i64 n.dev):=N4.cell 1;have f4:w4.cell? ⟨b11,4,none⟩=some (.int .i64 n.uid):=N4.cell 4;have f5:w4.cell? ⟨b11,5,none⟩=some (.int .i64 n.gid):=N4.cell 5;have f6:w4.cell? ⟨b11,6,none⟩=some (.int .i64 n.mtime):=N4.cell 6;have f7:w4.cell? ⟨b11,7,none⟩=some (.int .i64 n.ctime):=N4.cell 7;have f8:w4.cell? ⟨b11,8,none⟩=some (.int .i64 n.links):=N4.cell 8;have yf:∀i,w4.frozen? ⟨b11,i,none⟩=false:=fun i=>(N4.free i).trans (by simp)
 have z1:=M4.lt;have z2:=C4.lt;have z3:=N4.lt;have z4:=(h.ext Ew4).lt.1;go_upto_region 12 with fail;obtain ⟨V,hV⟩:∃V,V=(((((w4.setCell ⟨b11,1,none⟩ (.int .i64 m.dev)).setCell ⟨b11,4,none⟩ (.int .i64 cu)).setCell ⟨b11,5,none⟩ (.int .i64 cg)).setCell ⟨b11,6,none⟩ (.int .i64 now)).setCell ⟨b11,7,none⟩ (.int .i64 now)).setCell ⟨b11,8,none⟩ (.int .i64 1):=⟨_,rfl⟩;rw [←hV];have N5:Has V b11 (.cells #[.int .i64 ((newN S cu cg now dir n)).no,.int .i64 ((newN S cu cg now dir n)).dev,.int .i64 ((newN S cu cg now dir n)).kind,.int .i64 ((newN S cu cg now dir n)).mode,.int .i64 ((newN S cu cg now dir n)).uid,.int .i64 ((newN S cu cg now dir n)).gid,.int .i64 ((newN S cu cg now dir n)).mtime,.int .i64 ((newN S cu cg now dir n)).ctime,.int .i64 ((newN S cu cg now dir n)).links,.int .i64 ((newN S cu cg now dir n)).up,.string (bs ((newN S cu cg now dir n)).data),.slice A ((newN S cu cg now dir n)).ents.length c] 66):=by
  rw [hV];have:=(((((N4.setCell 1 (.int .i64 m.dev)).setCell 4 (.int .i64 cu)).setCell 5 (.int .i64 cg)).setCell 6 (.int .i64 now)).setCell 7 (.int .i64 now)).setCell 8 (.int .i64 1);rw [HMG.out]at this⊢;exact this
 have O5:Only [b11] w4 V:=by
  rw [hV];exact (((((Only.setCell _ _ _ _).then (Only.setCell _ _ _ _)).then (Only.setCell _ _ _ _)).then (Only.setCell _ _ _ _)).then (Only.setCell _ _ _ _)).then (Only.setCell _ _ _ _)
 clear hV u1 u2 u3 u4 f1 f4 f5 f6 f7 f8 yf z1 z2 z3 z4 nbf nbf2 n1 n2 n3 n4;obtain ⟨n',hn'⟩:∃n',n'=newN S cu cg now dir n:=⟨_,rfl⟩;rw [←hn']at N5 hm3;have hdn:n'.data=n.data:=by rw[hn'];rfl
 have hden:n'.ents=n.ents:=by rw[hn'];rfl
 have HN':=zH hn';have HDN:=zH hdn;have ha4:Apart w4 B [b11]:=by
  intro b hb;rw [List.mem_singleton]at hb;subst hb;exact ⟨by have:=h.1;omega,N4.noTag (by decide)⟩
 have hnb:∀b∈g.list,b∉[b11]:=by
  intro b hb;simp only[GhF.list,List.mem_cons,List.not_mem_nil,or_false]at hb;rw [List.mem_singleton];rcases hb with rfl|rfl|rfl<;>omega
 have F5:FAt V B g S X:=(h.ext Ew4).only O5 ha4 hnb;have okn5:NodeOk V B n' A c:=((hn.ext Ew4).only O5 ha4).same hden;have ok5:=ok4.only O5 ha4;have M5:=O5.has M4 (by simpa using hne1);have Ow5:Only g.list w V:=(Only.of_ext Ew4).trans O5 (by intro b hb;rw[List.mem_singleton]at hb;right;omega);have E5:Ext w V:=O5.after Ew4 (by intro b hb;rw[List.mem_singleton]at hb;omega);clear hn' hdn hden;go_wp2_with (refine wpList_load_node rfl _ rfl b11 n' A c rfl N5 ?_);refine (rmake_any B g S X n' A c _ F5 HCL.out okn5 HO.out.live.roots HO.out.live.eight HO.out.live.nos (by have:=HO.out.live.last;omega) (by omega) (by rw[HDN.out];exact hdl)).mono ?_;rintro e w6 ⟨rfl,bN,F6,O6,hbN⟩;obtain ⟨e6,he6⟩:∃e6,e6=makeE S n':=⟨_,rfl⟩;have hno:makeE S n'=0→makeN S n'=S.last+1:=fun h0=>by unfold makeN;rw[if_pos h0]
 obtain ⟨no,hno2⟩:∃no,no=makeN S n':=⟨_,rfl⟩;rw [←he6,←hno2]at hno;rw [←he6]at hm3;rw [←he6,←hno2];have HNO:=zH hno;have HE6:=zH he6;have M6:=O6.has M5 (by simp only[GhF.list,List.mem_cons,List.not_mem_nil,or_false];omega);have ok6:=ok5.only O6 F5.apart;have Ow6:=Ow5.then O6;have hbN':bN=g.bN∨w.heap.size≤bN:=by rcases hbN with h|h;exact .inl h;exact .inr (by have:=E5.size;omega)
 have hon:GhF.on ⟨g.bF,bN,g.bE⟩ g w:=⟨rfl,by
  intro b hb;simp only[GhF.list,List.mem_cons,List.not_mem_nil,or_false]at hb⊢;rcases hb with rfl|rfl|rfl
  ·exact .inl (.inl rfl)
  ·rcases hbN' with h|h
   ·exact .inl (.inr (.inl h))
   ·exact .inr h
  ·exact .inl (.inr (.inr rfl))⟩
 have HON:=zH hon;clear hno hno2 he6 hbN hbN' hon
 by_cases hz:e6=0
 case neg =>
  have t2:(e6 == 0)=false:=by simpa using hz
  have t2b:(e6 != 0)=true:=by simpa using hz
  have HZ:=zH hz;clear hz;go_wp2_with fail;go_ret2;have e1:comeE S cu cg now dir nm n=e6:=hm3.out;have e2:comeN S cu cg now dir nm n=0:=by unfold comeN;rw[if_neg (by rw[e1];exact HZ.out)]
  have e3:comeT S cu cg now dir nm n=S:=by unfold comeT;rw[if_neg (by rw[e1];exact HZ.out)]
  have e4:makeT S n'=S:=by unfold makeT;rw[if_neg (by rw[←HE6.out];exact HZ.out)]
  rw [e4]at F6;exact ⟨by rw[e1,e2];rfl,⟨g.bF,bN,g.bE⟩,by rw[e3];exact F6,Ow6,HON.out⟩
 have t2:(e6 == 0)=true:=by simpa using hz
 have t2b:(e6 != 0)=false:=by simpa using hz
 have HZ:=zH hz;have k11:w6.cell? ⟨b14,11,none⟩=some (.slice A2 m.ents.length k2):=M6.cell 11;have kz:=M6.lt;clear hz;go_wp2_with fail;refine (rput_any A2 m.ents k2 (nm,no) _ ok6.ents.ents (by have:=HEN.out.2;omega)).mono ?_;rintro e w7 ⟨v7,rfl,hown,b7'⟩;obtain ⟨A7,c7,rfl,q1,q2,q3,q4⟩:=hown.entsT (B:=B);obtain ⟨T,hT⟩:∃T,T=makeT S n':=⟨_,rfl⟩;rw [←hT]at F6;have hTu:NosUp T.nodes T.last:=by rw[hT];exact nos_make HO.out.live _
 have hTc:T.nodes.length≤1000000:=by
  rw [hT];unfold makeT;have:=HCL.out;split
  ·simp;omega
  ·omega
 obtain ⟨L7,hL7⟩:∃L,L=putF m.ents (nm,no):=⟨_,rfl⟩;rw [←hL7]at q1 q3⊢;have KTT:Hid (Calls Tryz.prog 166 #[.pointer (some ⟨g.bF,0,none⟩),.int .i64 dir,.slice A7 L7.length c7] w7 (TouchF w7 B ⟨g.bF,bN,g.bE⟩ (touchT T dir X.now L7) X)):=rtouch_any B ⟨g.bF,bN,g.bE⟩ T X dir A7 L7 c7 w7 (F6.ext b7') hTc hTu q3 q1 q2 q4;have HT:=zH hT;have HL7:=zH hL7;clear k11 kz hown q1 q2 q3 q4 hT hL7;go_wp2_with fail;refine KTT.out.mono ?_;rintro e w8 ⟨rfl,K8,O8⟩;go_wp2_with fail;go_ret2;have e1:comeE S cu cg now dir nm n=0:=by rw[hm3.out];exact HZ.out
 have e2:comeN S cu cg now dir nm n=no:=by unfold comeN;rw[if_pos e1];exact (HNO.out HZ.out).symm
 have e3:comeT S cu cg now dir nm n=touchT T dir X.now L7:=by
  unfold comeT;rw [if_pos e1,HT.out,HL7.out,←HN'.out,HMG.out,HNO.out HZ.out,HNW.out]
 refine ⟨by rw[e1,e2];rfl,⟨g.bF,bN,g.bE⟩,by rw[e3];exact K8,(Ow6.ext b7').trans O8 (fun b hb=>HON.out.2 b hb),HON.out⟩
theorem GhF.on_base {w w0:World} {g2 g:GhF} (h:GhF.on g2 g w0) (E:Ext w w0):GhF.on g2 g w:=⟨h.1,fun b hb=>by rcases h.2 b hb with k|k;exact .inl k;exact .inr (by have:=E.size;omega)⟩
theorem noF_pre {w w':World} {B:Nat} {g:GhF} {S T:TreeD} {X:Xtra} {p a x:Int} (h:FAt w B g S X) (hE:Ext w w') (hp:p≠0):NoF w B g (preT p S T) X (preN p a) (preE p x) (.returned (.tuple #[.int .i64 0,.int .i64 p])) w':=
 ⟨by unfold preN preE;rw[if_pos hp,if_pos hp],g,by unfold preT;rw[if_pos hp];exact h.ext hE,Only.of_ext hE,GhF.on_refl _ _⟩
theorem noF_go {w w0 w':World} {B:Nat} {g:GhF} {S T:TreeD} {X:Xtra} {p a x:Int} {e:Ending} (E:Ext w w0) (h:NoF w0 B g T X a x e w') (h0:p=0):e=.returned (.tuple #[.int .i64 a,.int .i64 x])∧NoF w B g (preT p S T) X (preN p a) (preE p x) e w':=by
 obtain ⟨he,g2,hK,hO,hn⟩:=h;have n0:¬(p≠0):=fun x=>x h0
 exact ⟨he,by unfold preN preE;rw[if_neg n0,if_neg n0];exact he,g2,by unfold preT;rw[if_neg n0];exact hK,Only.pre E hO,GhF.on_base hn E⟩
theorem rdir_any (B:Nat) (g:GhF) (S:TreeD) (X:Xtra) (cu cg dir:Int) (nm:List UInt8) (mode:Int) (w:World) (h:FAt w B g S X) (O:Ok S) (hl1:S.last≤100000) (hnm:nm.length≤1000000) :
  Calls Tryz.prog 122 #[.pointer (some ⟨g.bF,0,none⟩),.agg #[.int .i64 cu,.int .i64 cg],.int .i64 dir,.string (bs nm),.int .i64 mode] w
   (NoF w B g (preT (dirP mode) S (comeT S cu cg X.now dir nm (dirZ mode dir))) X (preN (dirP mode) (comeN S cu cg X.now dir nm (dirZ mode dir))) (preE (dirP mode) (comeE S cu cg X.now dir nm (dirZ mode dir)))):=by
 obtain ⟨W0,hW0⟩:∃W0,W0=w.alloc (.cells #[.int .i64 cu,.int .i64 cg] 27):=⟨_,rfl⟩;have E0:Ext w W0:=by rw[hW0];exact (Ext.refl _).alloc _
 have C0:Has W0 w.heap.size (.cells #[.int .i64 cu,.int .i64 cg] 27):=by rw[hW0];exact Has.new w _
 have x0:W0.cell? ⟨w.heap.size,0,none⟩=some (.int .i64 cu):=C0.cell 0;have x1:W0.cell? ⟨w.heap.size,1,none⟩=some (.int .i64 cg):=C0.cell 1;have xz:=C0.lt;obtain ⟨p,hp⟩:∃p,p=dirP mode:=⟨_,rfl⟩;obtain ⟨T,hT⟩:∃T,T=comeT S cu cg X.now dir nm (dirZ mode dir):=⟨_,rfl⟩;obtain ⟨a,ha⟩:∃a,a=comeN S cu cg X.now dir nm (dirZ mode dir):=⟨_,rfl⟩;obtain ⟨x,hx⟩:∃x,x=comeE S cu cg X.now dir nm (dirZ mode dir):=⟨_,rfl⟩;have HS:Hid (∀(w':World) (y:Int),Ext w w'→p=y→y≠0→NoF w B g (preT p S T) X (preN p a) (preE p x) (.returned (.tuple #[.int .i64 0,.int .i64 y])) w'):=by
  show ∀(w':World) (y:Int),_;intro w' y hE hy h0;subst hy;exact noF_pre h hE h0
 have KP:Hid (∀w1,Ext w w1→Calls Tryz.prog 164 #[.pointer (some ⟨g.bF,0,none⟩),.agg #[.int .i64 cu,.int .i64 cg],.int .i64 dir,.string (bs nm),.agg #[.int .i64 ((dirZ mode dir)).no,.int .i64 ((dirZ mode dir)).dev,.int .i64 ((dirZ mode dir)).kind,.int .i64 ((dirZ mode dir)).mode,.int .i64 ((dirZ mode dir)).uid,.int .i64 ((dirZ mode dir)).gid,.int .i64 ((dirZ mode dir)).mtime,.int .i64 ((dirZ mode dir)).ctime,.int .i64 ((dirZ mode dir)).links,.int .i64 ((dirZ mode dir)).up,.string (bs ((dirZ mode dir)).data),.slice none ((dirZ mode dir)).ents.length 0]] w1 (NoF w1 B g T X a x)):=by
  show ∀w1,_;intro w1 hE;rw [hT,ha,hx];refine rcome_any B g S X cu cg dir nm (dirZ mode dir) none 0 w1 (h.ext hE) O hl1 ⟨.nil _ _ _,Nat.le_refl _,Nat.zero_le _,fun _=>rfl⟩ ?_ hnm;simp [dirZ,nodeZ]
 rw [←hp,←hT,←ha,←hx];have HP:=zH hp;have HE0:=zH E0;have hlw:=zH h;clear O hp E0 C0 hT ha hx;go_enter Tryz.func122,Tryz.ntmps122;go_upto_region 1 with fail;rw [←hW0];clear hW0
 by_cases c1:mode<0
 ·have t1:decide (mode<0)=true:=decide_eq_true c1
  have hE:Hid (p=1):=by show _=_;rw[HP.out];unfold dirP;rw[if_pos (.inl c1)]
  go_wp2_with fail;go_ret2;exact HS.out _ _ HE0.out hE.out (by decide)
 have t1:decide (mode<0)=false:=decide_eq_false c1
 by_cases c2:1023<mode
 ·have t2:decide (1023<mode)=true:=decide_eq_true c2
  have hE:Hid (p=1):=by show _=_;rw[HP.out];unfold dirP;rw[if_pos (.inr c2)]
  go_wp2_with fail;go_ret2;exact HS.out _ _ HE0.out hE.out (by decide)
 have t2:decide (1023<mode)=false:=decide_eq_false c2;have hE:Hid (p=0):=by show _=_;rw[HP.out];unfold dirP;rw[if_neg (by omega)]
 go_wp2_with fail;refine (KP.out _ HE0.out).mono ?_;rintro e w2 hr;obtain ⟨rfl,hD⟩:=noF_go (S:=S) HE0.out hr hE.out;clear hr;go_wp2_with fail;go_ret2;exact hD
theorem rfile_any (B:Nat) (g:GhF) (S:TreeD) (X:Xtra) (cu cg dir:Int) (nm:List UInt8) (mode:Int) (data:List UInt8) (w:World) (h:FAt w B g S X) (O:Ok S) (hl1:S.last≤100000) (hnm:nm.length≤1000000) (hd:data.length≤1000000000) :
  Calls Tryz.prog 124 #[.pointer (some ⟨g.bF,0,none⟩),.agg #[.int .i64 cu,.int .i64 cg],.int .i64 dir,.string (bs nm),.int .i64 mode,.string (bs data)] w
   (NoF w B g (preT (fileP mode data.length) S (comeT S cu cg X.now dir nm (fileZ mode data))) X (preN (fileP mode data.length) (comeN S cu cg X.now dir nm (fileZ mode data))) (preE (fileP mode data.length) (comeE S cu cg X.now dir nm (fileZ mode data)))):=by
 obtain ⟨W0,hW0⟩:∃W0,W0=w.alloc (.cells #[.int .i64 cu,.int .i64 cg] 27):=⟨_,rfl⟩;have E0:Ext w W0:=by rw[hW0];exact (Ext.refl _).alloc _
 have C0:Has W0 w.heap.size (.cells #[.int .i64 cu,.int .i64 cg] 27):=by rw[hW0];exact Has.new w _
 have x0:W0.cell? ⟨w.heap.size,0,none⟩=some (.int .i64 cu):=C0.cell 0;have x1:W0.cell? ⟨w.heap.size,1,none⟩=some (.int .i64 cg):=C0.cell 1;have xz:=C0.lt;obtain ⟨p,hp⟩:∃p,p=fileP mode data.length:=⟨_,rfl⟩;obtain ⟨T,hT⟩:∃T,T=comeT S cu cg X.now dir nm (fileZ mode data):=⟨_,rfl⟩;obtain ⟨a,ha⟩:∃a,a=comeN S cu cg X.now dir nm (fileZ mode data):=⟨_,rfl⟩;obtain ⟨x,hx⟩:∃x,x=comeE S cu cg X.now dir nm (fileZ mode data):=⟨_,rfl⟩;have HS:Hid (∀(w':World) (y:Int),Ext w w'→p=y→y≠0→NoF w B g (preT p S T) X (preN p a) (preE p x) (.returned (.tuple #[.int .i64 0,.int .i64 y])) w'):=by
  show ∀(w':World) (y:Int),_;intro w' y hE hy h0;subst hy;exact noF_pre h hE h0
 have KP:Hid (∀w1,Ext w w1→Calls Tryz.prog 164 #[.pointer (some ⟨g.bF,0,none⟩),.agg #[.int .i64 cu,.int .i64 cg],.int .i64 dir,.string (bs nm),.agg #[.int .i64 ((fileZ mode data)).no,.int .i64 ((fileZ mode data)).dev,.int .i64 ((fileZ mode data)).kind,.int .i64 ((fileZ mode data)).mode,.int .i64 ((fileZ mode data)).uid,.int .i64 ((fileZ mode data)).gid,.int .i64 ((fileZ mode data)).mtime,.int .i64 ((fileZ mode data)).ctime,.int .i64 ((fileZ mode data)).links,.int .i64 ((fileZ mode data)).up,.string (bs ((fileZ mode data)).data),.slice none ((fileZ mode data)).ents.length 0]] w1 (NoF w1 B g T X a x)):=by
  show ∀w1,_;intro w1 hE;rw [hT,ha,hx];refine rcome_any B g S X cu cg dir nm (fileZ mode data) none 0 w1 (h.ext hE) O hl1 ⟨.nil _ _ _,Nat.le_refl _,Nat.zero_le _,fun _=>rfl⟩ ?_ hnm;exact hd
 rw [←hp,←hT,←ha,←hx];have HP:=zH hp;have HE0:=zH E0;have hlw:=zH h;clear O hp E0 C0 hT ha hx;go_enter Tryz.func124,Tryz.ntmps124;go_upto_region 1 with fail;rw [←hW0];clear hW0;have hsz:((bs data).size:Int)=data.length:=by rw[bs_size]
 by_cases c1:mode<0
 ·have t1:decide (mode<0)=true:=decide_eq_true c1
  have hE:Hid (p=1):=by show _=_;rw[HP.out];unfold fileP;rw[if_pos (.inl c1)]
  go_wp2_with fail;go_ret2;exact HS.out _ _ HE0.out hE.out (by decide)
 have t1:decide (mode<0)=false:=decide_eq_false c1
 by_cases c2:1023<mode
 ·have t2:decide (1023<mode)=true:=decide_eq_true c2
  have hE:Hid (p=1):=by show _=_;rw[HP.out];unfold fileP;rw[if_pos (.inr c2)]
  go_wp2_with fail;go_ret2;exact HS.out _ _ HE0.out hE.out (by decide)
 have t2:decide (1023<mode)=false:=decide_eq_false c2
 by_cases c3:(1048576:Int)<data.length
 ·have t3:decide ((1048576:Int)<(data.length:Int))=true:=decide_eq_true c3
  have hE:Hid (p=3):=by show _=_;rw[HP.out];unfold fileP;rw[if_neg (by omega),if_pos c3]
  go_wp2_with fail;go_ret2;exact HS.out _ _ HE0.out hE.out (by decide)
 have t3:decide ((1048576:Int)<(data.length:Int))=false:=decide_eq_false c3;have hE:Hid (p=0):=by show _=_;rw[HP.out];unfold fileP;rw[if_neg (by omega),if_neg c3]
 go_wp2_with fail;refine (KP.out _ HE0.out).mono ?_;rintro e w2 hr;obtain ⟨rfl,hD⟩:=noF_go (S:=S) HE0.out hr hE.out;clear hr;go_wp2_with fail;go_ret2;exact hD
theorem rsym_any (B:Nat) (g:GhF) (S:TreeD) (X:Xtra) (cu cg dir:Int) (nm:List UInt8) (text:List UInt8) (w:World) (h:FAt w B g S X) (O:Ok S) (hl1:S.last≤100000) (hnm:nm.length≤1000000) (hd:text.length≤1000000) :
  Calls Tryz.prog 125 #[.pointer (some ⟨g.bF,0,none⟩),.agg #[.int .i64 cu,.int .i64 cg],.int .i64 dir,.string (bs nm),.string (bs text)] w
   (NoF w B g (preT (symP text) S (comeT S cu cg X.now dir nm (symZ text))) X (preN (symP text) (comeN S cu cg X.now dir nm (symZ text))) (preE (symP text) (comeE S cu cg X.now dir nm (symZ text)))):=by
 obtain ⟨W0,hW0⟩:∃W0,W0=w.alloc (.cells #[.int .i64 cu,.int .i64 cg] 27):=⟨_,rfl⟩;have E0:Ext w W0:=by rw[hW0];exact (Ext.refl _).alloc _
 have C0:Has W0 w.heap.size (.cells #[.int .i64 cu,.int .i64 cg] 27):=by rw[hW0];exact Has.new w _
 have x0:W0.cell? ⟨w.heap.size,0,none⟩=some (.int .i64 cu):=C0.cell 0;have x1:W0.cell? ⟨w.heap.size,1,none⟩=some (.int .i64 cg):=C0.cell 1;have xz:=C0.lt;obtain ⟨p,hp⟩:∃p,p=symP text:=⟨_,rfl⟩;obtain ⟨T,hT⟩:∃T,T=comeT S cu cg X.now dir nm (symZ text):=⟨_,rfl⟩;obtain ⟨a,ha⟩:∃a,a=comeN S cu cg X.now dir nm (symZ text):=⟨_,rfl⟩;obtain ⟨x,hx⟩:∃x,x=comeE S cu cg X.now dir nm (symZ text):=⟨_,rfl⟩;have HS:Hid (∀(w':World) (y:Int),Ext w w'→p=y→y≠0→NoF w B g (preT p S T) X (preN p a) (preE p x) (.returned (.tuple #[.int .i64 0,.int .i64 y])) w'):=by
  show ∀(w':World) (y:Int),_;intro w' y hE hy h0;subst hy;exact noF_pre h hE h0
 have KP:Hid (∀w1,Ext w w1→Calls Tryz.prog 164 #[.pointer (some ⟨g.bF,0,none⟩),.agg #[.int .i64 cu,.int .i64 cg],.int .i64 dir,.string (bs nm),.agg #[.int .i64 ((symZ text)).no,.int .i64 ((symZ text)).dev,.int .i64 ((symZ text)).kind,.int .i64 ((symZ text)).mode,.int .i64 ((symZ text)).uid,.int .i64 ((symZ text)).gid,.int .i64 ((symZ text)).mtime,.int .i64 ((symZ text)).ctime,.int .i64 ((symZ text)).links,.int .i64 ((symZ text)).up,.string (bs ((symZ text)).data),.slice none ((symZ text)).ents.length 0]] w1 (NoF w1 B g T X a x)):=by
  show ∀w1,_;intro w1 hE;rw [hT,ha,hx];refine rcome_any B g S X cu cg dir nm (symZ text) none 0 w1 (h.ext hE) O hl1 ⟨.nil _ _ _,Nat.le_refl _,Nat.zero_le _,fun _=>rfl⟩ ?_ hnm;show text.length≤_;omega
 rw [←hp,←hT,←ha,←hx];have HP:=zH hp;have HE0:=zH E0;have hlw:=zH h;clear O hp E0 C0 hT ha hx;have hh:Hid (∀w',Calls Tryz.prog 131 #[.string (bs text),.int .u8 0] w' (Ret w' (.bool (hasB text 0)))):=by
  show ∀w',_;intro w';have:=rhas_any (bs text) 0 0 rfl (by rw[bs_size];exact hd) w';rw [bs_list]at this;exact this
 by_cases c0:text=[]
 ·have hE:Hid (p=1):=by show _=_;rw[HP.out];unfold symP;rw[if_pos (.inl c0)]
  have hem:(bs text).toList.isEmpty=true:=by rw[bs_toList,c0];rfl
  clear c0;go_enter Tryz.func125,Tryz.ntmps125;go_upto_region 1 with fail;rw [←hW0];clear hW0;go_wp2_with fail;go_ret2;exact HS.out _ _ HE0.out hE.out (by decide)
 have hem:(bs text).toList.isEmpty=false:=by rw[bs_toList,List.isEmpty_eq_false_iff];exact c0
 have hsz:((bs text).size:Int)=text.length:=by rw[bs_size]
 have HC0:=zH c0;clear c0;go_enter Tryz.func125,Tryz.ntmps125;go_upto_region 1 with fail;rw [←hW0];clear hW0;go_wp2_with fail;refine (hh.out _).mono ?_;rintro e w1 ⟨rfl,b1⟩;obtain ⟨hb,hhb⟩:∃hb,hb=hasB text 0:=⟨_,rfl⟩;rw [←hhb];have HB:=zH hhb;have E1:=HE0.out.trans b1;have x0':w1.cell? ⟨w.heap.size,0,none⟩=some (.int .i64 cu):=(b1.cell xz).trans x0;have x1':w1.cell? ⟨w.heap.size,1,none⟩=some (.int .i64 cg):=(b1.cell xz).trans x1;have xz':w.heap.size<w1.heap.size:=by have:=b1.size;omega
 clear x0 x1 xz hhb;cases hb
 case true =>
  have hE:Hid (p=1):=by show _=_;rw[HP.out];unfold symP;rw[if_pos (.inr HB.out.symm)]
  go_wp2_with fail;go_ret2;exact HS.out _ _ E1 hE.out (by decide)
 by_cases c1:(4096:Int)<text.length
 ·have t1:decide ((4096:Int)<(text.length:Int))=true:=decide_eq_true c1
  have hE:Hid (p=13):=by show _=_;rw[HP.out];unfold symP;rw[if_neg (by rintro (h'|h');exact HC0.out h';rw[←HB.out]at h';cases h'),if_pos (by omega)]
  go_wp2_with fail;go_ret2;exact HS.out _ _ E1 hE.out (by decide)
 have t1:decide ((4096:Int)<(text.length:Int))=false:=decide_eq_false c1;have hE:Hid (p=0):=by show _=_;rw[HP.out];unfold symP;rw[if_neg (by rintro (h'|h');exact HC0.out h';rw[←HB.out]at h';cases h'),if_neg (by omega)]
 go_wp2_with fail;refine (KP.out _ E1).mono ?_;rintro e w2 hr;obtain ⟨rfl,hD⟩:=noF_go (S:=S) E1 hr hE.out;clear hr;go_wp2_with fail;go_ret2;exact hD
def ErF (w:World) (B:Nat) (g:GhF) (T:TreeD) (X:Xtra) (x:Int) (e:Ending) (w':World):Prop:=e=.returned (.int .i64 x)∧∃g2,FAt w' B g2 T X∧Only g.list w w'∧GhF.on g2 g w
theorem rhard_any (B:Nat) (g:GhF) (S:TreeD) (X:Xtra) (cu cg no dir:Int) (nm:List UInt8) (w:World) (h:FAt w B g S X) (O:Ok S) (hl1:S.last≤100000) (hnm:nm.length≤1000000) :
  Calls Tryz.prog 126 #[.pointer (some ⟨g.bF,0,none⟩),.agg #[.int .i64 cu,.int .i64 cg],.int .i64 no,.int .i64 dir,.string (bs nm)] w (ErF w B g (hardT S cu cg X.now no dir nm) X (hardE S cu cg no dir nm)):=by
 obtain ⟨W0,hW0⟩:∃W0,W0=w.alloc (.cells #[.int .i64 cu,.int .i64 cg] 27):=⟨_,rfl⟩;have E0:Ext w W0:=by rw[hW0];exact (Ext.refl _).alloc _
 have C0:Has W0 w.heap.size (.cells #[.int .i64 cu,.int .i64 cg] 27):=by rw[hW0];exact Has.new w _
 have HO:=zH O;have hcl:S.nodes.length≤100000:=by have:=O.live.count;omega
 have HCL:=zH hcl;obtain ⟨now,hnow⟩:∃now,now=X.now:=⟨_,rfl⟩;have hm:Hid (hardE S cu cg no dir nm=if ¬placeE S cu cg dir nm=0 then placeE S cu cg dir nm else if isN S.nodes no=false then 5 else if (getN S.nodes no).kind=1 then 4
  else if ¬findF (getN S.nodes dir).ents nm=0 then 7 else if ¬(getN S.nodes no).dev=(getN S.nodes dir).dev then 11 else if 1000≤(getN S.nodes no).links then 18 else 0):=by show _=_;rfl
 have hp:Hid (placeE S cu cg dir nm=0→placeN S cu cg dir nm=getN S.nodes dir∧isN S.nodes dir=true):=fun h0=>⟨placeN_zero h0,(placeE_zero h0).1⟩
 have HS:Hid (∀(w':World) (x:Int),Ext w w'→hardE S cu cg no dir nm=x→x≠0→ErF w B g (hardT S cu cg now no dir nm) X (hardE S cu cg no dir nm) (.returned (.int .i64 x)) w'):=by
  show ∀(w':World) (x:Int),_;intro w' x hE hx h0;rw [hx];refine ⟨rfl,g,?_,Only.of_ext hE,GhF.on_refl _ _⟩;unfold hardT;rw [if_neg (by rw[hx];exact h0)];exact h.ext hE
 have hnz:Hid (((getN S.nodes no).no == 0)=!isN S.nodes no):=by
  refine zH ?_
  cases hi:isN S.nodes no
  ·rw[(isN_false hi).1];rfl
  ·have h1:=(O.live.nos.2 _ (isN_true hi).2.2).1
   simp;omega
 rw [←hnow];have HNW:=zH hnow;have HE0:=zH E0;clear O hcl hnow;go_enter Tryz.func126,Tryz.ntmps126;go_upto_region 1 with fail;rw [←hW0];clear hW0;have x0:W0.cell? ⟨w.heap.size,0,none⟩=some (.int .i64 cu):=C0.cell 0;have x1:W0.cell? ⟨w.heap.size,1,none⟩=some (.int .i64 cg):=C0.cell 1;have xz:=C0.lt;go_wp2_with fail;refine (rplace_any B g S X cu cg dir nm _ (h.ext E0) (by have:=HCL.out;omega) HO.out.live.nos hnm).mono ?_;rintro e w2 ⟨A2,k2,rfl,ok2,b2⟩;obtain ⟨m,hmm⟩:∃m,m=placeN S cu cg dir nm:=⟨_,rfl⟩;obtain ⟨x,hx⟩:∃x,x=placeE S cu cg dir nm:=⟨_,rfl⟩;rw [←hmm]at ok2 hp;rw [←hx]at hm hp;rw [←hmm,←hx];obtain ⟨W3,hW3⟩:∃W3,W3=w2.alloc (.cells #[.int .i64 m.no,.int .i64 m.dev,.int .i64 m.kind,.int .i64 m.mode,.int .i64 m.uid,.int .i64 m.gid,.int .i64 m.mtime,.int .i64 m.ctime,.int .i64 m.links,.int .i64 m.up,.string (bs m.data),.slice A2 m.ents.length k2] 66):=⟨_,rfl⟩;obtain ⟨b13,hb13⟩:∃b,b=w2.heap.size:=⟨_,rfl⟩;have E23:Ext w2 W3:=by rw[hW3];exact (Ext.refl _).alloc _
 have M3:Has W3 b13 (.cells #[.int .i64 m.no,.int .i64 m.dev,.int .i64 m.kind,.int .i64 m.mode,.int .i64 m.uid,.int .i64 m.gid,.int .i64 m.mtime,.int .i64 m.ctime,.int .i64 m.links,.int .i64 m.up,.string (bs m.data),.slice A2 m.ents.length k2] 66):=by rw[hW3,hb13];exact Has.new _ _
 have E3:Ext w W3:=E0.trans (b2.trans E23);have ok3:=ok2.ext E23;have hb13w:w.heap.size≤b13:=by rw[hb13];exact (E0.trans b2).size
 clear x0 x1 xz hmm hx C0;go_upto_region 2 with fail;rw [←hW3];rw [←hb13];clear hW3 hb13;go_wp2_with fail;refine (rget_any B g S X no _ (h.ext E3) (by have:=HCL.out;omega) HO.out.live.nos).mono ?_;rintro e w4 ⟨A4,k4,rfl,ok4,b4⟩;obtain ⟨n,hn⟩:∃n,n=getN S.nodes no:=⟨_,rfl⟩;obtain ⟨i,hi⟩:∃i,i=isN S.nodes no:=⟨_,rfl⟩;have hlk:isN S.nodes no=true→1≤(getN S.nodes no).links∧(getN S.nodes no).links≤1000:=fun hi=>HO.out.links _ (isN_true hi).2.2
 rw [←hn,←hi]at hlk hnz;rw [←hn]at ok4 hm⊢;rw [←hi]at hm;have HLK:=zH hlk;obtain ⟨W5,hW5⟩:∃W5,W5=w4.alloc (.cells #[.int .i64 n.no,.int .i64 n.dev,.int .i64 n.kind,.int .i64 n.mode,.int .i64 n.uid,.int .i64 n.gid,.int .i64 n.mtime,.int .i64 n.ctime,.int .i64 n.links,.int .i64 n.up,.string (bs n.data),.slice A4 n.ents.length k4] 66):=⟨_,rfl⟩;obtain ⟨b15,hb15⟩:∃b,b=w4.heap.size:=⟨_,rfl⟩;have E45:Ext w4 W5:=by rw[hW5];exact (Ext.refl _).alloc _
 have N5:Has W5 b15 (.cells #[.int .i64 n.no,.int .i64 n.dev,.int .i64 n.kind,.int .i64 n.mode,.int .i64 n.uid,.int .i64 n.gid,.int .i64 n.mtime,.int .i64 n.ctime,.int .i64 n.links,.int .i64 n.up,.string (bs n.data),.slice A4 n.ents.length k4] 66):=by rw[hW5,hb15];exact Has.new _ _
 have E35:Ext W3 W5:=b4.trans E45;have M5:=M3.ext E35;have ok5:=ok3.ext E35;have okn5:=ok4.ext E45;have E5:=E3.trans E35;have hb15w:W3.heap.size≤b15:=by rw[hb15];exact b4.size
 have hbne:b13<b15:=by have:=M3.lt;omega
 have HNN:=zH hn;have HI:=zH hi;clear hn hi M3 ok3 ok4 E3 hlk;go_upto_region 3 with fail;rw [←hW5];rw [←hb15];clear hW5 hb15
 by_cases hx0:x=0
 case neg =>
  have t0:(x == 0)=false:=by simpa using hx0
  have t0b:(x != 0)=true:=by simpa using hx0
  have hE:Hid (hardE S cu cg no dir nm=x):=by show _=_;rw[hm.out,if_pos hx0]
  have HX:=zH hx0;clear hm hx0;go_wp2_with fail;go_ret;exact HS.out _ _ E5 hE.out HX.out
 have t0:(x == 0)=true:=by simpa using hx0
 have t0b:(x != 0)=false:=by simpa using hx0
 obtain ⟨hmg,hid⟩:=hp.out hx0;have hm2:Hid (hardE S cu cg no dir nm=if i=false then 5 else if n.kind=1 then 4 else if ¬findF m.ents nm=0 then 7 else if ¬n.dev=m.dev then 11 else if 1000≤n.links then 18 else 0):=by
  show _=_;rw[hm.out,if_neg (by simpa using hx0),←hmg]
 have HMG:=zH hmg;have hen:=HO.out.entsN dir;rw [←hmg]at hen;have HEN:=zH hen;have k0':W5.cell? ⟨b15,0,none⟩=some (.int .i64 n.no):=N5.cell 0;have k2':W5.cell? ⟨b15,2,none⟩=some (.int .i64 n.kind):=N5.cell 2;have kz:=N5.lt;clear hm hp hx0 hmg hid hen
 cases i
 ·have hE:Hid (hardE S cu cg no dir nm=5):=by show _=_;rw[hm2.out];rfl
  have tn:(n.no == 0)=true:=hnz.out;clear hm2;go_wp2_with fail;go_ret;exact HS.out _ _ E5 hE.out (by decide)
 have tn:(n.no == 0)=false:=hnz.out
 by_cases c1:n.kind=1
 ·have t1:(n.kind == 1)=true:=by simpa using c1
  have hE:Hid (hardE S cu cg no dir nm=4):=by show _=_;rw[hm2.out,if_neg (by decide),if_pos c1]
  clear hm2;go_wp2_with fail;go_ret;exact HS.out _ _ E5 hE.out (by decide)
 have t1:(n.kind == 1)=false:=by simpa using c1
 have k11:W5.cell? ⟨b13,11,none⟩=some (.slice A2 m.ents.length k2):=M5.cell 11;have kz2:=M5.lt;have HC1:=zH c1;clear c1;go_wp2_with fail;refine (rfind_any A2 m.ents k2 nm _ ok5.ents.ents (by have:=HEN.out.2;omega)).mono ?_;rintro e w6 ⟨rfl,b6⟩;obtain ⟨v,hv⟩:∃v,v=findF m.ents nm:=⟨_,rfl⟩;rw [←hv]at hm2;rw [←hv];have N6:=N5.ext b6;have M6:=M5.ext b6;have ok6:=ok5.ext b6;have okn6:=okn5.ext b6;have E6:=E5.trans b6;clear hv k2' kz k11 kz2 N5 M5 ok5 okn5
 by_cases c2:v=0
 case neg =>
  have t2:(v == 0)=false:=by simpa using c2
  have t2b:(v != 0)=true:=by simpa using c2
  have hE:Hid (hardE S cu cg no dir nm=7):=by show _=_;rw[hm2.out,if_neg (by decide),if_neg HC1.out,if_pos c2]
  clear hm2 c2;go_wp2_with fail;go_ret;exact HS.out _ _ E6 hE.out (by decide)
 have t2:(v == 0)=true:=by simpa using c2
 have t2b:(v != 0)=false:=by simpa using c2
 have y1:w6.cell? ⟨b15,1,none⟩=some (.int .i64 n.dev):=N6.cell 1;have y2:w6.cell? ⟨b13,1,none⟩=some (.int .i64 m.dev):=M6.cell 1;have y3:w6.cell? ⟨b15,8,none⟩=some (.int .i64 n.links):=N6.cell 8;have yz:=N6.lt;have yz2:=M6.lt;have HC2:=zH (show ¬¬v=0 by simpa using c2);clear c2
 by_cases c3:n.dev=m.dev
 case neg =>
  have t3:(n.dev == m.dev)=false:=by simpa using c3
  have t3b:(n.dev != m.dev)=true:=by simpa using c3
  have hE:Hid (hardE S cu cg no dir nm=11):=by show _=_;rw[hm2.out,if_neg (by decide),if_neg HC1.out,if_neg HC2.out,if_pos c3]
  clear hm2 c3;go_wp2_with fail;go_ret;exact HS.out _ _ E6 hE.out (by decide)
 have t3:(n.dev == m.dev)=true:=by simpa using c3
 have t3b:(n.dev != m.dev)=false:=by simpa using c3
 have HC3:=zH (show ¬¬n.dev=m.dev by simpa using c3);clear c3
 by_cases c4:1000≤n.links
 ·have t4:decide (1000≤n.links)=true:=decide_eq_true c4
  have hE:Hid (hardE S cu cg no dir nm=18):=by show _=_;rw[hm2.out,if_neg (by decide),if_neg HC1.out,if_neg HC2.out,if_neg HC3.out,if_pos c4]
  clear hm2 c4;go_wp2_with fail;go_ret;exact HS.out _ _ E6 hE.out (by decide)
 have t4:decide (1000≤n.links)=false:=decide_eq_false c4;have hE:Hid (hardE S cu cg no dir nm=0):=by show _=_;rw[hm2.out,if_neg (by decide),if_neg HC1.out,if_neg HC2.out,if_neg HC3.out,if_neg c4]
 have hl1:=(HLK.out (by trivial)).1;have y4:IntKind.i64.wrap (n.links+1)=n.links+1:=wrap_i64_in (by omega) (by omega);have yf:∀i,w6.frozen? ⟨b15,i,none⟩=false:=fun i=>(N6.free i).trans (by simp)
 have y7:w6.cell? ⟨b15,7,none⟩=some (.int .i64 n.ctime):=N6.cell 7;have nw:w6.cell? ⟨g.bF,3,none⟩=some (.int .i64 now):=by rw[HNW.out];obtain⟨_,_,_,k,_⟩:=h.ext E6;exact k.cell 3
 have nz:=(h.ext E6).lt.1;have hlt:=h.lt;have hs0:=HE0.out.size;have hs1:=E35.size;have hbF:g.bF<b15:=by omega
 have nbf:(b15=g.bF)=False:=eq_false (by omega);have nbf2:(g.bF=b15)=False:=eq_false (by omega);obtain ⟨n',hn'⟩:∃n':NodeD,n'={n with links:=n.links+1,ctime:=now}:=⟨_,rfl⟩;have HN':=zH hn';clear hm2 c4 hl1 hn';go_upto_region 17 with fail;obtain ⟨V,hV⟩:∃V,V=(w6.setCell ⟨b15,8,none⟩ (.int .i64 (n.links+1))).setCell ⟨b15,7,none⟩ (.int .i64 now):=⟨_,rfl⟩;rw [←hV];have NV:Has V b15 (.cells #[.int .i64 (n').no,.int .i64 (n').dev,.int .i64 (n').kind,.int .i64 (n').mode,.int .i64 (n').uid,.int .i64 (n').gid,.int .i64 (n').mtime,.int .i64 (n').ctime,.int .i64 (n').links,.int .i64 (n').up,.string (bs (n').data),.slice A4 (n').ents.length k4] 66):=by rw[hV,HN'.out];exact (N6.setCell 8 _).setCell 7 _
 have OV:Only [b15] w6 V:=by rw[hV];exact (Only.setCell _ _ _ _).then (Only.setCell _ _ _ _)
 have haP:Apart w6 B [b15]:=by
  intro b hb;rw [List.mem_singleton]at hb;subst hb;exact ⟨by have:=h.1;omega,N6.noTag (by decide)⟩
 have EV:Ext w V:=OV.after E6 (by intro b hb;rw[List.mem_singleton]at hb;omega);have KV:=h.ext EV;have MV:=OV.has M6 (by rw[List.mem_singleton];omega);have okV:=ok6.only OV haP;have oknV:NodeOk V B n' A4 k4:=(okn6.only OV haP).same (by rw[HN'.out]);clear hV y1 y2 y3 y4 yf y7 yz yz2 nw nz nbf nbf2 N6 M6 ok6 okn6;go_wp2_with (refine wpList_load_node rfl _ rfl b15 n' A4 k4 rfl NV ?_);refine (rset_any B g S X n' A4 k4 _ KV (by have:=HCL.out;omega) HO.out.live.nos oknV).mono ?_;rintro e w7 ⟨rfl,K7,O7⟩;have hb13g:b13∉g.list:=by
  simp only[GhF.list,List.mem_cons,List.not_mem_nil,or_false];omega
 have M7:=O7.has MV hb13g;have ok7:=okV.only O7 KV.apart;have Ow7:Only g.list w w7:=Only.pre EV O7;obtain ⟨T,hT⟩:∃T,T=setT S n':=⟨_,rfl⟩;rw [←hT]at K7;have hTu:NosUp T.nodes T.last:=by rw[hT];exact HO.out.live.nos.set _
 have hTc:T.nodes.length≤1000000:=by rw[hT];show (setN _ _).length≤_;rw[setN_len];have:=HCL.out;omega
 have HT:=zH hT;have k11:w7.cell? ⟨b13,11,none⟩=some (.slice A2 m.ents.length k2):=M7.cell 11;have kz:=M7.lt;clear hT;go_wp2_with fail;refine (rput_any A2 m.ents k2 (nm,no) _ ok7.ents.ents (by have:=HEN.out.2;omega)).mono ?_;rintro e w8 ⟨v8,rfl,hown,b8'⟩;obtain ⟨A8,c8,rfl,q1,q2,q3,q4⟩:=hown.entsT (B:=B);obtain ⟨L8,hL8⟩:∃L,L=putF m.ents (nm,no):=⟨_,rfl⟩;rw [←hL8]at q1 q3⊢;have KTT:Hid (Calls Tryz.prog 166 #[.pointer (some ⟨g.bF,0,none⟩),.int .i64 dir,.slice A8 L8.length c8] w8 (TouchF w8 B g (touchT T dir X.now L8) X)):=rtouch_any B g T X dir A8 L8 c8 w8 (K7.ext b8') hTc hTu q3 q1 q2 q4;have HL8:=zH hL8;clear k11 kz hown q1 q2 q3 q4 hL8;go_wp2_with fail;refine KTT.out.mono ?_;rintro e w9 ⟨rfl,K9,O9⟩;go_wp2_with fail;go_ret;rw [hE.out];have e3:hardT S cu cg now no dir nm=touchT T dir X.now L8:=by
  unfold hardT hardN;rw [if_pos hE.out,HT.out,HL8.out,HN'.out,HNN.out,HMG.out,HNW.out]
 exact ⟨rfl,g,by rw[e3];exact K9,(Ow7.ext b8').then O9,GhF.on_refl _ _⟩
attribute [local irreducible] wpLexE wpQuiet
attribute [local go_sem] changeUpon
end Go.Proofs.YtpibnfdolojpcaaGreat
namespace Go.Proofs.YtpibnfdolojpcaaGreat
open Go.ChangeShapes Go.WideShapes Go.ChangeAt Go.RowKit
def NoEnts (S:TreeD):Prop:=∀n∈S.nodes,n.kind≠1→n.ents=[]
attribute [local irreducible] wpQuiet
end Go.Proofs.YtpibnfdolojpcaaGreat
