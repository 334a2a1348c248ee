import Derived.Test.YtpibnfdolojpcaaGreatBunC
import Derived.Test.YtpibnfdolojpcaaGreatBunD
import Derived.Test.YtpibnfdolojpcaaGreatBunF
import Derived.Test.YtpibnfdolojpcaaGreatBunE
set_option maxHeartbeats 4000000
set_option maxRecDepth 100000
namespace Go.Proofs.YtpibnfdolojpcaaGreat
open Go
section
variable {P:Program} {ops:Array Oper} {md:Region.Mode} {E:Nat→Sem Next→Value→Prop}
def yieldsE (ops:Array Oper) (E:Nat→Sem Next→Value→Prop) (i:Nat) (o:Oper) (v:Value) (a:Act):Prop:=
 (Region.wanted o (yielded ops a.tmps)=true∧E i (execOp a.eval o) v)∨(Region.wanted o (yielded ops a.tmps)=false∧v=undef)
def eOp (ops:Array Oper) (E:Nat→Sem Next→Value→Prop) (i:Nat) (K:Act→Prop) (a:Act):Prop:=
 match ops[i]? with
 | none=>K a
 | some o=>if Region.wanted o (yielded ops a.tmps) then ∃v,E i (execOp a.eval o) v∧K (a.put o.dst v) else K (a.put o.dst undef)
theorem eOp_mono {i:Nat} {a:Act} {K K':Act→Prop} (h:∀a,K a→K' a) (hh:eOp ops E i K a):eOp ops E i K' a:=by
 unfold eOp at *;split
 ·rename_i ho;rw[ho]at hh;exact h _ hh
 ·rename_i o ho
  rw [ho]at hh;dsimp only at hh;split
  ·rename_i hw;rw[if_pos hw]at hh;obtain⟨v,h1,h2⟩:=hh;exact⟨v,h1,h _ h2⟩
  ·rename_i hw;rw[if_neg hw]at hh;exact h _ hh
theorem eOp_of {i:Nat} {o:Oper} {v:Value} {a:Act} (hi:ops[i]?=some o) (hy:yieldsE ops E i o v a) {K:Act→Prop} (h:K (a.put o.dst v)):eOp ops E i K a:=by
 unfold eOp;rw [hi];dsimp only;rcases hy with⟨hw,hv⟩|⟨hw,rfl⟩
 ·rw[if_pos hw];exact⟨v,hv,h⟩
 ·rw[if_neg (by rw[hw];decide)];exact h
theorem yields_of_eOp {i:Nat} {o:Oper} {a:Act} {K:Act→Prop} (hi:ops[i]?=some o) (h:eOp ops E i K a):∃v,yieldsE ops E i o v a∧K (a.put o.dst v):=by
 unfold eOp at h;rw [hi]at h;dsimp only at h
 by_cases hw:Region.wanted o (yielded ops a.tmps)=true
 ·rw[if_pos hw]at h;obtain⟨v,h1,h2⟩:=h;exact⟨v,.inl ⟨hw,h1⟩,h2⟩
 ·rw[if_neg hw]at h;exact⟨undef,.inr ⟨by simpa using hw,rfl⟩,h⟩
theorem yieldsE_same {i:Nat} {o:Oper} {v:Value} {a a':Act} (hy:yieldsE ops E i o v a) (he:execOp a'.eval o=execOp a.eval o) (hw:Region.wanted o (yielded ops a'.tmps)=Region.wanted o (yielded ops a.tmps)):yieldsE ops E i o v a':=by
 unfold yieldsE at *;rw [he,hw];exact hy
theorem eOp_put {i j:Nat} {oi oj:Oper} {v:Value} (hj:ops[j]?=some oj) (hap:oi.apart ops oj=true)
  (hsi:∀cs b,oi.op≠.select cs b) (hsj:∀cs b,oj.op≠.select cs b) {K:Act→Prop} {a:Act}
  (hy:yieldsE ops E i oi v a) (h:eOp ops E j K (a.put oi.dst v)):eOp ops E j (fun a'=>yieldsE ops E i oi v a'∧K (a'.put oi.dst v)) a:=by
 obtain ⟨h1,h2,h3⟩:=Oper.apart_spec hap;have keep:∀(a:Act),yieldsE ops E i oi v a→∀u,yieldsE ops E i oi v (a.put oj.dst u):=fun a hy u =>
  yieldsE_same hy (execOp_put oi hsi a oj.dst u h3) (wanted_put oi a oj.dst u h3)
 unfold eOp at *;rw [hj]at h⊢;dsimp only at h⊢;rw [wanted_put oj a oi.dst v h1,execOp_put oj hsj a oi.dst v h1]at h;split
 ·rename_i hw
  rw [if_pos hw]at h;obtain ⟨u,hu,hn⟩:=h;exact ⟨u,hu,keep a hy u,by rw[←Act.put_comm a v u h2];exact hn⟩
 ·rename_i hw
  rw [if_neg hw]at h;exact ⟨keep a hy _,by rw[←Act.put_comm a v undef h2];exact h⟩
def wpAnyE (md:Region.Mode) (ops:Array Oper) (E:Nat→Sem Next→Value→Prop) (ks:List Nat) (Q:Act→Prop):Nat→Array Bool→Act→Prop
 | 0,listed,a=>Region.ready md ops listed=[]∧(∀k∈ks,listed.getD k false=true)∧Q a
 | f+1,listed,a=>Region.ready md ops listed≠[]∧∀i∈Region.ready md ops listed,eOp ops E i (wpAnyE md ops E ks Q f (listed.setIfInBounds i true)) a
theorem wpAnyE_first {ks:List Nat} {Q:Act→Prop} {i:Nat} {oi:Oper} {v:Value} (hi:ops[i]?=some oi) (hsel:∀(j:Nat) (o:Oper) cs b,ops[j]?=some o→o.op≠.select cs b) :
  ∀ (fuel:Nat) (listed:Array Bool) (a:Act),
   (∀j oj,ops[j]?=some oj→j≠i→listed.getD j true=false→(∀e∈oj.after,Region.binds md e=true→e.on≠i)→oi.apart ops oj=true) →
   i∈Region.ready md ops listed→yieldsE ops E i oi v a →
   wpAnyE md ops E ks Q fuel (listed.setIfInBounds i true) (a.put oi.dst v)→wpAnyE md ops E ks Q (fuel+1) listed a:=by
 intro fuel
 induction fuel with
 | zero =>
  intro listed a _ hr hy H;refine ⟨fun h=>(by rw[h]at hr;cases hr),fun j hj=>?_⟩
  by_cases hji:j=i
  ·subst hji;exact eOp_of hi hy H
  ·have:=ready_mono hj hji
   rw [H.1]at this
   cases this
 | succ fuel ih =>
  intro listed a hfree hr hy H;refine ⟨fun h=>(by rw[h]at hr;cases hr),fun j hj=>?_⟩
  by_cases hji:j=i
  ·subst hji;exact eOp_of hi hy H
  ·have h1:=H.2 j (ready_mono hj hji)
   obtain ⟨hjun,oj,hoj,hall⟩:=mem_ready.1 hj;have hnot:∀e∈oj.after,Region.binds md e=true→e.on≠i:=fun e he hb heq=>by
    have h1:=hall e he hb;have h0:=(mem_ready.1 hr).1;rw [heq]at h1;rcases Nat.lt_or_ge i listed.size with h'|h'
    ·simp[h']at h0 h1;rw[h0]at h1;cases h1
    ·simp[Array.getElem?_eq_none h']at h1
   have h2:=eOp_put hoj (hfree j oj hoj hji hjun hnot) (fun cs b=>hsel i oi cs b hi) (fun cs b=>hsel j oj cs b hoj) hy h1;have hfree':∀k ok,ops[k]?=some ok→k≠i→(listed.setIfInBounds j true).getD k true=false →
     (∀e∈ok.after,Region.binds md e=true→e.on≠i)→oi.apart ops ok=true:=fun k ok hk hki hun hno=>by
    refine hfree k ok hk hki ?_ hno
    by_cases hjk:j=k
    ·subst hjk;exact hjun
    ·rw[getD_set_ne true hjk]at hun;exact hun
   refine eOp_mono (fun a' h3=>ih (listed.setIfInBounds j true) a' hfree' (ready_mono hr (Ne.symm hji)) h3.1 ?_) h2;rw [Array.setIfInBounds_comm _ _ hji];exact h3.2
def wpLexE (ops:Array Oper) (E:Nat→Sem Next→Value→Prop) (Q:Act→Prop):List Oper→Nat→Act→Prop
 | [],_,a=>Q a
 | o::rest,k,a=>if Region.wanted o (yielded ops a.tmps) then ∃v,E k (execOp a.eval o) v∧wpLexE ops E Q rest (k+1) (a.put o.dst v) else wpLexE ops E Q rest (k+1) (a.put o.dst undef)
theorem wpAnyE_lex {ks:List Nat} {Q:Act→Prop} (hs:Region.noSelect ops=true) (hks:∀k∈ks,k<ops.size):∀(l:List Oper) (k:Nat) (listed:Array Bool) (a:Act),(∀j,l[j]?=ops[k+j]?) →
  (∀j,j<k→j<ops.size→listed.getD j false=true)→listed.size=ops.size→ops.size≤k+l.length→Region.lexFrom md ops l.length k listed=true→wpLexE ops E Q l k a→wpAnyE md ops E ks Q l.length listed a
 | [],k,listed,a,_,hdone,_,hm,hB,h=>⟨by simpa [Region.lexFrom]using hB,fun j hj=>hdone j (by have:=hks j hj;simp at hm;omega) (hks j hj),h⟩
 | o :: l,k,listed,a,hl,hdone,hsz,hm,hB,h=>by
  have h0:ops[k]?=some o:=by simpa using (hl 0).symm
  simp only[List.length_cons,Region.lexFrom,Bool.and_eq_true]at hB;obtain ⟨⟨hr,hf⟩,hB'⟩:=hB;have hst:eOp ops E k (wpLexE ops E Q l (k+1)) a:=by unfold eOp;rw[h0];exact h
  obtain ⟨v,hy,hK⟩:=yields_of_eOp h0 hst;refine wpAnyE_first h0 (Region.noSelect_spec hs) l.length listed a (Region.free_spec h0 hf) (by simpa using hr) hy
   (wpAnyE_lex hs hks l (k+1) _ _ (fun j=>by have:=hl (j+1);simpa [Nat.add_assoc,Nat.add_comm 1 j]using this) ?_ (by simpa using hsz) (by simp only[List.length_cons]at hm;omega) hB' hK)
  intro j hj hjs
  by_cases e:k=j
  ·subst e
   have:k<listed.size:=by omega
   simp [this]
  ·rw[getD_set_ne false e];exact hdone j (by omega) hjs
end
def placeOf:List Nat→Nat→Option Nat
 | [],_=>none
 | k::ks,i=>if k=i then some 0 else (placeOf ks i).map (·+1)
theorem placeOf_some:∀{ks:List Nat} {i t:Nat},placeOf ks i=some t→ks[t]?=some i
 | k :: ks,i,t,h=>by
  unfold placeOf at h;split at h
  ·rename_i e;injection h with h;subst h;subst e;rfl
  ·cases hp:placeOf ks i with
   | none=>rw[hp]at h;cases h
   | some s =>
    rw [hp]at h;injection h with h;subst h;simpa using placeOf_some hp
theorem placeOf_none:∀{ks:List Nat} {i:Nat},placeOf ks i=none→i∉ks
 | [],_,_=>by simp
 | k :: ks,i,h=>by
  unfold placeOf at h;split at h
  ·cases h
  ·rename_i e
   cases hp:placeOf ks i with
   | none=>rw[List.mem_cons,not_or];exact⟨fun x=>e x.symm,placeOf_none hp⟩
   | some s=>rw[hp]at h;cases h
structure Hp (Ph:Nat→World→Prop) where
 j : Nat
 w : World
 h : Ph j w
structure Wc (C:World→Prop) where
 w : World
 h : C w
theorem Hp.all {Ph:Nat→World→Prop} {T:World→Prop} (h:∀j w,Ph j w→T w):∀u:Hp Ph,T u.w:=fun u=>h u.j u.w u.h
def changeUpon (P:Program) (C:World→Prop) (v:Value):Result Next→Prop
 | .ok (.value u) w'=>u=v∧C w'
 | .ok .skip w'=>v=undef∧C w'
 | .ok (.enter f args) w'=>Calls P f args w' (fun e w''=>e=.returned v∧C w'')
 | _=>False
def phE (P:Program) (Ph:Nat→World→Prop) (ks:List Nat) (i:Nat) (x:Sem Next) (v:Value):Prop:=
 match placeOf ks i with
 | some j=>∀u:Wc (Ph j),changeUpon P (Ph (j+1)) v (x.run P u.w)
 | none=>∀u:Hp Ph,Oper.quietUpon P (Ph u.j) u.w v (x.run P u.w)
theorem wp_of_quietUpon {P:Program} {o:Oper} {a:Act} {v:Value} {w:World} {C:World→Prop} {K':Act→World→Prop} {Q':Exit→Act→World→Prop} (h1:Oper.quietUpon P C w v ((execOp a.eval o).run P w)) (hC:C w) (hK:∀w'',C w''→K' (a.put o.dst v) w''):o.wp P a w K' Q':=by
 unfold Oper.wp
 generalize (execOp a.eval o).run P w=r at *
 cases r with
 | ok n w' =>
  cases n<;>simp only[Oper.quietUpon]at h1<;>simp only[Oper.upon]
  case value u=>obtain⟨e1,e2⟩:=h1;rw[e1,e2];exact hK _ hC
  case skip=>obtain⟨e1,e2⟩:=h1;rw[e1,←e2];exact hK _ hC
  case enter f args =>
   obtain ⟨e1,hc⟩:=h1;rw [e1];exact hc.mono fun e w'' ⟨he,hw''⟩=>by subst he;exact hK _ hw''
 | halt x w'=>simp only[Oper.quietUpon]at h1
theorem wp_of_changeUpon {P:Program} {o:Oper} {a:Act} {v:Value} {w:World} {C:World→Prop} {K':Act→World→Prop} {Q':Exit→Act→World→Prop} (h1:changeUpon P C v ((execOp a.eval o).run P w)) (hK:∀w'',C w''→K' (a.put o.dst v) w''):o.wp P a w K' Q':=by
 unfold Oper.wp
 generalize (execOp a.eval o).run P w=r at *
 cases r with
 | ok n w' =>
  cases n<;>simp only[changeUpon]at h1<;>simp only[Oper.upon]
  case value u=>obtain⟨e1,e2⟩:=h1;rw[e1];exact hK _ e2
  case skip=>obtain⟨e1,e2⟩:=h1;rw[←e1];exact hK _ e2
  case enter f args=>exact h1.mono fun e w'' ⟨he,hw''⟩=>by subst he;exact hK _ hw''
 | halt x w'=>simp only[changeUpon]at h1
theorem wpAny_of_E {P:Program} {ops:Array Oper} {md:Region.Mode} {Ph:Nat→World→Prop} {ks:List Nat} {Q:Act→Prop} {Q':Exit→Act→World→Prop}
  (hch:∀t k k',ks[t]?=some k→ks[t+1]?=some k'→∃o,ops[k']?=some o∧∃e∈o.after,Region.binds md e=true∧e.on=k)
  (hnd:ks.Nodup) (hg:∀k∈ks,∃o,ops[k]?=some o∧o.guard=none) (hQ:∀a w,Ph ks.length w→Q a→Q' .normal a w) :
  ∀ (f:Nat) (listed:Array Bool) (a:Act) (w:World) (j:Nat),j≤ks.length→(∀t k,ks[t]?=some k→listed.getD k false=decide (t<j))→(∀k∈ks,k<listed.size)→Ph j w →
   wpAnyE md ops (phE P Ph ks) ks Q f listed a→wpAny P md ops Q' f listed a w
 | 0, listed,a,w,j,hj,hl,_,hw,⟨h1,h2,h3⟩=>by
  refine ⟨h1,hQ a w ?_ h3⟩;rcases Nat.lt_or_ge j ks.length with g|g
  ·have e:ks[j]?=some ks[j]:=List.getElem?_eq_getElem g
   have h4:=hl j _ e;rw [h2 _ (List.getElem_mem g)]at h4;simp at h4
  ·have:j=ks.length:=by omega
   rw [←this];exact hw
 | f + 1, listed,a,w,j,hj,hl,hsz,hw,⟨hne,hall⟩=>by
  refine ⟨fun h0=>absurd h0 hne,fun i hi=>?_⟩;have hr:=hall i hi;obtain ⟨hun,o,ho,hwait⟩:=mem_ready.1 hi;have ih:=wpAny_of_E (P:=P) hch hnd hg hQ f;unfold eOp at hr;unfold wpOp;rw [ho]at hr⊢;dsimp only at hr⊢
  cases hp:placeOf ks i with
  | some t =>
   have hk:=placeOf_some hp;have hki:i∈ks:=List.mem_of_getElem? hk;have hlk:=hl t i hk;have hun2:listed.getD i false=false:=by
    have:=hsz i hki;simp [this]at hun⊢;exact hun
   rw [hun2]at hlk;have htj:¬t<j:=by simpa using hlk.symm
   have hjt:t=j:=by
    cases t with
    | zero=>omega
    | succ s =>
     have hsl:s+1<ks.length:=(List.getElem?_eq_some_iff.1 hk).1;have e:ks[s]?=some ks[s]:=List.getElem?_eq_getElem (by omega);obtain ⟨o2,ho2,ed,he1,he2,he3⟩:=hch s _ _ e hk;rw [ho]at ho2;injection ho2 with ho2;subst ho2;have h5:=hwait ed he1 he2;rw [he3,hl s _ e]at h5;have:s<j:=by simpa using h5
     omega
   subst hjt;obtain ⟨og,hog,hgn⟩:=hg i hki;rw [ho]at hog;injection hog with hog;subst hog;have hwn:Region.wanted o (yielded ops a.tmps)=true:=by unfold Region.wanted;rw[hgn]
   rw [if_pos hwn]at hr⊢;obtain ⟨v,h1,h2⟩:=hr;unfold phE at h1;rw [hp]at h1
   left
   have htl:t<ks.length:=(List.getElem?_eq_some_iff.1 hk).1;refine wp_of_changeUpon (h1 ⟨w,hw⟩) fun w'' hw''=>ih _ _ w'' (t+1) htl (fun s k hs=>?_) (fun k hk2=>by simpa using hsz k hk2) hw'' h2
   by_cases e:i=k
   ·subst e
    have:s=t:=by
     have h6:=List.getElem?_eq_some_iff.1 hs;have h7:=List.getElem?_eq_some_iff.1 hk;obtain ⟨a1,a2⟩:=h6;obtain ⟨b1,b2⟩:=h7;exact (List.getElem_inj hnd).1 (a2.trans b2.symm)
    subst this;have:=hsz i hki;simp [this]
   ·rw [getD_set_ne false e,hl s k hs]
    have:s≠t:=fun e2=>by
     subst e2;rw [hk]at hs;injection hs with hs;exact e hs
    simp;omega
  | none =>
   have hki:=placeOf_none hp;have hl':∀t k,ks[t]?=some k→(listed.setIfInBounds i true).getD k false=decide (t<j):=fun t k hk=>by
    have:i≠k:=fun e=>hki (by rw[e];exact List.mem_of_getElem? hk)
    rw [getD_set_ne false this];exact hl t k hk
   have hsz':∀k∈ks,k<(listed.setIfInBounds i true).size:=fun k hk2=>by simpa using hsz k hk2
   split
   ·rename_i hwn
    rw [if_pos hwn]at hr;obtain ⟨v,h1,h2⟩:=hr;unfold phE at h1;rw [hp]at h1
    left
    exact wp_of_quietUpon (h1 ⟨j,w,hw⟩) hw fun w'' hw''=>ih _ _ w'' j hj hl' hsz' hw'' h2
   ·rename_i hwn
    rw [if_neg hwn]at hr;exact ih _ _ w j hj hl' hsz' hw hr
def chainB (l:List Oper):List Nat→Bool
 | []=>true
 | [k]=>(match l[k]? with
  | some o=>o.guard == none
  | none=>false)
 | k :: k2::ks=>(match l[k]? with
  | some o=>o.guard == none
  | none=>false)&&(decide (k<k2)&&(match l[k2]? with
   | some o2=>o2.after.any (fun e=>Region.binds .any e&&e.on == k)
   | none=>false))&&chainB l (k2::ks)
theorem chainB_guard {l:List Oper}:∀{ks:List Nat},chainB l ks=true→∀k∈ks,∃o,l[k]?=some o∧o.guard=none
 | [],_,_,h=>by cases h
 | [k],h,x,hx=>by
  rw [List.mem_singleton]at hx;subst hx;unfold chainB at h
  cases ho:l[x]? with
  | none=>rw[ho]at h;cases h
  | some o=>rw[ho]at h;exact⟨o,rfl,by simpa using h⟩
 | k :: k2::ks,h,x,hx=>by
  unfold chainB at h;simp only[Bool.and_eq_true]at h;obtain ⟨⟨h1,_⟩,h3⟩:=h;rcases List.mem_cons.1 hx with rfl|hx
  ·cases ho:l[x]? with
   | none=>rw[ho]at h1;cases h1
   | some o=>rw[ho]at h1;exact⟨o,rfl,by simpa using h1⟩
  ·exact chainB_guard h3 x hx
theorem chainB_after {l:List Oper}:∀{ks:List Nat},chainB l ks=true→∀t k k',ks[t]?=some k→ks[t+1]?=some k'→k<k'∧∃o,l[k']?=some o∧∃e∈o.after,Region.binds .any e=true∧e.on=k
 | [],_,t,k,k',h,_=>by simp at h
 | [x],_,t,k,k',_,h=>by simp at h
 | x :: y::ks,h,t,k,k',h1,h2=>by
  unfold chainB at h;simp only[Bool.and_eq_true,decide_eq_true_eq]at h;obtain ⟨⟨_,g1,g2⟩,g3⟩:=h
  cases t with
  | zero =>
   simp at h1 h2;subst h1;subst h2;refine ⟨g1,?_⟩
   cases ho:l[y]? with
   | none=>rw[ho]at g2;cases g2
   | some o =>
    rw [ho]at g2;simp only[Array.any_eq_true',Bool.and_eq_true,beq_iff_eq]at g2;obtain ⟨e,a1,a2,a3⟩:=g2;exact ⟨o,rfl,e,a1,a2,a3⟩
  | succ t=>exact chainB_after g3 t k k' (by simpa using h1) (by simpa using h2)
theorem chainB_up {l:List Oper} {ks:List Nat} (h:chainB l ks=true):ks.Pairwise (· < ·):=by
 induction ks with
 | nil=>exact List.Pairwise.nil
 | cons k ks ih =>
  have h2:chainB l ks=true:=by
   cases ks with
   | nil=>rfl
   | cons k2 ks=>unfold chainB at h;simp only[Bool.and_eq_true]at h;exact h.2
  have hp:=ih h2;refine List.pairwise_cons.2 ⟨fun x hx=>?_,hp⟩
  cases ks with
  | nil=>cases hx
  | cons k2 ks =>
   have h0:=(chainB_after h 0 k k2 rfl rfl).1;rcases List.mem_cons.1 hx with rfl|hx
   ·exact h0
   ·have:=(List.pairwise_cons.1 hp).1 x hx
    omega
theorem wp_region_phase {P:Program} {id:Nat} {Q:Exit→Act→World→Prop} {a:Act} {w:World} {l:List Oper} (Ph:Nat→World→Prop) (ks:List Nat)
  (hm:P.follows .mixedOrders=true) (hB:Region.lexB .any l.toArray=true) (hc:chainB l ks=true) (hV:Ph 0 w.drew)
  (h:wpLexE l.toArray (phE P Ph ks) (fun a'=>∀w',Ph ks.length w'→Q .normal a' w') l 0 a):(Code.region id l.toArray true).wp P Q a w:=by
 simp only[Region.lexB,Bool.and_eq_true]at hB;have hgd:=chainB_guard hc;have hsz:∀k∈ks,k<l.toArray.size:=fun k hk=>by
  obtain ⟨o,ho,_⟩:=hgd k hk;simpa using (List.getElem?_eq_some_iff.1 ho).1
 refine wp_region_any hm ?_;refine wpAny_of_E (P:=P) (Ph:=Ph) (ks:=ks) (Q:=fun a'=>∀w',Ph ks.length w'→Q .normal a' w') (fun t k k' h1 h2=>?_) ((chainB_up hc).imp (fun h=>Nat.ne_of_lt h)) (fun k hk=>?_) (fun a w h1 h2=>h2 w h1) _ _ a w.drew 0 (Nat.zero_le _) (fun t k hk=>?_) (fun k hk=>?_) hV ?_
 ·obtain ⟨o,ho,he⟩:=(chainB_after hc t k k' h1 h2).2
  exact ⟨o,by simpa using ho,he⟩
 ·obtain ⟨o,ho,hgn⟩:=hgd k hk
  exact ⟨o,by simpa using ho,hgn⟩
 ·have:=hsz k (List.mem_of_getElem? hk)
  simp at this;simp [this]
 ·simpa using hsz k hk
 ·have:=wpAnyE_lex (md:=.any) (ks:=ks) hB.1 hsz l 0 (Array.replicate l.toArray.size false) a (by simp) (fun j hj=>by omega) (by simp) (by simp) (by simpa using hB.2) h
  simpa using this
section
variable {P:Program} {ops:Array Oper} {Ph:Nat→World→Prop} {ks:List Nat} {Q:Act→Prop} {a:Act}
theorem wpLexE_nil {E:Nat→Sem Next→Value→Prop} {k:Nat} (h:Q a):wpLexE ops E Q [] k a:=h
theorem wpLexE_plain {o:Oper} {rest:List Oper} {k:Nat} (hp:placeOf ks k=none)
  (h:∀K:Act→Prop,(∀a,wpLexE ops (phE P Ph ks) Q rest (k+1) a→K a)→if Region.wanted o (yielded ops a.tmps) then ∃v,(∀u:Hp Ph,o.quietAt P a (Ph u.j) u.w v)∧K (a.put o.dst v) else K (a.put o.dst undef)):wpLexE ops (phE P Ph ks) Q (o::rest) k a:=by
 unfold wpLexE;have:=h _ (fun _ h=>h);unfold phE;rw [hp];exact this
theorem wpLexE_change {o:Oper} {rest:List Oper} {k:Nat} (j:Nat) (hp:placeOf ks k=some j) (hg:o.guard=none)
  (h:∀K:Act→Prop,(∀a,wpLexE ops (phE P Ph ks) Q rest (k+1) a→K a)→∃v,(∀u:Wc (Ph j),changeUpon P (Ph (j+1)) v ((execOp a.eval o).run P u.w))∧K (a.put o.dst v)):wpLexE ops (phE P Ph ks) Q (o::rest) k a:=by
 unfold wpLexE;have hw:Region.wanted o (yielded ops a.tmps)=true:=by unfold Region.wanted;rw[hg]
 rw [if_pos hw];have:=h _ (fun _ h=>h);unfold phE;rw [hp];exact this
end
end Go.Proofs.YtpibnfdolojpcaaGreat
namespace Go.Proofs.YtpibnfdolojpcaaGreat
open Go.ChangeShapes Go.WideShapes Go.ChangeAt Go.RowKit
theorem WAt.notin {w:World} {B b:Nat} {g:GhW} {S:TreeD} {cs:Array Value} {t:TypeId} {fr:Nat×Nat} (K:WAt w B g S) (h:Has w b (.cells cs t fr)) (h1:t≠106) (h2:t≠157) (h3:t≠205):b∉g.list:=by
 obtain ⟨_,⟨_,_,k2,es,cl,k3,_⟩,cd,k4,k5⟩:=K;obtain ⟨_,cur,k6⟩:=k5.has;intro hb;simp only[GhW.list,List.mem_cons,List.not_mem_nil,or_false]at hb;unfold Has at *;rcases hb with rfl|rfl|rfl|rfl
 ·rw[h]at k4;injection k4 with k4;injection k4 with _ k4;exact h1 k4
 ·rw[h]at k2;injection k2 with k2;injection k2 with _ k2;exact h2 k2
 ·rw[h]at k3;injection k3 with k3;cases k3
 ·rw[h]at k6;injection k6 with k6;injection k6 with _ k6;exact h3 k6
theorem FAt.notin {w:World} {B b:Nat} {f:GhF} {S:TreeD} {X:Xtra} {cs:Array Value} {t:TypeId} {fr:Nat×Nat} (F:FAt w B f S X) (h:Has w b (.cells cs t fr)) (h1:t≠78) (h2:t≠66) (h3:t≠191):b∉f.list:=by
 obtain ⟨_,cn,ce,k2,⟨xs,k3,_⟩,k4⟩:=F;obtain ⟨_,cur1,k5⟩:=ownsRow_has k3;obtain ⟨_,cur2,k6⟩:=ownsRow_has k4;intro hb;simp only[GhF.list,List.mem_cons,List.not_mem_nil,or_false]at hb;unfold Has at *;rcases hb with rfl|rfl|rfl
 ·rw[h]at k2;injection k2 with k2;injection k2 with _ k2;exact h1 k2
 ·rw[h]at k5;injection k5 with k5;injection k5 with _ k5;exact h2 k5
 ·rw[h]at k6;injection k6 with k6;injection k6 with _ k6;exact h3 k6
def ErrF (w:World) (B:Nat) (g:GhF) (T:TreeD) (X:Xtra) (x:Int) (e:Ending) (w':World):Prop:=
 e = .returned (.int .i64 x)∧FAt w' B g T X∧Only g.list w w'
theorem errF_same {w w':World} {B:Nat} {g:GhF} {S T:TreeD} {X:Xtra} {x:Int} (h:FAt w B g S X) (hE:Ext w w') (hT:T=S):ErrF w B g T X x (.returned (.int .i64 x)) w':=
 ⟨rfl,by rw[hT];exact h.ext hE,Only.of_ext hE⟩
def ownrE (S:TreeD) (cu no uid gid:Int):Int:=if ownE S cu no≠0 then ownE S cu no else if ¬cu=0 then 4 else if fineB uid gid=false then 1 else 0
def ownrT (S:TreeD) (cu now no uid gid:Int):TreeD:=if ownrE S cu no uid gid=0 then setT S {getN S.nodes no with uid:=uid,gid:=gid,ctime:=now} else S
def timeE (S:TreeD) (cu no mt:Int):Int:=if ownE S cu no≠0 then ownE S cu no else if mt<0∨253402300799<mt then 1 else 0
def timeT (S:TreeD) (cu now no mt:Int):TreeD:=if timeE S cu no mt=0 then setT S {getN S.nodes no with mtime:=mt,ctime:=now} else S
theorem ptime_any (B:Nat) (g:GhW) (S:TreeD) (cu cg now no mt:Int) (w:World) (h:WAt w B g S) (hd:0<S.devs.length) (hu:NosUp S.nodes S.last) :
  Calls Tryz.prog 119 #[.pointer (some ⟨g.bW,0,none⟩),.agg #[.int .i64 cu,.int .i64 cg],.int .i64 now,.int .i64 no,.int .i64 mt] w (ErrR w B g (timeT S cu now no mt) (timeE S cu no mt)):=by
 have E0:Ext w (w.alloc (.cells #[.int .i64 cu,.int .i64 cg] 27)):=(Ext.refl _).alloc _;have hm:Hid (timeE S cu no mt=if ownE S cu no≠0 then ownE S cu no else if mt<0∨253402300799<mt then 1 else 0):=by show _=_;rfl
 have hoz:Hid (ownE S cu no=0→isN S.nodes no=true∧ownsB cu (getN S.nodes no).uid=true∧ownN S cu no=getN S.nodes no):=ownE_zero;go_enter Tryz.func119,Tryz.ntmps119;go_wp2_with fail;refine (pown_any B g S cu cg no _ (h.ext E0) hd).mono ?_;rintro e w2 ⟨A,c,rfl,ok2,b2⟩;have E2:=E0.trans b2;obtain ⟨m,hmm⟩:∃m,m=ownN S cu no:=⟨_,rfl⟩;obtain ⟨x,hx⟩:∃x,x=ownE S cu no:=⟨_,rfl⟩;rw [←hmm]at ok2 hoz;rw [←hx]at hm hoz;rw [←hmm,←hx];clear hmm hx
 by_cases hx0:x=0
 ·have t0 : (x == 0)=true:=by simpa using hx0
  have t0b:(x != 0)=false:=by simpa using hx0
  obtain ⟨hi,ho,hmg⟩:=hoz.out hx0;have hm2:Hid (timeE S cu no mt=if mt<0∨253402300799<mt then 1 else 0):=by show _=_;rw[hm.out,if_neg (by simpa using hx0)]
  have hmno:m.no=no:=by rw[hmg];exact (isN_true hi).2.1
  have HMG:=zH hmg;have HNO:=zH hmno;clear hm hoz hmg hmno hi ho hx0
  by_cases c1:mt<0
  ·have t1:decide (mt<0)=true:=decide_eq_true c1
   have hE:Hid (timeE S cu no mt=1):=by show _=_;rw[hm2.out,if_pos (.inl c1)]
   clear hm2 c1;go_wp2_with fail;go_ret;rw [hE.out];exact errR_same h (E2.alloc _) (by unfold timeT;rw[hE.out];rfl)
  ·have t1:decide (mt<0)=false:=decide_eq_false c1
   by_cases c2:253402300799<mt
   ·have t2:decide (253402300799<mt)=true:=decide_eq_true c2
    have hE:Hid (timeE S cu no mt=1):=by show _=_;rw[hm2.out,if_pos (.inr c2)]
    clear hm2 c1 c2;go_wp2_with fail;go_ret;rw [hE.out];exact errR_same h (E2.alloc _) (by unfold timeT;rw[hE.out];rfl)
   ·have t2:decide (253402300799<mt)=false:=decide_eq_false c2
    ·have hE:Hid (timeE S cu no mt=0):=by show _=_;rw[hm2.out,if_neg (by rintro (g'|g')<;>contradiction)]
     clear hm2 c1 c2;go_upto_region 7 with fail;obtain ⟨n,hn⟩:∃n:NodeD,n={m with mtime:=mt,ctime:=now}:=⟨_,rfl⟩;obtain ⟨V,hV⟩:∃V,V=w2.alloc (.cells #[.int .i64 n.no,.int .i64 n.dev,.int .i64 n.kind,.int .i64 n.mode,.int .i64 n.uid,.int .i64 n.gid,.int .i64 n.mtime,.int .i64 n.ctime,.int .i64 n.links,.int .i64 n.up,.string (bs n.data),.slice A n.ents.length c] 66):=⟨_,rfl⟩;have hV2:=hV;rw [hn]at hV2;rw [←hV2];have NV:Has V w2.heap.size (.cells #[.int .i64 n.no,.int .i64 n.dev,.int .i64 n.kind,.int .i64 n.mode,.int .i64 n.uid,.int .i64 n.gid,.int .i64 n.mtime,.int .i64 n.ctime,.int .i64 n.links,.int .i64 n.up,.string (bs n.data),.slice A n.ents.length c] 66):=by rw[hV];exact Has.new _ _
     have EV:Ext w V:=by rw[hV];exact E2.alloc _
     have okV:NodeOk V B n A c:=((ok2.ext (by rw[hV];exact (Ext.refl _).alloc _)).same (by rw[hn]));have HN:=zH hn;clear hV hV2 hn;have KV:=h.ext EV;obtain ⟨_,_,cd,hW,_⟩:=id KV;have v0:V.cell? ⟨g.bW,0,none⟩=some (.pointer (some ⟨g.bT,0,none⟩)):=hW.cell 0;have vz:=hW.lt;obtain ⟨x0,x1,x2,x3,x4,x5,x6,x7,x8,x9,x10,x11⟩:=NV.node12;have zN:=NV.lt;go_still_tail 5,(by kernel_rfl);change wpList _ _ _ _ _ V.drew;go_wp2_with fail;have ED:Ext V V.drew:=(Ext.refl _).drew;refine (wset_any B g S n A c _ (KV.ext ED) hu (okV.ext ED)).mono ?_;rintro e w5 ⟨rfl,K5,O5⟩;go_wp2_with fail;go_ret;rw [hE.out];refine ⟨rfl,?_,Only.pre (EV.trans ED) O5⟩;have:timeT S cu now no mt=setT S n:=by unfold timeT;rw[if_pos hE.out,HN.out,HMG.out]
     rw [this];exact K5
 ·have t0:(x == 0)=false:=by simpa using hx0
  have t0b:(x != 0)=true:=by simpa using hx0
  have hE:Hid (timeE S cu no mt=x):=by show _=_;rw[hm.out,if_pos hx0]
  have hT:Hid (timeT S cu now no mt=S):=by show _=_;unfold timeT;rw[if_neg (by rw[hE.out];exact hx0)]
  clear hm hoz hx0;go_wp2_with fail;go_ret;rw [hE.out];exact errR_same h (E2.alloc _) hT.out
theorem powner_any (B:Nat) (g:GhW) (S:TreeD) (cu cg now no uid gid:Int) (w:World) (h:WAt w B g S) (hd:0<S.devs.length) (hu:NosUp S.nodes S.last) :
  Calls Tryz.prog 117 #[.pointer (some ⟨g.bW,0,none⟩),.agg #[.int .i64 cu,.int .i64 cg],.int .i64 now,.int .i64 no,.int .i64 uid,.int .i64 gid] w (ErrR w B g (ownrT S cu now no uid gid) (ownrE S cu no uid gid)):=by
 have E0:Ext w (w.alloc (.cells #[.int .i64 cu,.int .i64 cg] 27)):=(Ext.refl _).alloc _;have hm:Hid (ownrE S cu no uid gid=if ownE S cu no≠0 then ownE S cu no else if ¬cu=0 then 4 else if fineB uid gid=false then 1 else 0):=by show _=_;rfl
 have hoz:Hid (ownE S cu no=0→isN S.nodes no=true∧ownsB cu (getN S.nodes no).uid=true∧ownN S cu no=getN S.nodes no):=ownE_zero;go_enter Tryz.func117,Tryz.ntmps117;go_wp2_with fail;refine (pown_any B g S cu cg no _ (h.ext E0) hd).mono ?_;rintro e w2 ⟨A,c,rfl,ok2,b2⟩;have E2:=E0.trans b2;obtain ⟨m,hmm⟩:∃m,m=ownN S cu no:=⟨_,rfl⟩;obtain ⟨x,hx⟩:∃x,x=ownE S cu no:=⟨_,rfl⟩;rw [←hmm]at ok2 hoz;rw [←hx]at hm hoz;rw [←hmm,←hx];clear hmm hx
 by_cases hx0:x=0
 ·have t0 : (x == 0)=true:=by simpa using hx0
  have t0b:(x != 0)=false:=by simpa using hx0
  obtain ⟨hi,ho,hmg⟩:=hoz.out hx0;have hm2:Hid (ownrE S cu no uid gid=if ¬cu=0 then 4 else if fineB uid gid=false then 1 else 0):=by show _=_;rw[hm.out,if_neg (by simpa using hx0)]
  have hmno:m.no=no:=by rw[hmg];exact (isN_true hi).2.1
  have HMG:=zH hmg;have HNO:=zH hmno;clear hm hoz hmg hmno hi ho hx0;have C2:=((Has.new w (.cells #[.int .i64 cu,.int .i64 cg] 27)).ext b2);have k0:w2.cell? ⟨w.heap.size,0,none⟩=some (.int .i64 cu):=C2.cell 0;have kz:=C2.lt
  by_cases c1:cu=0
  ·have t1:(cu == 0)=true:=by simpa using c1
   have t1b:(cu != 0)=false:=by simpa using c1
   cases c2:fineB uid gid
   ·have hE:Hid (ownrE S cu no uid gid=1):=by show _=_;rw[hm2.out,if_neg (by simpa using c1),if_pos c2]
    have HC:=zH c2;clear hm2 c1 c2;go_wp2_with fail;refine (pfine_any uid gid _).mono ?_;rw [HC.out];rintro e w4 ⟨rfl,b4⟩;go_wp2_with fail;go_ret;rw [hE.out];exact errR_same h ((E2.alloc _).trans b4) (by unfold ownrT;rw[hE.out];rfl)
   ·have hE:Hid (ownrE S cu no uid gid=0):=by show _=_;rw[hm2.out,if_neg (by simpa using c1),if_neg (by rw[c2];decide)]
    have HC:=zH c2;clear hm2 c1 c2;go_wp2_with fail;refine (pfine_any uid gid _).mono ?_;rw [HC.out];rintro e w4 ⟨rfl,b4⟩;have N4:=(Has.new w2 (.cells #[.int .i64 m.no,.int .i64 m.dev,.int .i64 m.kind,.int .i64 m.mode,.int .i64 m.uid,.int .i64 m.gid,.int .i64 m.mtime,.int .i64 m.ctime,.int .i64 m.links,.int .i64 m.up,.string (bs m.data),.slice A m.ents.length c] 66)).ext b4;have ok4:=(ok2.ext ((Ext.refl _).alloc (.cells #[.int .i64 m.no,.int .i64 m.dev,.int .i64 m.kind,.int .i64 m.mode,.int .i64 m.uid,.int .i64 m.gid,.int .i64 m.mtime,.int .i64 m.ctime,.int .i64 m.links,.int .i64 m.up,.string (bs m.data),.slice A m.ents.length c] 66))).ext b4;have E4:=(E2.alloc (.cells #[.int .i64 m.no,.int .i64 m.dev,.int .i64 m.kind,.int .i64 m.mode,.int .i64 m.uid,.int .i64 m.gid,.int .i64 m.mtime,.int .i64 m.ctime,.int .i64 m.links,.int .i64 m.up,.string (bs m.data),.slice A m.ents.length c] 66)).trans b4;obtain ⟨y0,y1,y2,y3,y4,y5,y6,y7,y8,y9,y10,y11⟩:=N4.node12;have yf:∀i,w4.frozen? ⟨w2.heap.size,i,none⟩=false:=fun i=>(N4.free i).trans (by simp)
    have yz:=N4.lt;go_upto_region 9 with fail;obtain ⟨n,hn⟩:∃n:NodeD,n={m with uid:=uid,gid:=gid,ctime:=now}:=⟨_,rfl⟩;obtain ⟨V,hV⟩:∃V,V=((w4.setCell ⟨w2.heap.size,4,none⟩ (.int .i64 uid)).setCell ⟨w2.heap.size,5,none⟩ (.int .i64 gid)).setCell ⟨w2.heap.size,7,none⟩ (.int .i64 now):=⟨_,rfl⟩;rw [←hV];have NV:Has V w2.heap.size (.cells #[.int .i64 n.no,.int .i64 n.dev,.int .i64 n.kind,.int .i64 n.mode,.int .i64 n.uid,.int .i64 n.gid,.int .i64 n.mtime,.int .i64 n.ctime,.int .i64 n.links,.int .i64 n.up,.string (bs n.data),.slice A n.ents.length c] 66):=by rw[hV,hn];exact ((N4.setCell 4 _).setCell 5 _).setCell 7 _
    have OV:Only [w2.heap.size] w4 V:=by rw[hV];exact ((Only.setCell _ _ _ _).then (Only.setCell _ _ _ _)).then (Only.setCell _ _ _ _)
    have EV:Ext w V:=OV.after E4 (by intro x hx;rw[List.mem_singleton]at hx;have:=E2.size;omega);have okV:NodeOk V B n A c:=(ok4.same (by rw[hn])).only OV (by
     intro b hb;rw [List.mem_singleton]at hb;subst hb;exact ⟨by have:=h.1;have:=h.lt.1;have:=E2.size;omega,N4.noTag (by decide)⟩)
    have HN:=zH hn;clear hV hn y0 y1 y2 y3 y4 y5 y6 y7 y8 y9 y10 y11 yf yz;have KV:=h.ext EV;obtain ⟨_,_,cd,hW,_⟩:=id KV;have v0:V.cell? ⟨g.bW,0,none⟩=some (.pointer (some ⟨g.bT,0,none⟩)):=hW.cell 0;have vz:=hW.lt;obtain ⟨x0,x1,x2,x3,x4,x5,x6,x7,x8,x9,x10,x11⟩:=NV.node12;have zN:=NV.lt;go_still_tail 5,(by kernel_rfl);change wpList _ _ _ _ _ V.drew;go_wp2_with fail;have ED:Ext V V.drew:=(Ext.refl _).drew;refine (wset_any B g S n A c _ (KV.ext ED) hu (okV.ext ED)).mono ?_;rintro e w5 ⟨rfl,K5,O5⟩;go_wp2_with fail;go_ret;rw [hE.out];refine ⟨rfl,?_,Only.pre (EV.trans ED) O5⟩;have:ownrT S cu now no uid gid=setT S n:=by unfold ownrT;rw[if_pos hE.out,HN.out,HMG.out]
    rw [this];exact K5
  ·have t1:(cu == 0)=false:=by simpa using c1
   have t1b:(cu != 0)=true:=by simpa using c1
   have hE:Hid (ownrE S cu no uid gid=4):=by show _=_;rw[hm2.out,if_pos c1]
   clear hm2 c1;go_wp2_with fail;go_ret;rw [hE.out];exact errR_same h (E2.alloc _) (by unfold ownrT;rw[hE.out];rfl)
 ·have t0:(x == 0)=false:=by simpa using hx0
  have t0b:(x != 0)=true:=by simpa using hx0
  have hE:Hid (ownrE S cu no uid gid=x):=by show _=_;rw[hm.out,if_pos hx0]
  have hT:Hid (ownrT S cu now no uid gid=S):=by show _=_;unfold ownrT;rw[if_neg (by rw[hE.out];exact hx0)]
  clear hm hoz hx0;go_wp2_with fail;go_ret;rw [hE.out];exact errR_same h (E2.alloc _) hT.out
theorem own_of {S:TreeD} {cu no:Int} (h:ownE S cu no=0):isN S.nodes no=true∧(getN S.nodes no).no=no:=⟨(ownE_zero h).1,(isN_true (ownE_zero h).1).2.1⟩
theorem modeE_own {S:TreeD} {cu no m:Int} (h:modeE S cu no m=0):ownE S cu no=0:=by
 unfold modeE at h;split at h
 ·rename_i h2;exact absurd h h2
 ·rename_i h2;simpa using h2
theorem ownrE_own {S:TreeD} {cu no u g:Int} (h:ownrE S cu no u g=0):ownE S cu no=0:=by
 unfold ownrE at h;split at h
 ·rename_i h2;exact absurd h h2
 ·rename_i h2;simpa using h2
theorem timeE_own {S:TreeD} {cu no t:Int} (h:timeE S cu no t=0):ownE S cu no=0:=by
 unfold timeE at h;split at h
 ·rename_i h2;exact absurd h h2
 ·rename_i h2;simpa using h2
def wriE (S:TreeD) (cu cg no dl:Int):Int:=
 if isN S.nodes no=false then 5 else if (getN S.nodes no).kind=1 then 8 else if ¬(getN S.nodes no).kind=2 then 1
 else if mayB cu cg (getN S.nodes no).uid (getN S.nodes no).gid (getN S.nodes no).mode 2=false then 6 else if 1048576<dl then 3 else fillE S no dl
def wriT (S:TreeD) (cu cg now no:Int) (data:List UInt8):TreeD:=
 if wriE S cu cg no data.length=0 then setT (fillT S no data) {getN (fillT S no data).nodes no with mtime:=now,ctime:=now} else S
theorem fillE_is {S:TreeD} {no dl:Int} (h:fillE S no dl=0):isN S.nodes no=true:=by
 cases hi:isN S.nodes no
 ·unfold fillE at h;rw[hi]at h;simp at h
 ·rfl
theorem fillT_is (S:TreeD) (no:Int) (data:List UInt8) (k:Int) (h:isN S.nodes k=true):isN (fillT S no data).nodes k=true:=by
 unfold fillT;split
 ·rw[isN_set];exact h
 ·exact h
theorem wriE_zero {S:TreeD} {cu cg no dl:Int} (h:wriE S cu cg no dl=0):isN S.nodes no=true∧dl≤1048576∧fillE S no dl=0:=by
 unfold wriE at h;split at h
 ·cases h
 ·rename_i hi
  split at h
  ·cases h
  ·split at h
   ·cases h
   ·split at h
    ·cases h
    ·split at h
     ·cases h
     ·exact⟨by simpa using hi,by omega,h⟩
theorem Tre.live {c:Nat} {S:TreeD} (h:Tre c S):Live S:=⟨h.nos,h.last,h.devs,h.eight,h.roots,h.count,h.on,h.first,fun n hn e=>(h.one n hn e).2.1,h.root1⟩
theorem tre_same {c:Nat} {S:TreeD} (h:Tre c S) {no:Int} {n:NodeD} (hi:isN S.nodes no=true) (hn:n.no=no) (he:n.ents=(getN S.nodes no).ents) (hd:n.data.length≤1048576)
  (hk:n.kind=(getN S.nodes no).kind) (hv:n.dev=(getN S.nodes no).dev) (hu:n.up=(getN S.nodes no).up) (hl:n.links=(getN S.nodes no).links) (hm:0≤n.mode∧n.mode≤1023):Tre c (setT S n):=by
 subst hn;have hm0:=(isN_true hi).2;have hb:=h.bits _ hm0.2;refine tre_set h (.inl rfl) hi (Nat.le_refl _) hk hv hu (fun hk1=>by rw[hl];exact h.dlinks _ hm0.2 (by rw[←hk];exact hk1)) (by rw[he];exact h.rise _ hm0.2) (by rw[he];exact h.names _ hm0.2) (by rw[he];exact h.pos _ hm0.2) (by rw[he];exact h.small _ hm0.2) hd
  ⟨hm.1,hm.2,by rw[hl];exact hb.2.2.1,by rw[hl];exact hb.2.2.2⟩ (fun x hx=>?_) (fun q hq hqk _ hqu hqn=>?_)
 ·rw [he]at hx
  have:=h.kin _ hm0.2 x hx;rw [hm0.1,←hv]at this;exact this
 ·rw [he]
  rcases h.ups0 q hq hqk with⟨_,u2⟩|⟨_,_,m,hm,u3,_,_,x,hx,u6⟩
  ·exact absurd (u2.symm.trans hqu) hqn
  ·have:=(mem_getN h.nos hm).1
   rw [u3,hqu]at this;rw [this];exact ⟨x,hx,u6⟩
theorem Tre.bitsN {c:Nat} {S:TreeD} (h:Tre c S) {no:Int} (hi:isN S.nodes no=true):0≤(Proofs.YtpibnfdolojpcaaGreat.getN S.nodes no).mode∧(Proofs.YtpibnfdolojpcaaGreat.getN S.nodes no).mode≤1023:=by
 have:=h.bits _ (isN_true hi).2.2;exact ⟨this.1,this.2.1⟩
theorem tre_mode {c:Nat} {S:TreeD} (h:Tre c S) (cu now no m:Int):Tre c (modeT S cu now no m):=by
 unfold modeT;split
 ·rename_i h0
  obtain ⟨hi,hn⟩:=own_of (modeE_own h0);refine tre_same h hi hn rfl (h.on _ (isN_true hi).2.2).2 rfl rfl rfl rfl ?_;unfold modeE at h0;split at h0
  ·rename_i h1;exact absurd h0 h1
  ·split at h0
   ·cases h0
   ·rename_i h1
    rw [not_or,not_or]at h1;exact ⟨by show 0≤m;omega,by show m≤1023;omega⟩
 ·exact h
theorem tre_ownr {c:Nat} {S:TreeD} (h:Tre c S) (cu now no u g:Int):Tre c (ownrT S cu now no u g):=by
 unfold ownrT;split
 ·rename_i h0
  obtain ⟨hi,hn⟩:=own_of (ownrE_own h0);exact tre_same h hi hn rfl (h.on _ (isN_true hi).2.2).2 rfl rfl rfl rfl (h.bitsN hi)
 ·exact h
theorem tre_time {c:Nat} {S:TreeD} (h:Tre c S) (cu now no t:Int):Tre c (timeT S cu now no t):=by
 unfold timeT;split
 ·rename_i h0
  obtain ⟨hi,hn⟩:=own_of (timeE_own h0);exact tre_same h hi hn rfl (h.on _ (isN_true hi).2.2).2 rfl rfl rfl rfl (h.bitsN hi)
 ·exact h
theorem tre_fill {c:Nat} {S:TreeD} (h:Tre c S) (no:Int) (data:List UInt8) (hd:data.length≤1048576):Tre c (fillT S no data):=by
 unfold fillT;split
 ·rename_i h0
  have hi:=fillE_is h0;have ho:=h.on _ (isN_true hi).2.2;exact tre_same (no:=no) (n:={getN S.nodes no with data:=data}) (tre_room h (getN S.nodes no).dev _ (h.live.fine ho.1 _ _) S.last (Int.le_refl _)) hi (isN_true hi).2.1 rfl hd rfl rfl rfl rfl (h.bitsN hi)
 ·exact h
theorem tre_wri {c:Nat} {S:TreeD} (h:Tre c S) (cu cg now no:Int) (data:List UInt8):Tre c (wriT S cu cg now no data):=by
 unfold wriT;split
 ·rename_i h0
  obtain ⟨hi,hd,_⟩:=wriE_zero h0;have hG:=tre_fill h no data (by omega);have hi2:=fillT_is S no data no hi;exact tre_same hG (n:={getN (fillT S no data).nodes no with mtime:=now,ctime:=now}) hi2 (isN_true hi2).2.1 rfl (hG.on _ (isN_true hi2).2.2).2 rfl rfl rfl rfl (hG.bitsN hi2)
 ·exact h
end Go.Proofs.YtpibnfdolojpcaaGreat
