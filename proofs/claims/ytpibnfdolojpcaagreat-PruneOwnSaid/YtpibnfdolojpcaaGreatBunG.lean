import Derived.Test.YtpibnfdolojpcaaGreatBunC
import Derived.Test.YtpibnfdolojpcaaGreatBunD
import Derived.Test.YtpibnfdolojpcaaGreatBunF
import Derived.Test.YtpibnfdolojpcaaGreatBunE
set_option maxHeartbeats 4000000
set_option maxRecDepth 100000
namespace Go.Proofs.YtpibnfdolojpcaaGreat
section
open Go
section
variable {P:Program} {ops:Array Oper} {md:Region.Mode} {E:Nat->Sem Next->Value->Prop}
def jV (ops:Array Oper) (E:Nat->Sem Next->Value->Prop) (i:Nat) (o:Oper) (v:Value) (a:Act):Prop:=
 (Region.wanted o (yielded ops a.tmps)=true/\E i (execOp a.eval o) v)\/(Region.wanted o (yielded ops a.tmps)=false/\v=undef)
def Fp (ops:Array Oper) (E:Nat->Sem Next->Value->Prop) (i:Nat) (K:Act->Prop) (a:Act):Prop:=
 match ops[i]? with
 | none=>K a
 | some o=>if Region.wanted o (yielded ops a.tmps) then ∃v,E i (execOp a.eval o) v/\K (a.put o.dst v) else K (a.put o.dst undef)
theorem Lo {i:Nat} {a:Act} {K K':Act->Prop} (h:∀a,K a->K' a) (hh:Fp ops E i K a):Fp ops E i K' a:=by
 unfold Fp at *;split
 ·rename_i ho;rw[ho]at hh;exact h _ hh
 ·rename_i o ho
  rw [ho]at hh;dsimp only at hh;split
  ·rename_i hw;rw[if_pos hw]at hh;obtain⟨v,h1,h2⟩:=hh;exact⟨v,h1,h _ h2⟩
  ·rename_i hw;rw[if_neg hw]at hh;exact h _ hh
theorem Lp {i:Nat} {o:Oper} {v:Value} {a:Act} (hi:ops[i]?=some o) (hy:jV ops E i o v a) {K:Act->Prop} (h:K (a.put o.dst v)):Fp ops E i K a:=by
 unfold Fp;rw [hi];dsimp only;rcases hy with⟨hw,hv⟩|⟨hw,rfl⟩
 ·rw[if_pos hw];exact⟨v,hv,h⟩
 ·rw[if_neg (by rw[hw];decide)];exact h
theorem wm {i:Nat} {o:Oper} {a:Act} {K:Act->Prop} (hi:ops[i]?=some o) (h:Fp ops E i K a):∃v,jV ops E i o v a/\K (a.put o.dst v):=by
 unfold Fp at h;rw [hi]at h;dsimp only at h
 by_cases hw:Region.wanted o (yielded ops a.tmps)=true
 ·rw[if_pos hw]at h;obtain⟨v,h1,h2⟩:=h;exact⟨v,.inl ⟨hw,h1⟩,h2⟩
 ·rw[if_neg hw]at h;exact⟨undef,.inr ⟨by simpa using hw,rfl⟩,h⟩
theorem yL {i:Nat} {o:Oper} {v:Value} {a a':Act} (hy:jV ops E i o v a) (he:execOp a'.eval o=execOp a.eval o) (hw:Region.wanted o (yielded ops a'.tmps)=Region.wanted o (yielded ops a.tmps)):jV ops E i o v a':=by
 unfold jV at *;rw [he,hw];exact hy
theorem PT {i j:Nat} {oi oj:Oper} {v:Value} (hj:ops[j]?=some oj) (hap:oi.apart ops oj=true)
  (hsi:∀cs b,oi.op≠.select cs b) (hsj:∀cs b,oj.op≠.select cs b) {K:Act->Prop} {a:Act}
  (hy:jV ops E i oi v a) (h:Fp ops E j K (a.put oi.dst v)):Fp ops E j (fun a'=>jV ops E i oi v a'/\K (a'.put oi.dst v)) a:=by
 obtain ⟨h1,h2,h3⟩:=Oper.apart_spec hap;have keep:∀(a:Act),jV ops E i oi v a->∀u,jV ops E i oi v (a.put oj.dst u):=fun a hy u =>
  yL hy (execOp_put oi hsi a oj.dst u h3) (wanted_put oi a oj.dst u h3)
 unfold Fp at *;rw [hj]at h|-;dsimp only at h|-;rw [wanted_put oj a oi.dst v h1,execOp_put oj hsj a oi.dst v h1]at h;split
 ·rename_i hw
  rw [if_pos hw]at h;obtain ⟨u,hu,hn⟩:=h;exact ⟨u,hu,keep a hy u,by rw[<-Act.put_comm a v u h2];exact hn⟩
 ·rename_i hw
  rw [if_neg hw]at h;exact ⟨keep a hy _,by rw[<-Act.put_comm a v undef h2];exact h⟩
def uB (md:Region.Mode) (ops:Array Oper) (E:Nat->Sem Next->Value->Prop) (ks:List Nat) (Q:Act->Prop):Nat->Array Bool->Act->Prop
 | 0,listed,a=>Region.ready md ops listed=[]/\(∀k∈ks,listed.getD k false=true)/\Q a
 | f+1,listed,a=>Region.ready md ops listed≠[]/\∀i∈Region.ready md ops listed,Fp ops E i (uB md ops E ks Q f (listed.setIfInBounds i true)) a
theorem yM {ks:List Nat} {Q:Act->Prop} {i:Nat} {oi:Oper} {v:Value} (hi:ops[i]?=some oi) (qg:∀(j:Nat) (o:Oper) cs b,ops[j]?=some o->o.op≠.select cs b) :
  ∀ (fuel:Nat) (listed:Array Bool) (a:Act),
   (∀j oj,ops[j]?=some oj->j≠i->listed.getD j true=false->(∀e∈oj.after,Region.binds md e=true->e.on≠i)->oi.apart ops oj=true) ->
   i∈Region.ready md ops listed->jV ops E i oi v a ->
   uB md ops E ks Q fuel (listed.setIfInBounds i true) (a.put oi.dst v)->uB md ops E ks Q (fuel+1) listed a:=by
 intro fuel
 induction fuel with
 | zero =>
  intro listed a _ hr hy H;refine ⟨fun h=>(by rw[h]at hr;cases hr),fun j hj=>?_⟩
  by_cases uf:j=i
  ·subst uf;exact Lp hi hy H
  ·have:=ready_mono hj uf
   rw [H.1]at this
   cases this
 | succ fuel ih =>
  intro listed a ph hr hy H;refine ⟨fun h=>(by rw[h]at hr;cases hr),fun j hj=>?_⟩
  by_cases uf:j=i
  ·subst uf;exact Lp hi hy H
  ·have h1:=H.2 j (ready_mono hj uf)
   obtain ⟨Kv,oj,CT,hall⟩:=mem_ready.1 hj;have S_:∀e∈oj.after,Region.binds md e=true->e.on≠i:=fun e he hb heq=>by
    have h1:=hall e he hb;have h0:=(mem_ready.1 hr).1;rw [heq]at h1;rcases Nat.lt_or_ge i listed.size with h'|h'
    ·simp[h']at h0 h1;rw[h0]at h1;cases h1
    ·simp[Array.getElem?_eq_none h']at h1
   have h2:=PT CT (ph j oj CT uf Kv S_) (fun cs b=>qg i oi cs b hi) (fun cs b=>qg j oj cs b CT) hy h1;have CU:∀k ok,ops[k]?=some ok->k≠i->(listed.setIfInBounds j true).getD k true=false ->
     (∀e∈ok.after,Region.binds md e=true->e.on≠i)->oi.apart ops ok=true:=fun k ok hk PD v_ aW=>by
    refine ph k ok hk PD ?_ aW
    by_cases Jv:j=k
    ·subst Jv;exact Kv
    ·rw[getD_set_ne true Jv]at v_;exact v_
   refine Lo (fun a' h3=>ih (listed.setIfInBounds j true) a' CU (ready_mono hr (Ne.symm uf)) h3.1 ?_) h2;rw [Array.setIfInBounds_comm _ _ uf];exact h3.2
def gH (ops:Array Oper) (E:Nat->Sem Next->Value->Prop) (Q:Act->Prop):List Oper->Nat->Act->Prop
 | [],_,a=>Q a
 | o::rest,k,a=>if Region.wanted o (yielded ops a.tmps) then ∃v,E k (execOp a.eval o) v/\gH ops E Q rest (k+1) (a.put o.dst v) else gH ops E Q rest (k+1) (a.put o.dst undef)
theorem uC {ks:List Nat} {Q:Act->Prop} (hs:Region.noSelect ops=true) (hks:∀k∈ks,k<ops.size):∀(l:List Oper) (k:Nat) (listed:Array Bool) (a:Act),(∀j,l[j]?=ops[k+j]?) ->
  (∀j,j<k->j<ops.size->listed.getD j false=true)->listed.size=ops.size->ops.size<=k+l.length->Region.lexFrom md ops l.length k listed=true->gH ops E Q l k a->uB md ops E ks Q l.length listed a
 | [],k,listed,a,_,li,_,hm,hB,h=>⟨by simpa [Region.lexFrom]using hB,fun j hj=>li j (by have:=hks j hj;simp at hm;omega) (hks j hj),h⟩
 | o :: l,k,listed,a,hl,li,hsz,hm,hB,h=>by
  have h0:ops[k]?=some o:=by simpa using (hl 0).symm
  simp only[List.length_cons,Region.lexFrom,Bool.and_eq_true]at hB;obtain ⟨⟨hr,hf⟩,WQ⟩:=hB;have hst:Fp ops E k (gH ops E Q l (k+1)) a:=by unfold Fp;rw[h0];exact h
  obtain ⟨v,hy,hK⟩:=wm h0 hst;refine yM h0 (Region.noSelect_spec hs) l.length listed a (Region.free_spec h0 hf) (by simpa using hr) hy
   (uC hs hks l (k+1) _ _ (fun j=>by have:=hl (j+1);simpa [Nat.add_assoc,Nat.add_comm 1 j]using this) ?_ (by simpa using hsz) (by simp only[List.length_cons]at hm;omega) WQ hK)
  intro j hj hjs
  by_cases e:k=j
  ·subst e
   have:k<listed.size:=by omega
   simp [this]
  ·rw[getD_set_ne false e];exact li j (by omega) hjs
end
def placeOf:List Nat->Nat->Option Nat
 | [],_=>none
 | k::ks,i=>if k=i then some 0 else (placeOf ks i).map (·+1)
theorem qv:∀{ks:List Nat} {i t:Nat},placeOf ks i=some t->ks[t]?=some i
 | k :: ks,i,t,h=>by
  unfold placeOf at h;split at h
  ·rename_i e;injection h with h;subst h;subst e;rfl
  ·cases hp:placeOf ks i with
   | none=>rw[hp]at h;cases h
   | some s =>
    rw [hp]at h;injection h with h;subst h;simpa using qv hp
theorem qw:∀{ks:List Nat} {i:Nat},placeOf ks i=none->i∉ks
 | [],_,_=>by simp
 | k :: ks,i,h=>by
  unfold placeOf at h;split at h
  ·cases h
  ·rename_i e
   cases hp:placeOf ks i with
   | none=>rw[List.mem_cons,not_or];exact⟨fun x=>e x.symm,qw hp⟩
   | some s=>rw[hp]at h;cases h
structure Hp (Ph:Nat->World->Prop) where
 j : Nat
 w : World
 h : Ph j w
structure Wc (C:World->Prop) where
 w : World
 h : C w
theorem Hp.all {Ph:Nat->World->Prop} {T:World->Prop} (h:∀j w,Ph j w->T w):∀u:Hp Ph,T u.w:=fun u=>h u.j u.w u.h
def fx (P:Program) (C:World->Prop) (v:Value):Result Next->Prop
 | .ok (.value u) w'=>u=v/\C w'
 | .ok .skip w'=>v=undef/\C w'
 | .ok (.enter f args) w'=>Calls P f args w' (fun e w''=>e=.returned v/\C w'')
 | _=>False
def Jy (P:Program) (Ph:Nat->World->Prop) (ks:List Nat) (i:Nat) (x:Sem Next) (v:Value):Prop:=
 match placeOf ks i with
 | some j=>∀u:Wc (Ph j),fx P (Ph (j+1)) v (x.run P u.w)
 | none=>∀u:Hp Ph,Oper.quietUpon P (Ph u.j) u.w v (x.run P u.w)
theorem tz {P:Program} {o:Oper} {a:Act} {v:Value} {w:World} {C:World->Prop} {K':Act->World->Prop} {Q':Exit->Act->World->Prop} (h1:Oper.quietUpon P C w v ((execOp a.eval o).run P w)) (hC:C w) (hK:∀w'',C w''->K' (a.put o.dst v) w''):o.wp P a w K' Q':=by
 unfold Oper.wp
 generalize (execOp a.eval o).run P w=r at *
 cases r with
 | ok n w' =>
  cases n<;>simp only[Oper.quietUpon]at h1<;>simp only[Oper.upon]
  case value u=>obtain⟨e1,e2⟩:=h1;rw[e1,e2];exact hK _ hC
  case skip=>obtain⟨e1,e2⟩:=h1;rw[e1,<-e2];exact hK _ hC
  case enter f args =>
   obtain ⟨e1,hc⟩:=h1;rw [e1];exact hc.mono fun e w'' ⟨he,hw''⟩=>by subst he;exact hK _ hw''
 | halt x w'=>simp only[Oper.quietUpon]at h1
theorem rP {P:Program} {o:Oper} {a:Act} {v:Value} {w:World} {C:World->Prop} {K':Act->World->Prop} {Q':Exit->Act->World->Prop} (h1:fx P C v ((execOp a.eval o).run P w)) (hK:∀w'',C w''->K' (a.put o.dst v) w''):o.wp P a w K' Q':=by
 unfold Oper.wp
 generalize (execOp a.eval o).run P w=r at *
 cases r with
 | ok n w' =>
  cases n<;>simp only[fx]at h1<;>simp only[Oper.upon]
  case value u=>obtain⟨e1,e2⟩:=h1;rw[e1];exact hK _ e2
  case skip=>obtain⟨e1,e2⟩:=h1;rw[<-e1];exact hK _ e2
  case enter f args=>exact h1.mono fun e w'' ⟨he,hw''⟩=>by subst he;exact hK _ hw''
 | halt x w'=>simp only[fx]at h1
theorem uD {P:Program} {ops:Array Oper} {md:Region.Mode} {Ph:Nat->World->Prop} {ks:List Nat} {Q:Act->Prop} {Q':Exit->Act->World->Prop}
  (hch:∀t k k',ks[t]?=some k->ks[t+1]?=some k'->∃o,ops[k']?=some o/\∃e∈o.after,Region.binds md e=true/\e.on=k)
  (hnd:ks.Nodup) (hg:∀k∈ks,∃o,ops[k]?=some o/\o.guard=none) (hQ:∀a w,Ph ks.length w->Q a->Q' .normal a w) :
  ∀ (f:Nat) (listed:Array Bool) (a:Act) (w:World) (j:Nat),j<=ks.length->(∀t k,ks[t]?=some k->listed.getD k false=decide (t<j))->(∀k∈ks,k<listed.size)->Ph j w ->
   uB md ops (Jy P Ph ks) ks Q f listed a->wpAny P md ops Q' f listed a w
 | 0, listed,a,w,j,hj,hl,_,hw,⟨h1,h2,h3⟩=>by
  refine ⟨h1,hQ a w ?_ h3⟩;rcases Nat.lt_or_ge j ks.length with g|g
  ·have e:ks[j]?=some ks[j]:=List.getElem?_eq_getElem g
   have h4:=hl j _ e;rw [h2 _ (List.getElem_mem g)]at h4;simp at h4
  ·have:j=ks.length:=by omega
   rw [<-this];exact hw
 | f + 1, listed,a,w,j,hj,hl,hsz,hw,⟨hne,hall⟩=>by
  refine ⟨fun h0=>absurd h0 hne,fun i hi=>?_⟩;have hr:=hall i hi;obtain ⟨v_,o,ho,nI⟩:=mem_ready.1 hi;have ih:=uD (P:=P) hch hnd hg hQ f;unfold Fp at hr;unfold wpOp;rw [ho]at hr|-;dsimp only at hr|-
  cases hp:placeOf ks i with
  | some t =>
   have hk:=qv hp;have PD:i∈ks:=List.mem_of_getElem? hk;have hlk:=hl t i hk;have aaF:listed.getD i false=false:=by
    have:=hsz i PD;simp [this]at v_|-;exact v_
   rw [aaF]at hlk;have htj:¬t<j:=by simpa using hlk.symm
   have hjt:t=j:=by
    cases t with
    | zero=>omega
    | succ s =>
     have xm:s+1<ks.length:=(List.getElem?_eq_some_iff.1 hk).1;have e:ks[s]?=some ks[s]:=List.getElem?_eq_getElem (by omega);obtain ⟨o2,mO,ed,lF,mi,pY⟩:=hch s _ _ e hk;rw [ho]at mO;injection mO with mO;subst mO;have h5:=nI ed lF mi;rw [pY,hl s _ e]at h5;have:s<j:=by simpa using h5
     omega
   subst hjt;obtain ⟨og,hog,PU⟩:=hg i PD;rw [ho]at hog;injection hog with hog;subst hog;have Xg:Region.wanted o (yielded ops a.tmps)=true:=by unfold Region.wanted;rw[PU]
   rw [if_pos Xg]at hr|-;obtain ⟨v,h1,h2⟩:=hr;unfold Jy at h1;rw [hp]at h1
   left
   have rQ:t<ks.length:=(List.getElem?_eq_some_iff.1 hk).1;refine rP (h1 ⟨w,hw⟩) fun w'' hw''=>ih _ _ w'' (t+1) rQ (fun s k hs=>?_) (fun k hk2=>by simpa using hsz k hk2) hw'' h2
   by_cases e:i=k
   ·subst e
    have:s=t:=by
     have h6:=List.getElem?_eq_some_iff.1 hs;have h7:=List.getElem?_eq_some_iff.1 hk;obtain ⟨a1,a2⟩:=h6;obtain ⟨b1,b2⟩:=h7;exact (List.getElem_inj hnd).1 (a2.trans b2.symm)
    subst this;have:=hsz i PD;simp [this]
   ·rw [getD_set_ne false e,hl s k hs]
    have:s≠t:=fun e2=>by
     subst e2;rw [hk]at hs;injection hs with hs;exact e hs
    simp;omega
  | none =>
   have PD:=qw hp;have hl':∀t k,ks[t]?=some k->(listed.setIfInBounds i true).getD k false=decide (t<j):=fun t k hk=>by
    have:i≠k:=fun e=>PD (by rw[e];exact List.mem_of_getElem? hk)
    rw [getD_set_ne false this];exact hl t k hk
   have Xh:∀k∈ks,k<(listed.setIfInBounds i true).size:=fun k hk2=>by simpa using hsz k hk2
   split
   ·rename_i Xg
    rw [if_pos Xg]at hr;obtain ⟨v,h1,h2⟩:=hr;unfold Jy at h1;rw [hp]at h1
    left
    exact tz (h1 ⟨j,w,hw⟩) hw fun w'' hw''=>ih _ _ w'' j hj hl' Xh hw'' h2
   ·rename_i Xg
    rw [if_neg Xg]at hr;exact ih _ _ w j hj hl' Xh hw hr
def chainB (l:List Oper):List Nat->Bool
 | []=>true
 | [k]=>(match l[k]? with
  | some o=>o.guard == none
  | none=>false)
 | k :: k2::ks=>(match l[k]? with
  | some o=>o.guard == none
  | none=>false)&&(decide (k<k2)&&(match l[k2]? with
   | some o2=>o2.after.any (fun e=>Region.binds .any e&&e.on == k)
   | none=>false))&&chainB l (k2::ks)
theorem qx {l:List Oper}:∀{ks:List Nat},chainB l ks=true->∀k∈ks,∃o,l[k]?=some o/\o.guard=none
 | [],_,_,h=>by cases h
 | [k],h,x,hx=>by
  rw [List.mem_singleton]at hx;subst hx;unfold chainB at h
  cases ho:l[x]? with
  | none=>rw[ho]at h;cases h
  | some o=>rw[ho]at h;exact⟨o,rfl,by simpa using h⟩
 | k :: k2::ks,h,x,hx=>by
  unfold chainB at h;simp only[Bool.and_eq_true]at h;obtain ⟨⟨h1,_⟩,h3⟩:=h;rcases List.mem_cons.1 hx with rfl|hx
  ·cases ho:l[x]? with
   | none=>rw[ho]at h1;cases h1
   | some o=>rw[ho]at h1;exact⟨o,rfl,by simpa using h1⟩
  ·exact qx h3 x hx
theorem mF {l:List Oper}:∀{ks:List Nat},chainB l ks=true->∀t k k',ks[t]?=some k->ks[t+1]?=some k'->k<k'/\∃o,l[k']?=some o/\∃e∈o.after,Region.binds .any e=true/\e.on=k
 | [],_,t,k,k',h,_=>by simp at h
 | [x],_,t,k,k',_,h=>by simp at h
 | x :: y::ks,h,t,k,k',h1,h2=>by
  unfold chainB at h;simp only[Bool.and_eq_true,decide_eq_true_eq]at h;obtain ⟨⟨_,g1,g2⟩,g3⟩:=h
  cases t with
  | zero =>
   simp at h1 h2;subst h1;subst h2;refine ⟨g1,?_⟩
   cases ho:l[y]? with
   | none=>rw[ho]at g2;cases g2
   | some o =>
    rw [ho]at g2;simp only[Array.any_eq_true',Bool.and_eq_true,beq_iff_eq]at g2;obtain ⟨e,a1,a2,a3⟩:=g2;exact ⟨o,rfl,e,a1,a2,a3⟩
  | succ t=>exact mF g3 t k k' (by simpa using h1) (by simpa using h2)
theorem GM {l:List Oper} {ks:List Nat} (h:chainB l ks=true):ks.Pairwise (· < ·):=by
 induction ks with
 | nil=>exact List.Pairwise.nil
 | cons k ks ih =>
  have h2:chainB l ks=true:=by
   cases ks with
   | nil=>rfl
   | cons k2 ks=>unfold chainB at h;simp only[Bool.and_eq_true]at h;exact h.2
  have hp:=ih h2;refine List.pairwise_cons.2 ⟨fun x hx=>?_,hp⟩
  cases ks with
  | nil=>cases hx
  | cons k2 ks =>
   have h0:=(mF h 0 k k2 rfl rfl).1;rcases List.mem_cons.1 hx with rfl|hx
   ·exact h0
   ·have:=(List.pairwise_cons.1 hp).1 x hx
    omega
theorem iM {P:Program} {id:Nat} {Q:Exit->Act->World->Prop} {a:Act} {w:World} {l:List Oper} (Ph:Nat->World->Prop) (ks:List Nat)
  (hm:P.follows .mixedOrders=true) (hB:Region.lexB .any l.toArray=true) (hc:chainB l ks=true) (hV:Ph 0 w.drew)
  (h:gH l.toArray (Jy P Ph ks) (fun a'=>∀w',Ph ks.length w'->Q .normal a' w') l 0 a):(Code.region id l.toArray true).wp P Q a w:=by
 simp only[Region.lexB,Bool.and_eq_true]at hB;have hgd:=qx hc;have hsz:∀k∈ks,k<l.toArray.size:=fun k hk=>by
  obtain ⟨o,ho,_⟩:=hgd k hk;simpa using (List.getElem?_eq_some_iff.1 ho).1
 refine wp_region_any hm ?_;refine uD (P:=P) (Ph:=Ph) (ks:=ks) (Q:=fun a'=>∀w',Ph ks.length w'->Q .normal a' w') (fun t k k' h1 h2=>?_) ((GM hc).imp (fun h=>Nat.ne_of_lt h)) (fun k hk=>?_) (fun a w h1 h2=>h2 w h1) _ _ a w.drew 0 (Nat.zero_le _) (fun t k hk=>?_) (fun k hk=>?_) hV ?_
 ·obtain ⟨o,ho,he⟩:=(mF hc t k k' h1 h2).2
  exact ⟨o,by simpa using ho,he⟩
 ·obtain ⟨o,ho,PU⟩:=hgd k hk
  exact ⟨o,by simpa using ho,PU⟩
 ·have:=hsz k (List.mem_of_getElem? hk)
  simp at this;simp [this]
 ·simpa using hsz k hk
 ·have:=uC (md:=.any) (ks:=ks) hB.1 hsz l 0 (Array.replicate l.toArray.size false) a (by simp) (fun j hj=>by omega) (by simp) (by simp) (by simpa using hB.2) h
  simpa using this
section
variable {P:Program} {ops:Array Oper} {Ph:Nat->World->Prop} {ks:List Nat} {Q:Act->Prop} {a:Act}
theorem mG {E:Nat->Sem Next->Value->Prop} {k:Nat} (h:Q a):gH ops E Q [] k a:=h
theorem jr {o:Oper} {rest:List Oper} {k:Nat} (hp:placeOf ks k=none)
  (h:∀K:Act->Prop,(∀a,gH ops (Jy P Ph ks) Q rest (k+1) a->K a)->if Region.wanted o (yielded ops a.tmps) then ∃v,(∀u:Hp Ph,o.quietAt P a (Ph u.j) u.w v)/\K (a.put o.dst v) else K (a.put o.dst undef)):gH ops (Jy P Ph ks) Q (o::rest) k a:=by
 unfold gH;have:=h _ (fun _ h=>h);unfold Jy;rw [hp];exact this
theorem dN {o:Oper} {rest:List Oper} {k:Nat} (j:Nat) (hp:placeOf ks k=some j) (hg:o.guard=none)
  (h:∀K:Act->Prop,(∀a,gH ops (Jy P Ph ks) Q rest (k+1) a->K a)->∃v,(∀u:Wc (Ph j),fx P (Ph (j+1)) v ((execOp a.eval o).run P u.w))/\K (a.put o.dst v)):gH ops (Jy P Ph ks) Q (o::rest) k a:=by
 unfold gH;have hw:Region.wanted o (yielded ops a.tmps)=true:=by unfold Region.wanted;rw[hg]
 rw [if_pos hw];have:=h _ (fun _ h=>h);unfold Jy;rw [hp];exact this
end
end
open Go.ChangeShapes Go.WideShapes Go.ChangeAt Go.RowKit
def ph2 (C0 C1 C2:World->Prop):Nat->World->Prop
 | 0=>C0
 | 1=>C1
 | 2=>C2
 | _=>fun _=>False
theorem Fq {C0 C1 C2 T:World->Prop} (h0:∀w,C0 w->T w) (h1:∀w,C1 w->T w) (h2:∀w,C2 w->T w):∀u:Hp (ph2 C0 C1 C2),T u.w:=fun u=>by
 obtain ⟨j,w,h⟩:=u
 match j,h with
 | 0,h=>exact h0 _ h
 | 1,h=>exact h1 _ h
 | 2,h=>exact h2 _ h
 | j+3,h=>exact h.elim
theorem dM.ja {w:World} {B b:Nat} {g:bG} {S:ae} {cs:Array Value} {t:TypeId} {fr:Nat×Nat} (K:dM w B g S) (h:Has w b (.cells cs t fr)) (h1:t≠106) (h2:t≠157) (h3:t≠205):b∉g.list:=by
 obtain ⟨_,⟨_,_,k2,es,cl,k3,_⟩,cd,k4,k5⟩:=K;obtain ⟨_,cur,k6⟩:=k5.has;intro hb;simp only[bG.list,List.mem_cons,List.not_mem_nil,or_false]at hb;unfold Has at *;rcases hb with rfl|rfl|rfl|rfl
 ·rw[h]at k4;injection k4 with k4;injection k4 with _ k4;exact h1 k4
 ·rw[h]at k2;injection k2 with k2;injection k2 with _ k2;exact h2 k2
 ·rw[h]at k3;injection k3 with k3;cases k3
 ·rw[h]at k6;injection k6 with k6;injection k6 with _ k6;exact h3 k6
theorem gR.ja {w:World} {B b:Nat} {f:cI} {S:ae} {X:cP} {cs:Array Value} {t:TypeId} {fr:Nat×Nat} (F:gR w B f S X) (h:Has w b (.cells cs t fr)) (h1:t≠78) (h2:t≠66) (h3:t≠191):b∉f.list:=by
 obtain ⟨_,cn,ce,k2,⟨xs,k3,_⟩,k4⟩:=F;obtain ⟨_,yy,k5⟩:=bY k3;obtain ⟨_,Gq,k6⟩:=bY k4;intro hb;simp only[cI.list,List.mem_cons,List.not_mem_nil,or_false]at hb;unfold Has at *;rcases hb with rfl|rfl|rfl
 ·rw[h]at k2;injection k2 with k2;injection k2 with _ k2;exact h1 k2
 ·rw[h]at k5;injection k5 with k5;injection k5 with _ k5;exact h2 k5
 ·rw[h]at k6;injection k6 with k6;injection k6 with _ k6;exact h3 k6
def Dh (w:World) (B:Nat) (g:cI) (T:ae) (X:cP) (x:Int) (e:Ending) (w':World):Prop:=
 e = .returned (.int .i64 x)/\gR w' B g T X/\Only g.list w w'
theorem rR {w w':World} {B:Nat} {g:cI} {S T:ae} {X:cP} {x:Int} (h:gR w B g S X) (hE:Ext w w') (hT:T=S):Dh w B g T X x (.returned (.int .i64 x)) w':=
 ⟨rfl,by rw[hT];exact h.ext hE,Only.ax hE⟩
def gD (S:ae) (cu no uid gid:Int):Int:=if eo S cu no≠0 then eo S cu no else if ¬cu=0 then 4 else if nO uid gid=false then 1 else 0
def fN (S:ae) (cu now no uid gid:Int):ae:=if gD S cu no uid gid=0 then aE S {ac S.nodes no with uid:=uid,gid:=gid,ctime:=now} else S
def gL (S:ae) (cu no mt:Int):Int:=if eo S cu no≠0 then eo S cu no else if mt<0\/253402300799<mt then 1 else 0
def fO (S:ae) (cu now no mt:Int):ae:=if gL S cu no mt=0 then aE S {ac S.nodes no with mtime:=mt,ctime:=now} else S
theorem GN (B:Nat) (g:bG) (S:ae) (cu cg now no mt:Int) (w:World) (h:dM w B g S) (hd:0<S.ah.length) (hu:aD S.nodes S.last) :
  Calls Tryz.prog 119 #[.pointer (some ⟨g.bW,0,none⟩),.agg #[cu,cg],.int .i64 now,.int .i64 no,.int .i64 mt] w (mA w B g (fO S cu now no mt) (gL S cu no mt)):=by
 have E0:Ext w (w.alloc (.cells #[cu,cg] 27)):=(Ext.refl _).alloc _;have hm:Hid (gL S cu no mt=if eo S cu no≠0 then eo S cu no else if mt<0\/253402300799<mt then 1 else 0):=by show _=_;rfl
 have pn:Hid (eo S cu no=0->aJ S.nodes no=true/\fB cu (ac S.nodes no).uid=true/\kj S cu no=ac S.nodes no):=ia;go_enter Tryz.func119,Tryz.ntmps119;go_wp2_with fail;refine (uo B g S cu cg no _ (h.ext E0) hd).mono ?_;rintro e w2 ⟨A,c,rfl,gv,b2⟩;have E2:=E0.trans b2;obtain⟨m,hmm⟩:=zE (kj S cu no);obtain⟨x,hx⟩:=zE (eo S cu no);rw [<-hmm]at gv pn;rw [<-hx]at hm pn;rw [<-hmm,<-hx];clear hmm hx
 by_cases aV:x=0
 ·have t0 : (x == 0)=true:=by simpa using aV
  have mB:(x != 0)=false:=by simpa using aV
  obtain ⟨hi,ho,mW⟩:=pn.out aV;have bU:Hid (gL S cu no mt=if mt<0\/253402300799<mt then 1 else 0):=by show _=_;rw[hm.out,if_neg (by simpa using aV)]
  have Al:m.no=no:=by rw[mW];exact (ak hi).2.1
  have zC:=zH mW;have w_:=zH Al;clear hm pn mW Al hi ho aV
  by_cases c1:mt<0
  ·have t1:decide (mt<0)=true:=decide_eq_true c1
   have hE:Hid (gL S cu no mt=1):=by show _=_;rw[bU.out,if_pos (.inl c1)]
   clear bU c1;go_wp2_with fail;go_ret;rw [hE.out];exact eG h (E2.alloc _) (by unfold fO;rw[hE.out];rfl)
  ·have t1:decide (mt<0)=false:=decide_eq_false c1
   by_cases c2:253402300799<mt
   ·have t2:decide (253402300799<mt)=true:=decide_eq_true c2
    have hE:Hid (gL S cu no mt=1):=by show _=_;rw[bU.out,if_pos (.inr c2)]
    clear bU c1 c2;go_wp2_with fail;go_ret;rw [hE.out];exact eG h (E2.alloc _) (by unfold fO;rw[hE.out];rfl)
   ·have t2:decide (253402300799<mt)=false:=decide_eq_false c2
    ·have hE:Hid (gL S cu no mt=0):=by show _=_;rw[bU.out,if_neg (by rintro (g'|g')<;>contradiction)]
     clear bU c1 c2;go_upto_region 7 with fail;obtain ⟨n,hn⟩:∃n:ai,n={m with mtime:=mt,ctime:=now}:=⟨_,rfl⟩;obtain⟨V,hV⟩:=zE (w2.alloc (.cells #[n.no,n.dev,n.kind,n.mode,n.uid,n.gid,n.mtime,n.ctime,n.ag,n.up,bs n.data,.slice A n.af.length c] 66));have my:=hV;rw [hn]at my;rw [<-my];have NV:Has V w2.heap.size (.cells #[n.no,n.dev,n.kind,n.mode,n.uid,n.gid,n.mtime,n.ctime,n.ag,n.up,bs n.data,.slice A n.af.length c] 66):=by rw[hV];exact Has.new _ _
     have EV:Ext w V:=by rw[hV];exact E2.alloc _
     have wj:az V B n A c:=((gv.ext (by rw[hV];exact (Ext.refl _).alloc _)).same (by rw[hn]));have HN:=zH hn;clear hV my hn;have KV:=h.ext EV;obtain ⟨_,_,cd,hW,_⟩:=id KV;have v0:V.cell? ⟨g.bW,0,none⟩=some (.pointer (some ⟨g.bT,0,none⟩)):=hW.cell 0;have vz:=hW.lt;obtain ⟨x0,x1,x2,x3,x4,x5,x6,x7,x8,x9,ki,ke⟩:=NV.cD;have zN:=NV.lt;go_still_tail 5,(by kernel_rfl);change wpList _ _ _ _ _ V.drew;go_wp2_with fail;have ED:Ext V V.drew:=(Ext.refl _).drew;refine (lU B g S n A c _ (KV.ext ED) hu (wj.ext ED)).mono ?_;rintro e w5 ⟨rfl,K5,O5⟩;go_wp2_with fail;go_ret;rw [hE.out];refine ⟨rfl,?_,Only.pre (EV.trans ED) O5⟩;have:fO S cu now no mt=aE S n:=by unfold fO;rw[if_pos hE.out,HN.out,zC.out]
     rw [this];exact K5
 ·have t0:(x == 0)=false:=by simpa using aV
  have mB:(x != 0)=true:=by simpa using aV
  have hE:Hid (gL S cu no mt=x):=by show _=_;rw[hm.out,if_pos aV]
  have hT:Hid (fO S cu now no mt=S):=by show _=_;unfold fO;rw[if_neg (by rw[hE.out];exact aV)]
  clear hm pn aV;go_wp2_with fail;go_ret;rw [hE.out];exact eG h (E2.alloc _) hT.out
theorem Di (B:Nat) (g:bG) (S:ae) (cu cg now no uid gid:Int) (w:World) (h:dM w B g S) (hd:0<S.ah.length) (hu:aD S.nodes S.last) :
  Calls Tryz.prog 117 #[.pointer (some ⟨g.bW,0,none⟩),.agg #[cu,cg],.int .i64 now,.int .i64 no,.int .i64 uid,.int .i64 gid] w (mA w B g (fN S cu now no uid gid) (gD S cu no uid gid)):=by
 have E0:Ext w (w.alloc (.cells #[cu,cg] 27)):=(Ext.refl _).alloc _;have hm:Hid (gD S cu no uid gid=if eo S cu no≠0 then eo S cu no else if ¬cu=0 then 4 else if nO uid gid=false then 1 else 0):=by show _=_;rfl
 have pn:Hid (eo S cu no=0->aJ S.nodes no=true/\fB cu (ac S.nodes no).uid=true/\kj S cu no=ac S.nodes no):=ia;go_enter Tryz.func117,Tryz.ntmps117;go_wp2_with fail;refine (uo B g S cu cg no _ (h.ext E0) hd).mono ?_;rintro e w2 ⟨A,c,rfl,gv,b2⟩;have E2:=E0.trans b2;obtain⟨m,hmm⟩:=zE (kj S cu no);obtain⟨x,hx⟩:=zE (eo S cu no);rw [<-hmm]at gv pn;rw [<-hx]at hm pn;rw [<-hmm,<-hx];clear hmm hx
 by_cases aV:x=0
 ·have t0 : (x == 0)=true:=by simpa using aV
  have mB:(x != 0)=false:=by simpa using aV
  obtain ⟨hi,ho,mW⟩:=pn.out aV;have bU:Hid (gD S cu no uid gid=if ¬cu=0 then 4 else if nO uid gid=false then 1 else 0):=by show _=_;rw[hm.out,if_neg (by simpa using aV)]
  have Al:m.no=no:=by rw[mW];exact (ak hi).2.1
  have zC:=zH mW;have w_:=zH Al;clear hm pn mW Al hi ho aV;have C2:=((Has.new w (.cells #[cu,cg] 27)).ext b2);have k0:w2.cell? ⟨w.heap.size,0,none⟩=some (.int .i64 cu):=C2.cell 0;have kz:=C2.lt
  by_cases c1:cu=0
  ·have t1:(cu == 0)=true:=by simpa using c1
   have rH:(cu != 0)=false:=by simpa using c1
   cases c2:nO uid gid
   ·have hE:Hid (gD S cu no uid gid=1):=by show _=_;rw[bU.out,if_neg (by simpa using c1),if_pos c2]
    have HC:=zH c2;clear bU c1 c2;go_wp2_with fail;refine (xg uid gid _).mono ?_;rw [HC.out];rintro e w4 ⟨rfl,b4⟩;go_wp2_with fail;go_ret;rw [hE.out];exact eG h ((E2.alloc _).trans b4) (by unfold fN;rw[hE.out];rfl)
   ·have hE:Hid (gD S cu no uid gid=0):=by show _=_;rw[bU.out,if_neg (by simpa using c1),if_neg (by rw[c2];decide)]
    have HC:=zH c2;clear bU c1 c2;go_wp2_with fail;refine (xg uid gid _).mono ?_;rw [HC.out];rintro e w4 ⟨rfl,b4⟩;have N4:=(Has.new w2 (.cells #[m.no,m.dev,m.kind,m.mode,m.uid,m.gid,m.mtime,m.ctime,m.ag,m.up,bs m.data,.slice A m.af.length c] 66)).ext b4;have qy:=(gv.ext ((Ext.refl _).alloc (.cells #[m.no,m.dev,m.kind,m.mode,m.uid,m.gid,m.mtime,m.ctime,m.ag,m.up,bs m.data,.slice A m.af.length c] 66))).ext b4;have E4:=(E2.alloc (.cells #[m.no,m.dev,m.kind,m.mode,m.uid,m.gid,m.mtime,m.ctime,m.ag,m.up,bs m.data,.slice A m.af.length c] 66)).trans b4;obtain ⟨y0,y1,y2,y3,y4,y5,y6,y7,y8,y9,pZ,nN⟩:=N4.cD;have yf:∀i,w4.frozen? ⟨w2.heap.size,i,none⟩=false:=fun i=>(N4.free i).trans (by simp)
    have yz:=N4.lt;go_upto_region 9 with fail;obtain ⟨n,hn⟩:∃n:ai,n={m with uid:=uid,gid:=gid,ctime:=now}:=⟨_,rfl⟩;obtain⟨V,hV⟩:=zE (((w4.setCell ⟨w2.heap.size,4,none⟩ (.int .i64 uid)).setCell ⟨w2.heap.size,5,none⟩ (.int .i64 gid)).setCell ⟨w2.heap.size,7,none⟩ (.int .i64 now));rw [<-hV];have NV:Has V w2.heap.size (.cells #[n.no,n.dev,n.kind,n.mode,n.uid,n.gid,n.mtime,n.ctime,n.ag,n.up,bs n.data,.slice A n.af.length c] 66):=by rw[hV,hn];exact ((N4.setCell 4 _).setCell 5 _).setCell 7 _
    have OV:Only [w2.heap.size] w4 V:=by rw[hV];exact ((Only.setCell _ _ _ _).then (Only.setCell _ _ _ _)).then (Only.setCell _ _ _ _)
    have EV:Ext w V:=OV.after E4 (by intro x hx;rw[List.mem_singleton]at hx;have:=E2.size;omega);have wj:az V B n A c:=(qy.same (by rw[hn])).only OV (by
     intro b hb;rw [List.mem_singleton]at hb;subst hb;exact ⟨by have:=h.1;have:=h.lt.1;have:=E2.size;omega,N4.fJ (by decide)⟩)
    have HN:=zH hn;clear hV hn y0 y1 y2 y3 y4 y5 y6 y7 y8 y9 pZ nN yf yz;have KV:=h.ext EV;obtain ⟨_,_,cd,hW,_⟩:=id KV;have v0:V.cell? ⟨g.bW,0,none⟩=some (.pointer (some ⟨g.bT,0,none⟩)):=hW.cell 0;have vz:=hW.lt;obtain ⟨x0,x1,x2,x3,x4,x5,x6,x7,x8,x9,ki,ke⟩:=NV.cD;have zN:=NV.lt;go_still_tail 5,(by kernel_rfl);change wpList _ _ _ _ _ V.drew;go_wp2_with fail;have ED:Ext V V.drew:=(Ext.refl _).drew;refine (lU B g S n A c _ (KV.ext ED) hu (wj.ext ED)).mono ?_;rintro e w5 ⟨rfl,K5,O5⟩;go_wp2_with fail;go_ret;rw [hE.out];refine ⟨rfl,?_,Only.pre (EV.trans ED) O5⟩;have:fN S cu now no uid gid=aE S n:=by unfold fN;rw[if_pos hE.out,HN.out,zC.out]
    rw [this];exact K5
  ·have t1:(cu == 0)=false:=by simpa using c1
   have rH:(cu != 0)=true:=by simpa using c1
   have hE:Hid (gD S cu no uid gid=4):=by show _=_;rw[bU.out,if_pos c1]
   clear bU c1;go_wp2_with fail;go_ret;rw [hE.out];exact eG h (E2.alloc _) (by unfold fN;rw[hE.out];rfl)
 ·have t0:(x == 0)=false:=by simpa using aV
  have mB:(x != 0)=true:=by simpa using aV
  have hE:Hid (gD S cu no uid gid=x):=by show _=_;rw[hm.out,if_pos aV]
  have hT:Hid (fN S cu now no uid gid=S):=by show _=_;unfold fN;rw[if_neg (by rw[hE.out];exact aV)]
  clear hm pn aV;go_wp2_with fail;go_ret;rw [hE.out];exact eG h (E2.alloc _) hT.out
theorem Dj {S:ae} {cu no:Int} (h:eo S cu no=0):aJ S.nodes no=true/\(ac S.nodes no).no=no:=⟨(ia h).1,(ak (ia h).1).2.1⟩
theorem GP {S:ae} {cu no m:Int} (h:fC S cu no m=0):eo S cu no=0:=by
 unfold fC at h;split at h
 ·rename_i h2;exact absurd h h2
 ·rename_i h2;simpa using h2
theorem GQ {S:ae} {cu no u g:Int} (h:gD S cu no u g=0):eo S cu no=0:=by
 unfold gD at h;split at h
 ·rename_i h2;exact absurd h h2
 ·rename_i h2;simpa using h2
theorem GR {S:ae} {cu no t:Int} (h:gL S cu no t=0):eo S cu no=0:=by
 unfold gL at h;split at h
 ·rename_i h2;exact absurd h h2
 ·rename_i h2;simpa using h2
def GS (S:ae) (cu cg no dl:Int):Int:=
 if aJ S.nodes no=false then 5 else if (ac S.nodes no).kind=1 then 8 else if ¬(ac S.nodes no).kind=2 then 1
 else if dX cu cg (ac S.nodes no).uid (ac S.nodes no).gid (ac S.nodes no).mode 2=false then 6 else if 1048576<dl then 3 else Aq S no dl
def yN (S:ae) (cu cg now no:Int) (data:List UInt8):ae:=
 if GS S cu cg no data.length=0 then aE (jH S no data) {ac (jH S no data).nodes no with mtime:=now,ctime:=now} else S
theorem Lq {S:ae} {no dl:Int} (h:Aq S no dl=0):aJ S.nodes no=true:=by
 cases hi:aJ S.nodes no
 ·unfold Aq at h;rw[hi]at h;simp at h
 ·rfl
theorem Ls (S:ae) (no:Int) (data:List UInt8) (k:Int) (h:aJ S.nodes k=true):aJ (jH S no data).nodes k=true:=by
 unfold jH;split
 ·rw[iL];exact h
 ·exact h
theorem GU {S:ae} {cu cg no dl:Int} (h:GS S cu cg no dl=0):aJ S.nodes no=true/\dl<=1048576/\Aq S no dl=0:=by
 unfold GS at h;split at h
 ·cases h
 ·rename_i hi
  split at h
  ·cases h
  ·split at h
   ·cases h
   ·split at h
    ·cases h
    ·split at h
     ·cases h
     ·exact⟨by simpa using hi,by omega,h⟩
theorem dy.live {c:Nat} {S:ae} (h:dy c S):Live S:=⟨h.bc,h.last,h.ah,h.eight,h.roots,h.count,h.on,h.first,fun n hn e=>(h.one n hn e).2.1,h.mQ⟩
theorem nR {c:Nat} {S:ae} (h:dy c S) {no:Int} {n:ai} (hi:aJ S.nodes no=true) (hn:n.no=no) (he:n.af=(ac S.nodes no).af) (hd:n.data.length<=1048576)
  (hk:n.kind=(ac S.nodes no).kind) (hv:n.dev=(ac S.nodes no).dev) (hu:n.up=(ac S.nodes no).up) (hl:n.ag=(ac S.nodes no).ag) (hm:0<=n.mode/\n.mode<=1023):dy c (aE S n):=by
 subst hn;have hm0:=(ak hi).2;have hb:=h.bits _ hm0.2;refine qu h (.inl rfl) hi (Nat.le_refl _) hk hv hu (fun jK=>by rw[hl];exact h.mC _ hm0.2 (by rw[<-hk];exact jK)) (by rw[he];exact h.lP _ hm0.2) (by rw[he];exact h.names _ hm0.2) (by rw[he];exact h.pos _ hm0.2) (by rw[he];exact h.small _ hm0.2) hd
  ⟨hm.1,hm.2,by rw[hl];exact hb.2.2.1,by rw[hl];exact hb.2.2.2⟩ (fun x hx=>?_) (fun q hq ut _ xj uj=>?_)
 ·rw [he]at hx
  have:=h.yJ _ hm0.2 x hx;rw [hm0.1,<-hv]at this;exact this
 ·rw [he]
  rcases h.wl q hq ut with⟨_,u2⟩|⟨_,_,m,hm,u3,_,_,x,hx,u6⟩
  ·exact absurd (u2.symm.trans xj) uj
  ·have:=(cR h.bc hm).1
   rw [u3,xj]at this;rw [this];exact ⟨x,hx,u6⟩
theorem dy.Fs {c:Nat} {S:ae} (h:dy c S) {no:Int} (hi:aJ S.nodes no=true):0<=(Proofs.YtpibnfdolojpcaaGreat.ac S.nodes no).mode/\(Proofs.YtpibnfdolojpcaaGreat.ac S.nodes no).mode<=1023:=by
 have:=h.bits _ (ak hi).2.2;exact ⟨this.1,this.2.1⟩
theorem Lt {c:Nat} {S:ae} (h:dy c S) (cu now no m:Int):dy c (eZ S cu now no m):=by
 unfold eZ;split
 ·rename_i h0
  obtain ⟨hi,hn⟩:=Dj (GP h0);refine nR h hi hn rfl (h.on _ (ak hi).2.2).2 rfl rfl rfl rfl ?_;unfold fC at h0;split at h0
  ·rename_i h1;exact absurd h0 h1
  ·split at h0
   ·cases h0
   ·rename_i h1
    rw [not_or,not_or]at h1;exact ⟨by show 0<=m;omega,by show m<=1023;omega⟩
 ·exact h
theorem Lu {c:Nat} {S:ae} (h:dy c S) (cu now no u g:Int):dy c (fN S cu now no u g):=by
 unfold fN;split
 ·rename_i h0
  obtain ⟨hi,hn⟩:=Dj (GQ h0);exact nR h hi hn rfl (h.on _ (ak hi).2.2).2 rfl rfl rfl rfl (h.Fs hi)
 ·exact h
theorem Lv {c:Nat} {S:ae} (h:dy c S) (cu now no t:Int):dy c (fO S cu now no t):=by
 unfold fO;split
 ·rename_i h0
  obtain ⟨hi,hn⟩:=Dj (GR h0);exact nR h hi hn rfl (h.on _ (ak hi).2.2).2 rfl rfl rfl rfl (h.Fs hi)
 ·exact h
theorem Lw {c:Nat} {S:ae} (h:dy c S) (no:Int) (data:List UInt8) (hd:data.length<=1048576):dy c (jH S no data):=by
 unfold jH;split
 ·rename_i h0
  have hi:=Lq h0;have ho:=h.on _ (ak hi).2.2;exact nR (no:=no) (n:={ac S.nodes no with data:=data}) (uu h (ac S.nodes no).dev _ (h.live.fine ho.1 _ _) S.last (Int.le_refl _)) hi (ak hi).2.1 rfl hd rfl rfl rfl rfl (h.Fs hi)
 ·exact h
theorem PV {c:Nat} {S:ae} (h:dy c S) (cu cg now no:Int) (data:List UInt8):dy c (yN S cu cg now no data):=by
 unfold yN;split
 ·rename_i h0
  obtain ⟨hi,hd,_⟩:=GU h0;have hG:=Lw h no data (by omega);have po:=Ls S no data no hi;exact nR hG (n:={ac (jH S no data).nodes no with mtime:=now,ctime:=now}) po (ak po).2.1 rfl (hG.on _ (ak po).2.2).2 rfl rfl rfl rfl (hG.Fs po)
 ·exact h
end Go.Proofs.YtpibnfdolojpcaaGreat
