import Derived.Test.YtblbohcaphcobaaGreatDoorBunC
import Derived.Test.YtblbohcaphcobaaGreatDoorBunD
import Derived.Test.YtblbohcaphcobaaGreatDoorBunF
import Derived.Test.YtblbohcaphcobaaGreatDoorBunE
set_option maxHeartbeats 4000000
set_option maxRecDepth 100000
namespace Go.Proofs.YtblbohcaphcobaaGreatDoor
section
open Go
section
variable {P:Program} {ops:Array Oper} {md:Region.Mode} {E:Nat->Sem Next->Value->Prop}
def jC (ops:Array Oper) (E:Nat->Sem Next->Value->Prop) (i:Nat) (o:Oper) (v:Value) (a:Act):Prop:=
 (Region.wanted o (yielded ops a.tmps)=true/\E i (execOp a.eval o) v)\/(Region.wanted o (yielded ops a.tmps)=false/\v=undef)
def EZ (ops:Array Oper) (E:Nat->Sem Next->Value->Prop) (i:Nat) (K:Act->Prop) (a:Act):Prop:=
 match ops[i]? with
 | none=>K a
 | some o=>if Region.wanted o (yielded ops a.tmps) then ∃v,E i (execOp a.eval o) v/\K (a.put o.dst v) else K (a.put o.dst undef)
theorem Kh {i:Nat} {a:Act} {K K':Act->Prop} (h:∀a,K a->K' a) (hh:EZ ops E i K a):EZ ops E i K' a:=by
 unfold EZ at *;split
 ·rename_i ho;rw[ho]at hh;exact h _ hh
 ·rename_i o ho
  rw [ho]at hh;dsimp only at hh;split
  ·rename_i hw;rw[if_pos hw]at hh;obtain⟨v,h1,h2⟩:=hh;exact⟨v,h1,h _ h2⟩
  ·rename_i hw;rw[if_neg hw]at hh;exact h _ hh
theorem Ki {i:Nat} {o:Oper} {v:Value} {a:Act} (hi:ops[i]?=some o) (hy:jC ops E i o v a) {K:Act->Prop} (h:K (a.put o.dst v)):EZ ops E i K a:=by
 unfold EZ;rw [hi];dsimp only;rcases hy with⟨hw,hv⟩|⟨hw,rfl⟩
 ·rw[if_pos hw];exact⟨v,hv,h⟩
 ·rw[if_neg (by rw[hw];decide)];exact h
theorem wi {i:Nat} {o:Oper} {a:Act} {K:Act->Prop} (hi:ops[i]?=some o) (h:EZ ops E i K a):∃v,jC ops E i o v a/\K (a.put o.dst v):=by
 unfold EZ at h;rw [hi]at h;dsimp only at h
 by_cases hw:Region.wanted o (yielded ops a.tmps)=true
 ·rw[if_pos hw]at h;obtain⟨v,h1,h2⟩:=h;exact⟨v,.inl ⟨hw,h1⟩,h2⟩
 ·rw[if_neg hw]at h;exact⟨undef,.inr ⟨by simpa using hw,rfl⟩,h⟩
theorem yB {i:Nat} {o:Oper} {v:Value} {a a':Act} (hy:jC ops E i o v a) (he:execOp a'.eval o=execOp a.eval o) (hw:Region.wanted o (yielded ops a'.tmps)=Region.wanted o (yielded ops a.tmps)):jC ops E i o v a':=by
 unfold jC at *;rw [he,hw];exact hy
theorem Pt {i j:Nat} {oi oj:Oper} {v:Value} (hj:ops[j]?=some oj) (hap:oi.apart ops oj=true)
  (hsi:∀cs b,oi.op≠.select cs b) (hsj:∀cs b,oj.op≠.select cs b) {K:Act->Prop} {a:Act}
  (hy:jC ops E i oi v a) (h:EZ ops E j K (a.put oi.dst v)):EZ ops E j (fun a'=>jC ops E i oi v a'/\K (a'.put oi.dst v)) a:=by
 obtain ⟨h1,h2,h3⟩:=Oper.apart_spec hap;have keep:∀(a:Act),jC ops E i oi v a->∀u,jC ops E i oi v (a.put oj.dst u):=fun a hy u =>
  yB hy (execOp_put oi hsi a oj.dst u h3) (wanted_put oi a oj.dst u h3)
 unfold EZ at *;rw [hj]at h|-;dsimp only at h|-;rw [wanted_put oj a oi.dst v h1,execOp_put oj hsj a oi.dst v h1]at h;split
 ·rename_i hw
  rw [if_pos hw]at h;obtain ⟨u,hu,hn⟩:=h;exact ⟨u,hu,keep a hy u,by rw[<-Act.put_comm a v u h2];exact hn⟩
 ·rename_i hw
  rw [if_neg hw]at h;exact ⟨keep a hy _,by rw[<-Act.put_comm a v undef h2];exact h⟩
def uf (md:Region.Mode) (ops:Array Oper) (E:Nat->Sem Next->Value->Prop) (ks:List Nat) (Q:Act->Prop):Nat->Array Bool->Act->Prop
 | 0,listed,a=>Region.ready md ops listed=[]/\(∀k∈ks,listed.getD k false=true)/\Q a
 | f+1,listed,a=>Region.ready md ops listed≠[]/\∀i∈Region.ready md ops listed,EZ ops E i (uf md ops E ks Q f (listed.setIfInBounds i true)) a
theorem yC {ks:List Nat} {Q:Act->Prop} {i:Nat} {oi:Oper} {v:Value} (hi:ops[i]?=some oi) (sE:∀(j:Nat) (o:Oper) cs b,ops[j]?=some o->o.op≠.select cs b) :
  ∀ (fuel:Nat) (listed:Array Bool) (a:Act),
   (∀j oj,ops[j]?=some oj->j≠i->listed.getD j true=false->(∀e∈oj.after,Region.binds md e=true->e.on≠i)->oi.apart ops oj=true) ->
   i∈Region.ready md ops listed->jC ops E i oi v a ->
   uf md ops E ks Q fuel (listed.setIfInBounds i true) (a.put oi.dst v)->uf md ops E ks Q (fuel+1) listed a:=by
 intro fuel
 induction fuel with
 | zero =>
  intro listed a _ hr hy H;refine ⟨fun h=>(by rw[h]at hr;cases hr),fun j hj=>?_⟩
  by_cases wW:j=i
  ·subst wW;exact Ki hi hy H
  ·have:=ready_mono hj wW
   rw [H.1]at this
   cases this
 | succ fuel ih =>
  intro listed a oF hr hy H;refine ⟨fun h=>(by rw[h]at hr;cases hr),fun j hj=>?_⟩
  by_cases wW:j=i
  ·subst wW;exact Ki hi hy H
  ·have h1:=H.2 j (ready_mono hj wW)
   obtain ⟨JP,oj,JQ,hall⟩:=mem_ready.1 hj;have SA:∀e∈oj.after,Region.binds md e=true->e.on≠i:=fun e he hb NI=>by
    have h1:=hall e he hb;have h0:=(mem_ready.1 hr).1;rw [NI]at h1;rcases Nat.lt_or_ge i listed.size with h'|h'
    ·simp[h']at h0 h1;rw[h0]at h1;cases h1
    ·simp[Array.getElem?_eq_none h']at h1
   have h2:=Pt JQ (oF j oj JQ wW JP SA) (fun cs b=>sE i oi cs b hi) (fun cs b=>sE j oj cs b JQ) hy h1;have CQ:∀k ok,ops[k]?=some ok->k≠i->(listed.setIfInBounds j true).getD k true=false ->
     (∀e∈ok.after,Region.binds md e=true->e.on≠i)->oi.apart ops ok=true:=fun k ok hk Pd Al bc=>by
    refine oF k ok hk Pd ?_ bc
    by_cases Q6:j=k
    ·subst Q6;exact JP
    ·rw[getD_set_ne true Q6]at Al;exact Al
   refine Kh (fun a' h3=>ih (listed.setIfInBounds j true) a' CQ (ready_mono hr (Ne.symm wW)) h3.1 ?_) h2;rw [Array.setIfInBounds_comm _ _ wW];exact h3.2
def gv (ops:Array Oper) (E:Nat->Sem Next->Value->Prop) (Q:Act->Prop):List Oper->Nat->Act->Prop
 | [],_,a=>Q a
 | o::rest,k,a=>if Region.wanted o (yielded ops a.tmps) then ∃v,E k (execOp a.eval o) v/\gv ops E Q rest (k+1) (a.put o.dst v) else gv ops E Q rest (k+1) (a.put o.dst undef)
theorem ug {ks:List Nat} {Q:Act->Prop} (hs:Region.noSelect ops=true) (hks:∀k∈ks,k<ops.size):∀(l:List Oper) (k:Nat) (listed:Array Bool) (a:Act),(∀j,l[j]?=ops[k+j]?) ->
  (∀j,j<k->j<ops.size->listed.getD j false=true)->listed.size=ops.size->ops.size<=k+l.length->Region.lexFrom md ops l.length k listed=true->gv ops E Q l k a->uf md ops E ks Q l.length listed a
 | [],k,listed,a,_,j5,_,hm,hB,h=>⟨by simpa [Region.lexFrom]using hB,fun j hj=>j5 j (by have:=hks j hj;simp at hm;omega) (hks j hj),h⟩
 | o :: l,k,listed,a,hl,j5,hsz,hm,hB,h=>by
  have h0:ops[k]?=some o:=by simpa using (hl 0).symm
  simp only[List.length_cons,Region.lexFrom,Bool.and_eq_true]at hB;obtain ⟨⟨hr,hf⟩,Wq⟩:=hB;have hst:EZ ops E k (gv ops E Q l (k+1)) a:=by unfold EZ;rw[h0];exact h
  obtain ⟨v,hy,hK⟩:=wi h0 hst;refine yC h0 (Region.noSelect_spec hs) l.length listed a (Region.free_spec h0 hf) (by simpa using hr) hy
   (ug hs hks l (k+1) _ _ (fun j=>by have:=hl (j+1);simpa [Nat.add_assoc,Nat.add_comm 1 j]using this) ?_ (by simpa using hsz) (by simp only[List.length_cons]at hm;omega) Wq hK)
  intro j hj hjs
  by_cases e:k=j
  ·subst e
   have:k<listed.size:=by omega
   simp [this]
  ·rw[getD_set_ne false e];exact j5 j (by omega) hjs
end
def placeOf:List Nat->Nat->Option Nat
 | [],_=>none
 | k::ks,i=>if k=i then some 0 else (placeOf ks i).map (·+1)
theorem pU:∀{ks:List Nat} {i t:Nat},placeOf ks i=some t->ks[t]?=some i
 | k :: ks,i,t,h=>by
  unfold placeOf at h;split at h
  ·rename_i e;injection h with h;subst h;subst e;rfl
  ·cases hp:placeOf ks i with
   | none=>rw[hp]at h;cases h
   | some s =>
    rw [hp]at h;injection h with h;subst h;simpa using pU hp
theorem pV:∀{ks:List Nat} {i:Nat},placeOf ks i=none->i∉ks
 | [],_,_=>by simp
 | k :: ks,i,h=>by
  unfold placeOf at h;split at h
  ·cases h
  ·rename_i e
   cases hp:placeOf ks i with
   | none=>rw[List.mem_cons,not_or];exact⟨fun x=>e x.symm,pV hp⟩
   | some s=>rw[hp]at h;cases h
structure Hp (Ph:Nat->World->Prop) where
 j : Nat
 w : World
 h : Ph j w
structure Wc (C:World->Prop) where
 w : World
 h : C w
def fh (P:Program) (C:World->Prop) (v:Value):Result Next->Prop
 | .ok (.value u) w'=>u=v/\C w'
 | .ok .skip w'=>v=undef/\C w'
 | .ok (.enter f args) w'=>Calls P f args w' (fun e w''=>e=.returned v/\C w'')
 | _=>False
def NL (P:Program) (Ph:Nat->World->Prop) (ks:List Nat) (i:Nat) (x:Sem Next) (v:Value):Prop:=
 match placeOf ks i with
 | some j=>∀u:Wc (Ph j),fh P (Ph (j+1)) v (x.run P u.w)
 | none=>∀u:Hp Ph,Oper.quietUpon P (Ph u.j) u.w v (x.run P u.w)
theorem sI {P:Program} {o:Oper} {a:Act} {v:Value} {w:World} {C:World->Prop} {K':Act->World->Prop} {Q':Exit->Act->World->Prop} (h1:Oper.quietUpon P C w v ((execOp a.eval o).run P w)) (hC:C w) (hK:∀w'',C w''->K' (a.put o.dst v) w''):o.wp P a w K' Q':=by
 unfold Oper.wp
 generalize (execOp a.eval o).run P w=r at *
 cases r with
 | ok n w' =>
  cases n<;>simp only[Oper.quietUpon]at h1<;>simp only[Oper.upon]
  case value u=>obtain⟨e1,e2⟩:=h1;rw[e1,e2];exact hK _ hC
  case skip=>obtain⟨e1,e2⟩:=h1;rw[e1,<-e2];exact hK _ hC
  case enter f args =>
   obtain ⟨e1,hc⟩:=h1;rw [e1];exact hc.mono fun e w'' ⟨he,hw''⟩=>by subst he;exact hK _ hw''
 | halt x w'=>simp only[Oper.quietUpon]at h1
theorem qV {P:Program} {o:Oper} {a:Act} {v:Value} {w:World} {C:World->Prop} {K':Act->World->Prop} {Q':Exit->Act->World->Prop} (h1:fh P C v ((execOp a.eval o).run P w)) (hK:∀w'',C w''->K' (a.put o.dst v) w''):o.wp P a w K' Q':=by
 unfold Oper.wp
 generalize (execOp a.eval o).run P w=r at *
 cases r with
 | ok n w' =>
  cases n<;>simp only[fh]at h1<;>simp only[Oper.upon]
  case value u=>obtain⟨e1,e2⟩:=h1;rw[e1];exact hK _ e2
  case skip=>obtain⟨e1,e2⟩:=h1;rw[<-e1];exact hK _ e2
  case enter f args=>exact h1.mono fun e w'' ⟨he,hw''⟩=>by subst he;exact hK _ hw''
 | halt x w'=>simp only[fh]at h1
theorem uh {P:Program} {ops:Array Oper} {md:Region.Mode} {Ph:Nat->World->Prop} {ks:List Nat} {Q:Act->Prop} {Q':Exit->Act->World->Prop}
  (hch:∀t k k',ks[t]?=some k->ks[t+1]?=some k'->∃o,ops[k']?=some o/\∃e∈o.after,Region.binds md e=true/\e.on=k)
  (hnd:ks.Nodup) (hg:∀k∈ks,∃o,ops[k]?=some o/\o.guard=none) (hQ:∀a w,Ph ks.length w->Q a->Q' .normal a w) :
  ∀ (f:Nat) (listed:Array Bool) (a:Act) (w:World) (j:Nat),j<=ks.length->(∀t k,ks[t]?=some k->listed.getD k false=decide (t<j))->(∀k∈ks,k<listed.size)->Ph j w ->
   uf md ops (NL P Ph ks) ks Q f listed a->wpAny P md ops Q' f listed a w
 | 0, listed,a,w,j,hj,hl,_,hw,⟨h1,h2,h3⟩=>by
  refine ⟨h1,hQ a w ?_ h3⟩;rcases Nat.lt_or_ge j ks.length with g|g
  ·have e:ks[j]?=some ks[j]:=List.getElem?_eq_getElem g
   have h4:=hl j _ e;rw [h2 _ (List.getElem_mem g)]at h4;simp at h4
  ·have:j=ks.length:=by omega
   rw [<-this];exact hw
 | f + 1, listed,a,w,j,hj,hl,hsz,hw,⟨hne,hall⟩=>by
  refine ⟨fun h0=>absurd h0 hne,fun i hi=>?_⟩;have hr:=hall i hi;obtain ⟨Al,o,ho,tR⟩:=mem_ready.1 hi;have ih:=uh (P:=P) hch hnd hg hQ f;unfold EZ at hr;unfold wpOp;rw [ho]at hr|-;dsimp only at hr|-
  cases hp:placeOf ks i with
  | some t =>
   have hk:=pU hp;have Pd:i∈ks:=List.mem_of_getElem? hk;have hlk:=hl t i hk;have aaz:listed.getD i false=false:=by
    have:=hsz i Pd;simp [this]at Al|-;exact Al
   rw [aaz]at hlk;have htj:¬t<j:=by simpa using hlk.symm
   have hjt:t=j:=by
    cases t with
    | zero=>omega
    | succ s =>
     have xg:s+1<ks.length:=(List.getElem?_eq_some_iff.1 hk).1;have e:ks[s]?=some ks[s]:=List.getElem?_eq_getElem (by omega);obtain ⟨o2,mL,ed,qB,sZ,IX⟩:=hch s _ _ e hk;rw [ho]at mL;injection mL with mL;subst mL;have h5:=tR ed qB sZ;rw [IX,hl s _ e]at h5;have:s<j:=by simpa using h5
     omega
   subst hjt;obtain ⟨og,Z4,Pu⟩:=hg i Pd;rw [ho]at Z4;injection Z4 with Z4;subst Z4;have WE:Region.wanted o (yielded ops a.tmps)=true:=by unfold Region.wanted;rw[Pu]
   rw [if_pos WE]at hr|-;obtain ⟨v,h1,h2⟩:=hr;unfold NL at h1;rw [hp]at h1
   left
   have pW:t<ks.length:=(List.getElem?_eq_some_iff.1 hk).1;refine qV (h1 ⟨w,hw⟩) fun w'' hw''=>ih _ _ w'' (t+1) pW (fun s k hs=>?_) (fun k hk2=>by simpa using hsz k hk2) hw'' h2
   by_cases e:i=k
   ·subst e
    have:s=t:=by
     have h6:=List.getElem?_eq_some_iff.1 hs;have h7:=List.getElem?_eq_some_iff.1 hk;obtain ⟨a1,a2⟩:=h6;obtain ⟨b1,b2⟩:=h7;exact (List.getElem_inj hnd).1 (a2.trans b2.symm)
    subst this;have:=hsz i Pd;simp [this]
   ·rw [getD_set_ne false e,hl s k hs]
    have:s≠t:=fun e2=>by
     subst e2;rw [hk]at hs;injection hs with hs;exact e hs
    simp;omega
  | none =>
   have Pd:=pV hp;have hl':∀t k,ks[t]?=some k->(listed.setIfInBounds i true).getD k false=decide (t<j):=fun t k hk=>by
    have:i≠k:=fun e=>Pd (by rw[e];exact List.mem_of_getElem? hk)
    rw [getD_set_ne false this];exact hl t k hk
   have WG:∀k∈ks,k<(listed.setIfInBounds i true).size:=fun k hk2=>by simpa using hsz k hk2
   split
   ·rename_i WE
    rw [if_pos WE]at hr;obtain ⟨v,h1,h2⟩:=hr;unfold NL at h1;rw [hp]at h1
    left
    exact sI (h1 ⟨j,w,hw⟩) hw fun w'' hw''=>ih _ _ w'' j hj hl' WG hw'' h2
   ·rename_i WE
    rw [if_neg WE]at hr;exact ih _ _ w j hj hl' WG hw hr
def chainB (l:List Oper):List Nat->Bool
 | []=>true
 | [k]=>(match l[k]? with
  | some o=>o.guard == none
  | none=>false)
 | k :: k2::ks=>(match l[k]? with
  | some o=>o.guard == none
  | none=>false)&&(decide (k<k2)&&(match l[k2]? with
   | some o2=>o2.after.any (fun e=>Region.binds .any e&&e.on == k)
   | none=>false))&&chainB l (k2::ks)
theorem pX {l:List Oper}:∀{ks:List Nat},chainB l ks=true->∀k∈ks,∃o,l[k]?=some o/\o.guard=none
 | [],_,_,h=>by cases h
 | [k],h,x,hx=>by
  rw [List.mem_singleton]at hx;subst hx;unfold chainB at h
  cases ho:l[x]? with
  | none=>rw[ho]at h;cases h
  | some o=>rw[ho]at h;exact⟨o,rfl,by simpa using h⟩
 | k :: k2::ks,h,x,hx=>by
  unfold chainB at h;simp only[Bool.and_eq_true]at h;obtain ⟨⟨h1,_⟩,h3⟩:=h;rcases List.mem_cons.1 hx with rfl|hx
  ·cases ho:l[x]? with
   | none=>rw[ho]at h1;cases h1
   | some o=>rw[ho]at h1;exact⟨o,rfl,by simpa using h1⟩
  ·exact pX h3 x hx
theorem mj {l:List Oper}:∀{ks:List Nat},chainB l ks=true->∀t k k',ks[t]?=some k->ks[t+1]?=some k'->k<k'/\∃o,l[k']?=some o/\∃e∈o.after,Region.binds .any e=true/\e.on=k
 | [],_,t,k,k',h,_=>by simp at h
 | [x],_,t,k,k',_,h=>by simp at h
 | x :: y::ks,h,t,k,k',h1,h2=>by
  unfold chainB at h;simp only[Bool.and_eq_true,decide_eq_true_eq]at h;obtain ⟨⟨_,g1,g2⟩,g3⟩:=h
  cases t with
  | zero =>
   simp at h1 h2;subst h1;subst h2;refine ⟨g1,?_⟩
   cases ho:l[y]? with
   | none=>rw[ho]at g2;cases g2
   | some o =>
    rw [ho]at g2;simp only[Array.any_eq_true',Bool.and_eq_true,beq_iff_eq]at g2;obtain ⟨e,a1,a2,a3⟩:=g2;exact ⟨o,rfl,e,a1,a2,a3⟩
  | succ t=>exact mj g3 t k k' (by simpa using h1) (by simpa using h2)
theorem Gv {l:List Oper} {ks:List Nat} (h:chainB l ks=true):ks.Pairwise (· < ·):=by
 induction ks with
 | nil=>exact List.Pairwise.nil
 | cons k ks ih =>
  have h2:chainB l ks=true:=by
   cases ks with
   | nil=>rfl
   | cons k2 ks=>unfold chainB at h;simp only[Bool.and_eq_true]at h;exact h.2
  have hp:=ih h2;refine List.pairwise_cons.2 ⟨fun x hx=>?_,hp⟩
  cases ks with
  | nil=>cases hx
  | cons k2 ks =>
   have h0:=(mj h 0 k k2 rfl rfl).1;rcases List.mem_cons.1 hx with rfl|hx
   ·exact h0
   ·have:=(List.pairwise_cons.1 hp).1 x hx
    omega
theorem ic {P:Program} {id:Nat} {Q:Exit->Act->World->Prop} {a:Act} {w:World} {l:List Oper} (Ph:Nat->World->Prop) (ks:List Nat)
  (hm:P.follows .mixedOrders=true) (hB:Region.lexB .any l.toArray=true) (hc:chainB l ks=true) (hV:Ph 0 w.drew)
  (h:gv l.toArray (NL P Ph ks) (fun a'=>∀w',Ph ks.length w'->Q .normal a' w') l 0 a):(Code.region id l.toArray true).wp P Q a w:=by
 simp only[Region.lexB,Bool.and_eq_true]at hB;have hgd:=pX hc;have hsz:∀k∈ks,k<l.toArray.size:=fun k hk=>by
  obtain ⟨o,ho,_⟩:=hgd k hk;simpa using (List.getElem?_eq_some_iff.1 ho).1
 refine wp_region_any hm ?_;refine uh (P:=P) (Ph:=Ph) (ks:=ks) (Q:=fun a'=>∀w',Ph ks.length w'->Q .normal a' w') (fun t k k' h1 h2=>?_) ((Gv hc).imp (fun h=>Nat.ne_of_lt h)) (fun k hk=>?_) (fun a w h1 h2=>h2 w h1) _ _ a w.drew 0 (Nat.zero_le _) (fun t k hk=>?_) (fun k hk=>?_) hV ?_
 ·obtain ⟨o,ho,he⟩:=(mj hc t k k' h1 h2).2
  exact ⟨o,by simpa using ho,he⟩
 ·obtain ⟨o,ho,Pu⟩:=hgd k hk
  exact ⟨o,by simpa using ho,Pu⟩
 ·have:=hsz k (List.mem_of_getElem? hk)
  simp at this;simp [this]
 ·simpa using hsz k hk
 ·have:=ug (md:=.any) (ks:=ks) hB.1 hsz l 0 (Array.replicate l.toArray.size false) a (by simp) (fun j hj=>by omega) (by simp) (by simp) (by simpa using hB.2) h
  simpa using this
section
variable {P:Program} {ops:Array Oper} {Ph:Nat->World->Prop} {ks:List Nat} {Q:Act->Prop} {a:Act}
theorem ml {E:Nat->Sem Next->Value->Prop} {k:Nat} (h:Q a):gv ops E Q [] k a:=h
theorem kv {o:Oper} {rest:List Oper} {k:Nat} (hp:placeOf ks k=none)
  (h:∀K:Act->Prop,(∀a,gv ops (NL P Ph ks) Q rest (k+1) a->K a)->if Region.wanted o (yielded ops a.tmps) then ∃v,(∀u:Hp Ph,o.quietAt P a (Ph u.j) u.w v)/\K (a.put o.dst v) else K (a.put o.dst undef)):gv ops (NL P Ph ks) Q (o::rest) k a:=by
 unfold gv;have:=h _ (fun _ h=>h);unfold NL;rw [hp];exact this
theorem dQ {o:Oper} {rest:List Oper} {k:Nat} (j:Nat) (hp:placeOf ks k=some j) (hg:o.guard=none)
  (h:∀K:Act->Prop,(∀a,gv ops (NL P Ph ks) Q rest (k+1) a->K a)->∃v,(∀u:Wc (Ph j),fh P (Ph (j+1)) v ((execOp a.eval o).run P u.w))/\K (a.put o.dst v)):gv ops (NL P Ph ks) Q (o::rest) k a:=by
 unfold gv;have hw:Region.wanted o (yielded ops a.tmps)=true:=by unfold Region.wanted;rw[hg]
 rw [if_pos hw];have:=h _ (fun _ h=>h);unfold NL;rw [hp];exact this
end
end
open Go.ChangeShapes Go.WideShapes Go.ChangeAt Go.RowKit
def ph2 (C0 C1 C2:World->Prop):Nat->World->Prop
 | 0=>C0
 | 1=>C1
 | 2=>C2
 | _=>fun _=>False
theorem Pv {C0 C1 C2 T:World->Prop} (h0:∀w,C0 w->T w) (h1:∀w,C1 w->T w) (h2:∀w,C2 w->T w):∀u:Hp (ph2 C0 C1 C2),T u.w:=fun u=>by
 obtain ⟨j,w,h⟩:=u
 match j,h with
 | 0,h=>exact h0 _ h
 | 1,h=>exact h1 _ h
 | 2,h=>exact h2 _ h
 | j+3,h=>exact h.elim
theorem eD.iG {w:World} {B b:Nat} {g:bQ} {S:ac} {cs:Array Value} {t:TypeId} {fr:Nat×Nat} (K:eD w B g S) (h:Has w b (.cells cs t fr)) (h1:t≠70) (h2:t≠113) (h3:t≠157):b∉g.list:=by
 obtain ⟨_,⟨_,_,k2,es,cl,k3,_⟩,cd,k4,k5⟩:=K;obtain ⟨_,cur,k6⟩:=k5.has;intro hb;simp only[bQ.list,List.mem_cons,List.not_mem_nil,or_false]at hb;unfold Has at *;rcases hb with rfl|rfl|rfl|rfl
 ·rw[h]at k4;injection k4 with k4;injection k4 with _ k4;exact h1 k4
 ·rw[h]at k2;injection k2 with k2;injection k2 with _ k2;exact h2 k2
 ·rw[h]at k3;injection k3 with k3;cases k3
 ·rw[h]at k6;injection k6 with k6;injection k6 with _ k6;exact h3 k6
theorem gV.iG {w:World} {B b:Nat} {f:cJ} {S:ac} {X:cM} {cs:Array Value} {t:TypeId} {fr:Nat×Nat} (F:gV w B f S X) (h:Has w b (.cells cs t fr)) (h1:t≠54) (h2:t≠58) (h3:t≠110):b∉f.list:=by
 obtain ⟨_,cn,ce,k2,⟨xs,k3,_⟩,k4⟩:=F;obtain ⟨_,yp,k5⟩:=bY k3;obtain ⟨_,Ge,k6⟩:=bY k4;intro hb;simp only[cJ.list,List.mem_cons,List.not_mem_nil,or_false]at hb;unfold Has at *;rcases hb with rfl|rfl|rfl
 ·rw[h]at k2;injection k2 with k2;injection k2 with _ k2;exact h1 k2
 ·rw[h]at k5;injection k5 with k5;injection k5 with _ k5;exact h2 k5
 ·rw[h]at k6;injection k6 with k6;injection k6 with _ k6;exact h3 k6
def Db (w:World) (B:Nat) (g:cJ) (T:ac) (X:cM) (x:Int) (e:Ending) (w':World):Prop:=
 e = .returned (.int .i64 x)/\gV w' B g T X/\Only g.list w w'
theorem qW {w w':World} {B:Nat} {g:cJ} {S T:ac} {X:cM} {x:Int} (h:gV w B g S X) (hE:Ext w w') (hT:T=S):Db w B g T X x (.returned (.int .i64 x)) w':=
 ⟨rfl,by rw[hT];exact h.ext hE,Only.aw hE⟩
def fu (S:ac) (cu no uid gid:Int):Int:=if ew S cu no≠0 then ew S cu no else if ¬cu=0 then 4 else if mU uid gid=false then 1 else 0
def ey (S:ac) (cu now no uid gid:Int):ac:=if fu S cu no uid gid=0 then aK S {aa S.nodes no with uid:=uid,gid:=gid,ctime:=now} else S
def fw (S:ac) (cu no mt:Int):Int:=if ew S cu no≠0 then ew S cu no else if mt<0\/253402300799<mt then 1 else 0
def ee (S:ac) (cu now no mt:Int):ac:=if fw S cu no mt=0 then aK S {aa S.nodes no with mtime:=mt,ctime:=now} else S
theorem Gw (B:Nat) (g:bQ) (S:ac) (cu cg now no mt:Int) (w:World) (h:eD w B g S) (hd:0<S.af.length) (hu:aI S.nodes S.last) :
  Calls Tryz.prog 84 #[.pointer (some ⟨g.bW,0,none⟩),.agg #[cu,cg],.int .i64 now,.int .i64 no,.int .i64 mt] w (wg w B g (ee S cu now no mt) (fw S cu no mt)):=by
 have E0:Ext w (w.alloc (.cells #[cu,cg] 27)):=(Ext.refl _).alloc _;have hm:Hid (fw S cu no mt=if ew S cu no≠0 then ew S cu no else if mt<0\/253402300799<mt then 1 else 0):=by show _=_;rfl
 have oH:Hid (ew S cu no=0->aQ S.nodes no=true/\gW cu (aa S.nodes no).uid=true/\jQ S cu no=aa S.nodes no):=gI;go_enter Tryz.func84,Tryz.ntmps84;go_wp2_with fail;refine (tZ B g S cu cg no _ (h.ext E0) hd).mono ?_;rintro e w2 ⟨A,c,rfl,iC,b2⟩;have E2:=E0.trans b2;obtain⟨m,hmm⟩:=ar (jQ S cu no);obtain⟨x,hx⟩:=ar (ew S cu no);rw [<-hmm]at iC oH;rw [<-hx]at hm oH;rw [<-hmm,<-hx];clear hmm hx
 by_cases hx0:x=0
 ·have t0 : (x == 0)=true:=by simpa using hx0
  have oG:(x != 0)=false:=by simpa using hx0
  obtain ⟨hi,ho,oI⟩:=oH.out hx0;have cL:Hid (fw S cu no mt=if mt<0\/253402300799<mt then 1 else 0):=by show _=_;rw[hm.out,if_neg (by simpa using hx0)]
  have AE:m.no=no:=by rw[oI];exact (aj hi).2.1
  have CZ:=zH oI;have sC:=zH AE;clear hm oH oI AE hi ho hx0
  by_cases c1:mt<0
  ·have t1:decide (mt<0)=true:=decide_eq_true c1
   have hE:Hid (fw S cu no mt=1):=by show _=_;rw[cL.out,if_pos (.inl c1)]
   clear cL c1;go_wp2_with fail;go_ret;rw [hE.out];exact fB h (E2.alloc _) (by unfold ee;rw[hE.out];rfl)
  ·have t1:decide (mt<0)=false:=decide_eq_false c1
   by_cases c2:253402300799<mt
   ·have t2:decide (253402300799<mt)=true:=decide_eq_true c2
    have hE:Hid (fw S cu no mt=1):=by show _=_;rw[cL.out,if_pos (.inr c2)]
    clear cL c1 c2;go_wp2_with fail;go_ret;rw [hE.out];exact fB h (E2.alloc _) (by unfold ee;rw[hE.out];rfl)
   ·have t2:decide (253402300799<mt)=false:=decide_eq_false c2
    ·have hE:Hid (fw S cu no mt=0):=by show _=_;rw[cL.out,if_neg (by rintro (g'|g')<;>contradiction)]
     clear cL c1 c2;go_upto_region 7 with fail;obtain ⟨n,hn⟩:∃n:ai,n={m with mtime:=mt,ctime:=now}:=⟨_,rfl⟩;obtain⟨V,hV⟩:=ar (w2.alloc (.cells #[n.no,n.dev,n.kind,n.mode,n.uid,n.gid,n.mtime,n.ctime,n.ah,n.up,bs n.data,.slice A n.ae.length c] 58));have lZ:=hV;rw [hn]at lZ;rw [<-lZ];have NV:Has V w2.heap.size (.cells #[n.no,n.dev,n.kind,n.mode,n.uid,n.gid,n.mtime,n.ctime,n.ah,n.up,bs n.data,.slice A n.ae.length c] 58):=by rw[hV];exact Has.new _ _
     have EV:Ext w V:=by rw[hV];exact E2.alloc _
     have yx:ay V B n A c:=((iC.ext (by rw[hV];exact (Ext.refl _).alloc _)).same (by rw[hn]));have HN:=zH hn;clear hV lZ hn;have KV:=h.ext EV;obtain ⟨_,_,cd,hW,_⟩:=id KV;have v0:V.cell? ⟨g.bW,0,none⟩=some (.pointer (some ⟨g.bT,0,none⟩)):=hW.cell 0;have vz:=hW.lt;obtain ⟨x0,x1,x2,x3,x4,x5,x6,x7,x8,x9,sy,sA⟩:=NV.dS;have zN:=NV.lt;go_still_tail 5,(by kernel_rfl);change wpList _ _ _ _ _ V.drew;go_wp2_with fail;have ED:Ext V V.drew:=(Ext.refl _).drew;refine (mV B g S n A c _ (KV.ext ED) hu (yx.ext ED)).mono ?_;rintro e w5 ⟨rfl,K5,O5⟩;go_wp2_with fail;go_ret;rw [hE.out];refine ⟨rfl,?_,Only.pre (EV.trans ED) O5⟩;have:ee S cu now no mt=aK S n:=by unfold ee;rw[if_pos hE.out,HN.out,CZ.out]
     rw [this];exact K5
 ·have t0:(x == 0)=false:=by simpa using hx0
  have oG:(x != 0)=true:=by simpa using hx0
  have hE:Hid (fw S cu no mt=x):=by show _=_;rw[hm.out,if_pos hx0]
  have hT:Hid (ee S cu now no mt=S):=by show _=_;unfold ee;rw[if_neg (by rw[hE.out];exact hx0)]
  clear hm oH hx0;go_wp2_with fail;go_ret;rw [hE.out];exact fB h (E2.alloc _) hT.out
theorem Dc (B:Nat) (g:bQ) (S:ac) (cu cg now no uid gid:Int) (w:World) (h:eD w B g S) (hd:0<S.af.length) (hu:aI S.nodes S.last) :
  Calls Tryz.prog 82 #[.pointer (some ⟨g.bW,0,none⟩),.agg #[cu,cg],.int .i64 now,.int .i64 no,.int .i64 uid,.int .i64 gid] w (wg w B g (ey S cu now no uid gid) (fu S cu no uid gid)):=by
 have E0:Ext w (w.alloc (.cells #[cu,cg] 27)):=(Ext.refl _).alloc _;have hm:Hid (fu S cu no uid gid=if ew S cu no≠0 then ew S cu no else if ¬cu=0 then 4 else if mU uid gid=false then 1 else 0):=by show _=_;rfl
 have oH:Hid (ew S cu no=0->aQ S.nodes no=true/\gW cu (aa S.nodes no).uid=true/\jQ S cu no=aa S.nodes no):=gI;go_enter Tryz.func82,Tryz.ntmps82;go_wp2_with fail;refine (tZ B g S cu cg no _ (h.ext E0) hd).mono ?_;rintro e w2 ⟨A,c,rfl,iC,b2⟩;have E2:=E0.trans b2;obtain⟨m,hmm⟩:=ar (jQ S cu no);obtain⟨x,hx⟩:=ar (ew S cu no);rw [<-hmm]at iC oH;rw [<-hx]at hm oH;rw [<-hmm,<-hx];clear hmm hx
 by_cases hx0:x=0
 ·have t0 : (x == 0)=true:=by simpa using hx0
  have oG:(x != 0)=false:=by simpa using hx0
  obtain ⟨hi,ho,oI⟩:=oH.out hx0;have cL:Hid (fu S cu no uid gid=if ¬cu=0 then 4 else if mU uid gid=false then 1 else 0):=by show _=_;rw[hm.out,if_neg (by simpa using hx0)]
  have AE:m.no=no:=by rw[oI];exact (aj hi).2.1
  have CZ:=zH oI;have sC:=zH AE;clear hm oH oI AE hi ho hx0;have C2:=((Has.new w (.cells #[cu,cg] 27)).ext b2);have k0:w2.cell? ⟨w.heap.size,0,none⟩=some (.int .i64 cu):=C2.cell 0;have kz:=C2.lt
  by_cases c1:cu=0
  ·have t1:(cu == 0)=true:=by simpa using c1
   have we:(cu != 0)=false:=by simpa using c1
   cases c2:mU uid gid
   ·have hE:Hid (fu S cu no uid gid=1):=by show _=_;rw[cL.out,if_neg (by simpa using c1),if_pos c2]
    have HC:=zH c2;clear cL c1 c2;go_wp2_with fail;refine (xd uid gid _).mono ?_;rw [HC.out];rintro e w4 ⟨rfl,b4⟩;go_wp2_with fail;go_ret;rw [hE.out];exact fB h ((E2.alloc _).trans b4) (by unfold ey;rw[hE.out];rfl)
   ·have hE:Hid (fu S cu no uid gid=0):=by show _=_;rw[cL.out,if_neg (by simpa using c1),if_neg (by rw[c2];decide)]
    have HC:=zH c2;clear cL c1 c2;go_wp2_with fail;refine (xd uid gid _).mono ?_;rw [HC.out];rintro e w4 ⟨rfl,b4⟩;have N4:=(Has.new w2 (.cells #[m.no,m.dev,m.kind,m.mode,m.uid,m.gid,m.mtime,m.ctime,m.ah,m.up,bs m.data,.slice A m.ae.length c] 58)).ext b4;have sJ:=(iC.ext ((Ext.refl _).alloc (.cells #[m.no,m.dev,m.kind,m.mode,m.uid,m.gid,m.mtime,m.ctime,m.ah,m.up,bs m.data,.slice A m.ae.length c] 58))).ext b4;have E4:=(E2.alloc (.cells #[m.no,m.dev,m.kind,m.mode,m.uid,m.gid,m.mtime,m.ctime,m.ah,m.up,bs m.data,.slice A m.ae.length c] 58)).trans b4;obtain ⟨y0,y1,y2,y3,y4,y5,y6,y7,y8,y9,zD,Gx⟩:=N4.dS;have yf:∀i,w4.frozen? ⟨w2.heap.size,i,none⟩=false:=fun i=>(N4.free i).trans (by simp)
    have yz:=N4.lt;go_upto_region 9 with fail;obtain ⟨n,hn⟩:∃n:ai,n={m with uid:=uid,gid:=gid,ctime:=now}:=⟨_,rfl⟩;obtain⟨V,hV⟩:=ar (((w4.setCell ⟨w2.heap.size,4,none⟩ (.int .i64 uid)).setCell ⟨w2.heap.size,5,none⟩ (.int .i64 gid)).setCell ⟨w2.heap.size,7,none⟩ (.int .i64 now));rw [<-hV];have NV:Has V w2.heap.size (.cells #[n.no,n.dev,n.kind,n.mode,n.uid,n.gid,n.mtime,n.ctime,n.ah,n.up,bs n.data,.slice A n.ae.length c] 58):=by rw[hV,hn];exact ((N4.setCell 4 _).setCell 5 _).setCell 7 _
    have OV:Only [w2.heap.size] w4 V:=by rw[hV];exact ((Only.setCell _ _ _ _).then (Only.setCell _ _ _ _)).then (Only.setCell _ _ _ _)
    have EV:Ext w V:=OV.after E4 (by intro x hx;rw[List.mem_singleton]at hx;have:=E2.size;omega);have yx:ay V B n A c:=(sJ.same (by rw[hn])).only OV (by
     intro b hb;rw [List.mem_singleton]at hb;subst hb;exact ⟨by have:=h.1;have:=h.lt.1;have:=E2.size;omega,N4.gi (by decide)⟩)
    have HN:=zH hn;clear hV hn y0 y1 y2 y3 y4 y5 y6 y7 y8 y9 zD Gx yf yz;have KV:=h.ext EV;obtain ⟨_,_,cd,hW,_⟩:=id KV;have v0:V.cell? ⟨g.bW,0,none⟩=some (.pointer (some ⟨g.bT,0,none⟩)):=hW.cell 0;have vz:=hW.lt;obtain ⟨x0,x1,x2,x3,x4,x5,x6,x7,x8,x9,sy,sA⟩:=NV.dS;have zN:=NV.lt;go_still_tail 5,(by kernel_rfl);change wpList _ _ _ _ _ V.drew;go_wp2_with fail;have ED:Ext V V.drew:=(Ext.refl _).drew;refine (mV B g S n A c _ (KV.ext ED) hu (yx.ext ED)).mono ?_;rintro e w5 ⟨rfl,K5,O5⟩;go_wp2_with fail;go_ret;rw [hE.out];refine ⟨rfl,?_,Only.pre (EV.trans ED) O5⟩;have:ey S cu now no uid gid=aK S n:=by unfold ey;rw[if_pos hE.out,HN.out,CZ.out]
    rw [this];exact K5
  ·have t1:(cu == 0)=false:=by simpa using c1
   have we:(cu != 0)=true:=by simpa using c1
   have hE:Hid (fu S cu no uid gid=4):=by show _=_;rw[cL.out,if_pos c1]
   clear cL c1;go_wp2_with fail;go_ret;rw [hE.out];exact fB h (E2.alloc _) (by unfold ey;rw[hE.out];rfl)
 ·have t0:(x == 0)=false:=by simpa using hx0
  have oG:(x != 0)=true:=by simpa using hx0
  have hE:Hid (fu S cu no uid gid=x):=by show _=_;rw[hm.out,if_pos hx0]
  have hT:Hid (ey S cu now no uid gid=S):=by show _=_;unfold ey;rw[if_neg (by rw[hE.out];exact hx0)]
  clear hm oH hx0;go_wp2_with fail;go_ret;rw [hE.out];exact fB h (E2.alloc _) hT.out
theorem Dd {S:ac} {cu no:Int} (h:ew S cu no=0):aQ S.nodes no=true/\(aa S.nodes no).no=no:=⟨(gI h).1,(aj (gI h).1).2.1⟩
theorem Gy {S:ac} {cu no m:Int} (h:eJ S cu no m=0):ew S cu no=0:=by
 unfold eJ at h;split at h
 ·rename_i h2;exact absurd h h2
 ·rename_i h2;simpa using h2
theorem Gz {S:ac} {cu no u g:Int} (h:fu S cu no u g=0):ew S cu no=0:=by
 unfold fu at h;split at h
 ·rename_i h2;exact absurd h h2
 ·rename_i h2;simpa using h2
theorem GA {S:ac} {cu no t:Int} (h:fw S cu no t=0):ew S cu no=0:=by
 unfold fw at h;split at h
 ·rename_i h2;exact absurd h h2
 ·rename_i h2;simpa using h2
def GC (S:ac) (cu cg no dl:Int):Int:=
 if aQ S.nodes no=false then 5 else if (aa S.nodes no).kind=1 then 8 else if ¬(aa S.nodes no).kind=2 then 1
 else if fL cu cg (aa S.nodes no).uid (aa S.nodes no).gid (aa S.nodes no).mode 2=false then 6 else if 1048576<dl then 3 else AF S no dl
def yD (S:ac) (cu cg now no:Int) (data:List UInt8):ac:=
 if GC S cu cg no data.length=0 then aK (jp S no data) {aa (jp S no data).nodes no with mtime:=now,ctime:=now} else S
theorem Kj {S:ac} {no dl:Int} (h:AF S no dl=0):aQ S.nodes no=true:=by
 cases hi:aQ S.nodes no
 ·unfold AF at h;rw[hi]at h;simp at h
 ·rfl
theorem Kk (S:ac) (no:Int) (data:List UInt8) (k:Int) (h:aQ S.nodes k=true):aQ (jp S no data).nodes k=true:=by
 unfold jp;split
 ·rw[je];exact h
 ·exact h
theorem GF {S:ac} {cu cg no dl:Int} (h:GC S cu cg no dl=0):aQ S.nodes no=true/\dl<=1048576/\AF S no dl=0:=by
 unfold GC at h;split at h
 ·cases h
 ·rename_i hi
  split at h
  ·cases h
  ·split at h
   ·cases h
   ·split at h
    ·cases h
    ·split at h
     ·cases h
     ·exact⟨by simpa using hi,by omega,h⟩
theorem dI.live {c:Nat} {S:ac} (h:dI c S):Live S:=⟨h.aC,h.last,h.af,h.eight,h.roots,h.count,h.on,h.first,fun n hn e=>(h.one n hn e).2.1,h.oJ⟩
theorem mZ {c:Nat} {S:ac} (h:dI c S) {no:Int} {n:ai} (hi:aQ S.nodes no=true) (hn:n.no=no) (he:n.ae=(aa S.nodes no).ae) (hd:n.data.length<=1048576)
  (hk:n.kind=(aa S.nodes no).kind) (hv:n.dev=(aa S.nodes no).dev) (hu:n.up=(aa S.nodes no).up) (hl:n.ah=(aa S.nodes no).ah) (hm:0<=n.mode/\n.mode<=1023):dI c (aK S n):=by
 subst hn;have hm0:=(aj hi).2;have hb:=h.bits _ hm0.2;refine pT h (.inl rfl) hi (Nat.le_refl _) hk hv hu (fun gG=>by rw[hl];exact h.mh _ hm0.2 (by rw[<-hk];exact gG)) (by rw[he];exact h.mF _ hm0.2) (by rw[he];exact h.names _ hm0.2) (by rw[he];exact h.pos _ hm0.2) (by rw[he];exact h.small _ hm0.2) hd
  ⟨hm.1,hm.2,by rw[hl];exact hb.2.2.1,by rw[hl];exact hb.2.2.2⟩ (fun x hx=>?_) (fun q hq ub _ xf tU=>?_)
 ·rw [he]at hx
  have:=h.zB _ hm0.2 x hx;rw [hm0.1,<-hv]at this;exact this
 ·rw [he]
  rcases h.wh q hq ub with⟨_,u2⟩|⟨_,_,m,hm,u3,_,_,x,hx,u6⟩
  ·exact absurd (u2.symm.trans xf) tU
  ·have:=(dy h.aC hm).1
   rw [u3,xf]at this;rw [this];exact ⟨x,hx,u6⟩
theorem dI.E_ {c:Nat} {S:ac} (h:dI c S) {no:Int} (hi:aQ S.nodes no=true):0<=(Proofs.YtblbohcaphcobaaGreatDoor.aa S.nodes no).mode/\(Proofs.YtblbohcaphcobaaGreatDoor.aa S.nodes no).mode<=1023:=by
 have:=h.bits _ (aj hi).2.2;exact ⟨this.1,this.2.1⟩
theorem Kl {c:Nat} {S:ac} (h:dI c S) (cu now no m:Int):dI c (d_ S cu now no m):=by
 unfold d_;split
 ·rename_i h0
  obtain ⟨hi,hn⟩:=Dd (Gy h0);refine mZ h hi hn rfl (h.on _ (aj hi).2.2).2 rfl rfl rfl rfl ?_;unfold eJ at h0;split at h0
  ·rename_i h1;exact absurd h0 h1
  ·split at h0
   ·cases h0
   ·rename_i h1
    rw [not_or,not_or]at h1;exact ⟨by show 0<=m;omega,by show m<=1023;omega⟩
 ·exact h
theorem Km {c:Nat} {S:ac} (h:dI c S) (cu now no u g:Int):dI c (ey S cu now no u g):=by
 unfold ey;split
 ·rename_i h0
  obtain ⟨hi,hn⟩:=Dd (Gz h0);exact mZ h hi hn rfl (h.on _ (aj hi).2.2).2 rfl rfl rfl rfl (h.E_ hi)
 ·exact h
theorem Kn {c:Nat} {S:ac} (h:dI c S) (cu now no t:Int):dI c (ee S cu now no t):=by
 unfold ee;split
 ·rename_i h0
  obtain ⟨hi,hn⟩:=Dd (GA h0);exact mZ h hi hn rfl (h.on _ (aj hi).2.2).2 rfl rfl rfl rfl (h.E_ hi)
 ·exact h
theorem Ko {c:Nat} {S:ac} (h:dI c S) (no:Int) (data:List UInt8) (hd:data.length<=1048576):dI c (jp S no data):=by
 unfold jp;split
 ·rename_i h0
  have hi:=Kj h0;have ho:=h.on _ (aj hi).2.2;exact mZ (no:=no) (n:={aa S.nodes no with data:=data}) (ue h (aa S.nodes no).dev _ (h.live.fine ho.1 _ _) S.last (Int.le_refl _)) hi (aj hi).2.1 rfl hd rfl rfl rfl rfl (h.E_ hi)
 ·exact h
theorem Pw {c:Nat} {S:ac} (h:dI c S) (cu cg now no:Int) (data:List UInt8):dI c (yD S cu cg now no data):=by
 unfold yD;split
 ·rename_i h0
  obtain ⟨hi,hd,_⟩:=GF h0;have hG:=Ko h no data (by omega);have pB:=Kk S no data no hi;exact mZ hG (n:={aa (jp S no data).nodes no with mtime:=now,ctime:=now}) pB (aj pB).2.1 rfl (hG.on _ (aj pB).2.2).2 rfl rfl rfl rfl (hG.E_ pB)
 ·exact h
end Go.Proofs.YtblbohcaphcobaaGreatDoor
