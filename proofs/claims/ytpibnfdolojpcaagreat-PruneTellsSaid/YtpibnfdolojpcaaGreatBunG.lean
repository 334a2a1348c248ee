import Derived.Test.YtpibnfdolojpcaaGreatBunC
import Derived.Test.YtpibnfdolojpcaaGreatBunD
import Derived.Test.YtpibnfdolojpcaaGreatBunF
import Derived.Test.YtpibnfdolojpcaaGreatBunE
set_option maxHeartbeats 8000000
set_option maxRecDepth 100000
namespace Go.Proofs.YtpibnfdolojpcaaGreat
open Go.Proofs.Tryz
variable {S:ag} {no cu:Int} {a:Act} {w:World} {c i B k:Nat} {v:Value} {P:Program} {X:cY}
section
open Go
section
variable {P:Program} {ops:Array Oper} {md:Region.Mode} {E:Nat->Sem Next->Value->Prop}
def lW (ops:Array Oper) (E:Nat->Sem Next->Value->Prop) (i:Nat) (o:Oper) (v:Value) (a:Act):Prop:=
 (Region.wanted o (yielded ops a.tmps)=true/\E i (execOp a.eval o) v)\/(Region.wanted o (yielded ops a.tmps)=false/\v=undef)
def MP (ops:Array Oper) (E:Nat->Sem Next->Value->Prop) (i:Nat) (K:Act->Prop) (a:Act):Prop:=
 match ops[i]? with
 | none=>K a
 | some o=>if Region.wanted o (yielded ops a.tmps) then ∃v,E i (execOp a.eval o) v/\K (a.put o.dst v) else K (a.put o.dst undef)
theorem Tc {K K':Act->Prop} (h:∀a,K a->K' a) (hh:MP ops E i K a):MP ops E i K' a:=by
 unfold MP at *;split
 ·rename_i ho;rw[ho]at hh;exact h _ hh
 ·rename_i o ho
  rw[ho]at hh;dsimp only at hh;split
  ·rename_i hw;rw[af hw]at hh;obtain⟨v,h1,h2⟩:=hh;exact⟨v,h1,h _ h2⟩
  ·rename_i hw;rw[ac hw]at hh;exact h _ hh
theorem Td {o:Oper} (hi:ops[i]?=some o) (hy:lW ops E i o v a) {K:Act->Prop} (h:K (a.put o.dst v)):MP ops E i K a:=by
 unfold MP;rw[hi];dsimp only;rcases hy with⟨hw,hv⟩|⟨hw,rfl⟩
 ·rw[af hw];exact⟨v,hv,h⟩
 ·rw[ac (by rw[hw];decide)];exact h
theorem Cb {o:Oper} {K:Act->Prop} (hi:ops[i]?=some o) (h:MP ops E i K a):∃v,lW ops E i o v a/\K (a.put o.dst v):=by
 unfold MP at h;rw[hi]at h;dsimp only at h
 by_cases hw:Region.wanted o (yielded ops a.tmps)=true
 ·rw[af hw]at h;obtain⟨v,h1,h2⟩:=h;exact⟨v,.inl ⟨hw,h1⟩,h2⟩
 ·rw[ac hw]at h;exact⟨undef,.inr ⟨by simpa using hw,rfl⟩,h⟩
theorem ER {o:Oper} {a':Act} (hy:lW ops E i o v a) (he:execOp a'.eval o=execOp a.eval o) (hw:Region.wanted o (yielded ops a'.tmps)=Region.wanted o (yielded ops a.tmps)):lW ops E i o v a':=by
 unfold lW at *;rw[he,hw];exact hy
theorem Xo {j:Nat} {oi oj:Oper} (hj:ops[j]?=some oj) (hap:oi.apart ops oj=true)
  (hsi:∀cs b,oi.op≠.select cs b) (hsj:∀cs b,oj.op≠.select cs b) {K:Act->Prop} 
  (hy:lW ops E i oi v a) (h:MP ops E j K (a.put oi.dst v)):MP ops E j (fun a'=>lW ops E i oi v a'/\K (a'.put oi.dst v)) a:=by
 obtain ⟨h1,h2,h3⟩:=Oper.apart_spec hap;have keep:∀(a:Act),lW ops E i oi v a->∀u,lW ops E i oi v (a.put oj.dst u):=fun a hy u =>
  ER hy (zq oi hsi a oj.dst u h3) (zr oi a oj.dst u h3)
 unfold MP at *;rw[hj]at h|-;dsimp only at h|-;rw[zr oj a oi.dst v h1,zq oj hsj a oi.dst v h1]at h;split
 ·rename_i hw
  rw[af hw]at h;obtain⟨u,hu,hn⟩:=h;exact⟨u,hu,keep a hy u,by rw[<-DW a v u h2];exact hn⟩
 ·rename_i hw
  rw[ac hw]at h;exact⟨keep a hy _,by rw[<-DW a v undef h2];exact h⟩
def AA (md:Region.Mode) (ops:Array Oper) (E:Nat->Sem Next->Value->Prop) (ks:List Nat) (Q:Act->Prop):Nat->Array Bool->Act->Prop
 | 0,listed,a=>Region.ready md ops listed=[]/\(∀k∈ks,listed.getD k false=true)/\Q a
 | f+1,listed,a=>Region.ready md ops listed≠[]/\∀i∈Region.ready md ops listed,MP ops E i (AA md ops E ks Q f (listed.setIfInBounds i true)) a
theorem ES {ks:List Nat} {Q:Act->Prop} {oi:Oper} (hi:ops[i]?=some oi) (nY:∀(j:Nat) (o:Oper) cs b,ops[j]?=some o->o.op≠.select cs b) :
  ∀ (fuel:Nat) (listed:Array Bool) (a:Act),
   (∀j oj,ops[j]?=some oj->j≠i->listed.getD j true=false->(∀e∈oj.after,Region.binds md e=true->e.on≠i)->oi.apart ops oj=true) ->
   i∈Region.ready md ops listed->lW ops E i oi v a ->
   AA md ops E ks Q fuel (listed.setIfInBounds i true) (a.put oi.dst v)->AA md ops E ks Q (fuel+1) listed a:=by
 intro fuel
 induction fuel with
 | zero =>
  intro listed a _ hr hy H;refine⟨fun h=>(by rw[h]at hr;cases hr),fun j hj=>?_⟩
  by_cases s9:j=i
  ·subst s9;exact Td hi hy H
  ·have:=p7 hj s9
   rw[H.1]at this
   cases this
 | succ fuel ih =>
  intro listed a pA hr hy H;refine⟨fun h=>(by rw[h]at hr;cases hr),fun j hj=>?_⟩
  by_cases s9:j=i
  ·subst s9;exact Td hi hy H
  ·have h1:=H.2 j (p7 hj s9)
   obtain ⟨Gq,oj,BP,hall⟩:=jt.1 hj;have Sv:∀e∈oj.after,Region.binds md e=true->e.on≠i:=fun e he hb heq=>by
    have h1:=hall e he hb;have h0:=(jt.1 hr).1;rw[heq]at h1;rcases lq i listed.size with h'|h'
    ·simp[h']at h0 h1;rw[h0]at h1;cases h1
    ·simp[rf h']at h1
   have h2:=Xo BP (pA j oj BP s9 Gq Sv) (fun cs b=>nY i oi cs b hi) (fun cs b=>nY j oj cs b BP) hy h1;have zZ:∀k ok,ops[k]?=some ok->k≠i->(listed.setIfInBounds j true).getD k true=false ->
     (∀e∈ok.after,Region.binds md e=true->e.on≠i)->oi.apart ops ok=true:=fun k ok hk Sw sn bB=>by
    refine pA k ok hk Sw ?_ bB
    by_cases JM:j=k
    ·subst JM;exact Gq
    ·rw[ez true JM]at sn;exact sn
   refine Tc (fun a' h3=>ih (listed.setIfInBounds j true) a' zZ (p7 hr (dA s9)) h3.1 ?_) h2;rw[Jt _ _ s9];exact h3.2
def jc (ops:Array Oper) (E:Nat->Sem Next->Value->Prop) (Q:Act->Prop):List Oper->Nat->Act->Prop
 | [],_,a=>Q a
 | o::rest,k,a=>if Region.wanted o (yielded ops a.tmps) then ∃v,E k (execOp a.eval o) v/\jc ops E Q rest (k+1) (a.put o.dst v) else jc ops E Q rest (k+1) (a.put o.dst undef)
theorem AB {ks:List Nat} {Q:Act->Prop} (hs:Region.noSelect ops=true) (hks:∀k∈ks,k<ops.size):∀(l:List Oper) (k:Nat) (listed:Array Bool) (a:Act),(∀j,l[j]?=ops[k+j]?) ->
  (∀j,j<k->j<ops.size->listed.getD j false=true)->listed.size=ops.size->ops.size<=k+l.length->Region.lexFrom md ops l.length k listed=true->jc ops E Q l k a->AA md ops E ks Q l.length listed a
 | [],k,listed,a,_,mF,_,hm,hB,h=>⟨by simpa [Region.lexFrom]using hB,fun j hj=>mF j (by have:=hks j hj;simp at hm;omega) (hks j hj),h⟩
 | o :: l,k,listed,a,hl,mF,hsz,hm,hB,h=>by
  have h0:ops[k]?=some o:=by simpa using (hl 0).symm
  simp only[bk,Region.lexFrom,fl]at hB;obtain⟨⟨hr,hf⟩,hB'⟩:=hB;have hst:MP ops E k (jc ops E Q l (k+1)) a:=by unfold MP;rw[h0];exact h
  obtain ⟨v,hy,hK⟩:=Cb h0 hst;refine ES h0 (wg hs) l.length listed a (DX h0 hf) (by simpa using hr) hy
   (AB hs hks l (k+1) _ _ (fun j=>by have:=hl (j+1);simpa [un,DY 1 j]using this) ?_ (by simpa using hsz) (by simp only[bk]at hm;omega) hB' hK)
  intro j hj hjs
  by_cases e:k=j
  ·subst e
   have:k<listed.size:=by omega
   simp[this]
  ·rw[ez false e];exact mF j (by omega) hjs
end
def placeOf:List Nat->Nat->Option Nat
 | [],_=>none
 | k::ks,i=>if k=i then some 0 else (placeOf ks i).map (·+1)
theorem uW:∀{ks:List Nat} {i t:Nat},placeOf ks i=some t->ks[t]?=some i
 | k :: ks,i,t,h=>by
  unfold placeOf at h;split at h
  ·rename_i e;injection h with h;subst h;subst e;rfl
  ·cases hp:placeOf ks i with
   | none=>rw[hp]at h;cases h
   | some s =>
    rw[hp]at h;injection h with h;subst h;simpa using uW hp
theorem uY:∀{ks:List Nat} {i:Nat},placeOf ks i=none->i∉ks
 | [],_,_=>by simp
 | k :: ks,i,h=>by
  unfold placeOf at h;split at h
  ·cases h
  ·rename_i e
   cases hp:placeOf ks i with
   | none=>rw[aR,not_or];exact⟨fun x=>e x.symm,uY hp⟩
   | some s=>rw[hp]at h;cases h
structure Hp (Ph:Nat->World->Prop) where
 j : Nat
 w : World
 h : Ph j w
structure Wc (C:World->Prop) where
 w : World
 h : C w
theorem Hp.all {Ph:Nat->World->Prop} {T:World->Prop} (h:∀j w,Ph j w->T w):∀u:Hp Ph,T u.w:=fun u=>h u.j u.w u.h
def gW (P:Program) (C:World->Prop) (v:Value):Result Next->Prop
 | .ok (.value u) w'=>u=v/\C w'
 | .ok .skip w'=>v=undef/\C w'
 | .ok (.enter f args) w'=>Calls P f args w' (fun e w''=>e=.returned v/\C w'')
 | _=>False
def Ri (P:Program) (Ph:Nat->World->Prop) (ks:List Nat) (i:Nat) (x:Sem Next) (v:Value):Prop:=
 match placeOf ks i with
 | some j=>∀u:Wc (Ph j),gW P (Ph (j+1)) v (x.run P u.w)
 | none=>∀u:Hp Ph,Oper.quietUpon P (Ph u.j) u.w v (x.run P u.w)
theorem yr {o:Oper} {C:World->Prop} {K':Act->World->Prop} {Q':Exit->Act->World->Prop} (h1:Oper.quietUpon P C w v ((execOp a.eval o).run P w)) (hC:C w) (hK:∀w'',C w''->K' (a.put o.dst v) w''):o.wp P a w K' Q':=by
 unfold Oper.wp
 generalize (execOp a.eval o).run P w=r at *
 cases r with
 | ok n w' =>
  cases n<;>simp only[Oper.quietUpon]at h1<;>simp only[Oper.upon]
  case value u=>obtain⟨e1,e2⟩:=h1;rw[e1,e2];exact hK _ hC
  case skip=>obtain⟨e1,e2⟩:=h1;rw[e1,<-e2];exact hK _ hC
  case enter f args =>
   obtain⟨e1,hc⟩:=h1;rw[e1];exact hc.mono fun e w'' ⟨he,hw''⟩=>by subst he;exact hK _ hw''
 | halt x w'=>simp only[Oper.quietUpon]at h1
theorem wX {o:Oper} {C:World->Prop} {K':Act->World->Prop} {Q':Exit->Act->World->Prop} (h1:gW P C v ((execOp a.eval o).run P w)) (hK:∀w'',C w''->K' (a.put o.dst v) w''):o.wp P a w K' Q':=by
 unfold Oper.wp
 generalize (execOp a.eval o).run P w=r at *
 cases r with
 | ok n w' =>
  cases n<;>simp only[gW]at h1<;>simp only[Oper.upon]
  case value u=>obtain⟨e1,e2⟩:=h1;rw[e1];exact hK _ e2
  case skip=>obtain⟨e1,e2⟩:=h1;rw[<-e1];exact hK _ e2
  case enter f args=>exact h1.mono fun e w'' ⟨he,hw''⟩=>by subst he;exact hK _ hw''
 | halt x w'=>simp only[gW]at h1
theorem AE {P:Program} {ops:Array Oper} {md:Region.Mode} {Ph:Nat->World->Prop} {ks:List Nat} {Q:Act->Prop} {Q':Exit->Act->World->Prop}
  (hch:∀t k k',ks[t]?=some k->ks[t+1]?=some k'->∃o,ops[k']?=some o/\∃e∈o.after,Region.binds md e=true/\e.on=k)
  (hnd:ks.Nodup) (hg:∀k∈ks,∃o,ops[k]?=some o/\o.guard=none) (hQ:∀a w,Ph ks.length w->Q a->Q' .normal a w) :
  ∀ (f:Nat) (listed:Array Bool) (a:Act) (w:World) (j:Nat),j<=ks.length->(∀t k,ks[t]?=some k->listed.getD k false=decide (t<j))->(∀k∈ks,k<listed.size)->Ph j w ->
   AA md ops (Ri P Ph ks) ks Q f listed a->wpAny P md ops Q' f listed a w
 | 0, listed,a,w,j,hj,hl,_,hw,⟨h1,h2,h3⟩=>by
  refine⟨h1,hQ a w ?_ h3⟩;rcases lq j ks.length with g|g
  ·have e:ks[j]?=some ks[j]:=iq g
   have h4:=hl j _ e;rw[h2 _ (jh g)]at h4;simp at h4
  ·have:j=ks.length:=by omega
   rw[<-this];exact hw
 | f + 1, listed,a,w,j,hj,hl,hsz,hw,⟨hne,hall⟩=>by
  refine⟨fun h0=>absurd h0 hne,fun i hi=>?_⟩;have hr:=hall i hi;obtain⟨sn,o,ho,rK⟩:=jt.1 hi;have ih:=AE (P:=P) hch hnd hg hQ f;unfold MP at hr;unfold wpOp;rw[ho]at hr|-;dsimp only at hr|-
  cases hp:placeOf ks i with
  | some t =>
   have hk:=uW hp;have Sw:i∈ks:=Ed hk;have hlk:=hl t i hk;have aei:listed.getD i false=false:=by
    have:=hsz i Sw;simp[this]at sn|-;exact sn
   rw[aei]at hlk;have htj:¬t<j:=by simpa using hlk.symm
   have hjt:t=j:=by
    cases t with
    | zero=>omega
    | succ s =>
     have CU:s+1<ks.length:=(p6.1 hk).1;have e:ks[s]?=some ks[s]:=iq (by omega);obtain⟨o2,pj,ed,m_,oU,pX⟩:=hch s _ _ e hk;rw[ho]at pj;injection pj with pj;subst pj;have h5:=rK ed m_ oU;rw[pX,hl s _ e]at h5;have:s<j:=by simpa using h5
     omega
   subst hjt;obtain⟨og,hog,Xp⟩:=hg i Sw;rw[ho]at hog;injection hog with hog;subst hog;have hwn:Region.wanted o (yielded ops a.tmps)=true:=by unfold Region.wanted;rw[Xp]
   rw[af hwn]at hr|-;obtain⟨v,h1,h2⟩:=hr;unfold Ri at h1;rw[hp]at h1
   left
   have sO:t<ks.length:=(p6.1 hk).1;refine wX (h1 ⟨w,hw⟩) fun w'' hw''=>ih _ _ w'' (t+1) sO (fun s k hs=>?_) (fun k hk2=>by simpa using hsz k hk2) hw'' h2
   by_cases e:i=k
   ·subst e
    have:s=t:=by
     have h6:=p6.1 hs;have h7:=p6.1 hk;obtain⟨a1,a2⟩:=h6;obtain⟨b1,b2⟩:=h7;exact (List.getElem_inj hnd).1 (a2.trans b2.symm)
    subst this;have:=hsz i Sw;simp[this]
   ·rw [ez false e,hl s k hs]
    have:s≠t:=fun e2=>by
     subst e2;rw[hk]at hs;injection hs with hs;exact e hs
    simp;omega
  | none =>
   have Sw:=uY hp;have hl':∀t k,ks[t]?=some k->(listed.setIfInBounds i true).getD k false=decide (t<j):=fun t k hk=>by
    have:i≠k:=fun e=>Sw (by rw[e];exact Ed hk)
    rw[ez false this];exact hl t k hk
   have aca:∀k∈ks,k<(listed.setIfInBounds i true).size:=fun k hk2=>by simpa using hsz k hk2
   split
   ·rename_i hwn
    rw[af hwn]at hr;obtain⟨v,h1,h2⟩:=hr;unfold Ri at h1;rw[hp]at h1
    left
    exact yr (h1 ⟨j,w,hw⟩) hw fun w'' hw''=>ih _ _ w'' j hj hl' aca hw'' h2
   ·rename_i hwn
    rw[ac hwn]at hr;exact ih _ _ w j hj hl' aca hw hr
def chainB (l:List Oper):List Nat->Bool
 | []=>true
 | [k]=>(match l[k]? with
  | some o=>o.guard == none
  | none=>false)
 | k :: k2::ks=>(match l[k]? with
  | some o=>o.guard == none
  | none=>false)&&(decide (k<k2)&&(match l[k2]? with
   | some o2=>o2.after.any (fun e=>Region.binds .any e&&e.on == k)
   | none=>false))&&chainB l (k2::ks)
theorem uZ {l:List Oper}:∀{ks:List Nat},chainB l ks=true->∀k∈ks,∃o,l[k]?=some o/\o.guard=none
 | [],_,_,h=>by cases h
 | [k],h,x,hx=>by
  rw[ax]at hx;subst hx;unfold chainB at h
  cases ho:l[x]? with
  | none=>rw[ho]at h;cases h
  | some o=>rw[ho]at h;exact⟨o,rfl,by simpa using h⟩
 | k :: k2::ks,h,x,hx=>by
  unfold chainB at h;simp only[fl]at h;obtain⟨⟨h1,_⟩,h3⟩:=h;rcases aR.1 hx with rfl|hx
  ·cases ho:l[x]? with
   | none=>rw[ho]at h1;cases h1
   | some o=>rw[ho]at h1;exact⟨o,rfl,by simpa using h1⟩
  ·exact uZ h3 x hx
theorem qu {l:List Oper}:∀{ks:List Nat},chainB l ks=true->∀t k k',ks[t]?=some k->ks[t+1]?=some k'->k<k'/\∃o,l[k']?=some o/\∃e∈o.after,Region.binds .any e=true/\e.on=k
 | [],_,t,k,k',h,_=>by simp at h
 | [x],_,t,k,k',_,h=>by simp at h
 | x :: y::ks,h,t,k,k',h1,h2=>by
  unfold chainB at h;simp only[fl,lZ]at h;obtain⟨⟨_,g1,g2⟩,g3⟩:=h
  cases t with
  | zero =>
   simp at h1 h2;subst h1;subst h2;refine⟨g1,?_⟩
   cases ho:l[y]? with
   | none=>rw[ho]at g2;cases g2
   | some o =>
    rw[ho]at g2;simp only[wh,fl,il]at g2;obtain⟨e,a1,a2,a3⟩:=g2;exact⟨o,rfl,e,a1,a2,a3⟩
  | succ t=>exact qu g3 t k k' (by simpa using h1) (by simpa using h2)
theorem OG {l:List Oper} {ks:List Nat} (h:chainB l ks=true):ks.Pairwise (· < ·):=by
 induction ks with
 | nil=>exact List.Pairwise.nil
 | cons k ks ih =>
  have h2:chainB l ks=true:=by
   cases ks with
   | nil=>rfl
   | cons k2 ks=>unfold chainB at h;simp only[fl]at h;exact h.2
  have hp:=ih h2;refine oc.2 ⟨fun x hx=>?_,hp⟩
  cases ks with
  | nil=>cases hx
  | cons k2 ks =>
   have h0:=(qu h 0 k k2 rfl rfl).1;rcases aR.1 hx with rfl|hx
   ·exact h0
   ·have:=(oc.1 hp).1 x hx
    omega
theorem fw {id:Nat} {Q:Exit->Act->World->Prop} {l:List Oper} (Ph:Nat->World->Prop) (ks:List Nat)
  (hm:P.follows .mixedOrders=true) (hB:Region.lexB .any l.toArray=true) (hc:chainB l ks=true) (hV:Ph 0 w.drew)
  (h:jc l.toArray (Ri P Ph ks) (fun a'=>∀w',Ph ks.length w'->Q .normal a' w') l 0 a):(Code.region id l.toArray true).wp P Q a w:=by
 simp only[Region.lexB,fl]at hB;have hgd:=uZ hc;have hsz:∀k∈ks,k<l.toArray.size:=fun k hk=>by
  obtain⟨o,ho,_⟩:=hgd k hk;simpa using (p6.1 ho).1
 refine zt hm ?_;refine AE (P:=P) (Ph:=Ph) (ks:=ks) (Q:=fun a'=>∀w',Ph ks.length w'->Q .normal a' w') (fun t k k' h1 h2=>?_) ((OG hc).imp (fun h=>Nat.ne_of_lt h)) (fun k hk=>?_) (fun a w h1 h2=>h2 w h1) _ _ a w.drew 0 (bC _) (fun t k hk=>?_) (fun k hk=>?_) hV ?_
 ·obtain ⟨o,ho,he⟩:=(qu hc t k k' h1 h2).2
  exact⟨o,by simpa using ho,he⟩
 ·obtain ⟨o,ho,Xp⟩:=hgd k hk
  exact⟨o,by simpa using ho,Xp⟩
 ·have:=hsz k (Ed hk)
  simp at this;simp[this]
 ·simpa using hsz k hk
 ·have:=AB (md:=.any) (ks:=ks) hB.1 hsz l 0 (Array.replicate l.toArray.size false) a (by simp) (fun j hj=>by omega) (by simp) (by simp) (by simpa using hB.2) h
  simpa using this
section
variable {P:Program} {ops:Array Oper} {Ph:Nat->World->Prop} {ks:List Nat} {Q:Act->Prop} {a:Act}
theorem kq {E:Nat->Sem Next->Value->Prop} (h:Q a):jc ops E Q [] k a:=h
theorem fK {o:Oper} {rest:List Oper} (hp:placeOf ks k=none)
  (h:∀K:Act->Prop,(∀a,jc ops (Ri P Ph ks) Q rest (k+1) a->K a)->if Region.wanted o (yielded ops a.tmps) then ∃v,(∀u:Hp Ph,o.quietAt P a (Ph u.j) u.w v)/\K (a.put o.dst v) else K (a.put o.dst undef)):jc ops (Ri P Ph ks) Q (o::rest) k a:=by
 unfold jc;have:=h _ (fun _ h=>h);unfold Ri;rw[hp];exact this
theorem dh {o:Oper} {rest:List Oper} {k:Nat} (j:Nat) (hp:placeOf ks k=some j) (hg:o.guard=none)
  (h:∀K:Act->Prop,(∀a,jc ops (Ri P Ph ks) Q rest (k+1) a->K a)->∃v,(∀u:Wc (Ph j),gW P (Ph (j+1)) v ((execOp a.eval o).run P u.w))/\K (a.put o.dst v)):jc ops (Ri P Ph ks) Q (o::rest) k a:=by
 unfold jc;have hw:Region.wanted o (yielded ops a.tmps)=true:=by unfold Region.wanted;rw[hg]
 rw[af hw];have:=h _ (fun _ h=>h);unfold Ri;rw[hp];exact this
end
end
open Go.ChangeShapes Go.WideShapes Go.ChangeAt Go.RowKit
def ph2 (C0 C1 C2:World->Prop):Nat->World->Prop
 | 0=>C0
 | 1=>C1
 | 2=>C2
 | _=>fun _=>False
theorem sB {C0 C1 C2 T:World->Prop} (h0:∀w,C0 w->T w) (h1:∀w,C1 w->T w) (h2:∀w,C2 w->T w):∀u:Hp (ph2 C0 C1 C2),T u.w:=fun u=>by
 obtain⟨j,w,h⟩:=u
 match j,h with
 | 0,h=>exact h0 _ h
 | 1,h=>exact h1 _ h
 | 2,h=>exact h2 _ h
 | j+3,h=>exact h.elim
theorem eL.j7 {b:Nat} {g:dL} {cs:Array Value} {t:TypeId} {fr:Nat×Nat} (K:eL w B g S) (h:Has w b (.cells cs t fr)) (h1:t≠106) (h2:t≠157) (h3:t≠205):b∉g.list:=by
 obtain⟨_,⟨_,_,k2,es,cl,k3,_⟩,cd,k4,k5⟩:=K;obtain⟨_,cur,k6⟩:=k5.has;intro hb;simp only[dL.list,aR,bg,bh]at hb;unfold Has at *;rcases hb with rfl|rfl|rfl|rfl
 ·rw[h]at k4;injection k4 with k4;injection k4 with _ k4;exact h1 k4
 ·rw[h]at k2;injection k2 with k2;injection k2 with _ k2;exact h2 k2
 ·rw[h]at k3;injection k3 with k3;cases k3
 ·rw[h]at k6;injection k6 with k6;injection k6 with _ k6;exact h3 k6
theorem gv.j7 {b:Nat} {f:cI} {cs:Array Value} {t:TypeId} {fr:Nat×Nat} (F:gv w B f S X) (h:Has w b (.cells cs t fr)) (h1:t≠78) (h2:t≠66) (h3:t≠191):b∉f.list:=by
 obtain⟨_,cn,ce,k2,⟨xs,k3,_⟩,k4⟩:=F;obtain⟨_,EB,k5⟩:=cQ k3;obtain⟨_,NW,k6⟩:=cQ k4;intro hb;simp only[cI.list,aR,bg,bh]at hb;unfold Has at *;rcases hb with rfl|rfl|rfl
 ·rw[h]at k2;injection k2 with k2;injection k2 with _ k2;exact h1 k2
 ·rw[h]at k5;injection k5 with k5;injection k5 with _ k5;exact h2 k5
 ·rw[h]at k6;injection k6 with k6;injection k6 with _ k6;exact h3 k6
theorem fI.nil (w:World) (B:Nat):fI w B [] []:=⟨rfl,fun k h=>by cases h⟩
theorem u_ {B' size n:Nat} {e:TypeId} {xs:List Value} (h:w.ownsRow B' e size v n xs) (hb:B<=B'):w.ownsRow B e size v n xs:=by
 refine⟨h.1,?_⟩;rcases h.2 with h|⟨g,cap,cur,h1,h2,h3⟩
 ·exact .inl h
 ·exact .inr ⟨g,cap,cur,h1,by omega,h3⟩
theorem OH {ns:List ak} (hk:k<ns.length) (no:Int):dO (ns.take (k+1)) no=dO (ns.take k) no++(if ns[k].no == no then [] else [ns[k]]):=by
 unfold dO;rw[mC hk,zf,jH,List.filter_nil]
 cases (ns[k].no == no)<;>rfl
def acb (w:World) (B:Nat) (g:cI) (S:ag) (X:cY) (no:Int) (e:Ending) (w':World):Prop:=
 e = .returned (.tuple #[])/\∃bN,gv w' B ⟨g.bF,bN,g.bE⟩ ⟨dO S.nodes no,S.ae,S.last⟩ X/\Only [g.bF] w w'/\w.heap.size<=bN
theorem OI (B:Nat) (g:cI) (S:ag) (X:cY) (no:Int) (w:World) (h:gv w B g S X) (nE:S.nodes.length<=100000) (hne:dO S.nodes no≠[]) (hBw:B<=w.heap.size) :
  Calls prog 218 #[((),g.bF),no] w (acb w B g S X no):=by
 have h0:=h;obtain⟨h1,cn,ce,h2,⟨xs,h3,h5⟩,h4⟩:=h;have c0:=aA h2 0 rfl;have f0:w.frozen? (g.bF,0)=false:=h2.free 0;have zF:=h2.lt;obtain⟨ns,hns⟩:=ai S.nodes;rw[<-hns]at c0 h3 h5 nE hne;obtain⟨n,hn⟩:=ai ns.length;rw[<-hn]at c0 nE;have HN:=zH hn;have HNE:=zH hne;clear hn hne;obtain⟨i0,hi,hz0,hz1,hz2⟩:=jj Gn;go_in;go_wp2_with fail;go_loopw [4,5] (fun u i wr=>∃k:Nat,k<=n/\i=.int .i64 k/\(∃ys,wr.ownsRow w.heap.size 66 12 u (dO (ns.take k) no).length ys/\fI wr B ys (dO (ns.take k) no))/\Ext w wr) (fun _ i _=>n-(intOf i).toNat)
 case atStart=>exact⟨0,bC _,rfl,⟨[],⟨rfl,.inl ⟨rfl,rfl⟩⟩,fI.nil _ _⟩,Ext.refl _⟩
 case round =>
  obtain⟨k,hk,rfl,⟨ys,hown,hys⟩,hE⟩:=hrel;have q0:wr.cell? (g.bF,0)=some (.slice (some g.bN) n cn):=(hE.cell zF).trans c0;have qz:g.bF<wr.heap.size:=by have:=hE.size;omega
  have mP:(dO (ns.take k) no).length<=k:=by
   have a1:(dO (ns.take k) no).length<=(ns.take k).length:=sX ..;rw[iG]at a1;omega
  by_cases hlt:(k:Int)<n
  ·have dN:k<ns.length:=by have:=HN.o;omega
   have hs:=OH dN no;have h3r:wr.ownsRow B 66 12 (.slice (some g.bN) ns.length cn) ns.length xs:=by
    exact av h3 (Only.az (L:=[]) hE) (by simp)
   obtain⟨A,c,ok,hr⟩:=fI.range h3r (h5.only (Only.az (L:=[]) hE) (fun b hb=>by cases hb)) k dN
   generalize ns[k]=z at ok hr hs
   obtain⟨d0,d1,d2,d3,d4,d5,d6,d7,d8,d9,d10,d11⟩:=yI hr;have hN:g.bN<wr.heap.size:=by have:=h0.lt.2.1;have:=hE.size;omega
   have y1:(0:Int)<=(k:Int):=cO _;obtain⟨P,hP⟩:=ai (dO (ns.take k) no);rw[<-hP]at hown hys hs mP
   cases hq:(z.no == no)
   ·have t1:(z.no != no)=true:=by unfold bne;rw[hq];rfl
    rw[hq]at hs;have qN:Hid (dO (ns.take (k+1)) no=P++[z]):=by show _=_;rw[hs];rfl
    clear hs hq hP;go_wp2_with (at_builtin;refine rh _ rfl _ _ 75 rfl w.heap.size 66 i0 (.agg ()) 12 120 underlying75 hi hz0 hz1 hz2 rfl (by decide) _ _ _ rfl (hown.alloc _) ⟨wr.heap.size,0,none⟩ 1 1 (gu z A c) rfl rfl (DV (cs:=(gu z A c).toArray) (t:=66) (fr:=(0,0)) (FW wr _)) (wI z A c) (by unfold maxLen;omega) (by omega) (by have:=hE.size;simp;omega) ?_);intro v' w2 gP hgrow _;have j0:Ext w w2:=(hE.alloc _).grown hgrow (fun g hv=>(hown.lt g hv).1);have O2:=Only.pre ((Ext.refl wr).alloc _) (Only.grown hgrow);have aN:=dE.row (u_ hown hBw) (by decide:66≠153);have acd:=(hys.only O2 aN).add (ok.only O2 aN);have hlen:P.length+1=(P++[z]).length:=by simp
    rw[hlen]at gP;have Sz:Hid (∃ys,w2.ownsRow w.heap.size 66 12 v' (P++[z]).length ys/\fI w2 B ys (P++[z])):=⟨_,gP,acd⟩;clear gP hgrow hown hys acd hlen d0 d1 d2 d3 d4 d5 d6 d7 d8 d9 d10 d11 q0 qz;go_wp2_with fail;go_roundw
    case rel=>exact⟨k+1,by omega,by go_num,by rw[qN.o];exact Sz.o,j0⟩
    case measure=>simp[intOf];omega
   ·have t1:(z.no != no)=false:=by unfold bne;rw[hq];rfl
    rw[hq]at hs;have qN:Hid (dO (ns.take (k+1)) no=P):=by show _=_;rw[hs];simp
    clear hs hq hP;go_wp2_with fail;go_roundw
    case rel=>exact⟨k+1,by omega,by go_num,by rw[qN.o];exact⟨ys,hown,hys⟩,hE⟩
    case measure=>simp[intOf];omega
  ·have ut:k=n:=by omega
   have hf:Hid (dO (ns.take k) no=dO ns no):=by show _=_;rw[ut,HN.o,od]
   have f0':wr.frozen? (g.bF,0)=false:=(hE.frozen zF).trans f0;rw[hf.o]at hown hys;have Xq:=hown;rcases hown.2 with⟨_,hz⟩|⟨bN,cap,cur,rfl,j_,_⟩
   ·exact absurd (qD hz) HNE.o
   obtain⟨m,hm⟩:=ai ((dO ns no).length);rw[<-hm]at hown|-;have HM:=zH hm;have nZ:=zH j_;clear hm j_ hf ut;go_wp2_with fail;go_end0;obtain⟨w5,Rc⟩:=ai (wr.setCell (g.bF,0) (.slice (some bN) m cap));rw[<-Rc];have Fr:=h2.ext hE;have O5:Only [g.bF] wr w5:=by rw[Rc];exact Only.setCell _ _ _ _
   have F5:Has w5 g.bF (.cells #[.slice (some bN) m cap,.slice (some g.bE) S.ae.length ce,S.last,X.now,X.count,X.plan,X.dead] 78):=by rw[Rc];exact Fr.setCell 0 _
   have hgb:bN≠g.bF:=fun e=>k_ Xq Fr (by decide) (by rw[e];rfl)
   have a5:dE wr B [g.bF]:=dE.cons (fun x hx=>by cases hx) h1 (Fr.fV (by decide));have hde:g.bE≠g.bF:=(h0.ne.2.1).symm;refine⟨rfl,bN,⟨h1,cap,ce,?_,⟨ys,?_,?_⟩,?_⟩,Only.pre hE O5,nZ.o⟩
   ·rw[<-hns,<-HM.o];exact F5
   ·rw [<-hns]
    exact av (u_ Xq hBw) O5 (fun g hg=>by simp[Value.ownBlock]at hg;subst hg;simpa using hgb)
   ·rw[<-hns];exact hys.only O5 a5
   ·exact av (av h4 (Only.az (L:=[]) hE) (by simp)) O5 (fun g hg=>by simp[Value.ownBlock]at hg;subst hg;simpa using hde)
def Zu (w:World) (B:Nat) (g:cI) (S:ag) (X:cY) (no:Int) (e:Ending) (w':World):Prop:=
 e = .returned (.bool (iI S no))/\∃g',gv w' B g' (gS S no) X/\cI.on g' g w/\Only g.list w w'
theorem G3 {w':World} {g:cI} (h:gv w B g S X) (hE:Ext w w') (hk:iI S no=false):Zu w B g S X no (.returned (.bool false)) w':=
 ⟨by rw[hk],g,by unfold gS;rw[hk];exact h.ext hE,⟨rfl,fun b hb=>.inl hb⟩,Only.az hE⟩
theorem OJ (B : Nat) (g:cI) (S:ag) (X:cY) (no:Int) (w:World) (h:gv w B g S X) (nE:S.nodes.length<=100000) (mZ:S.ae.length<=8) (hr:eV S.ae) (hu:aQ S.nodes S.last) (OC:GP S) (hne:iI S no=true->dO S.nodes no≠[]) (_hBw:B<=w.heap.size) :
  Calls prog 203 #[((),g.bF),no] w (Zu w B g S X no):=by
 have hm:Hid (iI S no=(aW S.nodes no&&!(aI S.ae (aa S.nodes no).dev == no))):=by show _=_;rfl
 have HNE:=zH hne;clear hne;go_in;go_wp2_with fail;refine (eE B g S X no _ h (by omega) hu).mono ?_;rintro e w2 ⟨A,c,rfl,gG,b2⟩;have hmem:aW S.nodes no=true->(aa S.nodes no).no=no/\1<=no/\ic S.ae (aa S.nodes no).dev=true/\(aa S.nodes no).data.length<=1048576:=fun hi=>⟨(ap hi).2.1,by have:=(hu.2 _ (ap hi).2.2).1;rw[(ap hi).2.1]at this;exact this,OC _ (ap hi).2.2⟩
 have Xr:aW S.nodes no=false->(aa S.nodes no).no=0:=fun hi=>by rw[(aP hi).1];rfl
 obtain⟨n,hn⟩:=ai (aa S.nodes no);obtain⟨i,hi⟩:=ai (aW S.nodes no);rw[<-hn]at gG hm hmem Xr;rw[<-hi]at hm hmem Xr;rw[<-hn];obtain⟨W3,cJ⟩:=ai (w2.alloc (.cells (n,A,c) 66));obtain⟨b7,uk⟩:=ai w2.heap.size;have R3:Has W3 b7 (.cells (n,A,c) 66):=by rw[cJ,uk];exact Has.new _ _
 have E3:Ext w W3:=b2.trans (by rw[cJ];exact (Ext.refl _).alloc _);have hwb:w.heap.size<=b7:=by have:=b2.size;omega
 have HN:=zH hn;have HI:=zH hi;have HM:=zH hmem;have HZ0:=zH Xr;have HWB:=zH hwb;clear hn hi hmem Xr;go_upto_region 2 with fail;rw[<-cJ];rw[<-uk];clear cJ uk;have k0:=aA R3 0 rfl;have k1:=aA R3 1 rfl;have kz:=R3.lt
 cases i
 ·have hE:Hid (iI S no=false):=by show _=_;rw[hm.o];rfl
  have t0:(n.no == 0)=true:=by simpa using HZ0.o rfl
  clear hm;go_wp2;go_ret;exact G3 h E3 hE.o
 ·obtain ⟨bB, aax, Ar,ab8⟩:=HM.o rfl
  have t0:(n.no == 0)=false:=by rw[bB];simpa using (show ¬no=0 by omega)
  clear bB;go_wp2_with fail;refine (iw B g S X n.dev _ (h.ext E3) (by omega)).mono ?_;rintro e MO ⟨rfl,Zt⟩;have Rh:=R3.ext Zt;have Xn:=E3.trans Zt;clear k0 k1 kz t0
  by_cases BQ:aI S.ae n.dev=no
  ·have tr:(aI S.ae n.dev == no)=true:=by simpa using BQ
   have hE:Hid (iI S no=false):=by show _=_;rw[hm.o,tr];rfl
   clear BQ hm;go_wp2;go_ret;exact G3 h Xn hE.o
  have tr:(aI S.ae n.dev == no)=false:=by simpa using BQ
  have hE:Hid (iI S no=true):=by show _=_;rw[hm.o,tr];rfl
  have GZ:=cT hr n.dev;rcases GZ with⟨_,e2⟩|⟨k,hk,e1,_,e3,_,_,e6⟩
  ·rw[e2]at Ar;cases Ar
  obtain⟨bl,oV⟩:=ai (cx n.kind n.data.length);have eN:=sm (k:=n.kind) (s:=n.data.length) (by omega) (by omega);rw[<-oV]at eN;obtain⟨q,hq⟩:=ai (S.ae[k].q);rw[<-hq]at e6;have inr:V7 (-bl) (-1):=⟨by omega,by omega,by omega,by omega⟩;have HB:=zH oV;have HQ:=zH hq;have H3:=zH e3;have HD:=zH e1;have hsz:((bs n.data).size:Int)=n.data.length:=by rw[bo]
  have y0:(0:Int)<=n.dev-1:=by rw[e1];omega
  have y1:n.dev-1<(S.ae.length:Int):=by rw[e1];omega
  have y2:(n.dev-1).toNat=k:=by rw[e1];omega
  have y3:IntKind.i64.wrap (n.dev-1)=n.dev-1:=aU (by omega) (by omega);have y4:1<=n.dev:=by omega
  have y5:n.dev.toNat-1=k:=by omega
  clear hm Ar oV hq e3 e1 BQ;go_upto_region 4 with fail;obtain⟨h1,cn,cd,h3,hN,h4⟩:=id (h.ext Xn);have hl:=h.lt;obtain⟨_,_,d2,d3,d4,d5⟩:=fg.at_ h4 k hk;rw[<-HQ.o]at d2 d3 d4 d5;have y6:IntKind.i64.wrap (-bl)=-bl:=aU (by omega) (by omega);have Az:g.bE<MO.heap.size:=by have:=Xn.size;omega
  have zF:=h3.lt;go_cut [6] (fun p wc=>∃bx,p=.pointer (some ⟨bx,0,none⟩)/\Has wc bx (.cells #[.int .i64 (bf q (-bl) (-1)).blocks,.int .i64 (bf q (-bl) (-1)).nodes,.int .i64 (bf q (-bl) (-1)).bH,.int .i64 (bf q (-bl) (-1)).bG] 189)/\Ext MO wc/\MO.heap.size<=bx)
  case first =>
   have K0:Hid (∀w:World,Calls prog 215 #[n.kind,n.data.length] w (fun e w'=>e=.returned (.int .i64 bl)/\w'=w)):=by
    show ∀w:World,_;intro w;rw[HB.o];exact uE n.kind n.data.length (by omega) (by omega) w
   have KT:Hid (∀w:World,Calls prog 214 #[.agg #[q.blocks,q.nodes,q.bH,q.bG],.int .i64 (-bl),.int .i64 (-1)] w (aO w (.tuple #[.agg #[.int .i64 (bf q (-bl) (-1)).blocks,.int .i64 (bf q (-bl) (-1)).nodes,.int .i64 (bf q (-bl) (-1)).bH,.int .i64 (bf q (-bl) (-1)).bG],.int .i64 (eZ q (-bl) (-1))]))):=CC q (-bl) (-1) e6 inr;have u0:∀u:Gr MO,u.w.cell? (g.bF,1)=some (.slice (some g.bE) S.ae.length cd):=Gr.cell zF (h3.cell 1);have u1:∀u:Gr MO,u.w.cell? (b7,1)=some (.int .i64 n.dev):=Gr.cell Rh.lt (Rh.cell 1);have u2:∀u:Gr MO,u.w.cell? (b7,2)=some (.int .i64 n.kind):=Gr.cell Rh.lt (Rh.cell 2);have u10:∀u:Gr MO,u.w.cell? (b7,10)=some (.string (bs n.data)):=Gr.cell Rh.lt (Rh.cell 10);have t2:∀u:Gr MO,u.w.cell? (g.bE,k*6+2)=some (.int .i64 q.blocks):=Gr.cell Az d2;have t3:∀u:Gr MO,u.w.cell? (g.bE,k*6+3)=some (.int .i64 q.nodes):=Gr.cell Az d3;have t4:∀u:Gr MO,u.w.cell? (g.bE,k*6+4)=some (.int .i64 q.bH):=Gr.cell Az d4;have t5:∀u:Gr MO,u.w.cell? (g.bE,k*6+5)=some (.int .i64 q.bG):=Gr.cell Az d5;clear d2 d3 d4 d5 h4 Rh Xn;refine qJ MO 21 22 6 41 (bf q (-bl) (-1)) _ _ (by kernel_rfl) (by kernel_rfl) rfl rfl rfl rfl (by simp) ((Ext.refl _).drew) ?_;simp only[qG,oH,qH,jN,p9]
   repeat (
       refine cH (fun K hK=>?_);go_simp
       first
        | (refine hK _ ?_;clear hK K)
        | (
          apply Exists.intro;refine⟨fun u=>?_,hK _ ?_⟩
          first
           | ((with_reducible refine (K0.o _).mono ?_);rintro e w'' ⟨rfl,rfl⟩;exact⟨rfl,Ext.refl _⟩)
           | ((with_reducible refine (KT.o _).mono ?_);rintro e w'' ⟨rfl,hx⟩;exact⟨rfl,hx⟩)
          clear hK K))
   refine bc ?_;refine bc ⟨rfl,?_⟩;refine cH (fun K hK=>?_);go_simp;refine hK _ ?_;clear hK K;refine bc ?_;intro w' bx hx vT hb;simp only[Act.put];go_wp2_with fail;go_meet;exact⟨bx,rfl,hb,hx,vT⟩
  case rest =>
  obtain⟨bx,rfl,XB,E5,vT⟩:=hcut;obtain⟨W5,kT⟩:=ai wc;rw[<-kT]at XB E5|-;have EW5:=Xn.trans E5;have R5:=Rh.ext E5;have K5:=h.ext EW5;have s5:=EW5.size;clear kT d2 d3 d4 d5;obtain⟨_,cn5,cd5,hF5,hN5,Zm⟩:=id K5;have c1:=aA hF5 1 rfl;have cW:=hF5.lt;have x1:=aA R5 1 rfl;have xz2:=R5.lt;have q0:=aA XB 0 rfl;have q1:=aA XB 1 rfl;have q2:=aA XB 2 rfl;have q3:=aA XB 3 rfl;have qz:=XB.lt;have ym:W5.ownsRow B 191 6 (.slice (some g.bE) S.ae.length cd5) S.ae.length (bp S.ae):=Zm;obtain⟨_,_,d2,d3,d4,d5⟩:=fg.at_ Zm k hk;have hdz:=K5.lt.2.2;have f2:=ym.frozenAt (k*6+2);have f3:=ym.frozenAt (k*6+3);have f4:=ym.frozenAt (k*6+4);have f5:=ym.frozenAt (k*6+5);go_upto_region 5 with fail;go_cut [] (fun wc=>Only [g.bE] W5 wc/\wc.ownsRow B 191 6 (.slice (some g.bE) S.ae.length cd5) S.ae.length (bp (jb S.ae ((k:Int)+1) (bf q (-bl) (-1)))))
  case first =>
   go_still_tail 10,(by kernel_rfl);change wpList _ _ _ _ _ W5.drew;go_wp2_with fail;go_meet;have aaj:W5.drew.ownsRow B 191 6 (.slice (some g.bE) S.ae.length cd5) S.ae.length (bp S.ae):=av ym (Only.az (L:=[]) ((Ext.refl _).drew)) (by simp);refine⟨(Only.az ((Ext.refl W5).drew)).then ((((Only.setCell _ _ _ _).then (Only.setCell _ _ _ _)).then (Only.setCell _ _ _ _)).then (Only.setCell _ _ _ _)),?_⟩;rw[<-lU S.ae k hk];exact (jL (jL (jL (jL aaj (k*6+2) _).1 (k*6+3) _).1 (k*6+4) _).1 (k*6+5) _).1
  case rest =>
  obtain ⟨O6,D6⟩:=hcut;obtain⟨W6,tM⟩:=ai wc;rw[<-tM]at O6 D6|-;have K5a:=K5.apart;obtain⟨m1,m2,m3⟩:=K5.ne;have H6:=O6.has hF5 (by simpa using m2);have N6:Gl W6 B (.slice (some g.bN) S.nodes.length cn5) S.nodes:=by
   obtain⟨xs,k1,k2⟩:=hN5;refine⟨xs,av k1 O6 (fun x hx=>?_),k2.only O6 (K5a.sub (by simp))⟩;injection hx with hx;subst hx;simpa using m3
  have K6:gv W6 B g ⟨S.nodes,jb S.ae n.dev (bf q (-bl) (-1)),S.last⟩ X:=by
   refine⟨h.1,cn5,cd5,?_,N6,?_⟩
   ·simpa [gQ]using H6
   ·unfold fg
    simp only[gQ];rw[HD.o];exact D6
  have a6:Only g.list w W6:=Only.pre EW5 (O6.mono (by simp));have s6:=a6.size;clear tM q0 q1 q2 q3 d2 d3 d4 d5 f2 f3 f4 f5 c1 x1;go_wp2_with fail;refine (OI B g ⟨S.nodes,jb S.ae n.dev (bf q (-bl) (-1)),S.last⟩ X no _ K6 nE (HNE.o hE.o) (by omega)).mono ?_;rintro e w7 ⟨rfl,bN,K7,O7,hbN⟩;go_wp2;go_ret;have e2:gS S no=⟨dO S.nodes no,jb S.ae n.dev (bf q (-bl) (-1)),S.last⟩:=by
   unfold gS Aw;rw[af hE.o,<-HN.o,H3.o,<-HQ.o,<-HB.o]
  refine⟨by rw[hE.o];rfl,⟨g.bF,bN,g.bE⟩,by rw[e2];exact K7,⟨rfl,fun b hb=>?_⟩,a6.then (O7.mono (by simp))⟩;simp only[cI.list,aR,bg,bh]at hb|-;rcases hb with rfl|rfl|rfl
  ·exact .inl (.inl rfl)
  ·exact .inr (by omega)
  ·exact .inl (.inr (.inr rfl))
def Kh (w:World) (B:Nat) (g:cI) (T:ag) (X:cY) (x:Int) (e:Ending) (w':World):Prop:=
 e = .returned (.int .i64 x)/\gv w' B g T X/\Only g.list w w'
theorem wY {w':World} {g:cI} {T:ag} {x:Int} (h:gv w B g S X) (hE:Ext w w') (hT:T=S):Kh w B g T X x (.returned (.int .i64 x)) w':=
 ⟨rfl,by rw[hT];exact h.ext hE,Only.az hE⟩
def iT (S:ag) (cu no uid gid:Int):Int:=if fD S cu no≠0 then fD S cu no else if ¬cu=0 then 4 else if rN uid gid=false then 1 else 0
def iA (S:ag) (cu now no uid gid:Int):ag:=if iT S cu no uid gid=0 then aV S {aa S.nodes no with uid:=uid,gid:=gid,ctime:=now} else S
def jk (S:ag) (cu no mt:Int):Int:=if fD S cu no≠0 then fD S cu no else if mt<0\/253402300799<mt then 1 else 0
def iB (S:ag) (cu now no mt:Int):ag:=if jk S cu no mt=0 then aV S {aa S.nodes no with mtime:=mt,ctime:=now} else S
theorem OK (B:Nat) (g:dL) (S:ag) (cu cg now no mt:Int) (w:World) (h:eL w B g S) (hd:0<S.ae.length) (hu:aQ S.nodes S.last) :
  Calls prog 119 #[((),g.bW),.agg #[cu,cg],now,no,mt] w (qq w B g (iB S cu now no mt) (jk S cu no mt)):=by
 have E0:Ext w (w.alloc (.cells #[cu,cg] 27)):=(Ext.refl _).alloc _;have hm:Hid (jk S cu no mt=if fD S cu no≠0 then fD S cu no else if mt<0\/253402300799<mt then 1 else 0):=by show _=_;rfl
 have tj:Hid (fD S cu no=0->aW S.nodes no=true/\fp cu (aa S.nodes no).uid=true/\mw S cu no=aa S.nodes no):=jy;go_in;go_wp2_with fail;refine (Af B g S cu cg no _ (h.ext E0) hd).mono ?_;rintro e w2 ⟨A,c,rfl,gG,b2⟩;have E2:=E0.trans b2;obtain⟨m,hmm⟩:=ai (mw S cu no);obtain⟨x,hx⟩:=ai (fD S cu no);rw[<-hmm]at gG tj;rw[<-hx]at hm tj;rw[<-hmm,<-hx];clear hmm hx
 by_cases aX:x=0
 ·have t0 : (x == 0)=true:=by simpa using aX
  have nK:(x != 0)=false:=by simpa using aX
  obtain⟨hi,ho,oX⟩:=tj.o aX;have cq:Hid (jk S cu no mt=if mt<0\/253402300799<mt then 1 else 0):=by show _=_;rw[hm.o,ac (by simpa using aX)]
  have GN:m.no=no:=by rw[oX];exact (ap hi).2.1
  have Ag:=zH oX;have uh:=zH GN;clear hm tj oX GN hi ho aX
  by_cases c1:mt<0
  ·have t1:decide (mt<0)=true:=cj c1
   have hE:Hid (jk S cu no mt=1):=by show _=_;rw[cq.o,af (.inl c1)]
   clear cq c1;go_wp2;go_ret;rw[hE.o];exact fR h (E2.alloc _) (by unfold iB;rw[hE.o];rfl)
  ·have t1:decide (mt<0)=false:=cG c1
   by_cases c2:253402300799<mt
   ·have t2:decide (253402300799<mt)=true:=cj c2
    have hE:Hid (jk S cu no mt=1):=by show _=_;rw[cq.o,af (.inr c2)]
    clear cq c1 c2;go_wp2;go_ret;rw[hE.o];exact fR h (E2.alloc _) (by unfold iB;rw[hE.o];rfl)
   ·have t2:decide (253402300799<mt)=false:=cG c2
    ·have hE:Hid (jk S cu no mt=0):=by show _=_;rw[cq.o,ac (by rintro (g'|g')<;>contradiction)]
     clear cq c1 c2;go_upto_region 7 with fail;obtain⟨n,hn⟩:∃n:ak,n={m with mtime:=mt,ctime:=now}:=⟨_,rfl⟩;obtain⟨V,hV⟩:=ai (w2.alloc (.cells (n,A,c) 66));have oM:=hV;rw[hn]at oM;rw[<-oM];have NV:Has V w2.heap.size (.cells (n,A,c) 66):=by rw[hV];exact Has.new _ _
     have EV:Ext w V:=by rw[hV];exact E2.alloc _
     have Ah:aD V B n A c:=((gG.ext (by rw[hV];exact (Ext.refl _).alloc _)).same (by rw[hn]));have HN:=zH hn;clear hV oM hn;have KV:=h.ext EV;obtain⟨_,_,cd,hW,_⟩:=id KV;have v0:=aA hW 0 rfl;have vz:=hW.lt;obtain⟨x0,x1,x2,x3,x4,x5,x6,x7,x8,x9,kC,kn⟩:=NV.da;have zN:=NV.lt;go_still_tail 5,(by kernel_rfl);change wpList _ _ _ _ _ V.drew;go_wp2_with fail;have ED:Ext V V.drew:=(Ext.refl _).drew;refine (pL B g S n A c _ (KV.ext ED) hu (Ah.ext ED)).mono ?_;rintro e w5 ⟨rfl,K5,O5⟩;go_wp2;go_ret;rw[hE.o];refine⟨rfl,?_,Only.pre (EV.trans ED) O5⟩;have:iB S cu now no mt=aV S n:=by unfold iB;rw[af hE.o,HN.o,Ag.o]
     rw[this];exact K5
 ·have t0:(x == 0)=false:=by simpa using aX
  have nK:(x != 0)=true:=by simpa using aX
  have hE:Hid (jk S cu no mt=x):=by show _=_;rw[hm.o,af aX]
  have hT:Hid (iB S cu now no mt=S):=by show _=_;unfold iB;rw[ac (by rw[hE.o];exact aX)]
  clear hm tj aX;go_wp2;go_ret;rw[hE.o];exact fR h (E2.alloc _) hT.o
theorem Ki (B:Nat) (g:dL) (S:ag) (cu cg now no uid gid:Int) (w:World) (h:eL w B g S) (hd:0<S.ae.length) (hu:aQ S.nodes S.last) :
  Calls prog 117 #[((),g.bW),.agg #[cu,cg],now,no,uid,gid] w (qq w B g (iA S cu now no uid gid) (iT S cu no uid gid)):=by
 have E0:Ext w (w.alloc (.cells #[cu,cg] 27)):=(Ext.refl _).alloc _;have hm:Hid (iT S cu no uid gid=if fD S cu no≠0 then fD S cu no else if ¬cu=0 then 4 else if rN uid gid=false then 1 else 0):=by show _=_;rfl
 have tj:Hid (fD S cu no=0->aW S.nodes no=true/\fp cu (aa S.nodes no).uid=true/\mw S cu no=aa S.nodes no):=jy;go_in;go_wp2_with fail;refine (Af B g S cu cg no _ (h.ext E0) hd).mono ?_;rintro e w2 ⟨A,c,rfl,gG,b2⟩;have E2:=E0.trans b2;obtain⟨m,hmm⟩:=ai (mw S cu no);obtain⟨x,hx⟩:=ai (fD S cu no);rw[<-hmm]at gG tj;rw[<-hx]at hm tj;rw[<-hmm,<-hx];clear hmm hx
 by_cases aX:x=0
 ·have t0 : (x == 0)=true:=by simpa using aX
  have nK:(x != 0)=false:=by simpa using aX
  obtain⟨hi,ho,oX⟩:=tj.o aX;have cq:Hid (iT S cu no uid gid=if ¬cu=0 then 4 else if rN uid gid=false then 1 else 0):=by show _=_;rw[hm.o,ac (by simpa using aX)]
  have GN:m.no=no:=by rw[oX];exact (ap hi).2.1
  have Ag:=zH oX;have uh:=zH GN;clear hm tj oX GN hi ho aX;have C2:=((Has.new w (.cells #[cu,cg] 27)).ext b2);have k0:=aA C2 0 rfl;have kz:=C2.lt
  by_cases c1:cu=0
  ·have t1:(cu == 0)=true:=by simpa using c1
   have qo:(cu != 0)=false:=by simpa using c1
   cases c2:rN uid gid
   ·have hE:Hid (iT S cu no uid gid=1):=by show _=_;rw[cq.o,ac (by simpa using c1),af c2]
    have HC:=zH c2;clear cq c1 c2;go_wp2_with fail;refine (CQ uid gid _).mono ?_;rw[HC.o];rintro e w4 ⟨rfl,b4⟩;go_wp2;go_ret;rw[hE.o];exact fR h ((E2.alloc _).trans b4) (by unfold iA;rw[hE.o];rfl)
   ·have hE:Hid (iT S cu no uid gid=0):=by show _=_;rw[cq.o,ac (by simpa using c1),ac (by rw[c2];decide)]
    have HC:=zH c2;clear cq c1 c2;go_wp2_with fail;refine (CQ uid gid _).mono ?_;rw[HC.o];rintro e w4 ⟨rfl,b4⟩;have N4:=(Has.new w2 (.cells (m,A,c) 66)).ext b4;have tO:=(gG.ext ((Ext.refl _).alloc (.cells (m,A,c) 66))).ext b4;have E4:=(E2.alloc (.cells (m,A,c) 66)).trans b4;obtain⟨y0,y1,y2,y3,y4,y5,y6,y7,y8,y9,pY,nL⟩:=N4.da;have yf:∀i,w4.frozen? ⟨w2.heap.size,i,none⟩=false:=fun i=>(N4.free i).trans (by simp)
    have yz:=N4.lt;go_upto_region 9 with fail;obtain⟨n,hn⟩:∃n:ak,n={m with uid:=uid,gid:=gid,ctime:=now}:=⟨_,rfl⟩;obtain⟨V,hV⟩:=ai (((w4.setCell (w2.heap.size,4) (.int .i64 uid)).setCell (w2.heap.size,5) (.int .i64 gid)).setCell (w2.heap.size,7) (.int .i64 now));rw[<-hV];have NV:Has V w2.heap.size (.cells (n,A,c) 66):=by rw[hV,hn];exact ((N4.setCell 4 _).setCell 5 _).setCell 7 _
    have OV:Only [w2.heap.size] w4 V:=by rw[hV];exact ((Only.setCell _ _ _ _).then (Only.setCell _ _ _ _)).then (Only.setCell _ _ _ _)
    have EV:Ext w V:=OV.after E4 (by intro x hx;rw[ax]at hx;have:=E2.size;omega);have Ah:aD V B n A c:=(tO.same (by rw[hn])).only OV (by
     intro b hb;rw[ax]at hb;subst hb;exact⟨by have:=h.1;have:=h.lt.1;have:=E2.size;omega,N4.fV (by decide)⟩)
    have HN:=zH hn;clear hV hn y0 y1 y2 y3 y4 y5 y6 y7 y8 y9 pY nL yf yz;have KV:=h.ext EV;obtain⟨_,_,cd,hW,_⟩:=id KV;have v0:=aA hW 0 rfl;have vz:=hW.lt;obtain⟨x0,x1,x2,x3,x4,x5,x6,x7,x8,x9,kC,kn⟩:=NV.da;have zN:=NV.lt;go_still_tail 5,(by kernel_rfl);change wpList _ _ _ _ _ V.drew;go_wp2_with fail;have ED:Ext V V.drew:=(Ext.refl _).drew;refine (pL B g S n A c _ (KV.ext ED) hu (Ah.ext ED)).mono ?_;rintro e w5 ⟨rfl,K5,O5⟩;go_wp2;go_ret;rw[hE.o];refine⟨rfl,?_,Only.pre (EV.trans ED) O5⟩;have:iA S cu now no uid gid=aV S n:=by unfold iA;rw[af hE.o,HN.o,Ag.o]
    rw[this];exact K5
  ·have t1:(cu == 0)=false:=by simpa using c1
   have qo:(cu != 0)=true:=by simpa using c1
   have hE:Hid (iT S cu no uid gid=4):=by show _=_;rw[cq.o,af c1]
   clear cq c1;go_wp2;go_ret;rw[hE.o];exact fR h (E2.alloc _) (by unfold iA;rw[hE.o];rfl)
 ·have t0:(x == 0)=false:=by simpa using aX
  have nK:(x != 0)=true:=by simpa using aX
  have hE:Hid (iT S cu no uid gid=x):=by show _=_;rw[hm.o,af aX]
  have hT:Hid (iA S cu now no uid gid=S):=by show _=_;unfold iA;rw[ac (by rw[hE.o];exact aX)]
  clear hm tj aX;go_wp2;go_ret;rw[hE.o];exact fR h (E2.alloc _) hT.o
theorem Kj (h:fD S cu no=0):aW S.nodes no=true/\(aa S.nodes no).no=no:=⟨(jy h).1,(ap (jy h).1).2.1⟩
theorem OL {m:Int} (h:g_ S cu no m=0):fD S cu no=0:=by
 unfold g_ at h;split at h
 ·rename_i h2;exact absurd h h2
 ·rename_i h2;simpa using h2
theorem OM {u g:Int} (h:iT S cu no u g=0):fD S cu no=0:=by
 unfold iT at h;split at h
 ·rename_i h2;exact absurd h h2
 ·rename_i h2;simpa using h2
theorem OO {t:Int} (h:jk S cu no t=0):fD S cu no=0:=by
 unfold jk at h;split at h
 ·rename_i h2;exact absurd h h2
 ·rename_i h2;simpa using h2
def OP (S:ag) (cu cg no dl:Int):Int:=
 if aW S.nodes no=false then 5 else if (aa S.nodes no).kind=1 then 8 else if ¬(aa S.nodes no).kind=2 then 1
 else if fh cu cg (aa S.nodes no).uid (aa S.nodes no).gid (aa S.nodes no).mode 2=false then 6 else if 1048576<dl then 3 else GQ S no dl
def ET (S:ag) (cu cg now no:Int) (data:List UInt8):ag:=
 if OP S cu cg no data.length=0 then aV (lD S no data) {aa (lD S no data).nodes no with mtime:=now,ctime:=now} else S
theorem Te {dl:Int} (h:GQ S no dl=0):aW S.nodes no=true:=by
 cases hi:aW S.nodes no
 ·unfold GQ at h;rw[hi]at h;simp at h
 ·rfl
theorem Tf (S:ag) (no:Int) (data:List UInt8) (k:Int) (h:aW S.nodes k=true):aW (lD S no data).nodes k=true:=by
 unfold lD;split
 ·rw[kf];exact h
 ·exact h
theorem OQ {cg dl:Int} (h:OP S cu cg no dl=0):aW S.nodes no=true/\dl<=1048576/\GQ S no dl=0:=by
 unfold OP at h;split at h
 ·cases h
 ·rename_i hi
  split at h
  ·cases h
  ·split at h
   ·cases h
   ·split at h
    ·cases h
    ·split at h
     ·cases h
     ·exact⟨by simpa using hi,by omega,h⟩
theorem eB.live (h:eB c S):Live S:=⟨h.bL,h.last,h.ae,h.eight,h.roots,h.count,h.on,h.first,fun n hn e=>(h.one n hn e).2.1,h.pM⟩
theorem rQ (h:eB c S) {n:ak} (hi:aW S.nodes no=true) (hn:n.no=no) (he:n.ah=(aa S.nodes no).ah) (hd:n.data.length<=1048576)
  (hk:n.kind=(aa S.nodes no).kind) (hv:n.dev=(aa S.nodes no).dev) (hu:n.up=(aa S.nodes no).up) (hl:n.ar=(aa S.nodes no).ar) (hm:0<=n.mode/\n.mode<=1023):eB c (aV S n):=by
 subst hn;have hm0:=(ap hi).2;have hb:=h.bits _ hm0.2;refine uV h (.inl rfl) hi (aE _) hk hv hu (fun mq=>by rw[hl];exact h.qs _ hm0.2 (by rw[<-hk];exact mq)) (by rw[he];exact h.qO _ hm0.2) (by rw[he];exact h.names _ hm0.2) (by rw[he];exact h.pos _ hm0.2) (by rw[he];exact h.small _ hm0.2) hd
  ⟨hm.1,hm.2,by rw[hl];exact hb.2.2.1,by rw[hl];exact hb.2.2.2⟩ (fun x hx=>?_) (fun q hq Al _ CT Ab=>?_)
 ·rw [he]at hx
  have:=h.FO _ hm0.2 x hx;rw[hm0.1,<-hv]at this;exact this
 ·rw [he]
  rcases h.Ca q hq Al with⟨_,u2⟩|⟨_,_,m,hm,u3,_,_,x,hx,u6⟩
  ·exact absurd (u2.symm.trans CT) Ab
  ·have:=(ep h.bL hm).1
   rw[u3,CT]at this;rw[this];exact⟨x,hx,u6⟩
theorem eB.MQ (h:eB c S) (hi:aW S.nodes no=true):0<=(Proofs.YtpibnfdolojpcaaGreat.aa S.nodes no).mode/\(Proofs.YtpibnfdolojpcaaGreat.aa S.nodes no).mode<=1023:=by
 have:=h.bits _ (ap hi).2.2;exact⟨this.1,this.2.1⟩
theorem Tg (h:eB c S) (cu now no m:Int):eB c (gx S cu now no m):=by
 unfold gx;split
 ·rename_i h0
  obtain⟨hi,hn⟩:=Kj (OL h0);refine rQ h hi hn rfl (h.on _ (ap hi).2.2).2 rfl rfl rfl rfl ?_;unfold g_ at h0;split at h0
  ·rename_i h1;exact absurd h0 h1
  ·split at h0
   ·cases h0
   ·rename_i h1
    rw[not_or,not_or]at h1;exact⟨by show 0<=m;omega,by show m<=1023;omega⟩
 ·exact h
theorem Th (h:eB c S) (cu now no u g:Int):eB c (iA S cu now no u g):=by
 unfold iA;split
 ·rename_i h0
  obtain⟨hi,hn⟩:=Kj (OM h0);exact rQ h hi hn rfl (h.on _ (ap hi).2.2).2 rfl rfl rfl rfl (h.MQ hi)
 ·exact h
theorem Ti (h:eB c S) (cu now no t:Int):eB c (iB S cu now no t):=by
 unfold iB;split
 ·rename_i h0
  obtain⟨hi,hn⟩:=Kj (OO h0);exact rQ h hi hn rfl (h.on _ (ap hi).2.2).2 rfl rfl rfl rfl (h.MQ hi)
 ·exact h
theorem Tj (h:eB c S) (no:Int) (data:List UInt8) (hd:data.length<=1048576):eB c (lD S no data):=by
 unfold lD;split
 ·rename_i h0
  have hi:=Te h0;have ho:=h.on _ (ap hi).2.2;exact rQ (no:=no) (n:={aa S.nodes no with data:=data}) (Aq h (aa S.nodes no).dev _ (h.live.fine ho.1 _ _) S.last (gE _)) hi (ap hi).2.1 rfl hd rfl rfl rfl rfl (h.MQ hi)
 ·exact h
theorem Xu (h:eB c S) (cu cg now no:Int) (data:List UInt8):eB c (ET S cu cg now no data):=by
 unfold ET;split
 ·rename_i h0
  obtain⟨hi,hd,_⟩:=OQ h0;have hG:=Tj h no data (by omega);have tm:=Tf S no data no hi;exact rQ hG (n:={aa (lD S no data).nodes no with mtime:=now,ctime:=now}) tm (ap tm).2.1 rfl (hG.on _ (ap tm).2.2).2 rfl rfl rfl rfl (hG.MQ tm)
 ·exact h
end Go.Proofs.YtpibnfdolojpcaaGreat
