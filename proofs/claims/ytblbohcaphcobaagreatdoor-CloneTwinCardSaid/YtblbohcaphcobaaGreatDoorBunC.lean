import Derived.Test.YtblbohcaphcobaaGreatDoorBunB
import Derived.Test.YtblbohcaphcobaaGreatDoorBunA
import Derived.StillTail
import Derived.Deep.Quiet
import Derived.OrdersHeld
import Derived.Deep.QuietTactic
import Derived.Deep.Cut
import Derived.Deep.DeepCutAuto
set_option maxHeartbeats 8000000
set_option maxRecDepth 100000
namespace Go.Proofs.YtblbohcaphcobaaGreatDoor
section
open Go.ChangeShapes Go.WideShapes Go.ChangeAt Go.RowKit
structure cM where
 now:Int
 count:Value
 plan:Value
 dead:Value
structure cJ where
 bF:Nat
 bN:Nat
 bE:Nat
abbrev cJ.list (g:cJ):List Nat:=[g.bF,g.bN,g.bE]
def fS (w:World) (B:Nat) (xs:List Value) (ns:List ai):Prop:=
 xs.length=ns.length*12/\∀k,(h:k<ns.length)->∃A c,ay w B ns[k] A c/\∀j v,(fO ns[k] A c)[j]?=some v->xs[k*12+j]?=some v
theorem fS.only {w w':World} {B:Nat} {xs:List Value} {ns:List ai} {L:List Nat} (h:fS w B xs ns) (o:Only L w w') (ha:dg w B L):fS w' B xs ns:=
 ⟨h.1,fun k hk=>by obtain⟨A,c,h1,h2⟩:=h.2 k hk;exact⟨A,c,h1.only o ha,h2⟩⟩
def CO (w:World) (B:Nat) (v:Value) (ns:List ai):Prop:=∃xs,w.ownsRow B 58 12 v ns.length xs/\fS w B xs ns
def gV (w:World) (B:Nat) (g:cJ) (S:ac) (X:cM):Prop:=
 B <= g.bF/\∃cn ce,Has w g.bF (.cells #[.slice (some ⟨g.bN,0,none⟩) S.nodes.length cn,.slice (some ⟨g.bE,0,none⟩) S.af.length ce,.int .i64 S.last,X.now,X.count,X.plan,X.dead] 54) /\
  CO w B (.slice (some ⟨g.bN,0,none⟩) S.nodes.length cn) S.nodes/\iT w B 110 (.slice (some ⟨g.bE,0,none⟩) S.af.length ce) S.af
theorem bY {w:World} {B size n g cap:Nat} {t:TypeId} {xs:List Value} (h:w.ownsRow B t size (.slice (some ⟨g,0,none⟩) n cap) n xs):B<=g/\∃cur,Has w g (.cells cur t):=by
 rcases h.2 with⟨h0,_⟩|⟨g',cap',cur,h0,hb,hg,_⟩
 ·cases h0
 ·injection h0 with h0
  injection h0 with h0;injection h0 with h0;subst h0;exact ⟨hb,cur,hg⟩
theorem gV.apart {w:World} {B:Nat} {g:cJ} {S:ac} {X:cM} (h:gV w B g S X):dg w B g.list:=by
 obtain ⟨h1,cn,ce,h2,⟨xs,h3,_⟩,h4⟩:=h;obtain ⟨k1,yp,k2⟩:=bY h3;obtain ⟨k3,Ge,k4⟩:=bY h4;intro b hb;simp only[cJ.list,List.mem_cons,List.not_mem_nil,or_false]at hb;rcases hb with rfl|rfl|rfl
 ·exact⟨h1,h2.gi (by decide)⟩
 ·exact⟨k1,k2.gi (by decide)⟩
 ·exact⟨k3,k4.gi (by decide)⟩
theorem gV.lt {w:World} {B:Nat} {g:cJ} {S:ac} {X:cM} (h:gV w B g S X):g.bF<w.heap.size/\g.bN<w.heap.size/\g.bE<w.heap.size:=by
 obtain ⟨h1,cn,ce,h2,⟨xs,h3,_⟩,h4⟩:=h;obtain ⟨k1,yp,k2⟩:=bY h3;obtain ⟨k3,Ge,k4⟩:=bY h4;exact ⟨h2.lt,k2.lt,k4.lt⟩
theorem gV.ne {w:World} {B:Nat} {g:cJ} {S:ac} {X:cM} (h:gV w B g S X):g.bF≠g.bN/\g.bF≠g.bE/\g.bN≠g.bE:=by
 obtain ⟨h1,cn,ce,h2,⟨xs,h3,_⟩,h4⟩:=h;obtain ⟨k1,yp,k2⟩:=bY h3;obtain ⟨k3,Ge,k4⟩:=bY h4;exact ⟨fI h2 k2 (by decide),fI h2 k4 (by decide),fI k2 k4 (by decide)⟩
theorem gV.only {w w':World} {B:Nat} {g:cJ} {S:ac} {X:cM} {L:List Nat} (h:gV w B g S X) (o:Only L w w') (ha:dg w B L) (hn:∀b∈g.list,b∉L):gV w' B g S X:=by
 obtain ⟨h1,cn,ce,h2,⟨xs,h3,h5⟩,h4⟩:=h;refine ⟨h1,cn,ce,o.has h2 (hn _ (by simp)),⟨xs,av h3 o fun b hb=>?_,h5.only o ha⟩,av h4 o fun b hb=>?_⟩
 ·injection hb with hb;subst hb;exact hn _ (by simp)
 ·injection hb with hb;subst hb;exact hn _ (by simp)
theorem gV.ext {w w':World} {B:Nat} {g:cJ} {S:ac} {X:cM} (h:gV w B g S X) (o:Ext w w'):gV w' B g S X:=h.only (Only.aw (L:=[]) o) (fun b hb=>by cases hb) (by simp)
theorem eD.Sy {w:World} {B:Nat} {g:bQ} {f:cJ} {S T:ac} {X:cM} (h:eD w B g S) (k:gV w B f T X):∀b∈g.list,b∉f.list:=by
 obtain ⟨h1,⟨_,_,h2,es,cl,h3,_⟩,cd,h4,h5⟩:=h;obtain ⟨_,cur,h6⟩:=h5.has;obtain ⟨j1,cn,ce,j2,⟨xs,j3,_⟩,j4⟩:=k;obtain ⟨k1,yp,k2⟩:=bY j3;obtain ⟨k3,Ge,k4⟩:=bY j4;intro b hb;simp only[bQ.list,List.mem_cons,List.not_mem_nil,or_false]at hb;simp only[cJ.list,List.mem_cons,List.not_mem_nil,or_false,not_or];rcases hb with rfl|rfl|rfl|rfl
 ·exact⟨fI h4 j2 (by decide),fI h4 k2 (by decide),fI h4 k4 (by decide)⟩
 ·exact⟨fI h2 j2 (by decide),fI h2 k2 (by decide),fI h2 k4 (by decide)⟩
 ·exact⟨(fJ j2 h3).symm,(fJ k2 h3).symm,(fJ k4 h3).symm⟩
 ·exact⟨fI h6 j2 (by decide),fI h6 k2 (by decide),fI h6 k4 (by decide)⟩
def FN (w:World) (B bF bN:Nat) (vD:Value) (ns:List ai) (last:Int) (X:cM):Prop:=
 B<=bF/\∃cn,Has w bF (.cells #[.slice (some ⟨bN,0,none⟩) ns.length cn,vD,.int .i64 last,X.now,X.count,X.plan,X.dead] 54)/\CO w B (.slice (some ⟨bN,0,none⟩) ns.length cn) ns
theorem gV.fn {w:World} {B:Nat} {g:cJ} {S:ac} {X:cM} (h:gV w B g S X):∃ce,FN w B g.bF g.bN (.slice (some ⟨g.bE,0,none⟩) S.af.length ce) S.nodes S.last X/\iT w B 110 (.slice (some ⟨g.bE,0,none⟩) S.af.length ce) S.af:=by
 obtain ⟨h1,cn,ce,h2,h3,h4⟩:=h;exact ⟨ce,⟨h1,cn,h2,h3⟩,h4⟩
theorem FN.mk {w:World} {B bF bN bE ce:Nat} {S:ac} {X:cM} (h:FN w B bF bN (.slice (some ⟨bE,0,none⟩) S.af.length ce) S.nodes S.last X) (k:iT w B 110 (.slice (some ⟨bE,0,none⟩) S.af.length ce) S.af):gV w B ⟨bF,bN,bE⟩ S X:=by
 obtain ⟨h1,cn,h2,h3⟩:=h;exact ⟨h1,cn,ce,h2,h3,k⟩
theorem FN.lt {w:World} {B bF bN:Nat} {vD:Value} {ns:List ai} {last:Int} {X:cM} (h:FN w B bF bN vD ns last X):bF<w.heap.size/\bN<w.heap.size:=by
 obtain ⟨h1,cn,h2,⟨xs,h3,_⟩⟩:=h;obtain ⟨k1,yp,k2⟩:=bY h3;exact ⟨h2.lt,k2.lt⟩
theorem FN.ne {w:World} {B bF bN:Nat} {vD:Value} {ns:List ai} {last:Int} {X:cM} (h:FN w B bF bN vD ns last X):bF≠bN:=by
 obtain ⟨h1,cn,h2,⟨xs,h3,_⟩⟩:=h;obtain ⟨k1,yp,k2⟩:=bY h3;exact fI h2 k2 (by decide)
theorem FN.apart {w:World} {B bF bN:Nat} {vD:Value} {ns:List ai} {last:Int} {X:cM} (h:FN w B bF bN vD ns last X):dg w B [bF,bN]:=by
 obtain ⟨h1,cn,h2,⟨xs,h3,_⟩⟩:=h;obtain ⟨k1,yp,k2⟩:=bY h3;intro b hb;simp only[List.mem_cons,List.not_mem_nil,or_false]at hb;rcases hb with rfl|rfl
 ·exact⟨h1,h2.gi (by decide)⟩
 ·exact⟨k1,k2.gi (by decide)⟩
theorem FN.only {w w':World} {B bF bN:Nat} {vD:Value} {ns:List ai} {last:Int} {X:cM} {L:List Nat} (h:FN w B bF bN vD ns last X) (o:Only L w w') (ha:dg w B L) (h1:bF∉L) (h2:bN∉L):FN w' B bF bN vD ns last X:=by
 obtain ⟨k1,cn,k2,⟨xs,k3,k4⟩⟩:=h;exact ⟨k1,cn,o.has k2 h1,xs,av k3 o fun b hb=>(by injection hb with hb;subst hb;exact h2),k4.only o ha⟩
theorem FN.ext {w w':World} {B bF bN:Nat} {vD:Value} {ns:List ai} {last:Int} {X:cM} (h:FN w B bF bN vD ns last X) (o:Ext w w'):FN w' B bF bN vD ns last X:=h.only (Only.aw (L:=[]) o) (fun b hb=>by cases hb) (by simp) (by simp)
theorem gV.no {w:World} {B bN:Nat} {ns:List ai} {cn:Nat} {xs:List Value} (h:w.ownsRow B 58 12 (.slice (some ⟨bN,0,none⟩) ns.length cn) ns.length xs) (hx:fS w B xs ns) (k:Nat) (hk:k<ns.length):w.cell? ⟨bN,k*12,none⟩=some (.int .i64 ns[k].no):=by
 obtain ⟨A,c,_,h2⟩:=hx.2 k hk;rw [h.cellAt (k*12) (by omega)];exact h2 0 _ rfl
theorem JH {ns:List ai} {no:Int}:aQ ns no=false↔∀k,(h:k<ns.length)->ns[k].no≠no:=by
 constructor
 ·intro h k hk e
  exact (aV h).2 _ (List.getElem_mem hk) e
 ·intro h
  cases e:aQ ns no
  ·rfl
  ·obtain ⟨k,hk,e2⟩:=l_.1 e
   exact absurd e2 (h k hk)
def AtR (w:World) (ns:List ai) (no:Int) (e:Ending) (w':World):Prop:=
 w'=w/\((aQ ns no=false/\e=.returned (.int .i64 (-1)))\/(∃k:Nat,∃hk:k<ns.length,ns[k].no=no/\aQ ns no=true/\e=.returned (.int .i64 k)))
theorem sX (B bF bN:Nat) (vD:Value) (ns:List ai) (last:Int) (X:cM) (no:Int) (w:World) (h:FN w B bF bN vD ns last X) (hl:ns.length<=1000000):Calls Tryz.prog 36 #[.pointer (some ⟨bF,0,none⟩),.int .i64 no] w (AtR w ns no):=by
 obtain ⟨h1,cn,h2,⟨xs,h3,h5⟩⟩:=h;have hF:=h2.lt;have c0:=h2.cell 0;simp only[gA,gB]at c0;obtain⟨n,hn⟩:=ar ns.length;rw [<-hn]at c0 hl;have HN:=zH hn;clear hn;go_enter Tryz.func36,Tryz.ntmps36;go_wp2_with fail;go_loop [5] (fun i=>∃k:Nat,k<=n/\i=.int .i64 k/\Hid (∀j,(hj:j<ns.length)->j<k->ns[j].no≠no)) (fun i=>n-(intOf i).toNat)
 case atStart=>exact⟨0,Nat.zero_le _,rfl,fun j _ h=>by omega⟩
 case round =>
  obtain ⟨k,hk,rfl,ha⟩:=hrel
  by_cases hlt:(k:Int)<n
  ·have dq:k<ns.length:=by have:=HN.out;omega
   have d0:=gV.no h3 h5 k dq
   generalize hx:ns[k]=x at d0
   by_cases he:x.no=no
   ·have hb:(x.no == no)=true:=by simpa using he
    have HX:=zH hx;have HE:=zH he;clear hx he;go_wp2_with fail;go_ret;exact ⟨rfl,.inr ⟨k,dq,by rw[HX.out];exact HE.out,l_.2 ⟨k,dq,by rw[HX.out];exact HE.out⟩,rfl⟩⟩
   ·have Jh:Hid (∀j,(hj:j<ns.length)->j<k+1->ns[j].no≠no):=by
     show ∀j,(hj:j<ns.length)->j<k+1->ns[j].no≠no;intro j hj Ac
     by_cases e:j=k
     ·subst e;rw[hx];exact he
     ·exact ha.out j hj (by omega)
    have hb:(x.no == no)=false:=by simpa using he
    clear hx he;go_wp2_with fail;go_round
    case rel=>exact⟨k+1,by omega,by go_num,Jh⟩
    case measure=>simp[intOf];omega
  ·have hf:Hid (aQ ns no=false):=JH.2 fun j hj=>ha.out j hj (by have:=HN.out;omega)
   go_wp2_with fail;go_ret;exact ⟨rfl,.inl ⟨hf.out,rfl⟩⟩
def sets (xs:List Value) (o:Nat):List Value->List Value
 | []=>xs
 | v::vs=>sets (xs.set o v) (o+1) vs
theorem JI (vs:List Value):∀(xs:List Value) (o:Nat),(sets xs o vs).length=xs.length:=by
 induction vs with
 | nil=>intro xs o;rfl
 | cons v vs ih=>intro xs o;rw[sets,ih,List.length_set]
theorem Af (vs:List Value):∀(xs:List Value) (o i:Nat),(i<o\/o+vs.length<=i)->(sets xs o vs)[i]?=xs[i]?:=by
 induction vs with
 | nil=>intro xs o i _;rfl
 | cons v vs ih =>
  intro xs o i h;simp only[List.length_cons]at h;rw [sets,ih _ _ _ (by omega),List.getElem?_set_ne (by omega)]
theorem OY (vs:List Value):∀(xs:List Value) (o j:Nat),j<vs.length->o+vs.length<=xs.length->(sets xs o vs)[o+j]?=vs[j]?:=by
 induction vs with
 | nil=>intro xs o j h;cases h
 | cons v vs ih =>
  intro xs o j hj hl;simp only[List.length_cons]at hj hl;rw [sets]
  cases j with
  | zero =>
   rw [Af _ _ _ _ (by omega),Nat.add_zero,List.getElem?_set_self (by omega)];rfl
  | succ j =>
   have:=ih (xs.set o v) (o+1) j (by omega) (by rw[List.length_set];omega);rw [show o+(j+1)=o+1+j by omega,this];simp
theorem qL {B size n cap g:Nat} {e:TypeId} (vs:List Value):∀(xs:List Value) (o:Nat) (w:World),w.ownsRow B e size (.slice (some ⟨g,0,none⟩) n cap) n xs->(w.setCells g o vs).ownsRow B e size (.slice (some ⟨g,0,none⟩) n cap) n (sets xs o vs):=by
 induction vs with
 | nil=>intro xs o w h;exact h
 | cons v vs ih=>intro xs o w h;exact ih _ _ _ (h.stored o v).1
theorem cO {g:Nat} (vs:List Value):∀(o:Nat) (w:World),Only [g] w (w.setCells g o vs):=by
 induction vs with
 | nil=>intro o w;exact Only.refl _ _
 | cons v vs ih=>intro o w;exact (Only.setCell w g o v).then (ih _ _)
theorem fS.set {w:World} {B:Nat} {xs:List Value} {ns:List ai} (h:fS w B xs ns) {k:Nat} (hk:k<ns.length) {n:ai} {A:Option Addr} {c:Nat} (hn:ay w B n A c):fS w B (sets xs (k*12) (fO n A c)) (ns.set k n):=by
 have hl:(fO n A c).length=12:=rfl;refine ⟨by rw[JI,List.length_set];exact h.1,fun i hi=>?_⟩;rw [List.length_set]at hi
 by_cases e:k=i
 ·subst e
  rw [List.getElem_set_self];refine ⟨A,c,hn,fun j v hj=>?_⟩;have Ac:j<12:=by
   have:=(List.getElem?_eq_some_iff.1 hj).1
   rwa [hl]at this
  rw [OY _ _ _ _ (by rw[hl];exact Ac) (by rw[hl,h.1];omega)];exact hj
 ·rw [List.getElem_set_ne e]
  obtain ⟨A',c',h1,h2⟩:=h.2 i hi;refine ⟨A',c',h1,fun j v hj=>?_⟩;have Ac:j<12:=(List.getElem?_eq_some_iff.1 hj).1;rw [Af _ _ _ _ (by rw[hl];omega)];exact h2 j v hj
theorem fS.range {w:World} {B g cn:Nat} {ns:List ai} {xs:List Value} (h:w.ownsRow B 58 12 (.slice (some ⟨g,0,none⟩) ns.length cn) ns.length xs) (hx:fS w B xs ns) (k:Nat) (hk:k<ns.length) :
  ∃ A c,ay w B ns[k] A c/\w.rangeAt g (k*12) (fO ns[k] A c):=by
 obtain ⟨A,c,h1,h2⟩:=hx.2 k hk;refine ⟨A,c,h1,fun j v hj=>?_⟩;have Ac:j<12:=(List.getElem?_eq_some_iff.1 hj).1;rw [h.cellAt (k*12+j) (by omega)];exact h2 j v hj
theorem JJ:(Tryz.prog.info? 58).map (fun i=>(i.zero,i.size,i.bytes))=some (some (.agg #[.int .i64 0,.int .i64 0,.int .i64 0,.int .i64 0,.int .i64 0,.int .i64 0,.int .i64 0,.int .i64 0,.int .i64 0,.int .i64 0,.string ⟨#[]⟩,.slice none 0 0]),12,120):=by kernel_rfl
theorem yq {w:World} {b o:Nat} {n:ai} {A:Option Addr} {c:Nat} (h:w.rangeAt b o (fO n A c)) :
  w.cell? ⟨b,o,none⟩=some (.int .i64 n.no)/\w.cell? ⟨b,o+1,none⟩=some (.int .i64 n.dev)/\w.cell? ⟨b,o+2,none⟩=some (.int .i64 n.kind)/\w.cell? ⟨b,o+3,none⟩=some (.int .i64 n.mode)/\w.cell? ⟨b,o+4,none⟩=some (.int .i64 n.uid)/\w.cell? ⟨b,o+5,none⟩=some (.int .i64 n.gid) /\
  w.cell? ⟨b,o+6,none⟩=some (.int .i64 n.mtime)/\w.cell? ⟨b,o+7,none⟩=some (.int .i64 n.ctime)/\w.cell? ⟨b,o+8,none⟩=some (.int .i64 n.ah)/\w.cell? ⟨b,o+9,none⟩=some (.int .i64 n.up)/\w.cell? ⟨b,o+10,none⟩=some (.string (bs n.data))/\w.cell? ⟨b,o+11,none⟩=some (.slice A n.ae.length c):=
 ⟨h 0 _ rfl,h 1 _ rfl,h 2 _ rfl,h 3 _ rfl,h 4 _ rfl,h 5 _ rfl,h 6 _ rfl,h 7 _ rfl,h 8 _ rfl,h 9 _ rfl,h 10 _ rfl,h 11 _ rfl⟩
def OZ (w:World) (B:Nat) (ns:List ai) (no:Int) (e:Ending) (w':World):Prop:=
 ∃ A c,e=.returned (.agg #[.int .i64 (aa ns no).no,.int .i64 (aa ns no).dev,.int .i64 (aa ns no).kind,.int .i64 (aa ns no).mode,.int .i64 (aa ns no).uid,.int .i64 (aa ns no).gid,.int .i64 (aa ns no).mtime,.int .i64 (aa ns no).ctime,.int .i64 (aa ns no).ah,.int .i64 (aa ns no).up,.string (bs (aa ns no).data),.slice A (aa ns no).ae.length c])/\ay w' B (aa ns no) A c/\Ext w w'
theorem EP (B bF bN:Nat) (vD:Value) (ns:List ai) (last:Int) (X:cM) (no:Int) (w:World) (h:FN w B bF bN vD ns last X) (hl:ns.length<=1000000) (hu:aI ns last):Calls Tryz.prog 14 #[.pointer (some ⟨bF,0,none⟩),.int .i64 no] w (OZ w B ns no):=by
 have h0:=h;obtain ⟨h1,cn,h2,⟨xs,h3,h5⟩⟩:=h;have c0:=h2.cell 0;simp only[gA,gB]at c0;have hF:=h2.lt;go_enter Tryz.func14,Tryz.ntmps14;go_wp2_with fail;refine (sX B bF bN vD ns last X no _ (h0.ext ((Ext.refl _).alloc _)) hl).mono ?_;rintro e w1 ⟨rfl,⟨hi,rfl⟩|⟨k,hk,bc,hi,rfl⟩⟩
 ·have hz:=(aV hi).1
  have HZ:=zH hz;clear hz hi;go_wp2_with fail;refine bodyPost_ret (v:=.agg #[.int .i64 0,.int .i64 0,.int .i64 0,.int .i64 0,.int .i64 0,.int .i64 0,.int .i64 0,.int .i64 0,.int .i64 0,.int .i64 0,.string ⟨#[]⟩,.slice none 0 0]) (by simp[results,Tryz.results14,go_sem]) rfl ⟨none,0,by rw[HZ.out];rfl,by rw[HZ.out];exact ay.zero _ _,?_⟩;exact (Ext.refl _).alloc _
 ·obtain ⟨A,c,ok,hr⟩:=fS.range h3 h5 k hk
  have hg:aa ns no=ns[k]:=by unfold aa;rw[<-bc,yi hu hk];rfl
  obtain⟨m,hm⟩:=ar (ns[k]);rw [<-hm]at ok hr hg;obtain ⟨d0,d1,d2,d3,d4,d5,d6,d7,d8,d9,d10,d11⟩:=yq hr;have hN:=h0.lt.2;have hneg:decide ((k:Int)<0)=false:=decide_eq_false (by omega);have y0:(k:Int)<ns.length:=by omega
  have y1:(0:Int)<=(k:Int):=Int.natCast_nonneg _;have HG:=zH hg;clear hg hm bc hi;go_wp2_with fail;refine bodyPost_ret (v:=.agg #[m.no,m.dev,m.kind,m.mode,m.uid,m.gid,m.mtime,m.ctime,m.ah,m.up,bs m.data,.slice A m.ae.length c]) (by simp[results,Tryz.results14,go_sem]) rfl ⟨A,c,by rw[HG.out],by rw[HG.out];exact ok.ext ((Ext.refl _).alloc _),?_⟩;exact (Ext.refl _).alloc _
theorem eZ (B:Nat) (g:cJ) (S:ac) (X:cM) (no:Int) (w:World) (h:gV w B g S X) (hl:S.nodes.length<=1000000) (hu:aI S.nodes S.last):Calls Tryz.prog 14 #[.pointer (some ⟨g.bF,0,none⟩),.int .i64 no] w (OZ w B S.nodes no):=by
 obtain ⟨ce,h1,_⟩:=h.fn;exact EP B g.bF g.bN _ S.nodes S.last X no w h1 hl hu
theorem FN.setNode {w:World} {B bF bN:Nat} {vD:Value} {ns:List ai} {last:Int} {X:cM} {n:ai} {A:Option Addr} {c k:Nat} (h:FN w B bF bN vD ns last X) (hk:k<ns.length) (hn:ay w B n A c):FN (w.setCells bN (k*12) (fO n A c)) B bF bN vD (ns.set k n) last X:=by
 have n1:=h.ne;have ha:=h.apart.sub (L':=[bN]) (by simp);have o:=cO (g:=bN) (fO n A c) (k*12) w;obtain ⟨h1,cn,h2,⟨xs,h3,h5⟩⟩:=h;have hl:(ns.set k n).length=ns.length:=List.length_set;refine ⟨h1,cn,?_,⟨sets xs (k*12) (fO n A c),?_,(h5.set hk hn).only o ha⟩⟩
 ·simp only[hl];exact o.has h2 (by simpa using n1)
 ·simp only[hl];exact qL (fO n A c) xs (k*12) w h3
def Rc (w:World) (B bF bN:Nat) (vD:Value) (ns:List ai) (last:Int) (X:cM) (n:ai) (e:Ending) (w':World):Prop:=
 e = .returned (.tuple #[])/\FN w' B bF bN vD (bn ns n) last X/\Only [bN] w w'
theorem ER (B bF bN:Nat) (vD:Value) (ns:List ai) (last:Int) (X:cM) (n:ai) (A:Option Addr) (c:Nat) (w:World) (h:FN w B bF bN vD ns last X) (hl:ns.length<=1000000) (hu:aI ns last) (hn:ay w B n A c):Calls Tryz.prog 94 #[.pointer (some ⟨bF,0,none⟩),.agg #[n.no,n.dev,n.kind,n.mode,n.uid,n.gid,n.mtime,n.ctime,n.ah,n.up,bs n.data,.slice A n.ae.length c]] w (Rc w B bF bN vD ns last X n):=by
 obtain⟨W1,b_⟩:=ar (w.alloc (.cells #[n.no,n.dev,n.kind,n.mode,n.uid,n.gid,n.mtime,n.ctime,n.ah,n.up,bs n.data,.slice A n.ae.length c] 58));have E1:Ext w W1:=by rw[b_];exact (Ext.refl _).alloc _
 have B1:Has W1 w.heap.size (.cells #[n.no,n.dev,n.kind,n.mode,n.uid,n.gid,n.mtime,n.ctime,n.ah,n.up,bs n.data,.slice A n.ae.length c] 58):=by rw[b_];exact Has.new _ _
 have Wm:=h.ext E1;go_enter Tryz.func94,Tryz.ntmps94;go_wp2_with fail;rw [<-b_];refine (sX B bF bN vD ns last X n.no W1 Wm hl).mono ?_;rintro e w1 ⟨rfl,⟨hi,rfl⟩|⟨k,hk,bc,hi,rfl⟩⟩
 ·have hs:bn ns n=ns:=tG (aV hi).2
  have HS:=zH hs;clear b_ hs hi;go_wp2_with fail;go_end0;exact ⟨rfl,by rw[HS.out];exact Wm,Only.aw E1⟩
 ·have hs:bn ns n=ns.set k n:=EH hu hk bc
  obtain ⟨h1,cn,h2,⟨xs,h3,h5⟩⟩:=id Wm;have c0:=h2.cell 0;simp only[gA,gB]at c0;have hFl:=h2.lt;obtain ⟨A',c',_,hr⟩:=fS.range h3 h5 k hk
  generalize ns[k]=m at hr
  obtain ⟨d0,d1,d2,d3,d4,d5,d6,d7,d8,d9,d10,d11⟩:=yq hr;obtain ⟨x0,x1,x2,x3,x4,x5,x6,x7,x8,x9,sy,sA⟩:=B1.dS;have hxl:=B1.lt;have hN:=Wm.lt.2;have hneg:decide ((k:Int)<0)=false:=decide_eq_false (by omega);have hge:decide ((0:Int)<=(k:Int))=true:=decide_eq_true (by omega);have y0:(k:Int)<ns.length:=by omega
  have y1:(0:Int)<=(k:Int):=Int.natCast_nonneg _;have ff:=h3.frozenAt;have HS:=zH hs;clear b_ hs hi bc;go_wp2_with fail;go_still_tail 7,(by kernel_rfl);change wpList _ _ _ _ _ w1.drew;go_wp2_with fail;go_end0;have r1:=(FN.setNode Wm hk (hn.ext E1)).ext ((Ext.refl _).drew);have o3:Only [bN] w (w1.setCells bN (k*12) (fO n A c)).drew:=Only.pre E1 (((cO (fO n A c) (k*12) w1).ext ((Ext.refl _).drew)).mono (by simp));rw [<-HS.out]at r1;exact ⟨rfl,r1,o3⟩
def Wn (w:World) (B:Nat) (g:cJ) (S:ac) (X:cM) (n:ai) (e:Ending) (w':World):Prop:=
 e = .returned (.tuple #[])/\gV w' B g (aK S n) X/\Only g.list w w'
theorem mR (B:Nat) (g:cJ) (S:ac) (X:cM) (n:ai) (A:Option Addr) (c:Nat) (w:World) (h:gV w B g S X) (hl:S.nodes.length<=1000000) (hu:aI S.nodes S.last) (hn:ay w B n A c):Calls Tryz.prog 94 #[.pointer (some ⟨g.bF,0,none⟩),.agg #[n.no,n.dev,n.kind,n.mode,n.uid,n.gid,n.mtime,n.ctime,n.ah,n.up,bs n.data,.slice A n.ae.length c]] w (Wn w B g S X n):=by
 obtain ⟨_,_,n3⟩:=h.ne;obtain ⟨ce,h1,h2⟩:=h.fn;refine (ER B g.bF g.bN _ S.nodes S.last X n A c w h1 hl hu hn).mono ?_;rintro e w' ⟨rfl,k1,k2⟩;refine ⟨rfl,?_,k2.mono (by simp)⟩;exact FN.mk (S:=aK S n) k1 (av h2 k2 fun b hb=>by injection hb with hb;subst hb;simpa using n3.symm)
theorem fS.add {w:World} {B:Nat} {xs:List Value} {ns:List ai} (h:fS w B xs ns) {n:ai} {A:Option Addr} {c:Nat} (hn:ay w B n A c):fS w B (xs++fO n A c) (ns++[n]):=by
 have hl:(fO n A c).length=12:=rfl;refine ⟨by rw[List.length_append,h.1,hl,List.length_append];simp;omega,fun i hi=>?_⟩;rw [List.length_append,List.length_singleton]at hi
 by_cases e:i=ns.length
 ·subst e
  rw [List.getElem_append_right (Nat.le_refl _)];simp only[Nat.sub_self,List.getElem_singleton];refine ⟨A,c,hn,fun j v hj=>?_⟩;rw [List.getElem?_append_right (by rw[h.1];omega),h.1,show ns.length*12+j-ns.length*12=j by omega];exact hj
 ·obtain ⟨A',c',h1,h2⟩:=h.2 i (by omega)
  rw [List.getElem_append_left (by omega)];refine ⟨A',c',h1,fun j v hj=>?_⟩;have Ac:j<12:=(List.getElem?_eq_some_iff.1 hj).1;rw [List.getElem?_append_left (by rw[h.1];omega)];exact h2 j v hj
theorem wT (n:ai) (A:Option Addr) (c:Nat):∀u∈fO n A c,u.oneCell'=true:=by
 intro u hu;simp only[fO,List.mem_cons,List.not_mem_nil,or_false]at hu;rcases hu with rfl|rfl|rfl|rfl|rfl|rfl|rfl|rfl|rfl|rfl|rfl|rfl<;>rfl
def Wo (w:World) (B bF:Nat) (vN vD:Value) (ns:List ai) (last:Int) (X:cM) (n:ai) (e:Ending) (w':World):Prop:=
 e = .returned (.int .i64 (last+1))/\∃bN cn,Has w' bF (.cells #[.slice (some ⟨bN,0,none⟩) (ns.length+1) cn,vD,.int .i64 (last+1),X.now,X.count,X.plan,X.dead] 54) /\
  CO w' B (.slice (some ⟨bN,0,none⟩) (ns.length+1) cn) (ns++[{n with no:=last+1}])/\Only (bF::vN.ownBlock.toList) w w'/\(vN.ownBlock=some bN\/w.heap.size<=bN)
theorem wU (B bF:Nat) (vN vD:Value) (ns:List ai) (last:Int) (X:cM) (n:ai) (A:Option Addr) (c:Nat) (w:World) (hb:B<=bF)
  (hF:Has w bF (.cells #[vN,vD,.int .i64 last,X.now,X.count,X.plan,X.dead] 54)) (hN:CO w B vN ns) (hv:∃A c,vN=.slice A ns.length c) (hlen:ns.length<=100000) (jF:0<=last) (g_:last<=1000000) (hn:ay w B n A c) :
  Calls Tryz.prog 117 #[.pointer (some ⟨bF,0,none⟩),.agg #[n.no,n.dev,n.kind,n.mode,n.uid,n.gid,n.mtime,n.ctime,n.ah,n.up,bs n.data,.slice A n.ae.length c]] w (Wo w B bF vN vD ns last X n):=by
 obtain ⟨AN,cN,rfl⟩:=hv;have c2:w.cell? ⟨bF,2,none⟩=some (.int .i64 last):=hF.cell 2;have f2:w.frozen? ⟨bF,2,none⟩=false:=hF.free 2;have zF:=hF.lt;obtain ⟨m,hm⟩:∃m:ai,m={n with no:=last+1}:=⟨_,rfl⟩;obtain⟨w0,hw0⟩:=ar (w.setCell ⟨bF,2,none⟩ (.int .i64 (last+1)));obtain⟨W2,dF⟩:=ar (w0.alloc (.cells #[m.no,m.dev,m.kind,m.mode,m.uid,m.gid,m.mtime,m.ctime,m.ah,m.up,bs m.data,.slice A m.ae.length c] 58));have O0:Only [bF] w w0:=by rw[hw0];exact Only.setCell _ _ _ _
 have aF:dg w B [bF]:=dg.cons (fun x hx=>by cases hx) hb (hF.gi (by decide));have F0:Has w0 bF (.cells #[.slice AN ns.length cN,vD,.int .i64 (last+1),X.now,X.count,X.plan,X.dead] 54):=by rw[hw0];exact hF.setCell 2 _
 have E2:Ext w0 W2:=by rw[dF];exact (Ext.refl _).alloc _
 have B2:Has W2 w0.heap.size (.cells #[m.no,m.dev,m.kind,m.mode,m.uid,m.gid,m.mtime,m.ctime,m.ah,m.up,bs m.data,.slice A m.ae.length c] 58):=by rw[dF];exact Has.new _ _
 have hz0:w0.heap.size=w.heap.size:=by rw[hw0];simp
 rw [hz0]at B2;have m2:ay W2 B m A c:=((hn.only O0 aF).ext E2).same (by rw[hm]);have F2:=F0.ext E2;obtain ⟨xs,r1,r2⟩:=hN;have nF:∀g,(Value.slice AN ns.length cN).ownBlock=some g->g∉[bF]:=fun g hg=>by simp;intro e;exact eH r1 hF (by decide) (by rw[hg,e])
 have R2:W2.ownsRow B 58 12 (.slice AN ns.length cN) ns.length xs:=av (av r1 O0 nF) (Only.aw (L:=[]) E2) (by simp);have X2:fS W2 B xs ns:=(r2.only O0 aF).only (Only.aw (L:=[]) E2) (fun b hb=>by cases hb);have O2:Only [bF] w W2:=O0.ext E2;have bc:m.no=last+1:=by rw[hm]
 have du:=dF;rw [hw0,hm]at du;go_enter Tryz.func117,Tryz.ntmps117;go_wp2_with fail;rw [<-du];have HM:=zH hm;have sC:=zH bc;clear du dF hw0 hm hz0 c2 f2;obtain ⟨x0,x1,x2,x3,x4,x5,x6,x7,x8,x9,sy,sA⟩:=B2.dS;rw [bc]at x0;clear bc;have xz:=B2.lt;have v0:W2.cell? ⟨bF,0,none⟩=some (.slice AN ns.length cN):=F2.cell 0;have z2:=F2.lt;have EO:(Value.slice AN ns.length cN).ownBlock≠some bF:=eH R2 F2 (by decide);have hBW:B<=W2.heap.size:=by omega
 have aam:(Value.slice AN ns.length cN).ownBlock≠some w.heap.size:=by
  intro e;rcases r1.2 with⟨h,_⟩|⟨g,cap,cur,h,_,hg,_⟩
  ·rw[h]at e;simp[Value.ownBlock]at e
  ·rw [h]at e
   have:g=w.heap.size:=by simpa [Value.ownBlock]using e
   have h2:=(show Has w g _ from hg).lt;omega
 obtain ⟨i0,hi,hz0,hz1,hz2⟩:=info_parts JJ;go_region_law (first|(refine step_append_lies _ (by rfl) _ _ _ (by rfl) B 58 i0 _ 12 120 Tryz.underlying51 hi hz0 hz1 hz2 rfl (by omega) _ ns.length xs (by rfl) ((R2.alloc _).drew) ⟨W2.heap.size,0,none⟩ 1 1 (fO {m with no:=last+1} A c) (by rfl) (by rfl) (World.news_of_block (cs:=(fO {m with no:=last+1} A c).toArray) (t:=58) (fr:=(0,0)) (heap_alloc_new W2 _)) (wT _ _ _) (by omega) (by unfold maxLen;omega) (by omega) (by simp;omega) (W2.heap.size+1) (by simp) ?_;intro gg cap w4 tJ hgrow hat hlt;have v4:w4.cell? ⟨bF,0,none⟩=some (.slice AN ns.length cN):=((hgrow.cell_far ⟨bF,0,none⟩ (by simp;omega) (Ne.symm EO)).trans ((F2.alloc _).cell 0));have f4:w4.frozen? ⟨bF,0,none⟩=false:=((hgrow.frozen_far ⟨bF,0,none⟩ (by simp;omega) (Ne.symm EO)).trans ((F2.alloc _).free 0));have y4:w4.cell? ⟨w.heap.size,0,none⟩=some (.int .i64 (last+1)):=((hgrow.cell_far ⟨w.heap.size,0,none⟩ (by simp;omega) (Ne.symm aam)).trans (((B2.alloc _).cell 0).trans (by rw[sC.out];rfl)))))
 all_goals
  have hmm:({m with no:=last+1}:ai)=m:=by have:=sC.out;cases m;simp only at this;subst this;rfl
  have O4:Only (Value.slice AN ns.length cN).ownBlock.toList W2 w4:=Only.pre ((Ext.refl _).alloc _ |>.drew) (Only.grown hgrow);have F4:Has w4 bF (.cells #[.slice AN ns.length cN,vD,.int .i64 (last+1),X.now,X.count,X.plan,X.dead] 54):=O4.has F2 (by simpa using fun e=>EO e);have hgb:gg≠bF:=fun e=>eH tJ F4 (by decide) (by rw[e];rfl)
  have aN:dg W2 B (Value.slice AN ns.length cN).ownBlock.toList:=dg.row R2 (by decide);have X4:fS w4 B (xs++fO m A c) (ns++[m]):=(X2.only O4 aN).add (m2.only O4 aN);rw [hmm]at tJ;obtain⟨w5,Ah⟩:=ar (w4.setCell ⟨bF,0,none⟩ (.slice (some ⟨gg,0,none⟩) (ns.length+1) cap));have O5:Only [bF] w4 w5:=by rw[Ah];exact Only.setCell _ _ _ _
  have F5:Has w5 bF (.cells #[.slice (some ⟨gg,0,none⟩) (ns.length+1) cap,vD,.int .i64 (last+1),X.now,X.count,X.plan,X.dead] 54):=by rw[Ah];exact F4.setCell 0 _
  have y5:w5.cell? ⟨w.heap.size,0,none⟩=some (.int .i64 (last+1)):=by rw[Ah];exact (World.cell?_setCell_far _ _ _ _ (show bF≠w.heap.size by omega)).trans y4
  rw [<-Ah];clear Ah y4 v4 f4 x0 x1 x2 x3 x4 x5 x6 x7 x8 x9 sy sA v0;go_wp2_with fail;go_ret;have a5:dg w4 B [bF]:=dg.cons (fun x hx=>by cases hx) hb (F4.gi (by decide));refine ⟨rfl,gg,cap,F5,⟨xs++fO m A c,?_,?_⟩,?_,?_⟩
  ·rw [List.length_append]
   exact av tJ O5 (fun g hg=>by simp[Value.ownBlock]at hg;subst hg;simpa using hgb)
  ·rw[<-HM.out];exact X4.only O5 a5
  ·exact ((O2.mono (by simp)).then (O4.mono (fun x hx=>List.mem_cons_of_mem _ hx))).then (O5.mono (by simp))
  ·rcases hat with h|h
   ·exact .inl h
   ·exact .inr (by have:=O2.size;omega)
theorem sY {w:World} {B B' s s' n n':Nat} {e e':TypeId} {v v':Value} {xs xs':List Value} (h:w.ownsRow B e s v n xs) (k:w.ownsRow B' e' s' v' n' xs') (hne:e≠e'):∀b,v.ownBlock=some b->v'.ownBlock≠some b:=by
 intro b hb;rcases h.2 with⟨rfl,_⟩|⟨g,cap,cur,rfl,_,hg,_⟩
 ·simp[Value.ownBlock]at hb
 ·have:g=b:=by simpa [Value.ownBlock]using hb
  subst this;exact eH k (show Has w g _ from hg) hne
theorem JK:(Tryz.prog.info? 110).map (fun i=>(i.zero,i.size,i.bytes))=some (some (.agg #[.int .i64 0,.int .i64 0,.int .i64 0,.int .i64 0,.int .i64 0,.int .i64 0]),6,48):=by kernel_rfl
def Wp (w:World) (B bF:Nat) (vN vD:Value) (S:ac) (X:cM) (last:Int) (e:Ending) (w':World):Prop:=
 e = .returned (.int .i64 (last+1))/\∃bN bE,gV w' B ⟨bF,bN,bE⟩ S X/\Only (bF::(vN.ownBlock.toList++vD.ownBlock.toList)) w w'/\(vN.ownBlock=some bN\/w.heap.size<=bN)/\(vD.ownBlock=some bE\/w.heap.size<=bE)
theorem tO (B bF:Nat) (vN vD:Value) (S:ac) (X:cM) (over b n:Int) (w:World) (hb:B<=bF) (hF:Has w bF (.cells #[vN,vD,.int .i64 S.last,X.now,X.count,X.plan,X.dead] 54)) (hN:CO w B vN S.nodes) (hD:iT w B 110 vD S.af)
  (hv:∃A c,vN=.slice A S.nodes.length c) (JL:∃A c,vD=.slice A S.af.length c) (hlen:S.nodes.length<=100000) (abS:S.af.length<=1000) (hu:aI S.nodes S.last) (jF:0<=S.last) (g_:S.last<=1000000) :
  Calls Tryz.prog 86 #[.pointer (some ⟨bF,0,none⟩),.int .i64 over,.int .i64 b,.int .i64 n] w (Wp w B bF vN vD (cr S over b n) X S.last):=by
 obtain ⟨A',c',rfl⟩:=JL;have c1:w.cell? ⟨bF,1,none⟩=some (.slice A' S.af.length c'):=hF.cell 1;have zF:=hF.lt;go_enter Tryz.func86,Tryz.ntmps86;go_wp2_with fail;refine (wU B bF vN (.slice A' S.af.length c') S.nodes S.last X ⟨0,(S.af.length:Int)+1,1,493,0,0,0,0,1,0,[],[]⟩ none 0 w hb hF hN hv hlen jF g_ ⟨.nil _ _ _,Nat.le_refl _,Nat.zero_le _,fun _=>rfl⟩).mono ?_;rintro e w1 ⟨rfl,bN,cn,F1,N1,O1,fr1⟩;obtain ⟨n1,JD⟩:∃n1:ai,n1=⟨S.last+1,(S.af.length:Int)+1,1,493,0,0,0,0,1,0,[],[]⟩:=⟨_,rfl⟩;have l1:(S.nodes++[n1]).length=S.nodes.length+1:=by simp
 have N1':FN w1 B bF bN (.slice A' S.af.length c') (S.nodes++[n1]) (S.last+1) X:=⟨hb,cn,by rw[l1];exact F1,by rw[l1,JD];exact N1⟩;have u1:aI (S.nodes++[n1]) (S.last+1):=hu.add n1 (by rw[JD]) jF;obtain ⟨g1,g2⟩:=qJ hu n1 (by rw[JD]);have D1:iT w1 B 110 (.slice A' S.af.length c') S.af:=by
  obtain ⟨xs,r1,_⟩:=hN;refine av hD O1 fun g hg=>?_
  simp only[List.mem_cons,not_or];refine ⟨fun e=>eH hD hF (by decide) (by rw[hg,e]),fun hx=>?_⟩;have:vN.ownBlock=some g:=by simpa using hx
  exact sY r1 hD (by decide) g this hg
 have G1:=zH g1;have G2:=zH g2;have IV:=zH JD;clear g1 g2 JD c1 l1;go_wp2_with fail;refine (EP B bF bN _ _ (S.last+1) X (S.last+1) w1 N1' (by simp;omega) u1).mono ?_;rintro e w2 ⟨A2,c2,rfl,iC,E2⟩;rw [G1.out]at iC|-;go_wp2_with fail;obtain ⟨n2,z_⟩:∃n2:ai,n2={n1 with up:=S.last+1}:=⟨_,rfl⟩;obtain⟨W3,du⟩:=ar (w2.alloc (.cells #[n2.no,n2.dev,n2.kind,n2.mode,n2.uid,n2.gid,n2.mtime,n2.ctime,n2.ah,n2.up,bs n2.data,.slice A2 n2.ae.length c2] 58));have E3:Ext w2 W3:=by rw[du];exact (Ext.refl _).alloc _
 have pA:ay W3 B n2 A2 c2:=(iC.ext E3).same (by rw[z_]);have fN:=du;rw [z_]at fN;rw [<-fN];have hs2:bn (S.nodes++[n1]) n2=S.nodes++[n2]:=wQ hu n1 n2 (by rw[IV.out]) (by rw[z_,IV.out]);have zx:n2=bo S:=by rw[z_,IV.out];rfl
 have N3:=N1'.ext (E2.trans E3);have D3:iT W3 B 110 (.slice A' S.af.length c') S.af:=av D1 (Only.aw (L:=[]) (E2.trans E3)) (by simp);have HS:=zH hs2;have HR:=zH zx;have NH:=zH z_;clear hs2 zx du fN;have CM:Calls Tryz.prog 94 #[.pointer (some ⟨bF,0,none⟩),.agg #[n2.no,n2.dev,n2.kind,n2.mode,n2.uid,n2.gid,n2.mtime,n2.ctime,n2.ah,n2.up,bs n2.data,.slice A2 n2.ae.length c2]] W3 (Rc W3 B bF bN (.slice A' S.af.length c') (S.nodes++[n1]) (S.last+1) X n2):=ER B bF bN _ (S.nodes++[n1]) (S.last+1) X n2 A2 c2 W3 N3 (by simp;omega) u1 pA;rw [NH.out]at CM;refine CM.mono ?_;clear CM;rintro e w4 ⟨rfl,N4,O4⟩;rw [<-NH.out,HS.out,HR.out]at N4;obtain ⟨h4b,cn4,F4,RN4⟩:=id N4;have l4:(S.nodes++[bo S]).length=S.nodes.length+1:=by simp
 obtain ⟨xs4,r4,_⟩:=id RN4;have D4:w4.ownsRow B 110 6 (.slice A' S.af.length c') S.af.length (aW S.af):=by
  refine av D3 O4 fun g hg=>?_
  obtain ⟨_,cn3,_,xs3,r3,_⟩:=id N3;simp only[List.mem_singleton];intro e;exact sY r3 D3 (by decide) g (by rw[e];rfl) hg
 have EO:(Value.slice A' S.af.length c').ownBlock≠some bF:=eH D4 F4 (by decide);have aan:∀g,(Value.slice A' S.af.length c').ownBlock=some g->g≠bN:=fun g hg e=>sY r4 D4 (by decide) g (by rw[e];rfl) hg
 have v1:w4.cell? ⟨bF,1,none⟩=some (.slice A' S.af.length c'):=F4.cell 1;have z4:=F4.lt;obtain ⟨i0,hi,hz0,hz1,hz2⟩:=info_parts JK;go_wp2_with (at_builtin;refine wpList_append_lies _ rfl _ _ 52 rfl B 110 i0 _ 6 48 Tryz.underlying52 hi hz0 hz1 hz2 rfl (by decide) _ S.af.length (aW S.af) rfl (World.ownsRow.alloc D4 _) ⟨w4.heap.size,0,none⟩ 1 1 (aW [⟨S.last+1,over,⟨1,1,b,n⟩⟩]) rfl rfl (World.news_of_block (cs:=#[.int .i64 (S.last+1),.int .i64 over,.int .i64 1,.int .i64 1,.int .i64 b,.int .i64 n]) (t:=110) (fr:=(0,0)) (heap_alloc_new w4 _)) (pL _) (by decide) (by unfold maxLen;omega) (by omega) (by simp;omega) (w4.heap.size+1) (by simp) ?_);intro gg cap w5 wV hgrow hat hlt;have v5:w5.cell? ⟨bF,1,none⟩=some (.slice A' S.af.length c'):=((hgrow.cell_far ⟨bF,1,none⟩ (by simp;omega) (Ne.symm EO)).trans ((F4.alloc _).cell 1));have f5:w5.frozen? ⟨bF,1,none⟩=false:=((hgrow.frozen_far ⟨bF,1,none⟩ (by simp;omega) (Ne.symm EO)).trans ((F4.alloc _).free 1));have O5:Only (Value.slice A' S.af.length c').ownBlock.toList w4 w5:=Only.pre ((Ext.refl _).alloc _) (Only.grown hgrow);have F5:=O5.has F4 (by simpa using fun e=>EO e);have a5:dg w4 B (Value.slice A' S.af.length c').ownBlock.toList:=dg.row D4 (by decide);have RN5:CO w5 B (.slice (some ⟨bN,0,none⟩) (S.nodes++[bo S]).length cn4) (S.nodes++[bo S]):=by
  obtain ⟨xs,k1,k2⟩:=RN4;exact ⟨xs,av k1 O5 (fun g hg=>by simp[Value.ownBlock]at hg;subst hg;simpa using fun e=>aan _ e rfl),k2.only O5 a5⟩
 have hgF:gg≠bF:=fun e=>eH wV F5 (by decide) (by rw[e];rfl)
 have hgN:gg≠bN:=fun e=>by
  obtain ⟨xs,k1,k2⟩:=id RN5;exact sY k1 wV (by decide) bN rfl (by rw[e];rfl)
 clear hgrow v1;go_wp2_with fail;go_ret;have O6:=Only.setCell w5 bF 1 (.slice (some ⟨gg,0,none⟩) (S.af.length+1) cap);have F6:=F5.setCell 1 (.slice (some ⟨gg,0,none⟩) (S.af.length+1) cap);have a6:dg w5 B [bF]:=dg.cons (fun x hx=>by cases hx) hb (F5.gi (by decide));refine ⟨rfl,bN,gg,⟨hb,cn4,cap,?_,?_,?_⟩,?_,fr1,?_⟩
 ·simpa [cr]using F6
 ·obtain ⟨xs,k1,k2⟩:=RN5
  exact ⟨xs,av k1 O6 (fun g hg=>by simp[Value.ownBlock]at hg;subst hg;simpa using (FN.ne N4).symm),k2.only O6 a6⟩
 ·have h7:=av wV O6 (fun g hg=>by simp[Value.ownBlock]at hg;subst hg;simpa using hgF)
  rw [<-ia]at h7;unfold iT cr;simpa using h7
 ·have hO1:Only (bF::(vN.ownBlock.toList++(Value.slice A' S.af.length c').ownBlock.toList)) w W3:=(O1.mono (by intro x hx;simp at hx|-;rcases hx with h|h;exact .inl h;exact .inr (.inl h))).ext (E2.trans E3)
  have O_:=hO1.trans O4 (by
   intro x hx;rw [List.mem_singleton]at hx;subst hx;rcases fr1 with h|h
   ·exact .inl (by simp[h])
   ·exact .inr h)
  exact (O_.then (O5.mono (by intro x hx;simp at hx|-;exact .inr (.inr hx)))).then (O6.mono (by simp))
 ·rcases hat with h|h
  ·exact .inl h
  ·refine .inr ?_
   have e1:=O1.size;have e2:=(E2.trans E3).size;have e3:=O4.size;omega
def x0:cM:=⟨0,.int .i64 0,.slice none 0 0,.bool false⟩
theorem jt (B:Nat) (g:cJ) (S:ac) (X:cM) (d:Int) (w:World) (h:gV w B g S X) (hl:S.af.length<=1000):Calls Tryz.prog 73 #[.pointer (some ⟨g.bF,0,none⟩),.int .i64 d] w (aH w (.int .i64 (aE S.af d))):=by
 have h0:=h;obtain ⟨h1,cn,cd,h3,_,h4⟩:=h
 by_cases Wi:d<1
 ·have hf:Hid (aE S.af d=0):=by show _=_;unfold aE fY;rw[if_neg (by simp;omega)]
  go_enter Tryz.func73,Tryz.ntmps73;go_wp2_with fail;go_ret;exact aH.mk (aB hf.out.symm) (Ext.refl _)
 ·have hW:=h3.lt
  have c1:w.cell? ⟨g.bF,1,none⟩=some (.slice (some ⟨g.bE,0,none⟩) S.af.length cd):=h3.cell 1
  by_cases tI:(S.af.length:Int)<d
  ·have hf:Hid (aE S.af d=0):=by show _=_;unfold aE fY;rw[if_neg (by simp;omega)]
   go_enter Tryz.func73,Tryz.ntmps73;go_wp2_with fail;go_ret;exact aH.mk (aB hf.out.symm) (Ext.refl _)
  ·obtain ⟨k,hk⟩:∃k:Nat,d=(k:Int)+1:=⟨(d-1).toNat,by omega⟩
   subst hk;have dq:k<S.af.length:=by omega
   have hf:Hid (aE S.af ((k:Int)+1)=S.af[k].root):=by
    show _=_;unfold aE fY i_;rw [if_pos (by simp;omega),show ((k:Int)+1-1).toNat=k by omega,List.getD_eq_getElem?_getD,List.getElem?_eq_getElem dq];rfl
   obtain ⟨d0,d1,d2,d3,d4,d5⟩:=iT.at_ h4 k dq
   generalize S.af[k]=x at hf d0 d1 d2 d3 d4 d5
   go_enter Tryz.func73,Tryz.ntmps73;go_wp2_with fail;go_ret;exact aH.mk (aB hf.out.symm) (Ext.refl _)
theorem iD (B:Nat) (g:cJ) (S:ac) (X:cM) (no:Int) (w:World) (h:gV w B g S X) (hl:S.af.length<=1000):Calls Tryz.prog 16 #[.pointer (some ⟨g.bF,0,none⟩),.int .i64 no] w (aH w (.int .i64 (ak S.af no))):=by
 obtain ⟨h1,cn,cd,h3,_,h4⟩:=h;have hW:=h3.lt;have c1:w.cell? ⟨g.bF,1,none⟩=some (.slice (some ⟨g.bE,0,none⟩) S.af.length cd):=h3.cell 1;obtain⟨n,hn⟩:=ar S.af.length;rw [<-hn]at c1 hl;have HN:=zH hn;clear hn;go_enter Tryz.func16,Tryz.ntmps16;go_wp2_with fail;go_loop [5] (fun i=>∃k:Nat,k<=n/\i=.int .i64 k/\Hid (0<no->∀j,(hj:j<S.af.length)->j<k->S.af[j].over≠no)) (fun i=>n-(intOf i).toNat)
 case atStart=>exact⟨0,Nat.zero_le _,rfl,fun _ j _ h=>by omega⟩
 case round =>
  obtain ⟨k,hk,rfl,ha⟩:=hrel
  by_cases hlt:(k:Int)<n
  ·by_cases bc:no<=0
   ·have qI:decide (0<no)=false:=decide_eq_false (by omega)
    have Jh:Hid (0<no->∀j,(hj:j<S.af.length)->j<k+1->S.af[j].over≠no):=fun h=>by omega
    go_wp2_with fail;go_round
    case rel=>exact⟨k+1,by omega,by go_num,Jh⟩
    case measure=>simp[intOf];omega
   ·have qI:0<no:=by omega
    have dq:k<S.af.length:=by have:=HN.out;omega
    obtain ⟨d0,d1,d2,d3,d4,d5⟩:=iT.at_ h4 k dq
    generalize hx:S.af[k]=x at d0 d1 d2 d3 d4 d5
    by_cases he:x.over=no
    ·have hf:Hid (ak S.af no=x.root):=by show _=_;rw[<-hx];exact EM dq qI (ha.out qI) (by rw[hx];exact he)
     have hb:(x.over == no)=true:=by simpa using he
     clear hx he;go_wp2_with fail;go_ret;exact aH.mk (aB hf.out.symm) (Ext.refl _)
    ·have Jh:Hid (0<no->∀j,(hj:j<S.af.length)->j<k+1->S.af[j].over≠no):=by
      show 0<no->∀j,(hj:j<S.af.length)->j<k+1->S.af[j].over≠no;intro h j hj Ac
      by_cases e:j=k
      ·subst e;rw[hx];exact he
      ·exact ha.out h j hj (by omega)
     have hb:(x.over == no)=false:=by simpa using he
     clear hx he;go_wp2_with fail;go_round
     case rel=>exact⟨k+1,by omega,by go_num,Jh⟩
     case measure=>simp[intOf];omega
  ·have hf:Hid (ak S.af no=no):=by
    show _=_
    by_cases bc:0<no
    ·exact EN fun j hj=>ha.out bc j hj (by have:=HN.out;omega)
    ·unfold ak;rw[if_neg bc]
   go_wp2_with fail;go_ret;exact aH.mk (aB hf.out.symm) (Ext.refl _)
def JM (w:World) (B:Nat) (g:cJ) (S:ac) (X:cM) (at_ b n:Int) (e:Ending) (w':World):Prop:=
 e = .returned (.tuple #[.int .i64 (qH S at_ b n),.int .i64 (cX S at_ b n)])/\∃bN bE,gV w' B ⟨g.bF,bN,bE⟩ (ct S at_ b n) X/\Only g.list w w'/\(bN=g.bN\/w.heap.size<=bN)/\(bE=g.bE\/w.heap.size<=bE)
theorem iE {w w':World} {B:Nat} {g:cJ} {S:ac} {X:cM} {at_ b n x:Int} (h:gV w B g S X) (hE:Ext w w') (hx:cX S at_ b n=x) (h0:x≠0):JM w B g S X at_ b n (.returned (.tuple #[.int .i64 0,.int .i64 x])) w':=by
 refine ⟨?_,g.bN,g.bE,?_,Only.aw hE,.inl rfl,.inl rfl⟩
 ·unfold qH;rw[hx,if_neg h0]
 ·unfold ct;rw[hx,if_neg h0];exact h.ext hE
theorem CP (B:Nat) (g:cJ) (S:ac) (X:cM) (at_ b n:Int) (w:World) (h:gV w B g S X) (tI:S.af.length<=8) (hu:aI S.nodes S.last) (jF:0<=S.last) (g_:S.last<=1000000) (lJ:S.nodes.length<=100000) :
  Calls Tryz.prog 88 #[.pointer (some ⟨g.bF,0,none⟩),.int .i64 at_,.int .i64 b,.int .i64 n] w (JM w B g S X at_ b n):=by
 have h0:=h;obtain ⟨h1,cn,ce,h3,hN,h4⟩:=h;have sw:∀w1,Ext w w1->w1.cell? ⟨g.bF,1,none⟩=some (.slice (some ⟨g.bE,0,none⟩) S.af.length ce)/\g.bF<w1.heap.size:=fun w1 b1=>⟨(h3.ext b1).cell 1,(h3.ext b1).lt⟩
 have HI:=zH sw;clear sw;go_enter Tryz.func88,Tryz.ntmps88;go_wp2_with fail;refine (eZ B g S X at_ w h0 (by omega) hu).mono ?_;rintro e w2 ⟨A2,k2,rfl,iC,b2⟩
 cases hi:aQ S.nodes at_
 ·have hE:cX S at_ b n=5:=by unfold cX;rw[if_pos hi]
  have HE:=zH hE;have hz:=(aV hi).1;obtain⟨m,hm⟩:=ar (aa S.nodes at_);rw [<-hm]at hz|-;have Pb:(m.no == 0)=true:=by rw[hz];rfl
  clear hi hE hz hm;go_wp2_with fail;go_ret2;exact iE h0 (b2.alloc _) HE.out (by decide)
 ·obtain ⟨m, hm⟩:∃m,m=aa S.nodes at_:=⟨_,rfl⟩
  have bc:m.no≠0:=by
   obtain ⟨k,hk,e⟩:=l_.1 hi;have e2:=(aj hi).2.1;have:=(hu.2 _ (List.getElem_mem hk)).1;rw [hm,e2];omega
  have Pb:(m.no == 0)=false:=by simpa using bc
  rw [<-hm]at iC|-
  by_cases hk:m.kind=1
  ·have gG : (m.kind == 1)=true:=by simpa using hk
   have hk2:(m.kind != 1)=false:=by simpa using hk
   have e0:cX S at_ b n=if ak S.af at_≠at_\/aE S.af m.dev=at_ then 16 else if 8<=S.af.length\/cA b n=false then 3 else 0:=by
    unfold cX;rw[if_neg (by rw[hi];decide),<-hm,if_neg (by rw[hk];decide)]
   have W3:=h0.ext (b2.alloc (.cells #[m.no,m.dev,m.kind,m.mode,m.uid,m.gid,m.mtime,m.ctime,m.ah,m.up,bs m.data,.slice A2 m.ae.length k2] 58))
   by_cases ho:ak S.af at_=at_
   ·have Jw : (ak S.af at_ == at_)=true:=by simpa using ho
    have mL:(ak S.af at_ != at_)=false:=by simpa using ho
    by_cases hr:aE S.af m.dev=at_
    ·have hE:cX S at_ b n=16:=by rw[e0,if_pos (.inr hr)]
     have HE:=zH hE;have hr1:(aE S.af m.dev == at_)=true:=by simpa using hr
     clear hi hE hm hk ho hr e0 bc;go_wp2_with fail;refine (iD B g S X at_ _ W3 (by omega)).mono ?_;rintro e w3 ⟨rfl,b3⟩;obtain ⟨hc,hf⟩:=b3.cells;have hz:w2.heap.size<w3.heap.size:=by have:=b3.size;simp at this;omega
     go_wp2_with fail;refine (jt B g S X m.dev _ (W3.ext b3) (by omega)).mono ?_;rintro e w4 ⟨rfl,b4⟩;go_wp2_with fail;go_ret2;exact iE h0 (((b2.alloc _).trans b3).trans b4) HE.out (by decide)
    ·have hr1:(aE S.af m.dev == at_)=false:=by simpa using hr
     rw [if_neg (fun h=>by rcases h with h|h;exact h ho;exact hr h)]at e0
     by_cases h8:8<=S.af.length
     ·have hE:cX S at_ b n=3:=by rw[e0,if_pos (.inl h8)]
      have HE:=zH hE;have h81:(8:Int)<=(S.af.length:Int):=by omega
      clear hi hE hm hk ho hr e0 bc;go_wp2_with fail;refine (iD B g S X at_ _ W3 (by omega)).mono ?_;rintro e w3 ⟨rfl,b3⟩;obtain ⟨hc,hf⟩:=b3.cells;have hz:w2.heap.size<w3.heap.size:=by have:=b3.size;simp at this;omega
      go_wp2_with fail;refine (jt B g S X m.dev _ (W3.ext b3) (by omega)).mono ?_;rintro e w4 ⟨rfl,b4⟩;have E4:=((b2.alloc (.cells #[m.no,m.dev,m.kind,m.mode,m.uid,m.gid,m.mtime,m.ctime,m.ah,m.up,bs m.data,.slice A2 m.ae.length k2] 58)).trans b3).trans b4;obtain ⟨c4,z4⟩:=HI.out w4 E4;clear hc hf;go_wp2_with fail;go_ret2;exact iE h0 E4 HE.out (by decide)
     ·have h81:(S.af.length:Int)<8:=by omega
      cases ol:cA b n
      ·have hE:cX S at_ b n=3:=by rw[e0,if_pos (.inr ol)]
       have HE:=zH hE;have HL:=zH ol;clear hi hE hm hk ho hr e0 h8 bc ol;go_wp2_with fail;refine (iD B g S X at_ _ W3 (by omega)).mono ?_;rintro e w3 ⟨rfl,b3⟩;obtain ⟨hc,hf⟩:=b3.cells;have hz:w2.heap.size<w3.heap.size:=by have:=b3.size;simp at this;omega
       go_wp2_with fail;refine (jt B g S X m.dev _ (W3.ext b3) (by omega)).mono ?_;rintro e w4 ⟨rfl,b4⟩;have E4:=((b2.alloc (.cells #[m.no,m.dev,m.kind,m.mode,m.uid,m.gid,m.mtime,m.ctime,m.ah,m.up,bs m.data,.slice A2 m.ae.length k2] 58)).trans b3).trans b4;obtain ⟨c4,z4⟩:=HI.out w4 E4;clear hc hf;go_wp2_with fail;refine (kX b n _).mono ?_;rw [HL.out];rintro e w5 ⟨rfl,b5⟩;go_wp2_with fail;go_ret2;exact iE h0 (E4.trans b5) HE.out (by decide)
      ·have hE:cX S at_ b n=0:=by rw[e0,if_neg (fun h=>by rcases h with h|h;exact h8 h;rw[ol]at h;cases h)]
       have HE:=zH hE;have HL:=zH ol;clear hi hE hm hk ho hr e0 h8 bc ol;go_wp2_with fail;refine (iD B g S X at_ _ W3 (by omega)).mono ?_;rintro e w3 ⟨rfl,b3⟩;obtain ⟨hc,hf⟩:=b3.cells;have hz:w2.heap.size<w3.heap.size:=by have:=b3.size;simp at this;omega
       go_wp2_with fail;refine (jt B g S X m.dev _ (W3.ext b3) (by omega)).mono ?_;rintro e w4 ⟨rfl,b4⟩;have E4:=((b2.alloc (.cells #[m.no,m.dev,m.kind,m.mode,m.uid,m.gid,m.mtime,m.ctime,m.ah,m.up,bs m.data,.slice A2 m.ae.length k2] 58)).trans b3).trans b4;obtain ⟨c4,z4⟩:=HI.out w4 E4;clear hc hf;go_wp2_with fail;refine (kX b n _).mono ?_;rw [HL.out];rintro e w5 ⟨rfl,b5⟩;have E5:=E4.trans b5;clear c4;go_wp2_with fail;obtain ⟨_,_,hN5,_⟩:=(h0.ext E5).fn;refine (tO B g.bF (.slice (some ⟨g.bN,0,none⟩) S.nodes.length cn) (.slice (some ⟨g.bE,0,none⟩) S.af.length ce) S X at_ b n w5 h1 (h3.ext E5) (by
        obtain ⟨xs,k1,k2⟩:=hN;exact ⟨xs,av k1 (Only.aw (L:=[]) E5) (by simp),k2.only (Only.aw (L:=[]) E5) (fun b hb=>by cases hb)⟩) (av h4 (Only.aw (L:=[]) E5) (by simp)) ⟨_,_,rfl⟩ ⟨_,_,rfl⟩ lJ (by omega) hu jF g_).mono ?_
       rintro e w6 ⟨rfl,bN,bE,F6,O6,f1,f2⟩;go_wp2_with fail;go_ret2;refine ⟨?_,bN,bE,?_,?_,?_,?_⟩
       ·unfold qH;rw[HE.out];rfl
       ·unfold ct;rw[HE.out];exact F6
       ·exact Only.pre E5 (O6.mono (by intro x hx;simp[Value.ownBlock]at hx|-;exact hx))
       ·rcases f1 with f1|f1
        ·exact .inl (by simpa [Value.ownBlock]using f1.symm)
        ·exact .inr (by have:=E5.size;omega)
       ·rcases f2 with f2|f2
        ·exact .inl (by simpa [Value.ownBlock]using f2.symm)
        ·exact .inr (by have:=E5.size;omega)
   ·have hE:cX S at_ b n=16:=by rw[e0,if_pos (.inl ho)]
    have HE:=zH hE;have Jw:(ak S.af at_ == at_)=false:=by simpa using ho
    have mL:(ak S.af at_ != at_)=true:=by simpa using ho
    clear hi hE hm hk ho e0 bc;go_wp2_with fail;refine (iD B g S X at_ _ W3 (by omega)).mono ?_;rintro e w3 ⟨rfl,b3⟩;go_wp2_with fail;go_ret2;exact iE h0 ((b2.alloc _).trans b3) HE.out (by decide)
  ·have hE:cX S at_ b n=9:=by unfold cX;rw[if_neg (by rw[hi];decide),if_pos (by rw[<-hm];exact hk)]
   have HE:=zH hE;have hkb:(m.kind == 1)=false:=by simpa using hk
   have Wj:(m.kind != 1)=true:=by simpa using hk
   clear hi hE hm hk bc;go_wp2_with fail;go_ret2;exact iE h0 (b2.alloc _) HE.out (by decide)
open Go
section
variable {P:Program} {ops:Array Oper} {md:Region.Mode} {C:World->Prop} {Q:Act->Prop}
end
end
section
open Go
structure Gr (V:World) where
 w : World
 h : Ext V w
instance Sz (V:World):Nonempty (Gr V):=⟨⟨V,Ext.refl V⟩⟩
theorem Gr.cell {V:World} {b o:Nat} {v:Value} (hb:b<V.heap.size) (h:V.cell? ⟨b,o,none⟩=some v):∀u:Gr V,u.w.cell? ⟨b,o,none⟩=some v:=fun u=>(u.h.cell hb).trans h
section
variable {P:Program} {id:Nat} {Q:Exit->Act->World->Prop} {a:Act} {w:World} {l:List Oper}
theorem eI (V:World) (hm:P.follows .mixedOrders=true) (hB:Region.lexB .any l.toArray=true) (hV:Ext V w.drew)
  (h:wpQuiet P l.toArray (fun w'=>∃u:Gr V,w'=u.w) (fun a'=>∀w',(∃u:Gr V,w'=u.w)->Q .normal a' w') l a):(Code.region id l.toArray true).wp P Q a w:=
 wp_region_quiet (C:=fun w'=>∃u:Gr V,w'=u.w) hm hB ⟨⟨w.drew,hV⟩,rfl⟩ (by simpa using h)
end
end
section
open Go
def rq (P:Program) (V:World) (o:Oper) (a:Act) (v:Value):Prop:=∀u:Gr V,o.quietAt P a (fun w''=>Ext u.w w'') u.w v
def bq (P:Program) (ops:Array Oper) (V:World) (Q:Act->Prop):List Oper->Act->Prop
 | [],a=>Q a
 | o::rest,a=>if Region.wanted o (yielded ops a.tmps) then ∃v,rq P V o a v/\bq P ops V Q rest (a.put o.dst v) else bq P ops V Q rest (a.put o.dst undef)
theorem bP {P:Program} {ops:Array Oper} {V:World} {Q:Act->Prop} {a:Act} (h:Q a):bq P ops V Q [] a:=h
theorem dv {P:Program} {ops:Array Oper} {V:World} {Q:Act->Prop} {a:Act} {o:Oper} {rest:List Oper}
  (h:∀K:Act->Prop,(∀a,bq P ops V Q rest a->K a)->if Region.wanted o (yielded ops a.tmps) then ∃v,(∀u:Gr V,o.quietAt P a (fun w''=>Ext u.w w'') u.w v)/\K (a.put o.dst v) else K (a.put o.dst undef)):bq P ops V Q (o::rest) a:=
 h _ (fun _ h=>h)
section
variable {P:Program} {ops:Array Oper} {md:Region.Mode} {V:World} {m s:Nat} {cs:List (Operand×Value)}
def JN (cs:List (Operand×Value)) (a:Act):Prop:=∀p∈cs,a.eval p.1=p.2
def sD (P:Program) (ops:Array Oper) (V:World) (m s:Nat) (cs:List (Operand×Value)) (i:Nat) (K:Act->Prop) (a:Act):Prop:=
 if i=m then K a else if i=s then JN cs a/\K a else
 match ops[i]? with
 | none=>K a
 | some o=>if Region.wanted o (yielded ops a.tmps) then ∃v,rq P V o a v/\K (a.put o.dst v) else K (a.put o.dst undef)
def qM (ops:Array Oper) (m s i:Nat):Option Tmp:=if i=m then none else if i=s then none else (ops[i]?).bind (·.dst)
def ib (P:Program) (ops:Array Oper) (V:World) (m s:Nat) (cs:List (Operand×Value)) (i:Nat) (v:Value) (a:Act):Prop:=
 if i=m then True else if i=s then JN cs a else
 match ops[i]? with
 | none=>True
 | some o=>(Region.wanted o (yielded ops a.tmps)=true/\rq P V o a v)\/(Region.wanted o (yielded ops a.tmps)=false/\v=undef)
theorem JO {i:Nat} {a:Act} {K K':Act->Prop} (h:∀a,K a->K' a) (hh:sD P ops V m s cs i K a):sD P ops V m s cs i K' a:=by
 unfold sD at *;split
 ·rename_i e;rw[if_pos e]at hh;exact h _ hh
 ·rename_i e
  rw [if_neg e]at hh;split
  ·rename_i e2;rw[if_pos e2]at hh;exact⟨hh.1,h _ hh.2⟩
  ·rename_i e2
   rw [if_neg e2]at hh;split
   ·rename_i ho;rw[ho]at hh;exact h _ hh
   ·rename_i o ho
    rw [ho]at hh;dsimp only at hh;split
    ·rename_i hw;rw[if_pos hw]at hh;obtain⟨v,h1,h2⟩:=hh;exact⟨v,h1,h _ h2⟩
    ·rename_i hw;rw[if_neg hw]at hh;exact h _ hh
theorem lm {i:Nat} {a:Act} {K:Act->Prop} (h:sD P ops V m s cs i K a):∃v,ib P ops V m s cs i v a/\K (a.put (qM ops m s i) v):=by
 unfold sD at h;unfold ib qM;split
 ·rename_i e;rw[if_pos e]at h;exact⟨undef,trivial,h⟩
 ·rename_i e
  rw [if_neg e]at h;split
  ·rename_i e2;rw[if_pos e2]at h;exact⟨undef,h.1,h.2⟩
  ·rename_i e2
   rw [if_neg e2]at h;split
   ·rename_i ho;rw[ho]at h;rw[ho];exact⟨undef,trivial,h⟩
   ·rename_i o ho
    rw [ho]at h;rw [ho];dsimp only at h
    by_cases hw:Region.wanted o (yielded ops a.tmps)=true
    ·rw[if_pos hw]at h;obtain⟨v,h1,h2⟩:=h;exact⟨v,.inl ⟨hw,h1⟩,h2⟩
    ·rw[if_neg hw]at h;exact⟨undef,.inr ⟨by simpa using hw,rfl⟩,h⟩
theorem ln {i:Nat} {v:Value} {a:Act} {K:Act->Prop} (hy:ib P ops V m s cs i v a) (h:K (a.put (qM ops m s i) v)):sD P ops V m s cs i K a:=by
 unfold sD;unfold ib at hy;unfold qM at h;split
 ·rename_i e;rw[if_pos e]at h;exact h
 ·rename_i e
  rw [if_neg e]at h hy;split
  ·rename_i e2;rw[if_pos e2]at h hy;exact⟨hy,h⟩
  ·rename_i e2
   rw [if_neg e2]at h hy;split
   ·rename_i ho;rw[ho]at h;exact h
   ·rename_i o ho
    rw [ho]at h hy;dsimp only at hy;rcases hy with⟨hw,hv⟩|⟨hw,rfl⟩
    ·rw[if_pos hw];exact⟨v,hv,h⟩
    ·rw[if_neg (by rw[hw];decide)];exact h
theorem Aj {i:Nat} {d:Tmp} (h:qM ops m s i=some d):∃o,ops[i]?=some o/\o.dst=some d:=by
 unfold qM at h;split at h
 ·cases h
 ·split at h
  ·cases h
  ·cases ho:ops[i]? with
   | none=>rw[ho]at h;cases h
   | some o=>rw[ho]at h;exact⟨o,rfl,h⟩
theorem yr {i:Nat} {oi:Oper} (hi:ops[i]?=some oi) (sE:∀cs b,oi.op≠.select cs b) (hys:i=s->∀p∈cs,∀t,p.1=.tmp t->t∈oi.looksAt ops) {v u:Value} {a:Act} {dst:Option Tmp} (hd:∀d,dst=some d->d∉oi.looksAt ops) (hy:ib P ops V m s cs i v a):ib P ops V m s cs i v (a.put dst u):=by
 unfold ib at *;split
 ·trivial
 ·rename_i e
  rw [if_neg e]at hy;split
  ·rename_i e2
   rw [if_pos e2]at hy;intro p hp;rw [Act.eval_put (fun d IW he=>hd d IW (hys e2 p hp d he))];exact hy p hp
  ·rename_i e2
   rw [if_neg e2]at hy;rw [hi]at hy|-;dsimp only at hy|-;unfold rq Oper.quietAt at *;rw [execOp_put oi sE a dst u hd,wanted_put oi a dst u hd];exact hy
theorem Pc {i j:Nat} {oi oj:Oper} {v:Value} (hi:ops[i]?=some oi) (hj:ops[j]?=some oj) (hap:oi.apart ops oj=true)
  (hsi:∀cs b,oi.op≠.select cs b) (hsj:∀cs b,oj.op≠.select cs b) (hys:∀o,ops[s]?=some o->∀p∈cs,∀t,p.1=.tmp t->t∈o.looksAt ops) {K:Act->Prop} {a:Act}
  (hy:ib P ops V m s cs i v a) (h:sD P ops V m s cs j K (a.put (qM ops m s i) v)) :
  sD P ops V m s cs j (fun a'=>ib P ops V m s cs i v a'/\K (a'.put (qM ops m s i) v)) a:=by
 obtain ⟨h1,h2,h3⟩:=Oper.apart_spec hap;have ZY:∀d,qM ops m s i=some d->oi.dst=some d:=fun d hd=>by
  obtain ⟨o,ho,hod⟩:=Aj hd;rw [hi]at ho;injection ho with ho;rw[ho];exact hod
 have hdj:∀d,qM ops m s j=some d->oj.dst=some d:=fun d hd=>by
  obtain ⟨o,ho,hod⟩:=Aj hd;rw [hj]at ho;injection ho with ho;rw[ho];exact hod
 obtain ⟨u,hu,hK⟩:=lm h;have Ak:ib P ops V m s cs j u a:=by
  have e:∀x,(a.put (qM ops m s i) v).put none x=a.put (qM ops m s i) v:=fun _=>rfl
  unfold ib at *;split
  ·trivial
  ·rename_i e1
   rw [if_neg e1]at hu;split
   ·rename_i e2
    rw [if_pos e2]at hu;intro p hp;have:=hu p hp;rw [Act.eval_put (fun d hd he=>h1 d (ZY d hd) (hys oj (by rw[<-e2];exact hj) p hp d he))]at this;exact this
   ·rename_i e2
    rw [if_neg e2]at hu;rw [hj]at hu|-;dsimp only at hu|-;unfold rq Oper.quietAt at *;rw [execOp_put oj hsj a _ v (fun d hd=>h1 d (ZY d hd)),wanted_put oj a _ v (fun d hd=>h1 d (ZY d hd))]at hu;exact hu
 refine ln Ak ⟨yr hi hsi (fun e=>hys oi (by rw[<-e];exact hi)) (fun d hd=>h3 d (hdj d hd)) hy,?_⟩;rw [<-Act.put_comm a v u (fun d hd tI=>h2 d (ZY d hd) (hdj d tI))];exact hK
def oX (P:Program) (md:Region.Mode) (ops:Array Oper) (V:World) (m s:Nat) (cs:List (Operand×Value)) (Q:Act->Prop):Nat->Array Bool->Act->Prop
 | 0,listed,a=>Region.ready md ops listed=[]/\listed.getD m true=true/\listed.getD s true=true/\Q a
 | f+1,listed,a=>Region.ready md ops listed≠[]/\∀i∈Region.ready md ops listed,sD P ops V m s cs i (oX P md ops V m s cs Q f (listed.setIfInBounds i true)) a
theorem pM {Q:Act->Prop} {i:Nat} {oi:Oper} {v:Value} (hi:ops[i]?=some oi) (sE:∀(j:Nat) (o:Oper) cs b,ops[j]?=some o->o.op≠.select cs b) (hys:∀o,ops[s]?=some o->∀p∈cs,∀t,p.1=.tmp t->t∈o.looksAt ops) :
  ∀ (fuel:Nat) (listed:Array Bool) (a:Act),
   (∀j oj,ops[j]?=some oj->j≠i->listed.getD j true=false->(∀e∈oj.after,Region.binds md e=true->e.on≠i)->oi.apart ops oj=true) ->
   i∈Region.ready md ops listed->ib P ops V m s cs i v a ->
   oX P md ops V m s cs Q fuel (listed.setIfInBounds i true) (a.put (qM ops m s i) v)->oX P md ops V m s cs Q (fuel+1) listed a:=by
 intro fuel
 induction fuel with
 | zero =>
  intro listed a _ hr hy H;refine ⟨fun h=>(by rw[h]at hr;cases hr),fun j hj=>?_⟩
  by_cases wW:j=i
  ·subst wW;exact ln hy H
  ·have:=ready_mono hj wW
   rw [H.1]at this
   cases this
 | succ fuel ih =>
  intro listed a oF hr hy H;refine ⟨fun h=>(by rw[h]at hr;cases hr),fun j hj=>?_⟩
  by_cases wW:j=i
  ·subst wW;exact ln hy H
  ·have h1:=H.2 j (ready_mono hj wW)
   obtain ⟨JP,oj,JQ,hall⟩:=mem_ready.1 hj;have SA:∀e∈oj.after,Region.binds md e=true->e.on≠i:=fun e he hb NI=>by
    have h1:=hall e he hb;have h0:=(mem_ready.1 hr).1;rw [NI]at h1;rcases Nat.lt_or_ge i listed.size with h'|h'
    ·simp[h']at h0 h1;rw[h0]at h1;cases h1
    ·simp[Array.getElem?_eq_none h']at h1
   have h2:=Pc hi JQ (oF j oj JQ wW JP SA) (fun cs b=>sE i oi cs b hi) (fun cs b=>sE j oj cs b JQ) hys hy h1;have CQ:∀k ok,ops[k]?=some ok->k≠i->(listed.setIfInBounds j true).getD k true=false ->
     (∀e∈ok.after,Region.binds md e=true->e.on≠i)->oi.apart ops ok=true:=fun k ok hk Pd Al bc=>by
    refine oF k ok hk Pd ?_ bc
    by_cases Q6:j=k
    ·subst Q6;exact JP
    ·rw[getD_set_ne true Q6]at Al;exact Al
   refine JO (fun a' h3=>ih (listed.setIfInBounds j true) a' CQ (ready_mono hr (Ne.symm wW)) h3.1 ?_) h2;rw [Array.setIfInBounds_comm _ _ wW];exact h3.2
def mS (P:Program) (ops:Array Oper) (V:World) (m s:Nat) (cs:List (Operand×Value)) (Q:Act->Prop):List Oper->Nat->Act->Prop
 | [],_,a=>Q a
 | _::rest,k,a=>sD P ops V m s cs k (mS P ops V m s cs Q rest (k+1)) a
theorem fg (listed:Array Bool) (k:Nat):(listed.setIfInBounds k true).getD k true=true:=by
 rcases Nat.lt_or_ge k listed.size with h|h
 ·simp[h]
 ·simp[Array.getElem?_eq_none (show (listed.setIfInBounds k true).size<=k by simpa using h)]
theorem tP {Q:Act->Prop} (hs:Region.noSelect ops=true) (hys:∀o,ops[s]?=some o->∀p∈cs,∀t,p.1=.tmp t->t∈o.looksAt ops):∀(l:List Oper) (k:Nat) (listed:Array Bool) (a:Act),(∀j,l[j]?=ops[k+j]?) ->
  (∀j,j<k->listed.getD j true=true)->m<k+l.length->s<k+l.length->Region.lexFrom md ops l.length k listed=true->mS P ops V m s cs Q l k a->oX P md ops V m s cs Q l.length listed a
 | [],k,listed,a,_,j5,hm,hs',hB,h=>⟨by simpa [Region.lexFrom]using hB,j5 m (by simpa using hm),j5 s (by simpa using hs'),h⟩
 | o :: l,k,listed,a,hl,j5,hm,hs',hB,h=>by
  have h0:ops[k]?=some o:=by simpa using (hl 0).symm
  simp only[List.length_cons,Region.lexFrom,Bool.and_eq_true]at hB;obtain ⟨⟨hr,hf⟩,Wq⟩:=hB;obtain ⟨v,hy,hK⟩:=lm h;refine pM h0 (Region.noSelect_spec hs) hys l.length listed a (Region.free_spec h0 hf) (by simpa using hr) hy
   (tP hs hys l (k+1) _ _ (fun j=>by have:=hl (j+1);simpa [Nat.add_assoc,Nat.add_comm 1 j]using this) ?_ (by simp only[List.length_cons]at hm;omega) (by simp only[List.length_cons]at hs';omega) Wq hK)
  intro j hj
  by_cases e:k=j
  ·subst e;exact fg listed k
  ·rw[getD_set_ne true e];exact j5 j (by omega)
theorem rT {Q:Act->Prop} (hs:Region.noSelect ops=true) (hys:∀o,ops[s]?=some o->∀p∈cs,∀t,p.1=.tmp t->t∈o.looksAt ops):∀(l:List Oper) (k:Nat) (listed:Array Bool) (a:Act),(∀j,l[j]?=ops[k+j]?) ->
  (∀j,j<k->listed.getD j true=true)->listed.size=ops.size->s<k+l.length->Region.lexFrom md ops l.length k listed=true->mS P ops V ops.size s cs Q l k a->oX P md ops V ops.size s cs Q l.length listed a
 | [],k,listed,a,_,j5,hm,hs',hB,h=>⟨by simpa [Region.lexFrom]using hB,by simp[hm],j5 s (by simpa using hs'),h⟩
 | o :: l,k,listed,a,hl,j5,hm,hs',hB,h=>by
  have h0:ops[k]?=some o:=by simpa using (hl 0).symm
  simp only[List.length_cons,Region.lexFrom,Bool.and_eq_true]at hB;obtain ⟨⟨hr,hf⟩,Wq⟩:=hB;obtain ⟨v,hy,hK⟩:=lm h;refine pM h0 (Region.noSelect_spec hs) hys l.length listed a (Region.free_spec h0 hf) (by simpa using hr) hy
   (rT hs hys l (k+1) _ _ (fun j=>by have:=hl (j+1);simpa [Nat.add_assoc,Nat.add_comm 1 j]using this) ?_ (by simpa using hm) (by simp only[List.length_cons]at hs';omega) Wq hK)
  intro j hj
  by_cases e:k=j
  ·subst e;exact fg listed k
  ·rw[getD_set_ne true e];exact j5 j (by omega)
theorem tQ {o:Oper} {a:Act} {v:Value} {w:World} {K':Act->World->Prop} {Q':Exit->Act->World->Prop} (h1:o.quietAt P a (fun w''=>Ext w w'') w v) (hK:∀w'',Ext w w''->K' (a.put o.dst v) w''):o.wp P a w K' Q':=by
 unfold Oper.quietAt at h1;unfold Oper.wp
 generalize (execOp a.eval o).run P w=r at *
 cases r with
 | ok n w' =>
  cases n<;>simp only[Oper.quietUpon]at h1<;>simp only[Oper.upon]
  case value u=>obtain⟨e1,e2⟩:=h1;rw[e1,e2];exact hK _ (Ext.refl _)
  case skip=>obtain⟨e1,e2⟩:=h1;rw[e1,<-e2];exact hK _ (Ext.refl _)
  case enter f args =>
   obtain ⟨e1,hc⟩:=h1;rw [e1];exact hc.mono fun e w'' ⟨he,hw''⟩=>by subst he;exact hK _ hw''
 | halt x w'=>simp only[Oper.quietUpon]at h1
theorem wX {Q:Act->Prop} {Q':Exit->Act->World->Prop} {d:Tmp} {om os:Oper} {Z Z':Obj} {yo:Operand} {vy:Value}
  (ES:ops[m]?=some om) (Vp:om.guard=none) (Wr:om.dst=some d) (rU:ops[s]?=some os) (Ws:os.guard=none) (Wt:os.dst=none) (hms:m≠s)
  (yt:∀(a:Act) (w:World),(execOp a.eval om).run P w=.ok (.value (.pointer (some ⟨w.heap.size,0,none⟩))) (w.alloc Z))
  (mf:∀(a:Act) (w:World) (bx:Nat),d<a.tmps.size->Has w bx Z->(a.put (some d) (.pointer (some ⟨bx,0,none⟩))).eval yo=vy->∃w'',(execOp (a.put (some d) (.pointer (some ⟨bx,0,none⟩))).eval os).run P w=.ok .skip w''/\Has w'' bx Z'/\Only [bx] w w'')
  (SB:yo≠.tmp d) (hsm:∃e∈os.after,Region.binds md e=true/\e.on=m)
  (sE:∀(j:Nat) (o:Oper) cs b,ops[j]?=some o->o.op≠.select cs b)
  (hap:∀i oi,ops[i]?=some oi->i≠m->i≠s->d∉oi.looksAt ops/\oi.dst≠some d)
  (hQ:∀a w bx,Ext V w->V.heap.size<=bx->Has w bx Z'->Q a->Q' .normal (a.put (some d) (.pointer (some ⟨bx,0,none⟩))) w) :
  ∀ (f:Nat) (listed:Array Bool) (a:Act) (w:World),Ext V w->d<a.tmps.size->oX P md ops V m s [(yo,vy)] Q f listed a ->
   (listed.getD m true=false->listed.getD s true=false->wpAny P md ops Q' f listed a w) /\
   (listed.getD m true=true->∀bx,V.heap.size<=bx->((listed.getD s true=false/\Has w bx Z)\/(listed.getD s true=true/\Has w bx Z'))->wpAny P md ops Q' f listed (a.put (some d) (.pointer (some ⟨bx,0,none⟩))) w)
 | 0,listed,a,w,hE,hsz,h=>by
  obtain ⟨h1,h2,h3,h4⟩:=h;refine ⟨fun h=>(by rw[h2]at h;cases h),fun _ bx zY hz=>⟨h1,?_⟩⟩;rcases hz with⟨h5,_⟩|⟨_,h5⟩
  ·rw[h3]at h5;cases h5
  ·exact hQ a w bx hE zY h5 h4
 | f + 1, listed,a,w,hE,hsz,h=>by
  have Rd:∀dst v,d<(a.put dst v).tmps.size:=fun dst v=>by cases dst<;>simpa [Act.put]using hsz
  have ih:=wX ES Vp Wr rU Ws Wt hms yt mf SB hsm sE hap hQ f;obtain ⟨hne,hall⟩:=h;refine ⟨fun hm SC=>⟨fun h0=>absurd h0 hne,fun i hi=>?_⟩,fun hm bx zY hz=>⟨fun h0=>absurd h0 hne,fun i hi=>?_⟩⟩
  ·have hr:=hall i hi
   obtain ⟨Al,oi,wY,tR⟩:=mem_ready.1 hi
   by_cases e:i=m
   ·subst e
    unfold sD at hr;rw [if_pos rfl]at hr;obtain rfl:om=oi:=Option.some.inj (ES.symm.trans wY);unfold wpOp;rw [ES];dsimp only;have hw:Region.wanted om (yielded ops a.tmps)=true:=by unfold Region.wanted;rw[Vp]
    rw [if_pos hw]
    left
    unfold Oper.wp;rw [yt a w];simp only[Oper.upon];rw [Wr];refine (ih _ a (w.alloc Z) (hE.alloc Z) hsz hr).2 (fg listed i) w.heap.size hE.size ?_
    left
    exact ⟨by rw[getD_set_ne true hms];exact SC,Has.new w Z⟩
   ·by_cases e2:i=s
    ·subst e2
     obtain rfl:os=oi:=Option.some.inj (rU.symm.trans wY);obtain ⟨ed,qB,sZ,IX⟩:=hsm;have:=tR ed qB sZ;rw [IX]at this
     exfalso
     rcases Nat.lt_or_ge m listed.size with h'|h'
     ·simp[h']at this hm;rw[hm]at this;cases this
     ·simp[Array.getElem?_eq_none h']at this
    ·unfold sD at hr
     rw [if_neg e,if_neg e2,wY]at hr;unfold wpOp;rw [wY];dsimp only at hr|-;split
     ·rename_i hw
      rw [if_pos hw]at hr;obtain ⟨v,h1,h2⟩:=hr
      left
      exact tQ (h1 ⟨w,hE⟩) fun w'' hx=>(ih _ _ w'' (hE.trans hx) (Rd _ _) h2).1 (by rw[getD_set_ne true e];exact hm) (by rw[getD_set_ne true e2];exact SC)
     ·rename_i hw
      rw [if_neg hw]at hr;exact (ih _ _ w hE (Rd _ _) hr).1 (by rw[getD_set_ne true e];exact hm) (by rw[getD_set_ne true e2];exact SC)
  ·have hr:=hall i hi
   obtain ⟨Al,oi,wY,tR⟩:=mem_ready.1 hi;have e:i≠m:=fun e=>by rw[e,hm]at Al;cases Al
   by_cases e2:i=s
   ·subst e2
    obtain rfl:os=oi:=Option.some.inj (rU.symm.trans wY);rcases hz with⟨_,hz⟩|⟨hz,_⟩
    ·unfold sD at hr
     rw [if_neg e,if_pos rfl]at hr;obtain ⟨w'',hx1,hx2,hx3⟩:=mf a w bx hsz hz (by
      rw [Act.eval_put (fun d' hd he=>SB (by injection hd with hd;rw[hd];exact he))];exact hr.1 (yo,vy) (by simp))
     unfold wpOp;rw [rU];dsimp only;have hw:Region.wanted os (yielded ops (a.put (some d) (.pointer (some ⟨bx,0,none⟩))).tmps)=true:=by unfold Region.wanted;rw[Ws]
     rw [if_pos hw]
     left
     unfold Oper.wp;rw [hx1];simp only[Oper.upon];rw [Wt];exact (ih _ a w'' (hx3.after hE (by intro x hx;rw[List.mem_singleton]at hx;omega)) hsz hr.2).2 (by rw[getD_set_ne true (Ne.symm hms)];exact hm) bx zY (.inr ⟨fg listed i,hx2⟩)
    ·rw[hz]at Al;cases Al
   ·obtain ⟨Wi,tI⟩:=hap i oi wY e e2
    unfold sD at hr;rw [if_neg e,if_neg e2,wY]at hr;unfold wpOp;rw [wY];dsimp only at hr|-;have kT:∀x,some d=some x->x∉oi.looksAt ops:=fun x hx=>by injection hx with hx;rw[<-hx];exact Wi
    rw [wanted_put oi a (some d) _ kT];have Re:∀v,(a.put (some d) (.pointer (some ⟨bx,0,none⟩))).put oi.dst v=(a.put oi.dst v).put (some d) (.pointer (some ⟨bx,0,none⟩)):=fun v=>Act.put_comm a _ v (fun x hx hx2=>tI (by rw[hx2,hx]))
    split
    ·rename_i hw
     rw [if_pos hw]at hr;obtain ⟨v,h1,h2⟩:=hr
     left
     refine tQ (v:=v) (by
      have:=h1 ⟨w,hE⟩;unfold Oper.quietAt at *;rw [execOp_put oi (fun cs b=>sE i oi cs b wY) a (some d) _ kT];exact this) fun w'' hx=>?_
     rw [Re];refine (ih _ _ w'' (hE.trans hx) (Rd _ _) h2).2 (by rw[getD_set_ne true e];exact hm) bx zY ?_;rw [getD_set_ne true e2];rcases hz with⟨z1,z2⟩|⟨z1,z2⟩
     ·exact .inl ⟨z1,z2.ext hx⟩
     ·exact .inr ⟨z1,z2.ext hx⟩
    ·rename_i hw
     rw [if_neg hw]at hr;rw [Re];refine (ih _ _ w hE (Rd _ _) hr).2 (by rw[getD_set_ne true e];exact hm) bx zY ?_;rw [getD_set_ne true e2];exact hz
theorem nK {Q:Act->Prop} {rest:List Oper}:∀(tS:List Oper) (k:Nat) (a:Act),(∀j,j<tS.length->k+j≠m/\k+j≠s)->(∀j,j<tS.length->tS[j]?=ops[k+j]?) ->
  bq P ops V (fun a'=>mS P ops V m s cs Q rest (k+tS.length) a') tS a->mS P ops V m s cs Q (tS++rest) k a
 | [],k,a,_,_,h=>h
 | o :: tS,k,a,hne,hl,h=>by
  have h0:ops[k]?=some o:=by simpa using (hl 0 (by simp)).symm
  obtain ⟨n1,n2⟩:=hne 0 (by simp);rw [Nat.add_zero]at n1 n2;have ih:=fun a'=>nK (Q:=Q) (rest:=rest) tS (k+1) a' (fun j hj=>by have:=hne (j+1) (by simp;omega);rw[show k+1+j=k+(j+1) by omega];exact this) (fun j hj=>by have:=hl (j+1) (by simp;omega);rw[show k+1+j=k+(j+1) by omega];simpa using this)
  rw [show k+(o::tS).length=k+1+tS.length by simp;omega]at h;unfold bq at h;show sD P ops V m s cs k (mS P ops V m s cs Q (tS++rest) (k+1)) a;unfold sD;rw [if_neg n1,if_neg n2,h0];dsimp only;split
  ·rename_i hw
   rw [if_pos hw]at h;obtain ⟨v,h1,h2⟩:=h;exact ⟨v,h1,ih _ h2⟩
  ·rename_i hw
   rw [if_neg hw]at h;exact ih _ h
end
def JR (l:List Oper) (m s:Nat) (d t:Tmp):Bool:=
 decide (m<s)&&decide (s<l.length)&&decide (t≠d) &&
 (match l[m]? with|some om=>om.guard == none&&om.dst == some d|none=>false) &&
 (match l[s]? with|some os=>os.guard == none&&os.dst == none&&(os.looksAt l.toArray).contains t&&os.after.any (fun e=>Region.binds .any e&&e.on == m)|none=>false) &&
 (List.range l.length).all fun i=>i == m || i == s || (match l[i]? with|some oi=>!(oi.looksAt l.toArray).contains d&&oi.dst != some d|none=>true)
theorem lq {P:Program} {id:Nat} {Q:Exit->Act->World->Prop} {a:Act} {w:World} {l:List Oper} (V:World) (m s:Nat) (d t:Tmp) (vy:Value) (Z Z':Obj) (om os:Oper)
  (hmo:P.follows .mixedOrders=true) (hB:Region.lexB .any l.toArray=true) (hc:JR l m s d t=true) (ES:l[m]?=some om) (rU:l[s]?=some os)
  (yt:∀(a:Act) (w:World),(execOp a.eval om).run P w=.ok (.value (.pointer (some ⟨w.heap.size,0,none⟩))) (w.alloc Z))
  (mf:∀(a:Act) (w:World) (bx:Nat),d<a.tmps.size->Has w bx Z->(a.put (some d) (.pointer (some ⟨bx,0,none⟩))).eval (.tmp t)=vy->∃w'',(execOp (a.put (some d) (.pointer (some ⟨bx,0,none⟩))).eval os).run P w=.ok .skip w''/\Has w'' bx Z'/\Only [bx] w w'')
  (hV:Ext V w.drew) (SD:d<a.tmps.size)
  (h:bq P l.toArray V (fun a1=>bq P l.toArray V (fun a2=>a2.eval (.tmp t)=vy/\bq P l.toArray V (fun a3=>∀w' bx,Ext V w'->V.heap.size<=bx->Has w' bx Z'->Q .normal (a3.put (some d) (.pointer (some ⟨bx,0,none⟩))) w') (l.drop (s+1)) a2) ((l.take s).drop (m+1)) a1) (l.take m) a) :
  (Code.region id l.toArray true).wp P Q a w:=by
 simp only[JR,Bool.and_eq_true,decide_eq_true_eq,List.all_eq_true,Bool.or_eq_true,beq_iff_eq]at hc;obtain ⟨⟨⟨⟨⟨c1,c2⟩,c3⟩,c4⟩,c5⟩,c6⟩:=hc;rw [ES]at c4;rw [rU]at c5;simp only[Bool.and_eq_true,beq_iff_eq,Array.any_eq_true']at c4 c5;obtain ⟨g1,g2⟩:=c4;obtain ⟨⟨⟨g3,g4⟩,g5⟩,g6⟩:=c5;simp only[Region.lexB,Bool.and_eq_true]at hB;have sE:=Region.noSelect_spec hB.1;have aao:l.toArray[m]?=some om:=by simpa using ES
 have JS:l.toArray[s]?=some os:=by simpa using rU
 have hys:∀o,l.toArray[s]?=some o->∀p∈[(Operand.tmp t,vy)],∀x,p.1=.tmp x->x∈o.looksAt l.toArray:=fun o ho p hp x hx=>by
  rw [List.mem_singleton]at hp;subst hp;rw [JS]at ho;injection ho with ho;injection hx with hx;rw[<-ho,<-hx];simpa using g5
 refine wp_region_any hmo ?_;have jl:(l.take m).length=m:=by simp;omega
 have cL:((l.take s).drop (m+1)).length=s-(m+1):=by simp;omega
 have SE:mS P l.toArray V m s [(.tmp t,vy)] (fun a3=>∀w' bx,Ext V w'->V.heap.size<=bx->Has w' bx Z'->Q .normal (a3.put (some d) (.pointer (some ⟨bx,0,none⟩))) w') l 0 a:=by
  have e:l=l.take m++(om::((l.take s).drop (m+1)++(os::l.drop (s+1)))):=by
   have e1:l.drop m=om::l.drop (m+1):=by rw[List.drop_eq_getElem_cons (by omega)];congr 1;rw[List.getElem?_eq_getElem (by omega)]at ES;injection ES
   have e2:l.drop s=os::l.drop (s+1):=by rw[List.drop_eq_getElem_cons c2];congr 1;rw[List.getElem?_eq_getElem c2]at rU;injection rU
   have e3:(l.take s).drop (m+1)++l.drop s=l.drop (m+1):=by
    conv=>rhs;rw[<-List.take_append_drop s l,List.drop_append_of_le_length (by simp;omega)]
   rw [<-e2,e3,<-e1,List.take_append_drop]
  conv=>arg 8;rw[e]
  refine nK (l.take m) 0 a (fun j hj=>by rw[jl]at hj;omega) (fun j hj=>by rw[jl]at hj;rw[Nat.zero_add];simp[hj]) ?_;rw [Nat.zero_add,jl];have ET:∀{Q1 Q2:Act->Prop},(∀a,Q1 a->Q2 a)->∀(tS:List Oper) (a:Act),bq P l.toArray V Q1 tS a->bq P l.toArray V Q2 tS a:=by
   intro Q1 Q2 hq tS
   induction tS with
   | nil=>intro a h;exact hq a h
   | cons o tS ih =>
    intro a h;unfold bq at h|-;split
    ·rename_i hw;rw[if_pos hw]at h;obtain⟨v,h1,h2⟩:=h;exact⟨v,h1,ih _ h2⟩
    ·rename_i hw;rw[if_neg hw]at h;exact ih _ h
  refine ET (fun a1 h1=>?_) _ _ h;show sD P l.toArray V m s [(.tmp t,vy)] m _ a1;unfold sD;rw [if_pos rfl];refine nK ((l.take s).drop (m+1)) (m+1) a1 (fun j hj=>by rw[cL]at hj;omega) (fun j hj=>by rw[cL]at hj;rw[List.getElem?_drop,List.getElem?_take_of_lt (by omega)];simp) ?_;rw [cL,show m+1+(s-(m+1))=s by omega];refine ET (fun a2 h2=>?_) _ _ h1;show sD P l.toArray V m s [(.tmp t,vy)] s _ a2;unfold sD;rw [if_neg (by omega),if_pos rfl];refine ⟨fun p hp=>by rw[List.mem_singleton]at hp;subst hp;exact h2.1,?_⟩;have e5:l.drop (s+1)=l.drop (s+1)++[]:=by simp
  rw [e5];refine nK (l.drop (s+1)) (s+1) a2 (fun j hj=>by omega) (fun j hj=>by simp) ?_;exact h2.2
 have hR:=tP (md:=.any) (m:=m) (s:=s) hB.1 hys l 0 (Array.replicate l.toArray.size false) a (by simp) (fun j hj=>by omega) (by simpa using (by omega:m<l.length)) (by simpa using c2) (by simpa using hB.2) SE;have hf:∀i,i<l.length->(Array.replicate l.toArray.size false).getD i true=false:=fun i hi=>by simp[hi]
 have:=(wX (V:=V) (P:=P) (ops:=l.toArray) (md:=.any) (m:=m) (s:=s) (yo:=.tmp t) (vy:=vy) (Q':=Q) aao g1 g2 JS g3 g4 (by omega) yt mf (by intro e;injection e with e;exact c3 e) ?_ sE ?_ (fun a w bx h1 h2 h3 h4=>h4 w bx h1 h2 h3) _ _ a w.drew hV SD hR).1 (hf m (by omega)) (hf s c2)
 ·simpa using this
 ·obtain ⟨e,he,sZ⟩:=g6
  exact ⟨e,he,sZ.1,by simpa using sZ.2⟩
 ·intro i oi hi h1 h2
  have hil:i<l.length:=by
   rcases Nat.lt_or_ge i l.length with h'|h'
   ·exact h'
   ·rw[Array.getElem?_eq_none (by simpa using h')]at hi;cases hi
  have:=c6 i (List.mem_range.2 hil);rw [show l[i]?=some oi by simpa using hi]at this;rcases this with (this|this)|this
  ·exact absurd this h1
  ·exact absurd this h2
  ·simpa using this
theorem Has.JT {w:World} {b:Nat} {a0 a1 a2 a3:Value} {t:TypeId} (h:Has w b (.cells #[a0,a1,a2,a3] t)) (q:dH):Has (w.setCells b 0 [.int .i64 q.blocks,.int .i64 q.nodes,.int .i64 q.bX,.int .i64 q.bR]) b (.cells #[.int .i64 q.blocks,.int .i64 q.nodes,.int .i64 q.bX,.int .i64 q.bR] t):=
 (((h.setCell 0 (.int .i64 q.blocks)).setCell 1 (.int .i64 q.nodes)).setCell 2 (.int .i64 q.bX)).setCell 3 (.int .i64 q.bR)
theorem CR:(Tryz.prog.info? 108).map (·.size)=some 4:=by kernel_rfl
theorem vY (b:Nat):∀(vs:List Value) (o:Nat) (w:World),Only [b] w (w.setCells b o vs):=by
 intro vs
 induction vs with
 | nil=>intro o w;exact Only.refl _ _
 | cons v vs ih=>intro o w;exact (Only.setCell w b o v).then (ih (o+1) _)
theorem Aq {w:World} {b:Nat} {a0 a1 a2 a3:Value} {t:TypeId} (h:Has w b (.cells #[a0,a1,a2,a3] t)):w.there b 0 4:=fun j hj=>by
 rw [Nat.zero_add,h.cell j,h.free j];refine ⟨?_,by simp⟩;rw [Array.getElem?_eq_getElem (by simpa using hj)];rfl
theorem Gf (q:dH):(#[.int .i64 q.blocks,.int .i64 q.nodes,.int .i64 q.bX,.int .i64 q.bR]:Array Value).all (·.oneCell')=true:=all_oneCell_toArray (cs:=[.int .i64 q.blocks,.int .i64 q.nodes,.int .i64 q.bX,.int .i64 q.bR]) fun u hu=>by
 simp only[List.mem_cons,List.not_mem_nil,or_false]at hu;rcases hu with rfl|rfl|rfl|rfl<;>rfl
theorem sF {id:Nat} {Q:Exit->Act->World->Prop} {a:Act} {w:World} {l:List Oper} (V:World) (m s:Nat) (d t:Tmp) (q:dH) (om os:Oper)
  (hB:Region.lexB .any l.toArray=true) (hc:JR l m s d t=true) (ES:l[m]?=some om) (rU:l[s]?=some os) (Jw:om.op=.alloc 108) (mL:os.op=.store 108 (.tmp d) (.tmp t)) (SD:d<a.tmps.size)
  (hV:Ext V w.drew) :
  bq Tryz.prog l.toArray V (fun a1=>bq Tryz.prog l.toArray V (fun a2=>a2.eval (.tmp t)=.agg #[.int .i64 q.blocks,.int .i64 q.nodes,.int .i64 q.bX,.int .i64 q.bR]/\bq Tryz.prog l.toArray V (fun a3=>∀w' bx,Ext V w'->V.heap.size<=bx->Has w' bx (.cells #[.int .i64 q.blocks,.int .i64 q.nodes,.int .i64 q.bX,.int .i64 q.bR] 108)->Q .normal (a3.put (some d) (.pointer (some ⟨bx,0,none⟩))) w') (l.drop (s+1)) a2) ((l.take s).drop (m+1)) a1) (l.take m) a ->
  (Code.region id l.toArray true).wp Tryz.prog Q a w:=by
 refine lq V m s d t (.agg #[.int .i64 q.blocks,.int .i64 q.nodes,.int .i64 q.bX,.int .i64 q.bR]) (.cells #[.int .i64 0,.int .i64 0,.int .i64 0,.int .i64 0] 108) _ om os (by kernel_rfl) hB hc ES rU ?_ ?_ hV SD
 ·intro a w
  simp [execOp,Jw,go_sem]
 ·intro a w bx hsz hb he
  have hd:(a.put (some d) (.pointer (some ⟨bx,0,none⟩))).eval (.tmp d)=.pointer (some ⟨bx,0,none⟩):=by
   simp [Act.put,Act.eval,hsz]
  refine ⟨_,?_,hb.JT q,vY bx _ 0 w⟩;simp only[execOp,mL,hd,he,run_storeAt_mid w bx 0 108 #[.int .i64 q.blocks,.int .i64 q.nodes,.int .i64 q.bX,.int .i64 q.bR] (Aq hb) CR (Gf q),Sem.run_bind,Sem.run_pure,Result.andThen_ok]
theorem yu {P:Program} {o:Oper} {a:Act} {v:Value} {w:World} {C:World->Prop} {t:Operand} {ix:Nat} (ho:o.op=.extract t ix) (h:o.quietAt P a C w v) (w':World):(execOp a.eval o).run P w'=.ok (.value v) w':=by
 have e:∀w:World,(execOp a.eval o).run P w=((do pure (Next.value (<-Instr.extract (a.eval t) ix))):Sem Next).run P w:=fun w=>by unfold execOp;rw[ho]
 unfold Oper.quietAt at h;rw [e]at h|-
 cases hx:a.eval t with
 | tuple vs =>
  cases hv:vs[ix]? with
  | none=>simp[Instr.extract,hx,hv,stuck,Oper.quietUpon]at h
  | some u =>
   simp [Instr.extract,hx,hv,Oper.quietUpon]at h|-;exact h
 | _=>simp[Instr.extract,hx,stuck,Oper.quietUpon]at h
theorem wZ {P:Program} {ops:Array Oper} {md:Region.Mode} {V:World} {s:Nat} {cs:List (Operand×Value)} {Q:Act->Prop} {Q':Exit->Act->World->Prop} {os:Oper} {F:World->Prop}
  (rU:ops[s]?=some os) (Ws:os.guard=none) (Wt:os.dst=none)
  (mf:∀(a:Act) (w:World),Ext V w->JN cs a->∃w'',(execOp a.eval os).run P w=.ok .skip w''/\F w'')
  (hpu:∀i oi,ops[i]?=some oi->i≠s->(∃e∈os.after,Region.binds md e=true/\e.on=i)\/(oi.guard=none/\∃t ix,oi.op=.extract t ix))
  (hQ:∀a w,F w->Q a->Q' .normal a w) :
  ∀ (f:Nat) (listed:Array Bool) (a:Act) (w:World),oX P md ops V ops.size s cs Q f listed a ->
   (listed.getD s true=false->Ext V w->wpAny P md ops Q' f listed a w) /\
   (listed.getD s true=true->F w->(∀i oi,ops[i]?=some oi->listed.getD i true=false->oi.guard=none/\∃t ix,oi.op=.extract t ix)->wpAny P md ops Q' f listed a w)
 | 0,listed,a,w,h=>by
  obtain ⟨h1,_,h3,h4⟩:=h;exact ⟨fun h=>(by rw[h3]at h;cases h),fun _ hF _=>⟨h1,hQ a w hF h4⟩⟩
 | f + 1, listed,a,w,h=>by
  have ih:=fun listed a w=>wZ rU Ws Wt mf hpu hQ f listed a w
  obtain ⟨hne,hall⟩:=h;refine ⟨fun hs hE=>⟨fun h0=>absurd h0 hne,fun i hi=>?_⟩,fun hs hF Al=>⟨fun h0=>absurd h0 hne,fun i hi=>?_⟩⟩
  ·have hr:=hall i hi
   obtain ⟨Pe,oi,wY,tR⟩:=mem_ready.1 hi;have him:i≠ops.size:=by have:=(Array.getElem?_eq_some_iff.1 wY).1;omega
   unfold sD at hr;rw [if_neg him]at hr
   by_cases e2:i=s
   ·subst e2
    obtain rfl:os=oi:=Option.some.inj (rU.symm.trans wY);rw [if_pos rfl]at hr;obtain ⟨w'',hx1,hx2⟩:=mf a w hE hr.1;unfold wpOp;rw [rU];dsimp only;have hw:Region.wanted os (yielded ops a.tmps)=true:=by unfold Region.wanted;rw[Ws]
    rw [if_pos hw]
    left
    unfold Oper.wp;rw [hx1];simp only[Oper.upon];rw [Wt];refine (ih _ a w'' hr.2).2 (fg listed i) hx2 fun j oj JQ hj=>?_
    have wW:j≠i:=fun e=>by rw[e,fg]at hj;cases hj
    rcases hpu j oj JQ wW with⟨e,qB,sZ,IX⟩|hp
    ·have:=tR e qB sZ
     rw [IX]at this;rw [getD_set_ne true (Ne.symm wW)]at hj;rcases Nat.lt_or_ge j listed.size with h'|h'
     ·simp[h']at this hj;rw[hj]at this;cases this
     ·simp[Array.getElem?_eq_none h']at this
    ·exact hp
   ·rw [if_neg e2,wY]at hr
    unfold wpOp;rw [wY];dsimp only at hr|-;split
    ·rename_i hw
     rw [if_pos hw]at hr;obtain ⟨v,h1,h2⟩:=hr
     left
     exact tQ (h1 ⟨w,hE⟩) fun w'' hx=>(ih _ _ w'' h2).1 (by rw[getD_set_ne true e2];exact hs) (hE.trans hx)
    ·rename_i hw
     rw [if_neg hw]at hr;exact (ih _ _ w hr).1 (by rw[getD_set_ne true e2];exact hs) hE
  ·have hr:=hall i hi
   obtain ⟨Pe,oi,wY,tR⟩:=mem_ready.1 hi;have him:i≠ops.size:=by have:=(Array.getElem?_eq_some_iff.1 wY).1;omega
   have e2:i≠s:=fun e=>by rw[e,hs]at Pe;cases Pe
   obtain ⟨hg,t,ix,hx⟩:=Al i oi wY Pe;unfold sD at hr;rw [if_neg him,if_neg e2,wY]at hr;unfold wpOp;rw [wY];dsimp only at hr|-;have hw:Region.wanted oi (yielded ops a.tmps)=true:=by unfold Region.wanted;rw[hg]
   rw [if_pos hw]at hr|-;obtain ⟨v,h1,h2⟩:=hr
   left
   unfold Oper.wp;rw [yu hx (h1 ⟨V,Ext.refl V⟩) w];simp only[Oper.upon];refine (ih _ _ w h2).2 (by rw[getD_set_ne true e2];exact hs) hF fun j oj JQ hj=>?_
   by_cases e:i=j
   ·subst e;rw[fg]at hj;cases hj
   ·rw[getD_set_ne true e]at hj;exact Al j oj JQ hj
def w_ (o:Oper):Bool:=match o.op with
 | .extract _ _=>true
 | _=>false
def JU (l:List Oper) (i:Nat):Bool:=
 match l[i]? with
 | some oi=>(oi.guard == none)&&w_ oi
 | none=>true
def Rf (l:List Oper) (s:Nat) (x y:Tmp) (os:Oper):Bool:=
 os.guard == none&&os.dst == none&&(os.looksAt l.toArray).contains x&&(os.looksAt l.toArray).contains y &&
  (List.range l.length).all (fun i=>(i == s || os.after.any (fun e=>Region.binds .any e&&e.on == i)) || JU l i)
def JV (l:List Oper) (s:Nat) (x y:Tmp):Bool:=
 decide (s<l.length)&&(match l[s]? with
  | some os=>Rf l s x y os
  | none=>false)
theorem vZ {P:Program} {id:Nat} {Q:Exit->Act->World->Prop} {a:Act} {w:World} {l:List Oper} (V:World) (s:Nat) (x y:Tmp) (vx vy:Value) (F:World->Prop) (os:Oper)
  (hmo:P.follows .mixedOrders=true) (hB:Region.lexB .any l.toArray=true) (hc:JV l s x y=true) (rU:l[s]?=some os)
  (mf:∀(a:Act) (w:World),Ext V w->a.eval (.tmp x)=vx->a.eval (.tmp y)=vy->∃w'',(execOp a.eval os).run P w=.ok .skip w''/\F w'')
  (hV:Ext V w.drew)
  (h:bq P l.toArray V (fun a2=>a2.eval (.tmp x)=vx/\a2.eval (.tmp y)=vy/\bq P l.toArray V (fun a3=>∀w',F w'->Q .normal a3 w') (l.drop (s+1)) a2) (l.take s) a) :
  (Code.region id l.toArray true).wp P Q a w:=by
 simp only[JV,rU,Rf,Bool.and_eq_true,decide_eq_true_eq,List.all_eq_true,Bool.or_eq_true,beq_iff_eq,Array.any_eq_true']at hc;obtain ⟨c2,⟨⟨⟨g3,g4⟩,g5⟩,g6⟩,c6⟩:=hc;simp only[Region.lexB,Bool.and_eq_true]at hB;have JS:l.toArray[s]?=some os:=by simpa using rU
 have hys:∀o,l.toArray[s]?=some o->∀p∈[(Operand.tmp x,vx),(Operand.tmp y,vy)],∀z,p.1=.tmp z->z∈o.looksAt l.toArray:=fun o ho p hp z hz=>by
  rw [JS]at ho;injection ho with ho;simp only[List.mem_cons,List.not_mem_nil,or_false]at hp;rcases hp with rfl|rfl
  ·injection hz with hz;rw[<-ho,<-hz];simpa using g5
  ·injection hz with hz;rw[<-ho,<-hz];simpa using g6
 refine wp_region_any hmo ?_;have jl:(l.take s).length=s:=by simp;omega
 have SE:mS P l.toArray V l.toArray.size s [(.tmp x,vx),(.tmp y,vy)] (fun a3=>∀w',F w'->Q .normal a3 w') l 0 a:=by
  have e:l=l.take s++(os::l.drop (s+1)):=by
   have e2:l.drop s=os::l.drop (s+1):=by rw[List.drop_eq_getElem_cons c2];congr 1;rw[List.getElem?_eq_getElem c2]at rU;injection rU
   rw [<-e2,List.take_append_drop]
  conv=>arg 8;rw[e]
  refine nK (l.take s) 0 a (fun j hj=>by rw[jl]at hj;simp;omega) (fun j hj=>by rw[jl]at hj;rw[Nat.zero_add];simp[hj]) ?_;rw [Nat.zero_add,jl];have ET:∀{Q1 Q2:Act->Prop},(∀a,Q1 a->Q2 a)->∀(tS:List Oper) (a:Act),bq P l.toArray V Q1 tS a->bq P l.toArray V Q2 tS a:=by
   intro Q1 Q2 hq tS
   induction tS with
   | nil=>intro a h;exact hq a h
   | cons o tS ih =>
    intro a h;unfold bq at h|-;split
    ·rename_i hw;rw[if_pos hw]at h;obtain⟨v,h1,h2⟩:=h;exact⟨v,h1,ih _ h2⟩
    ·rename_i hw;rw[if_neg hw]at h;exact ih _ h
  refine ET (fun a2 h2=>?_) _ _ h;show sD P l.toArray V l.toArray.size s _ s _ a2;unfold sD;rw [if_neg (by simp;omega),if_pos rfl];refine ⟨fun p hp=>?_,?_⟩
  ·simp only[List.mem_cons,List.not_mem_nil,or_false]at hp
   rcases hp with rfl|rfl
   ·exact h2.1
   ·exact h2.2.1
  have e5:l.drop (s+1)=l.drop (s+1)++[]:=by simp
  rw [e5];refine nK (l.drop (s+1)) (s+1) a2 (fun j hj=>by simp at hj|-;omega) (fun j hj=>by simp) ?_;exact h2.2.2
 have hR:=rT (md:=.any) (s:=s) hB.1 hys l 0 (Array.replicate l.toArray.size false) a (by simp) (fun j hj=>by omega) (by simp) (by simpa using c2) (by simpa using hB.2) SE;have:=(wZ (V:=V) (P:=P) (ops:=l.toArray) (md:=.any) (s:=s) (Q':=Q) (F:=F) JS g3 g4 (fun a w h1 h2=>mf a w h1 (h2 (.tmp x,vx) (by simp)) (h2 (.tmp y,vy) (by simp))) ?_ (fun a w h1 h2=>h2 w h1) _ _ a w.drew hR).1 (by simp[c2]) hV
 ·simpa using this
 ·intro i oi hi h1
  have hil:i<l.length:=by
   rcases Nat.lt_or_ge i l.length with h'|h'
   ·exact h'
   ·rw[Array.getElem?_eq_none (by simpa using h')]at hi;cases hi
  have:=c6 i (List.mem_range.2 hil);unfold JU at this;rw [show l[i]?=some oi by simpa using hi]at this;dsimp only at this;rcases this with (this|this)|this
  ·exact absurd this h1
  ·obtain ⟨e,he,sZ⟩:=this
   exact .inl ⟨e,he,sZ.1,by simpa using sZ.2⟩
  ·right
   simp only[Bool.and_eq_true,beq_iff_eq]at this;refine ⟨this.1,?_⟩;have h3:=this.2;unfold w_ at h3
   cases ho:oi.op<;>simp[ho]at h3
   exact ⟨_,_,rfl⟩
end
open Go.ChangeShapes Go.WideShapes Go.ChangeAt Go.RowKit
def Rg (w:World) (B:Nat) (g:cJ) (S:ac) (X:cM) (n:ai) (e:Ending) (w':World):Prop:=
 e = .returned (.tuple #[.int .i64 (mz S n),.int .i64 (eO S n)])/\∃bN,gV w' B ⟨g.bF,bN,g.bE⟩ (bj S n) X/\Only g.list w w'/\(bN=g.bN\/w.heap.size<=bN)
theorem tT {w w':World} {B:Nat} {g:cJ} {S:ac} {X:cM} {n:ai} {x:Int} (h:gV w B g S X) (hE:Ext w w') (hx:eO S n=x) (h0:x≠0):Rg w B g S X n (.returned (.tuple #[.int .i64 0,.int .i64 x])) w':=by
 refine ⟨?_,g.bN,?_,Only.aw hE,.inl rfl⟩
 ·unfold mz;rw[hx,if_neg h0]
 ·unfold bj;rw[hx,if_neg h0];exact h.ext hE
theorem Gg (B : Nat) (g:cJ) (S:ac) (X:cM) (n:ai) (A:Option Addr) (c:Nat) (w:World) (h:gV w B g S X) (lJ:S.nodes.length<=100000) (hn:ay w B n A c) (hr:h_ S.af) (tI:S.af.length<=8) (_hu:aI S.nodes S.last) (jF:0<=S.last) (g_:S.last<=1000000) (kT:n.data.length<=1000000000) :
    Calls Tryz.prog 146 #[.pointer (some ⟨g.bF,0,none⟩),.agg #[n.no,n.dev,n.kind,n.mode,n.uid,n.gid,n.mtime,n.ctime,n.ah,n.up,bs n.data,.slice A n.ae.length c]] w (Rg w B g S X n):=by
  have h0:=h
  obtain ⟨h1,cn,cd,h3,hN,h4⟩:=h
  obtain⟨W1,b_⟩:=ar (w.alloc (.cells #[n.no,n.dev,n.kind,n.mode,n.uid,n.gid,n.mtime,n.ctime,n.ah,n.up,bs n.data,.slice A n.ae.length c] 58))
  have E1:Ext w W1:=by rw[b_];exact (Ext.refl _).alloc _
  have B1:Has W1 w.heap.size (.cells #[n.no,n.dev,n.kind,n.mode,n.uid,n.gid,n.mtime,n.ctime,n.ah,n.up,bs n.data,.slice A n.ae.length c] 58):=by rw[b_];exact Has.new _ _
  rcases en hr n.dev with⟨e1,e2⟩|⟨k,hk,e1,e2,e3,e4,e5,e6⟩
  · have HE:Hid (eO S n=1):=by show _=_;unfold eO;rw[if_pos e1]
    have Wk:(aE S.af n.dev == 0)=true:=by rw[e1];rfl
    clear e1 e2
    go_enter Tryz.func146,Tryz.ntmps146
    go_wp2_with fail
    rw [<-b_]
    refine (jt B g S X n.dev _ (h0.ext E1) (by omega)).mono ?_
    rintro e w2 ⟨rfl,b2⟩
    go_wp2_with fail
    go_ret2
    exact tT h0 (E1.trans b2) HE.out (by decide)
  · have e0 : eO S n=eu S.af[k].q (bC n.kind n.data.length) 1:=by unfold eO;rw[if_neg (by rw[e4];omega),e3]
    have Wk:(aE S.af n.dev == 0)=false:=by rw[e4];simpa using (show ¬S.af[k].root=0 by omega)
    obtain⟨bl,zy⟩:=ar (bC n.kind n.data.length)
    have tN:=wS (k:=n.kind) (s:=n.data.length) (by omega) (by omega)
    rw [<-zy]at tN e0
    obtain⟨q,hq⟩:=ar (S.af[k].q)
    rw [<-hq]at e6 e0
    have inr:Q8 bl 1:=⟨by omega,by omega,by omega,by omega⟩
    obtain ⟨d0,d1,d2,d3,d4,d5⟩:=iT.at_ h4 k hk
    rw [<-hq]at d2 d3 d4 d5
    have HB:=zH zy
    have jm:=zH e0
    have HQ:=zH hq
    have H3:=zH e3
    have HD:=zH e1
    have hsz:((bs n.data).size:Int)=n.data.length:=by rw[aU]
    clear e0 hq e1 e3 e4 e2 zy d0 d1
    go_enter Tryz.func146,Tryz.ntmps146
    go_wp2_with fail
    rw [<-b_]
    refine (jt B g S X n.dev _ (h0.ext E1) (by omega)).mono ?_
    rintro e w2 ⟨rfl,b2⟩
    have E2:=E1.trans b2
    have x0:w2.cell? ⟨w.heap.size,0,none⟩=some (.int .i64 n.no):=(B1.ext b2).cell 0
    have x1:w2.cell? ⟨w.heap.size,1,none⟩=some (.int .i64 n.dev):=(B1.ext b2).cell 1
    have xz:=(B1.ext b2).lt
    go_upto_region 3 with fail
    have y0:(0:Int)<=n.dev-1:=by rw[HD.out];omega
    have y1:n.dev-1<(S.af.length:Int):=by rw[HD.out];omega
    have y2:(n.dev-1).toNat=k:=by rw[HD.out];omega
    have y3:IntKind.i64.wrap (n.dev-1)=n.dev-1:=bV (by omega) (by omega)
    have y4:1<=n.dev:=by omega
    have y5:n.dev.toNat-1=k:=by omega
    have hl:=h0.lt
    have c1':w2.cell? ⟨g.bF,1,none⟩=some (.slice (some ⟨g.bE,0,none⟩) S.af.length cd):=(h3.ext E2).cell 1
    have zF:g.bF<w2.heap.size:=(h3.ext E2).lt
    have zE:g.bE<w2.heap.size:=by have:=E2.size;omega
    have R2:=B1.ext b2
    clear x0 x1
    go_cut [6,7] (fun p e wc=>∃bx,p=.pointer (some ⟨bx,0,none⟩)/\e=.int .i64 (eu q bl 1)/\Has wc bx (.cells #[.int .i64 (aT q bl 1).blocks,.int .i64 (aT q bl 1).nodes,.int .i64 (aT q bl 1).bX,.int .i64 (aT q bl 1).bR] 108)/\Ext w2 wc)
    case first =>
      have K0:Hid (∀w:World,Calls Tryz.prog 166 #[n.kind,.int .i64 n.data.length] w (fun e w'=>e=.returned (.int .i64 bl)/\w'=w)):=by
        show ∀w:World,_
        intro w;rw[HB.out];exact yl n.kind n.data.length (by omega) (by omega) w
      have KT:Hid (∀w:World,Calls Tryz.prog 165 #[.agg #[.int .i64 q.blocks,.int .i64 q.nodes,.int .i64 q.bX,.int .i64 q.bR],.int .i64 bl,.int .i64 1] w (aH w (.tuple #[.agg #[.int .i64 (aT q bl 1).blocks,.int .i64 (aT q bl 1).nodes,.int .i64 (aT q bl 1).bX,.int .i64 (aT q bl 1).bR],.int .i64 (eu q bl 1)]))):=Ga q bl 1 e6 inr
      have u0:∀u:Gr w2,u.w.cell? ⟨g.bF,1,none⟩=some (.slice (some ⟨g.bE,0,none⟩) S.af.length cd):=Gr.cell zF c1'
      have u1:∀u:Gr w2,u.w.cell? ⟨w.heap.size,1,none⟩=some (.int .i64 n.dev):=Gr.cell R2.lt (R2.cell 1)
      have u2:∀u:Gr w2,u.w.cell? ⟨w.heap.size,2,none⟩=some (.int .i64 n.kind):=Gr.cell R2.lt (R2.cell 2)
      have u10:∀u:Gr w2,u.w.cell? ⟨w.heap.size,10,none⟩=some (.string (bs n.data)):=Gr.cell R2.lt (R2.cell 10)
      have t2:∀u:Gr w2,u.w.cell? ⟨g.bE,k*6+2,none⟩=some (.int .i64 q.blocks):=Gr.cell zE ((E2.cell hl.2.2).trans d2)
      have t3:∀u:Gr w2,u.w.cell? ⟨g.bE,k*6+3,none⟩=some (.int .i64 q.nodes):=Gr.cell zE ((E2.cell hl.2.2).trans d3)
      have t4:∀u:Gr w2,u.w.cell? ⟨g.bE,k*6+4,none⟩=some (.int .i64 q.bX):=Gr.cell zE ((E2.cell hl.2.2).trans d4)
      have t5:∀u:Gr w2,u.w.cell? ⟨g.bE,k*6+5,none⟩=some (.int .i64 q.bR):=Gr.cell zE ((E2.cell hl.2.2).trans d5)
      clear d2 d3 d4 d5 c1' zF zE
      refine sF w2 20 21 6 31 (aT q bl 1) _ _ (by kernel_rfl) (by kernel_rfl) rfl rfl rfl rfl (by simp) ((Ext.refl _).drew) ?_
      simp only[List.take_succ_cons,List.take_zero,List.drop_succ_cons,List.drop_zero,List.drop_nil]
      repeat (refine dv (fun K hK=>?_)
              go_simp
              first
                | (refine hK _ ?_;clear hK K)
                | (apply Exists.intro
                   refine ⟨fun u=>?_,hK _ ?_⟩
                   first
                     | ((with_reducible refine (K0.out _).mono ?_);rintro e w'' ⟨rfl,rfl⟩;exact⟨rfl,Ext.refl _⟩)
                     | ((with_reducible refine (KT.out _).mono ?_);rintro e w'' ⟨rfl,hx⟩;exact⟨rfl,hx⟩)
                   clear hK K))
      refine bP ?_
      refine bP ⟨rfl,?_⟩
      refine dv (fun K hK=>?_)
      go_simp
      refine hK _ ?_
      clear hK K
      refine bP ?_
      intro w' bx hx zY hb
      simp only[Act.put]
      go_wp2_with fail
      go_meet
      exact ⟨bx,rfl,rfl,hb,hx⟩
    case rest =>
    obtain ⟨bx,rfl,rfl,XB,Z⟩:=hcut
    obtain⟨V2,lZ⟩:=ar wc
    rw [<-lZ]at XB Z|-
    clear lZ d2 d3 d4 d5 c1'
    have Y:Ext w V2:=E2.trans Z
    have B2:=(B1.ext b2).ext Z
    have W2:=h0.ext Y
    by_cases hz:eu q bl 1=0
    · have hzb:(eu q bl 1 == 0)=true:=by rw[hz];rfl
      have Sv:(eu q bl 1 != 0)=false:=by rw[hz];rfl
      have HZ:=zH hz
      have cW:=(h3.ext Y).lt
      have c1:V2.cell? ⟨g.bF,1,none⟩=some (.slice (some ⟨g.bE,0,none⟩) S.af.length cd):=(h3.ext Y).cell 1
      have x1:V2.cell? ⟨w.heap.size,1,none⟩=some (.int .i64 n.dev):=B2.cell 1
      have xz2:=B2.lt
      have q0:V2.cell? ⟨bx,0,none⟩=some (.int .i64 (aT q bl 1).blocks):=XB.cell 0
      have q1:V2.cell? ⟨bx,1,none⟩=some (.int .i64 (aT q bl 1).nodes):=XB.cell 1
      have q2:V2.cell? ⟨bx,2,none⟩=some (.int .i64 (aT q bl 1).bX):=XB.cell 2
      have q3:V2.cell? ⟨bx,3,none⟩=some (.int .i64 (aT q bl 1).bR):=XB.cell 3
      have Gd:V2.ownsRow B 110 6 (.slice (some ⟨g.bE,0,none⟩) S.af.length cd) S.af.length (aW S.af):=av h4 (Only.aw (L:=[]) Y) (by simp)
      obtain ⟨_,_,d2,d3,d4,d5⟩:=iT.at_ (show iT V2 B _ _ S.af from Gd) k hk
      have f2:=Gd.frozenAt (k*6+2)
      have f3:=Gd.frozenAt (k*6+3)
      have f4:=Gd.frozenAt (k*6+4)
      have f5:=Gd.frozenAt (k*6+5)
      clear hz
      go_upto_region 6 with fail
      go_cut [] (fun wc=>Only [g.bE] V2 wc/\wc.ownsRow B 110 6 (.slice (some ⟨g.bE,0,none⟩) S.af.length cd) S.af.length (aW (ja S.af ((k:Int)+1) (aT q bl 1))))
      case first =>
        go_still_tail 10,(by kernel_rfl)
        change wpList _ _ _ _ _ V2.drew
        go_wp2_with fail
        go_meet
        have aap:V2.drew.ownsRow B 110 6 (.slice (some ⟨g.bE,0,none⟩) S.af.length cd) S.af.length (aW S.af):=av Gd (Only.aw (L:=[]) ((Ext.refl _).drew)) (by simp)
        refine ⟨(Only.aw ((Ext.refl V2).drew)).then ((((Only.setCell _ _ _ _).then (Only.setCell _ _ _ _)).then (Only.setCell _ _ _ _)).then (Only.setCell _ _ _ _)),?_⟩
        rw [<-oD S.af k hk]
        exact (World.ownsRow.stored (World.ownsRow.stored (World.ownsRow.stored (World.ownsRow.stored aap (k*6+2) _).1 (k*6+3) _).1 (k*6+4) _).1 (k*6+5) _).1
      case rest =>
      obtain ⟨O3,D3⟩:=hcut
      obtain⟨V3,Sw⟩:=ar wc
      rw [<-Sw]at O3 D3|-
      clear Sw
      have Wl:=W2.apart
      obtain ⟨m1,m2,m3⟩:=W2.ne
      have Vn:=O3.has (h3.ext Y) (by simpa using m2)
      have N3:CO V3 B (.slice (some ⟨g.bN,0,none⟩) S.nodes.length cn) S.nodes:=by
        obtain ⟨xs,k1,k2⟩:=hN
        refine ⟨xs,av (av k1 (Only.aw (L:=[]) Y) (by simp)) O3 (fun x hx=>?_),(k2.only (Only.aw (L:=[]) Y) (fun b hb=>by cases hb)).only O3 (Wl.sub (by simp))⟩
        injection hx with hx
        subst hx
        simpa using m3
      have hxD:w.heap.size≠g.bE:=by have:=hl.2.2;omega
      have B3:=O3.has B2 (by simpa using hxD)
      have n3:ay V3 B n A c:=(hn.ext Y).only O3 (Wl.sub (by simp))
      obtain ⟨y0',y1',x2,x3,x4,x5,x6,x7,x8,x9,sy,sA⟩:=B3.dS
      have xz3:=B3.lt
      have vz:=Vn.lt
      clear c1 x1 q0 q1 q2 q3 d2 d3 d4 d5 f2 f3 f4 f5
      go_wp2_with fail
      refine (wU B g.bF (.slice (some ⟨g.bN,0,none⟩) S.nodes.length cn) (.slice (some ⟨g.bE,0,none⟩) S.af.length cd) S.nodes S.last X n A c _ h1 Vn N3 ⟨_,_,rfl⟩ lJ jF g_ n3).mono ?_
      rintro e w5 ⟨rfl,bN,cn5,F5,N5,O5,f5⟩
      go_wp2_with fail
      go_ret2
      have Vo:Only [g.bF,g.bN] V3 w5:=O5.mono (by intro x hx;simp[Value.ownBlock]at hx|-;exact hx)
      have eM:eO S n=0:=by rw[jm.out];exact HZ.out
      have eT:bj S n=⟨S.nodes++[{n with no:=S.last+1}],ja S.af ((k:Int)+1) (aT q bl 1),S.last+1⟩:=by
        unfold bj
        rw [if_pos eM,H3.out,<-HQ.out,<-HB.out,HD.out]
      refine ⟨?_,bN,?_,?_,?_⟩
      · unfold mz;rw[eM];rfl
      · rw [eT]
        refine ⟨h1,cn5,cd,?_,?_,?_⟩
        · simpa [jc]using F5
        · simpa using N5
        · unfold iT
          simp only[jc]
          exact av D3 Vo (fun b hb=>by simp[Value.ownBlock]at hb;subst hb;simp;exact⟨m2.symm,m3.symm⟩)
      · exact (Only.pre Y (O3.mono (by simp))).then (Vo.mono (by simp))
      · rcases f5 with f5|f5
        · exact .inl (by simpa [Value.ownBlock]using f5.symm)
        · exact .inr (by have e1:=Y.size;have e2:=O3.size;omega)
    · have hzb:(eu q bl 1 == 0)=false:=by simpa using hz
      have Sv:(eu q bl 1 != 0)=true:=by simpa using hz
      have HZ:=zH hz
      clear hz
      go_wp2_with fail
      go_ret2
      exact tT h0 Y jm.out HZ.out
def hasB (l:List UInt8) (c:UInt8):Bool:=decide (c∈l)
def cj (l:List UInt8):Int:=if l=[]\/l=[46]\/l=[46,46]\/hasB l 47=true\/hasB l 0=true then 1 else if 255<l.length then 13 else 0
theorem Pf {s:ByteArray} {k:Nat} (h:k<s.size):s[k]∈s.data.toList:=by
 have h1:=drop_at s k h;exact List.mem_of_mem_drop (i:=k) (by rw[h1];exact List.mem_cons_self ..)
theorem gj (s:ByteArray) (c:UInt8) (ci:Int) (hci:ci=c.toNat) (hs:s.size<=1000000) (w:World):Calls Tryz.prog 95 #[.string s,.int .u8 ci] w (aH w (.bool (hasB s.data.toList c))):=by
 have HC:=zH hci;clear hci;go_enter Tryz.func95,Tryz.ntmps95;go_wp2_with fail;go_loop [5] (fun i=>∃k:Nat,k<=s.size/\i=.int .i64 k/\Hid (c∉s.data.toList.take k)) (fun i=>s.size-(intOf i).toNat)
 case atStart=>exact⟨0,by omega,rfl,by show _∉_;simp⟩
 case round =>
  obtain ⟨k,hk,rfl,hn⟩:=hrel
  by_cases hlt:k<s.size
  ·have hcb:(s[k].toNat:Int)<256:=by have:=s[k].toNat_lt;omega
   by_cases he:s[k]=c
   ·have hf:Hid (hasB s.data.toList c=true):=by show _=_;rw[<-he];exact decide_eq_true (Pf hlt)
    have he':((s[k].toNat:Int) == ci)=true:=by rw[HC.out,he];exact beq_self_eq_true _
    clear he;go_wp2_with fail;go_ret;exact aH.mk (gU (by rw[hf.out])) (Ext.refl _)
   ·have Vq:Hid (c∉s.data.toList.take (k+1)):=by
     show _∉_;rw [FT s k hlt,List.mem_append,not_or];exact ⟨hn.out,by simpa using fun h=>he h.symm⟩
    have he':((s[k].toNat:Int) == ci)=false:=by
     rw [HC.out,beq_eq_false_iff_ne];exact fun h=>he (UInt8.toNat_inj.1 (by omega))
    clear he;go_wp2_with fail;go_round
    case rel=>exact⟨k+1,by omega,by go_num,Vq⟩
    case measure=>simp[intOf];omega
  ·obtain rfl:k=s.size:=by omega
   have hf:Hid (hasB s.data.toList c=false):=by
    show _=_;have:=hn.out;rw [List.take_of_length_le (by simp)]at this;exact decide_eq_false this
   go_wp2_with fail;go_ret;exact aH.mk (gU (by rw[hf.out])) (Ext.refl _)
theorem xa {l:List UInt8} (h0:¬l=[]) (h1:¬l=[46]) (h2:¬l=[46,46]):cj l=if hasB l 47=true\/hasB l 0=true then 1 else if 255<l.length then 13 else 0:=by
 unfold cj;simp[h0,h1,h2]
theorem CS (s:ByteArray) (hs:s.size<=1000000) (w:World):Calls Tryz.prog 147 #[.string s] w (aH w (.int .i64 (cj s.data.toList))):=by
 by_cases h0:s.data.toList=[]
 ·have hf:Hid (cj s.data.toList=1):=by show _=_;unfold cj;rw[if_pos (.inl h0)]
  have e:s.toList=[]:=by rw[ByteArray.toList_eq];exact h0
  clear h0;go_enter Tryz.func147,Tryz.ntmps147;go_wp2_with fail;go_ret;exact aH.mk (aB (by rw[hf.out])) (Ext.refl _)
 ·by_cases h1 : s.data.toList=[46]
  ·have hf:Hid (cj s.data.toList=1):=by show _=_;unfold cj;rw[if_pos (.inr (.inl h1))]
   have e:s.toList=[46]:=by rw[ByteArray.toList_eq];exact h1
   clear h0 h1;go_enter Tryz.func147,Tryz.ntmps147;go_wp2_with fail;go_ret;exact aH.mk (aB (by rw[hf.out])) (Ext.refl _)
  ·by_cases h2:s.data.toList=[46,46]
   ·have hf:Hid (cj s.data.toList=1):=by show _=_;unfold cj;rw[if_pos (.inr (.inr (.inl h2)))]
    have e:s.toList=[46,46]:=by rw[ByteArray.toList_eq];exact h2
    clear h0 h1 h2;go_enter Tryz.func147,Tryz.ntmps147;go_wp2_with fail;go_ret;exact aH.mk (aB (by rw[hf.out])) (Ext.refl _)
   ·have hk:=xa h0 h1 h2
    have e0:s.toList.isEmpty=false:=by rw[ByteArray.toList_eq,List.isEmpty_eq_false_iff];exact h0
    have e1:(s.toList == [46])=false:=by rw[ByteArray.toList_eq];exact beq_eq_false_iff_ne.2 h1
    have e2:(s.toList == [46,46])=false:=by rw[ByteArray.toList_eq];exact beq_eq_false_iff_ne.2 h2
    clear h0 h1 h2;have hsz:s.data.toList.length=s.size:=by simp
    rw [hsz]at hk
    cases hb:hasB s.data.toList 47 with
    | true =>
     have hf:Hid (cj s.data.toList=1):=by show _=_;rw[hk,if_pos (.inl hb)]
     have HB:=zH hb;clear hk hb hsz;go_enter Tryz.func147,Tryz.ntmps147;go_wp2_with fail;refine (gj _ 47 _ (by rfl) hs _).mono ?_;rintro e w1 ⟨rfl,b1⟩;rw [HB.out];go_wp2_with fail;go_ret;exact aH.mk (aB (by rw[hf.out])) b1
    | false =>
     cases hc:hasB s.data.toList 0 with
     | true =>
      have hf:Hid (cj s.data.toList=1):=by show _=_;rw[hk,if_pos (.inr hc)]
      have HB:=zH hb;have HC:=zH hc;clear hk hb hc hsz;go_enter Tryz.func147,Tryz.ntmps147;go_wp2_with fail;refine (gj _ 47 _ (by rfl) hs _).mono ?_;rintro e w1 ⟨rfl,b1⟩;rw [HB.out];go_wp2_with fail;refine (gj _ 0 _ (by rfl) hs _).mono ?_;rintro e w2 ⟨rfl,b2⟩;rw [HC.out];go_wp2_with fail;go_ret;exact aH.mk (aB (by rw[hf.out])) (b1.trans b2)
     | false =>
      have hf:Hid (cj s.data.toList=if 255<s.size then 13 else 0):=by show _=_;rw[hk,if_neg (by rw[hb,hc];simp)]
      have HB:=zH hb;have HC:=zH hc;clear hk hb hc hsz
      by_cases h:255<s.size
      ·rw [if_pos h]at hf
       go_enter Tryz.func147,Tryz.ntmps147;go_wp2_with fail;refine (gj _ 47 _ (by rfl) hs _).mono ?_;rintro e w1 ⟨rfl,b1⟩;rw [HB.out];go_wp2_with fail;refine (gj _ 0 _ (by rfl) hs _).mono ?_;rintro e w2 ⟨rfl,b2⟩;rw [HC.out];go_wp2_with fail;go_ret;exact aH.mk (aB (by rw[hf.out])) (b1.trans b2)
      ·rw [if_neg h]at hf
       go_enter Tryz.func147,Tryz.ntmps147;go_wp2_with fail;refine (gj _ 47 _ (by rfl) hs _).mono ?_;rintro e w1 ⟨rfl,b1⟩;rw [HB.out];go_wp2_with fail;refine (gj _ 0 _ (by rfl) hs _).mono ?_;rintro e w2 ⟨rfl,b2⟩;rw [HC.out];go_wp2_with fail;go_ret;exact aH.mk (aB (by rw[hf.out])) (b1.trans b2)
structure rV where
 dir:Int
 name:List UInt8
 kind:Int
 mode:Int
 uid:Int
 gid:Int
 data:List UInt8
 n : Int
def aO (l:List ax) (nm:List UInt8):Int:=match l.find? (fun x=>x.1 == nm) with|some x=>x.2|none=>0
def SF (S:ac) (it:rV):Int:=1+it.dir % 18446744073709551616 % S.last
def SG (S:ac) (it:rV):Bool:=
 decide ((aa S.nodes (SF S it)).kind=1)&&decide (1<=it.kind)&&decide (it.kind<=3)&&decide (cj it.name=0)&&decide (aO (aa S.nodes (SF S it)).ae it.name=0)
def Rh (S:ac) (it:rV):ai:=
 { ag with dev:=(aa S.nodes (SF S it)).dev,kind:=it.kind,mode:=it.mode % 1024,uid:=it.uid,gid:=it.gid,ah:=1,up:=if it.kind=1 then SF S it else 0,data:=if it.kind=1 then [] else it.data}
def Wu (S:ac) (it:rV):ac:=
 if it.kind=4 then ct S (SF S it) it.n it.n
 else if SG S it=true then
  if eO S (Rh S it)=0 then aK (bj S (Rh S it)) {aa S.nodes (SF S it) with ae:=dk (aa S.nodes (SF S it)).ae (it.name,S.last+1)} else S
 else S
def Pg (S:ac) (l:List rV):ac:=l.foldl Wu S
structure Good (S:ac):Prop where
 aC:aI S.nodes S.last
 last:1<=S.last
 af:0<S.af.length
 eight:S.af.length<=8
 roots:h_ S.af
 count:S.nodes.length<=S.last
 mF:∀n∈S.nodes,iR n.ae
 small:∀n∈S.nodes,n.ae.length<=S.last
theorem rW {S:ac} {a b n:Int} (h:cX S a b n=0):S.af.length<8/\cA b n=true:=by
 unfold cX at h;split at h
 ·cases h
 ·split at h
  ·cases h
  ·split at h
   ·cases h
   ·split at h
    ·cases h
    ·rename_i h1
     rw [not_or]at h1;exact ⟨by omega,by simpa using h1.2⟩
theorem CT {ds:List eC} (h:h_ ds) (d:Int) (q:dH) (hq:ma q):h_ (ja ds d q):=by
 intro x hx;unfold ja at hx;obtain ⟨i,hi,rfl⟩:=List.getElem_of_mem hx;rw [List.length_modify]at hi;rw [List.getElem_modify];have:=h _ (List.getElem_mem hi);split
 ·exact⟨this.1,hq⟩
 ·exact this
theorem Ar {ns:List ai} {n m:ai} (h:m∈bn ns n):m∈ns\/m=n:=by
 unfold bn at h;obtain ⟨x,hx,e⟩:=List.mem_map.1 h;split at e
 ·exact .inr e.symm
 ·exact .inl (by rw[<-e];exact hx)
theorem CU {b n:Int} (hl:cA b n=true):Good (cr cE 0 b n):=by
 refine ⟨(aI.nil 0).add (bo cE) rfl (by decide),show (1:Int)<=1 by decide,show 0<1 by decide,show 1<=8 by decide,?_,show ((1:Nat):Int)<=1 by decide,?_,?_⟩
 ·intro d hd
  rcases fH b n with⟨h1,h2,h3,h4,_⟩|⟨h0,_⟩
  ·simp [cr,cE]at hd
   subst hd;exact ⟨show (0:Int)<1 by decide,show (0:Int)<=1 by decide,show (0:Int)<=1 by decide,h1,h3,h2,h4⟩
  ·rw[h0]at hl;cases hl
 ·intro m hm
  simp [cr,cE]at hm;subst hm;exact List.Pairwise.nil
 ·intro m hm
  simp [cr,cE]at hm;subst hm;show ((0:Nat):Int)<=1;decide
theorem lK (A:Option Addr) (l:List ax) (cap:Nat) (nm:List UInt8) (w:World) (h:bU w A l) (hlen:l.length<=2000000):Calls Tryz.prog 13 #[.slice A l.length cap,bs nm] w (aH w (.int .i64 (aO l nm))):=by
 obtain⟨n,hn⟩:=ar l.length;rw [<-hn]at hlen|-;have HN:=zH hn;clear hn;go_enter Tryz.func13,Tryz.ntmps13;go_wp2_with fail;go_loop [5] (fun i=>∃k:Nat,k<=n/\i=.int .i64 k/\Hid (∀x∈l.take k,(x.1 == nm)=false)) (fun i=>n-(intOf i).toNat)
 case atStart=>exact⟨0,Nat.zero_le _,rfl,fun x hx=>by simp at hx⟩
 case round =>
  obtain ⟨k,hk,rfl,ha⟩:=hrel
  by_cases hlt:(k:Int)<n
  ·have dq:k<l.length:=by have:=HN.out;omega
   obtain ⟨b,o,rfl,vQ,ca,cb⟩:=h.at_ (Ext.refl w) k dq
   generalize hx:l[k]=x at ca cb
   have e1:((bs x.1).toList == (bs nm).toList)=(x.1 == nm):=by rw[bk,bk]
   cases hq:(x.1 == nm)
   ·rw [hq]at e1
    have Jh:Hid (∀y∈l.take (k+1),(y.1 == nm)=false):=by
     show ∀y∈l.take (k+1),(y.1 == nm)=false;intro y hy;rw [List.take_succ_eq_append_getElem dq,List.mem_append]at hy;rcases hy with hy|hy
     ·exact ha.out y hy
     ·rw[List.mem_singleton.1 hy,hx];exact hq
    clear hx hq;go_wp2_with fail;go_round
    case rel=>exact⟨k+1,by omega,by go_num,Jh⟩
    case measure=>simp[intOf];omega
   ·rw [hq]at e1
    have hf:Hid (aO l nm=x.2):=by
     show _=_;unfold aO;have:l.find? (fun y=>y.1 == nm)=some l[k]:=by
      rw [List.find?_eq_some_iff_getElem];refine ⟨by rw[hx];exact hq,k,dq,rfl,fun j hj=>?_⟩;have:=ha.out l[j] (by rw[List.mem_take_iff_getElem];exact⟨j,by omega,rfl⟩);rw [this];rfl
     rw [this,hx]
    clear hx hq;go_wp2_with fail;go_ret;exact aH.mk (aB hf.out.symm) (Ext.refl _)
  ·have hf:Hid (aO l nm=0):=by
    show _=_;unfold aO;have:l.find? (fun y=>y.1 == nm)=none:=by
     rw [List.find?_eq_none];intro x hx;have:=ha.out x (by rw[List.take_of_length_le (by have:=HN.out;omega)];exact hx);simpa using this
    rw [this]
   go_wp2_with fail;go_ret;exact aH.mk (aB hf.out.symm) (Ext.refl _)
theorem Au (A:Option Addr) (l:List ax) (cap:Nat) (x:ax) (w:World) (h:bU w A l) (hlen:l.length<=1000000):Calls Tryz.prog 121 #[.slice A l.length cap,bs x.1,.int .i64 x.2] w (Jl w (dk l x)):=by
 obtain⟨n,hn⟩:=ar l.length;rw [<-hn]at hlen|-;have HN:=zH hn;clear hn;obtain ⟨i0,hi,hz0,hz1,hz2⟩:=info_parts ki;go_enter Tryz.func121,Tryz.ntmps121;go_wp2_with fail;go_loopw [7,8] (fun u i wr=>∃k:Nat,k<=n/\i=.int .i64 k/\dY wr w.heap.size u ((l.take k).filter fun y=>bl y.1 x.1)/\Ext w wr) (fun _ i _=>n-(intOf i).toNat)
 case atStart=>exact⟨0,Nat.zero_le _,rfl,⟨rfl,.inl ⟨rfl,rfl⟩⟩,Ext.refl _⟩
 case round =>
  obtain ⟨k,hk,rfl,hown,hE⟩:=hrel
  by_cases hlt:(k:Int)<n
  ·have dq:k<l.length:=by have:=HN.out;omega
   have hs:=rQ dq fun y=>bl y.1 x.1
   have Jm:=oU l k fun y=>bl y.1 x.1
   obtain ⟨b,o,rfl,vQ,ca,cb⟩:=h.at_ hE k dq
   generalize l[k]=z at ca cb hs
   have e1:Go.Op.bytesLess (bs z.1).toList (bs x.1).toList=bl z.1 x.1:=by rw[bk,bk]
   obtain⟨P,hP⟩:=ar ((l.take k).filter fun y=>bl y.1 x.1)
   rw [<-hP]at hown hs Jm;have g2:(0:Int)<=(k:Int):=by omega
   cases hq:bl z.1 x.1
   ·rw [hq]at e1
    have hs2:Hid ((l.take (k+1)).filter (fun y=>bl y.1 x.1)=P):=by show _=_;rw[hs,hq];simp
    clear hs hq hP;go_wp2_with fail;go_roundw
    case rel=>exact⟨k+1,by omega,by go_num,by rw[hs2.out];exact hown,hE⟩
    case measure=>simp[intOf];omega
   ·rw [hq]at e1
    have hs2:Hid ((l.take (k+1)).filter (fun y=>bl y.1 x.1)=P++[z]):=by show _=_;rw[hs,hq];rfl
    clear hs hq hP;unfold dY at hown;go_wp2_with (at_builtin;refine wpList_append_own _ rfl _ _ 56 rfl w.heap.size 106 i0 (.agg #[.string ⟨#[]⟩,.int .i64 0]) 2 24 Tryz.underlying56 hi hz0 hz1 hz2 rfl (by decide) _ _ _ rfl (hown.alloc _) ⟨wr.heap.size,0,none⟩ 1 1 (au [z]) rfl rfl (pI wr z) (dw [z]) (by unfold maxLen;omega) (by omega) (by have:=hE.size;simp;omega) ?_);intro v' w2 gQ hgrow _;obtain ⟨mL,lj⟩:=ye hown hE gQ hgrow;clear gQ hgrow hown;have v_:=zH mL;clear mL;go_wp2_with fail;go_roundw
    case rel=>exact⟨k+1,by omega,by go_num,by rw[hs2.out];exact v_.out,lj⟩
    case measure=>simp[intOf];omega
  ·have JW : k=n:=by omega
   have hf:Hid ((l.take k).filter (fun y=>bl y.1 x.1)=iw l x.1):=by show _=_;rw[JW,HN.out,List.take_length];rfl
   have Jm:=oU l k fun y=>bl y.1 x.1
   obtain⟨P,hP⟩:=ar ((l.take k).filter fun y=>bl y.1 x.1)
   rw [<-hP]at hown Jm hf;clear hP hlt;unfold dY at hown;go_wp2_with (at_builtin;refine wpList_append_own _ rfl _ _ 56 rfl w.heap.size 106 i0 (.agg #[.string ⟨#[]⟩,.int .i64 0]) 2 24 Tryz.underlying56 hi hz0 hz1 hz2 rfl (by decide) _ _ _ rfl (hown.alloc _) ⟨wr.heap.size,0,none⟩ 1 1 (au [x]) rfl rfl (pI wr x) (dw [x]) (by unfold maxLen;omega) (by omega) (by have:=hE.size;simp;omega) ?_);intro v1 wa hown1 JX _;obtain ⟨hoa,Pj⟩:=ye hown hE hown1 JX;clear hown1 JX hown JW;have HOA:=zH hoa;have HEA:=zH Pj;clear hoa Pj;go_wp2_with fail;go_loopw [7,9] (fun u i wr=>∃k:Nat,k<=n/\i=.int .i64 k/\dY wr w.heap.size u ((P++[x])++(l.take k).filter fun y=>bl x.1 y.1)/\Ext w wr) (fun _ i _=>n-(intOf i).toNat)
   case atStart=>exact⟨0,Nat.zero_le _,rfl,by simpa using HOA.out,HEA.out⟩
   case round =>
    obtain ⟨q,hq,rfl,hown,lj⟩:=hrel
    by_cases hlt:(q:Int)<n
    ·have hql:q<l.length:=by have:=HN.out;omega
     have hs:=rQ hql fun y=>bl x.1 y.1
     have ab3:=oU l q fun y=>bl x.1 y.1
     obtain ⟨b,o,rfl,vQ,ca,cb⟩:=h.at_ lj q hql
     generalize l[q]=z at ca cb hs
     obtain⟨R,hR⟩:=ar (P++[x]++(l.take q).filter fun y=>bl x.1 y.1)
     have EC:R.length<=2000001:=by rw[hR,List.length_append,List.length_append];simp;omega
     rw [<-hR]at hown;have g2:(0:Int)<=(q:Int):=by omega
     obtain ⟨t1,t2,t3,ht1,ht2,ht3,JB⟩:∃t1 t2 t3:Bool,bl z.1 x.1=t1/\(z.1 == x.1)=t2/\bl x.1 z.1=t3/\((t1=true/\t2=false/\t3=false)\/(t1=false/\t2=true/\t3=false)\/(t1=false/\t2=false/\t3=true)):=by
      refine ⟨_,_,_,rfl,rfl,rfl,?_⟩;rcases l8 z.1 x.1 with h|h|h
      ·refine .inl ⟨h,?_,fA h⟩
       rw [beq_eq_false_iff_ne];intro e;rw[e,cH]at h;cases h
      ·rw[h];exact .inr (.inl ⟨cH _,beq_self_eq_true _,cH _⟩)
      ·refine .inr (.inr ⟨fA h,?_,h⟩)
       rw [beq_eq_false_iff_ne];intro e;rw[e,cH]at h;cases h
     have e1:Go.Op.bytesLess (bs z.1).toList (bs x.1).toList=t1:=by rw[bk,bk];exact ht1
     have e2:((bs z.1).toList == (bs x.1).toList)=t2:=by rw[bk,bk];exact ht2
     have hs2:Hid (P++[x]++(l.take (q+1)).filter (fun y=>bl x.1 y.1)=R++if t3=true then [z] else []):=by
      show _=_;rw [hs,ht3,hR,<-List.append_assoc]
     clear ht1 ht2 ht3 hs hR;have Gh:=hq;rcases JB with⟨rfl,rfl,rfl⟩|⟨rfl,rfl,rfl⟩|⟨rfl,rfl,rfl⟩
     ·go_wp2_with fail
      go_roundw
      case rel=>exact⟨q+1,by omega,by go_num,by rw[hs2.out];simpa using hown,lj⟩
      case measure=>simp[intOf];omega
     ·go_wp2_with fail
      go_roundw
      case rel=>exact⟨q+1,by omega,by go_num,by rw[hs2.out];simpa using hown,lj⟩
      case measure=>simp[intOf];omega
     ·unfold dY at hown
      go_wp2_with (at_builtin;refine wpList_append_own _ rfl _ _ 56 rfl w.heap.size 106 i0 (.agg #[.string ⟨#[]⟩,.int .i64 0]) 2 24 Tryz.underlying56 hi hz0 hz1 hz2 rfl (by decide) _ _ _ rfl (hown.alloc _) ⟨wr.heap.size,0,none⟩ 1 1 (au [z]) rfl rfl (pI wr z) (dw [z]) (by unfold maxLen;omega) (by omega) (by have:=lj.size;simp;omega) ?_);intro v' w2 gQ hgrow _;obtain ⟨mL,mG⟩:=ye hown lj gQ hgrow;clear gQ hgrow hown;have v_:=zH mL;clear mL;go_wp2_with fail;go_roundw
      case rel=>exact⟨q+1,by omega,by go_num,by rw[hs2.out];simpa using v_.out,mG⟩
      case measure=>simp[intOf];omega
    ·have tU:q=n:=by omega
     have JA:Hid (P++[x]++(l.take q).filter (fun y=>bl x.1 y.1)=dk l x):=by
      show _=_;rw [tU,HN.out,List.take_length,hf.out];rfl
     clear tU;go_wp2_with fail;go_ret;exact ⟨_,rfl,by rw[<-JA.out];exact hown,lj⟩
theorem jd (n:Int):IntKind.u64.wrap n=n % 18446744073709551616:=by
 exact IntKind.wrap_u64 n
end Go.Proofs.YtblbohcaphcobaaGreatDoor
