import Derived.Test.YtpibnfdolojpcaaGreatBunB
import Derived.Test.YtpibnfdolojpcaaGreatBunA
import Derived.StillTail
import Derived.Deep.Quiet
import Derived.OrdersHeld
import Derived.Deep.QuietTactic
import Derived.Deep.Cut
import Derived.Deep.DeepCutAuto
set_option maxHeartbeats 8000000
set_option maxRecDepth 100000
namespace Go.Proofs.YtpibnfdolojpcaaGreat
open Go.Proofs.Tryz
variable {w w':World} {B i bF bN g b c:Nat} {S:ag} {a:Act} {ns:List ak} {v vD:Value} {last:Int} {n:ak} {xs:List Value} {t:TypeId} {A:Option Addr} {P:Program}
section
open Go.ChangeShapes Go.WideShapes Go.ChangeAt Go.RowKit
structure cY where
 now:Int
 count:Value
 plan:Value
 dead:Value
structure cI where
 bF:Nat
 bN:Nat
 bE:Nat
abbrev cI.list (g:cI):List Nat:=[g.bF,g.bN,g.bE]
def fI (w:World) (B:Nat) (xs:List Value) (ns:List ak):Prop:=
 xs.length=ns.length*12/\∀k,(h:k<ns.length)->∃A c,aD w B ns[k] A c/\∀j v,(gu ns[k] A c)[j]?=some v->xs[k*12+j]?=some v
theorem fI.only {w w':World} {B:Nat} {xs:List Value} {ns:List ak} {L:List Nat} (h:fI w B xs ns) (o:Only L w w') (ha:dE w B L):fI w' B xs ns:=
 ⟨h.1,fun k hk=>by obtain⟨A,c,h1,h2⟩:=h.2 k hk;exact⟨A,c,h1.only o ha,h2⟩⟩
def Gl (w:World) (B:Nat) (v:Value) (ns:List ak):Prop:=∃xs,w.ownsRow B 66 12 v ns.length xs/\fI w B xs ns
def gv (w:World) (B:Nat) (g:cI) (S:ag) (X:cY):Prop:=
 B <= g.bF/\∃cn ce,Has w g.bF (.cells #[.slice (some g.bN) S.nodes.length cn,.slice (some g.bE) S.ae.length ce,S.last,X.now,X.count,X.plan,X.dead] 78) /\
  Gl w B (.slice (some g.bN) S.nodes.length cn) S.nodes/\fg w B 191 (.slice (some g.bE) S.ae.length ce) S.ae
theorem cQ {size n cap:Nat} (h:w.ownsRow B t size (.slice (some g) n cap) n xs):B<=g/\∃cur,Has w g (.cells cur t):=by
 rcases h.2 with⟨h0,_⟩|⟨g',cap',cur,h0,hb,hg,_⟩
 ·cases h0
 ·injection h0 with h0
  injection h0 with h0;injection h0 with h0;subst h0;exact⟨hb,cur,hg⟩
theorem gv.apart {g:cI} {X:cY} (h:gv w B g S X):dE w B g.list:=by
 obtain⟨h1,cn,ce,h2,⟨xs,h3,_⟩,h4⟩:=h;obtain⟨k1,EB,k2⟩:=cQ h3;obtain⟨k3,NW,k4⟩:=cQ h4;intro b hb;simp only[cI.list,aR,bg,bh]at hb;rcases hb with rfl|rfl|rfl
 ·exact⟨h1,h2.fV (by decide)⟩
 ·exact⟨k1,k2.fV (by decide)⟩
 ·exact⟨k3,k4.fV (by decide)⟩
theorem gv.lt {g:cI} {X:cY} (h:gv w B g S X):g.bF<w.heap.size/\g.bN<w.heap.size/\g.bE<w.heap.size:=by
 obtain⟨h1,cn,ce,h2,⟨xs,h3,_⟩,h4⟩:=h;obtain⟨k1,EB,k2⟩:=cQ h3;obtain⟨k3,NW,k4⟩:=cQ h4;exact⟨h2.lt,k2.lt,k4.lt⟩
theorem gv.ne {g:cI} {X:cY} (h:gv w B g S X):g.bF≠g.bN/\g.bF≠g.bE/\g.bN≠g.bE:=by
 obtain⟨h1,cn,ce,h2,⟨xs,h3,_⟩,h4⟩:=h;obtain⟨k1,EB,k2⟩:=cQ h3;obtain⟨k3,NW,k4⟩:=cQ h4;exact⟨iL h2 k2 (by decide),iL h2 k4 (by decide),iL k2 k4 (by decide)⟩
theorem gv.only {w w':World} {B:Nat} {g:cI} {S:ag} {X:cY} {L:List Nat} (h:gv w B g S X) (o:Only L w w') (ha:dE w B L) (hn:∀b∈g.list,b∉L):gv w' B g S X:=by
 obtain⟨h1,cn,ce,h2,⟨xs,h3,h5⟩,h4⟩:=h;refine⟨h1,cn,ce,o.has h2 (hn _ (by simp)),⟨xs,av h3 o fun b hb=>?_,h5.only o ha⟩,av h4 o fun b hb=>?_⟩
 ·injection hb with hb;subst hb;exact hn _ (by simp)
 ·injection hb with hb;subst hb;exact hn _ (by simp)
theorem gv.ext {g:cI} {X:cY} (h:gv w B g S X) (o:Ext w w'):gv w' B g S X:=h.only (Only.az (L:=[]) o) (fun b hb=>by cases hb) (by simp)
theorem eL.aaf {g:dL} {f:cI} {T:ag} {X:cY} (h:eL w B g S) (k:gv w B f T X):∀b∈g.list,b∉f.list:=by
 obtain⟨h1,⟨_,_,h2,es,cl,h3,_⟩,cd,h4,h5⟩:=h;obtain⟨_,cur,h6⟩:=h5.has;obtain⟨j1,cn,ce,j2,⟨xs,j3,_⟩,j4⟩:=k;obtain⟨k1,EB,k2⟩:=cQ j3;obtain⟨k3,NW,k4⟩:=cQ j4;intro b hb;simp only[dL.list,aR,bg,bh]at hb;simp only[cI.list,aR,bg,bh,not_or];rcases hb with rfl|rfl|rfl|rfl
 ·exact⟨iL h4 j2 (by decide),iL h4 k2 (by decide),iL h4 k4 (by decide)⟩
 ·exact⟨iL h2 j2 (by decide),iL h2 k2 (by decide),iL h2 k4 (by decide)⟩
 ·exact⟨(ow j2 h3).symm,(ow k2 h3).symm,(ow k4 h3).symm⟩
 ·exact⟨iL h6 j2 (by decide),iL h6 k2 (by decide),iL h6 k4 (by decide)⟩
def FN (w:World) (B bF bN:Nat) (vD:Value) (ns:List ak) (last:Int) (X:cY):Prop:=
 B<=bF/\∃cn,Has w bF (.cells #[.slice (some bN) ns.length cn,vD,last,X.now,X.count,X.plan,X.dead] 78)/\Gl w B (.slice (some bN) ns.length cn) ns
theorem gv.fn {g:cI} {X:cY} (h:gv w B g S X):∃ce,FN w B g.bF g.bN (.slice (some g.bE) S.ae.length ce) S.nodes S.last X/\fg w B 191 (.slice (some g.bE) S.ae.length ce) S.ae:=by
 obtain⟨h1,cn,ce,h2,h3,h4⟩:=h;exact⟨ce,⟨h1,cn,h2,h3⟩,h4⟩
theorem FN.mk {bE ce:Nat} {X:cY} (h:FN w B bF bN (.slice (some bE) S.ae.length ce) S.nodes S.last X) (k:fg w B 191 (.slice (some bE) S.ae.length ce) S.ae):gv w B ⟨bF,bN,bE⟩ S X:=by
 obtain⟨h1,cn,h2,h3⟩:=h;exact⟨h1,cn,ce,h2,h3,k⟩
theorem FN.lt {X:cY} (h:FN w B bF bN vD ns last X):bF<w.heap.size/\bN<w.heap.size:=by
 obtain⟨h1,cn,h2,⟨xs,h3,_⟩⟩:=h;obtain⟨k1,EB,k2⟩:=cQ h3;exact⟨h2.lt,k2.lt⟩
theorem FN.ne {X:cY} (h:FN w B bF bN vD ns last X):bF≠bN:=by
 obtain⟨h1,cn,h2,⟨xs,h3,_⟩⟩:=h;obtain⟨k1,EB,k2⟩:=cQ h3;exact iL h2 k2 (by decide)
theorem FN.apart {X:cY} (h:FN w B bF bN vD ns last X):dE w B [bF,bN]:=by
 obtain⟨h1,cn,h2,⟨xs,h3,_⟩⟩:=h;obtain⟨k1,EB,k2⟩:=cQ h3;intro b hb;simp only[aR,bg,bh]at hb;rcases hb with rfl|rfl
 ·exact⟨h1,h2.fV (by decide)⟩
 ·exact⟨k1,k2.fV (by decide)⟩
theorem FN.only {w w':World} {B bF bN:Nat} {vD:Value} {ns:List ak} {last:Int} {X:cY} {L:List Nat} (h:FN w B bF bN vD ns last X) (o:Only L w w') (ha:dE w B L) (h1:bF∉L) (h2:bN∉L):FN w' B bF bN vD ns last X:=by
 obtain⟨k1,cn,k2,⟨xs,k3,k4⟩⟩:=h;exact⟨k1,cn,o.has k2 h1,xs,av k3 o fun b hb=>(by injection hb with hb;subst hb;exact h2),k4.only o ha⟩
theorem FN.ext {X:cY} (h:FN w B bF bN vD ns last X) (o:Ext w w'):FN w' B bF bN vD ns last X:=h.only (Only.az (L:=[]) o) (fun b hb=>by cases hb) (by simp) (by simp)
theorem gv.no {w:World} {B bN:Nat} {ns:List ak} {cn:Nat} {xs:List Value} (h:w.ownsRow B 66 12 (.slice (some bN) ns.length cn) ns.length xs) (hx:fI w B xs ns) (k:Nat) (hk:k<ns.length):w.cell? (bN,k*12)=some (.int .i64 ns[k].no):=by
 obtain⟨A,c,_,h2⟩:=hx.2 k hk;rw[h.cellAt (k*12) (by omega)];exact h2 0 _ rfl
theorem Sm {no:Int}:aW ns no=false↔∀k,(h:k<ns.length)->ns[k].no≠no:=by
 constructor
 ·intro h k hk e
  exact (aP h).2 _ (jh hk) e
 ·intro h
  cases e:aW ns no
  ·rfl
  ·obtain ⟨k,hk,e2⟩:=qh.1 e
   exact absurd e2 (h k hk)
def AtR (w:World) (ns:List ak) (no:Int) (e:Ending) (w':World):Prop:=
 w'=w/\((aW ns no=false/\e=.returned (.int .i64 (-1)))\/(∃k:Nat,∃hk:k<ns.length,ns[k].no=no/\aW ns no=true/\e=.returned (.int .i64 k)))
theorem yH (B bF bN:Nat) (vD:Value) (ns:List ak) (last:Int) (X:cY) (no:Int) (w:World) (h:FN w B bF bN vD ns last X) (hl:ns.length<=1000000):Calls prog 57 #[((),bF),no] w (AtR w ns no):=by
 obtain⟨h1,cn,h2,⟨xs,h3,h5⟩⟩:=h;have hF:=h2.lt;have c0:=h2.cell 0;simp only[gA,gB]at c0;obtain⟨n,hn⟩:=ai ns.length;rw[<-hn]at c0 hl;have HN:=zH hn;clear hn;go_in;go_wp2_with fail;go_loop [5] (fun i=>∃k:Nat,k<=n/\i=.int .i64 k/\Hid (∀j,(hj:j<ns.length)->j<k->ns[j].no≠no)) (fun i=>n-(intOf i).toNat)
 case atStart=>exact⟨0,bC _,rfl,fun j _ h=>by omega⟩
 case round =>
  obtain⟨k,hk,rfl,ha⟩:=hrel
  by_cases hlt:(k:Int)<n
  ·have dN:k<ns.length:=by have:=HN.o;omega
   have d0:=gv.no h3 h5 k dN
   generalize hx:ns[k]=x at d0
   by_cases he:x.no=no
   ·have hb:(x.no == no)=true:=by simpa using he
    have HX:=zH hx;have HE:=zH he;clear hx he;go_wp2;go_ret;exact⟨rfl,.inr ⟨k,dN,by rw[HX.o];exact HE.o,qh.2 ⟨k,dN,by rw[HX.o];exact HE.o⟩,rfl⟩⟩
   ·have Gd:Hid (∀j,(hj:j<ns.length)->j<k+1->ns[j].no≠no):=by
     show ∀j,(hj:j<ns.length)->j<k+1->ns[j].no≠no;intro j hj xL
     by_cases e:j=k
     ·subst e;rw[hx];exact he
     ·exact ha.o j hj (by omega)
    have hb:(x.no == no)=false:=by simpa using he
    clear hx he;go_wp2_with fail;go_round
    case rel=>exact⟨k+1,by omega,by go_num,Gd⟩
    case measure=>simp[intOf];omega
  ·have hf:Hid (aW ns no=false):=Sm.2 fun j hj=>ha.o j hj (by have:=HN.o;omega)
   go_wp2;go_ret;exact⟨rfl,.inl ⟨hf.o,rfl⟩⟩
def sets (xs:List Value) (o:Nat):List Value->List Value
 | []=>xs
 | v::vs=>sets (xs.set o v) (o+1) vs
theorem Sn (vs:List Value):∀(xs:List Value) (o:Nat),(sets xs o vs).length=xs.length:=by
 induction vs with
 | nil=>intro xs o;rfl
 | cons v vs ih=>intro xs o;rw[sets,ih,tE]
theorem Gm (vs:List Value):∀(xs:List Value) (o i:Nat),(i<o\/o+vs.length<=i)->(sets xs o vs)[i]?=xs[i]?:=by
 induction vs with
 | nil=>intro xs o i _;rfl
 | cons v vs ih =>
  intro xs o i h;simp only[bk]at h;rw[sets,ih _ _ _ (by omega),List.getElem?_set_ne (by omega)]
theorem WV (vs:List Value):∀(xs:List Value) (o j:Nat),j<vs.length->o+vs.length<=xs.length->(sets xs o vs)[o+j]?=vs[j]?:=by
 induction vs with
 | nil=>intro xs o j h;cases h
 | cons v vs ih =>
  intro xs o j hj hl;simp only[bk]at hj hl;rw[sets]
  cases j with
  | zero =>
   rw[Gm _ _ _ _ (by omega),zo,List.getElem?_set_self (by omega)];rfl
  | succ j =>
   have:=ih (xs.set o v) (o+1) j (by omega) (by rw[tE];omega);rw[show o+(j+1)=o+1+j by omega,this];simp
theorem wH {size n cap:Nat} {e:TypeId} (vs:List Value):∀(xs:List Value) (o:Nat) (w:World),w.ownsRow B e size (.slice (some g) n cap) n xs->(w.setCells g o vs).ownsRow B e size (.slice (some g) n cap) n (sets xs o vs):=by
 induction vs with
 | nil=>intro xs o w h;exact h
 | cons v vs ih=>intro xs o w h;exact ih _ _ _ (h.stored o v).1
theorem cr (vs:List Value):∀(o:Nat) (w:World),Only [g] w (w.setCells g o vs):=by
 induction vs with
 | nil=>intro o w;exact Only.refl _ _
 | cons v vs ih=>intro o w;exact (Only.setCell w g o v).then (ih _ _)
theorem fI.set {w:World} {B:Nat} {xs:List Value} {ns:List ak} (h:fI w B xs ns) {k:Nat} (hk:k<ns.length) {n:ak} {A:Option Addr} {c:Nat} (hn:aD w B n A c):fI w B (sets xs (k*12) (gu n A c)) (ns.set k n):=by
 have hl:(gu n A c).length=12:=rfl;refine⟨by rw[Sn,tE];exact h.1,fun i hi=>?_⟩;rw[tE]at hi
 by_cases e:k=i
 ·subst e
  rw [List.getElem_set_self];refine⟨A,c,hn,fun j v hj=>?_⟩;have xL:j<12:=by
   have:=(p6.1 hj).1
   rwa [hl]at this
  rw[WV _ _ _ _ (by rw[hl];exact xL) (by rw[hl,h.1];omega)];exact hj
 ·rw [List.getElem_set_ne e]
  obtain⟨A',c',h1,h2⟩:=h.2 i hi;refine⟨A',c',h1,fun j v hj=>?_⟩;have xL:j<12:=(p6.1 hj).1;rw[Gm _ _ _ _ (by rw[hl];omega)];exact h2 j v hj
theorem fI.range {cn:Nat} (h:w.ownsRow B 66 12 (.slice (some g) ns.length cn) ns.length xs) (hx:fI w B xs ns) (k:Nat) (hk:k<ns.length) :
  ∃ A c,aD w B ns[k] A c/\w.rangeAt g (k*12) (gu ns[k] A c):=by
 obtain⟨A,c,h1,h2⟩:=hx.2 k hk;refine⟨A,c,h1,fun j v hj=>?_⟩;have xL:j<12:=(p6.1 hj).1;rw[h.cellAt (k*12+j) (by omega)];exact h2 j v hj
theorem Gn:(prog.info? 66).map (fun i=>(i.zero,i.size,i.bytes))=some (some (.agg ()),12,120):=by kernel_rfl
theorem yI {o:Nat} (h:w.rangeAt b o (gu n A c)) :
  w.cell? (b,o)=some (.int .i64 n.no)/\w.cell? (b,o+1)=some (.int .i64 n.dev)/\w.cell? (b,o+2)=some (.int .i64 n.kind)/\w.cell? (b,o+3)=some (.int .i64 n.mode)/\w.cell? (b,o+4)=some (.int .i64 n.uid)/\w.cell? (b,o+5)=some (.int .i64 n.gid) /\
  w.cell? (b,o+6)=some (.int .i64 n.mtime)/\w.cell? (b,o+7)=some (.int .i64 n.ctime)/\w.cell? (b,o+8)=some (.int .i64 n.ar)/\w.cell? (b,o+9)=some (.int .i64 n.up)/\w.cell? (b,o+10)=some (.string (bs n.data))/\w.cell? (b,o+11)=some (.slice A n.ah.length c):=
 ⟨h 0 _ rfl,h 1 _ rfl,h 2 _ rfl,h 3 _ rfl,h 4 _ rfl,h 5 _ rfl,h 6 _ rfl,h 7 _ rfl,h 8 _ rfl,h 9 _ rfl,h 10 _ rfl,h 11 _ rfl⟩
def WW (w:World) (B:Nat) (ns:List ak) (no:Int) (e:Ending) (w':World):Prop:=
 ∃ A c,e=.returned (.agg #[.int .i64 (aa ns no).no,.int .i64 (aa ns no).dev,.int .i64 (aa ns no).kind,.int .i64 (aa ns no).mode,.int .i64 (aa ns no).uid,.int .i64 (aa ns no).gid,.int .i64 (aa ns no).mtime,.int .i64 (aa ns no).ctime,.int .i64 (aa ns no).ar,.int .i64 (aa ns no).up,.string (bs (aa ns no).data),.slice A (aa ns no).ah.length c])/\aD w' B (aa ns no) A c/\Ext w w'
theorem MC (B bF bN:Nat) (vD:Value) (ns:List ak) (last:Int) (X:cY) (no:Int) (w:World) (h:FN w B bF bN vD ns last X) (hl:ns.length<=1000000) (hu:aQ ns last):Calls prog 30 #[((),bF),no] w (WW w B ns no):=by
 have h0:=h;obtain⟨h1,cn,h2,⟨xs,h3,h5⟩⟩:=h;have c0:=h2.cell 0;simp only[gA,gB]at c0;have hF:=h2.lt;go_in;go_wp2_with fail;refine (yH B bF bN vD ns last X no _ (h0.ext ((Ext.refl _).alloc _)) hl).mono ?_;rintro e w1 ⟨rfl,⟨hi,rfl⟩|⟨k,hk,bB,hi,rfl⟩⟩
 ·have hz:=(aP hi).1
  have HZ:=zH hz;clear hz hi;go_wp2_with fail;refine aT (v:=.agg ()) (by simp[results,results30,go_sem]) rfl ⟨none,0,by rw[HZ.o];rfl,by rw[HZ.o];exact aD.zero _ _,?_⟩;exact (Ext.refl _).alloc _
 ·obtain ⟨A,c,ok,hr⟩:=fI.range h3 h5 k hk
  have hg:aa ns no=ns[k]:=by unfold aa;rw[<-bB,Ew hu hk];rfl
  obtain⟨m,hm⟩:=ai (ns[k]);rw[<-hm]at ok hr hg;obtain⟨d0,d1,d2,d3,d4,d5,d6,d7,d8,d9,d10,d11⟩:=yI hr;have hN:=h0.lt.2;have hneg:decide ((k:Int)<0)=false:=cG (by omega);have y0:(k:Int)<ns.length:=by omega
  have y1:(0:Int)<=(k:Int):=cO _;have HG:=zH hg;clear hg hm bB hi;go_wp2_with fail;refine aT (v:=.agg (m,A,c)) (by simp[results,results30,go_sem]) rfl ⟨A,c,by rw[HG.o],by rw[HG.o];exact ok.ext ((Ext.refl _).alloc _),?_⟩;exact (Ext.refl _).alloc _
theorem eE (B:Nat) (g:cI) (S:ag) (X:cY) (no:Int) (w:World) (h:gv w B g S X) (hl:S.nodes.length<=1000000) (hu:aQ S.nodes S.last):Calls prog 30 #[((),g.bF),no] w (WW w B S.nodes no):=by
 obtain⟨ce,h1,_⟩:=h.fn;exact MC B g.bF g.bN _ S.nodes S.last X no w h1 hl hu
theorem FN.setNode {X:cY} {k:Nat} (h:FN w B bF bN vD ns last X) (hk:k<ns.length) (hn:aD w B n A c):FN (w.setCells bN (k*12) (gu n A c)) B bF bN vD (ns.set k n) last X:=by
 have n1:=h.ne;have ha:=h.apart.sub (L':=[bN]) (by simp);have o:=cr (g:=bN) (gu n A c) (k*12) w;obtain⟨h1,cn,h2,⟨xs,h3,h5⟩⟩:=h;have hl:(ns.set k n).length=ns.length:=tE;refine⟨h1,cn,?_,⟨sets xs (k*12) (gu n A c),?_,(h5.set hk hn).only o ha⟩⟩
 ·simp only[hl];exact o.has h2 (by simpa using n1)
 ·simp only[hl];exact wH (gu n A c) xs (k*12) w h3
def Zb (w:World) (B bF bN:Nat) (vD:Value) (ns:List ak) (last:Int) (X:cY) (n:ak) (e:Ending) (w':World):Prop:=
 e = .returned (.tuple #[])/\FN w' B bF bN vD (cP ns n) last X/\Only [bN] w w'
theorem MD (B bF bN:Nat) (vD:Value) (ns:List ak) (last:Int) (X:cY) (n:ak) (A:Option Addr) (c:Nat) (w:World) (h:FN w B bF bN vD ns last X) (hl:ns.length<=1000000) (hu:aQ ns last) (hn:aD w B n A c):Calls prog 129 #[((),bF),.agg (n,A,c)] w (Zb w B bF bN vD ns last X n):=by
 obtain⟨W1,cA⟩:=ai (w.alloc (.cells (n,A,c) 66));have E1:Ext w W1:=by rw[cA];exact (Ext.refl _).alloc _
 have B1:Has W1 w.heap.size (.cells (n,A,c) 66):=by rw[cA];exact Has.new _ _
 have hF1:=h.ext E1;go_in;go_wp2_with fail;rw[<-cA];refine (yH B bF bN vD ns last X n.no W1 hF1 hl).mono ?_;rintro e w1 ⟨rfl,⟨hi,rfl⟩|⟨k,hk,bB,hi,rfl⟩⟩
 ·have hs:cP ns n=ns:=zQ (aP hi).2
  have HS:=zH hs;clear cA hs hi;go_wp2_with fail;go_end0;exact⟨rfl,by rw[HS.o];exact hF1,Only.az E1⟩
 ·have hs:cP ns n=ns.set k n:=Mx hu hk bB
  obtain⟨h1,cn,h2,⟨xs,h3,h5⟩⟩:=id hF1;have c0:=h2.cell 0;simp only[gA,gB]at c0;have hFl:=h2.lt;obtain⟨A',c',_,hr⟩:=fI.range h3 h5 k hk
  generalize ns[k]=m at hr
  obtain⟨d0,d1,d2,d3,d4,d5,d6,d7,d8,d9,d10,d11⟩:=yI hr;obtain⟨x0,x1,x2,x3,x4,x5,x6,x7,x8,x9,kC,kn⟩:=B1.da;have hxl:=B1.lt;have hN:=hF1.lt.2;have hneg:decide ((k:Int)<0)=false:=cG (by omega);have hge:decide ((0:Int)<=(k:Int))=true:=cj (by omega);have y0:(k:Int)<ns.length:=by omega
  have y1:(0:Int)<=(k:Int):=cO _;have ff:=h3.frozenAt;have HS:=zH hs;clear cA hs hi bB;go_wp2_with fail;go_still_tail 7,(by kernel_rfl);change wpList _ _ _ _ _ w1.drew;go_wp2_with fail;go_end0;have r1:=(FN.setNode hF1 hk (hn.ext E1)).ext ((Ext.refl _).drew);have o3:Only [bN] w (w1.setCells bN (k*12) (gu n A c)).drew:=Only.pre E1 (((cr (gu n A c) (k*12) w1).ext ((Ext.refl _).drew)).mono (by simp));rw[<-HS.o]at r1;exact⟨rfl,r1,o3⟩
def abT (w:World) (B:Nat) (g:cI) (S:ag) (X:cY) (n:ak) (e:Ending) (w':World):Prop:=
 e = .returned (.tuple #[])/\gv w' B g (aV S n) X/\Only g.list w w'
theorem pu (B:Nat) (g:cI) (S:ag) (X:cY) (n:ak) (A:Option Addr) (c:Nat) (w:World) (h:gv w B g S X) (hl:S.nodes.length<=1000000) (hu:aQ S.nodes S.last) (hn:aD w B n A c):Calls prog 129 #[((),g.bF),.agg (n,A,c)] w (abT w B g S X n):=by
 obtain⟨_,_,n3⟩:=h.ne;obtain⟨ce,h1,h2⟩:=h.fn;refine (MD B g.bF g.bN _ S.nodes S.last X n A c w h1 hl hu hn).mono ?_;rintro e w' ⟨rfl,k1,k2⟩;refine⟨rfl,?_,k2.mono (by simp)⟩;exact FN.mk (S:=aV S n) k1 (av h2 k2 fun b hb=>by injection hb with hb;subst hb;simpa using n3.symm)
theorem fI.add (h:fI w B xs ns) (hn:aD w B n A c):fI w B (xs++gu n A c) (ns++[n]):=by
 have hl:(gu n A c).length=12:=rfl;refine⟨by rw[aZ,h.1,hl,aZ];simp;omega,fun i hi=>?_⟩;rw[aZ,lF]at hi
 by_cases e:i=ns.length
 ·subst e
  rw[Cw (aE _)];simp only[zk,List.getElem_singleton];refine⟨A,c,hn,fun j v hj=>?_⟩;rw[vZ (by rw[h.1];omega),h.1,show ns.length*12+j-ns.length*12=j by omega];exact hj
 ·obtain ⟨A',c',h1,h2⟩:=h.2 i (by omega)
  rw[Mn (by omega)];refine⟨A',c',h1,fun j v hj=>?_⟩;have xL:j<12:=(p6.1 hj).1;rw[vY (by rw[h.1];omega)];exact h2 j v hj
theorem wI (n:ak) (A:Option Addr) (c:Nat):∀u∈gu n A c,u.oneCell'=true:=by
 intro u hu;simp only[gu,aR,bg,bh]at hu;rcases hu with rfl|rfl|rfl|rfl|rfl|rfl|rfl|rfl|rfl|rfl|rfl|rfl<;>rfl
def abU (w:World) (B bF:Nat) (vN vD:Value) (ns:List ak) (last:Int) (X:cY) (n:ak) (e:Ending) (w':World):Prop:=
 e = .returned (.int .i64 (last+1))/\∃bN cn,Has w' bF (.cells #[.slice (some ⟨bN,0,none⟩) (ns.length+1) cn,vD,.int .i64 (last+1),X.now,X.count,X.plan,X.dead] 78) /\
  Gl w' B (.slice (some bN) (ns.length+1) cn) (ns++[{n with no:=last+1}])/\Only (bF::vN.ownBlock.toList) w w'/\(vN.ownBlock=some bN\/w.heap.size<=bN)
theorem CH (B bF:Nat) (vN vD:Value) (ns:List ak) (last:Int) (X:cY) (n:ak) (A:Option Addr) (c:Nat) (w:World) (hb:B<=bF)
  (hF:Has w bF (.cells #[vN,vD,last,X.now,X.count,X.plan,X.dead] 78)) (hN:Gl w B vN ns) (hv:∃A c,vN=.slice A ns.length c) (hlen:ns.length<=100000) (l8:0<=last) (jZ:last<=1000000) (hn:aD w B n A c) :
  Calls prog 163 #[((),bF),.agg (n,A,c)] w (abU w B bF vN vD ns last X n):=by
 obtain⟨AN,cN,rfl⟩:=hv;have c2:=aA hF 2 rfl;have f2:w.frozen? (bF,2)=false:=hF.free 2;have zF:=hF.lt;obtain⟨m,hm⟩:∃m:ak,m={n with no:=last+1}:=⟨_,rfl⟩;obtain⟨w0,hw0⟩:=ai (w.setCell (bF,2) (.int .i64 (last+1)));obtain⟨W2,dp⟩:=ai (w0.alloc (.cells (m,A,c) 66));have O0:Only [bF] w w0:=by rw[hw0];exact Only.setCell _ _ _ _
 have aF:dE w B [bF]:=dE.cons (fun x hx=>by cases hx) hb (hF.fV (by decide));have F0:Has w0 bF (.cells #[.slice AN ns.length cN,vD,.int .i64 (last+1),X.now,X.count,X.plan,X.dead] 78):=by rw[hw0];exact hF.setCell 2 _
 have E2:Ext w0 W2:=by rw[dp];exact (Ext.refl _).alloc _
 have B2:Has W2 w0.heap.size (.cells (m,A,c) 66):=by rw[dp];exact Has.new _ _
 have hz0:w0.heap.size=w.heap.size:=by rw[hw0];simp
 rw[hz0]at B2;have m2:aD W2 B m A c:=((hn.only O0 aF).ext E2).same (by rw[hm]);have F2:=F0.ext E2;obtain⟨xs,r1,r2⟩:=hN;have nF:∀g,(Value.slice AN ns.length cN).ownBlock=some g->g∉[bF]:=fun g hg=>by simp;intro e;exact k_ r1 hF (by decide) (by rw[hg,e])
 have R2:W2.ownsRow B 66 12 (.slice AN ns.length cN) ns.length xs:=av (av r1 O0 nF) (Only.az (L:=[]) E2) (by simp);have X2:fI W2 B xs ns:=(r2.only O0 aF).only (Only.az (L:=[]) E2) (fun b hb=>by cases hb);have O2:Only [bF] w W2:=O0.ext E2;have bB:m.no=last+1:=by rw[hm]
 have cJ:=dp;rw[hw0,hm]at cJ;go_in;go_wp2_with fail;rw[<-cJ];have HM:=zH hm;have uh:=zH bB;clear cJ dp hw0 hm hz0 c2 f2;obtain⟨x0,x1,x2,x3,x4,x5,x6,x7,x8,x9,kC,kn⟩:=B2.da;rw[bB]at x0;clear bB;have xz:=B2.lt;have v0:=aA F2 0 rfl;have z2:=F2.lt;have Si:(Value.slice AN ns.length cN).ownBlock≠some bF:=k_ R2 F2 (by decide);have hBW:B<=W2.heap.size:=by omega
 have ad1:(Value.slice AN ns.length cN).ownBlock≠some w.heap.size:=by
  intro e;rcases r1.2 with⟨h,_⟩|⟨g,cap,cur,h,_,hg,_⟩
  ·rw[h]at e;simp[Value.ownBlock]at e
  ·rw [h]at e
   have:g=w.heap.size:=by simpa [Value.ownBlock]using e
   have h2:=(show Has w g _ from hg).lt;omega
 obtain⟨i0,hi,hz0,hz1,hz2⟩:=jj Gn;go_region_law (first|(refine step_append_lies _ (by rfl) _ _ _ (by rfl) B 66 i0 _ 12 120 underlying75 hi hz0 hz1 hz2 rfl (by omega) _ ns.length xs (by rfl) ((R2.alloc _).drew) ⟨W2.heap.size,0,none⟩ 1 1 (gu {m with no:=last+1} A c) (by rfl) (by rfl) (DV (cs:=(gu {m with no:=last+1} A c).toArray) (t:=66) (fr:=(0,0)) (FW W2 _)) (wI _ _ _) (by omega) (by unfold maxLen;omega) (by omega) (by simp;omega) (W2.heap.size+1) (by simp) ?_;intro gg cap w4 zT hgrow hat hlt;have v4:w4.cell? (bF,0)=some (.slice AN ns.length cN):=((hgrow.cell_far ⟨bF,0,none⟩ (by simp;omega) (dA Si)).trans ((F2.alloc _).cell 0));have f4:w4.frozen? (bF,0)=false:=((hgrow.frozen_far ⟨bF,0,none⟩ (by simp;omega) (dA Si)).trans ((F2.alloc _).free 0));have y4:w4.cell? (w.heap.size,0)=some (.int .i64 (last+1)):=((hgrow.cell_far ⟨w.heap.size,0,none⟩ (by simp;omega) (dA ad1)).trans (((B2.alloc _).cell 0).trans (by rw[uh.o];rfl)))))
 all_goals
  have hmm:({m with no:=last+1}:ak)=m:=by have:=uh.o;cases m;simp only at this;subst this;rfl
  have O4:Only (Value.slice AN ns.length cN).ownBlock.toList W2 w4:=Only.pre ((Ext.refl _).alloc _ |>.drew) (Only.grown hgrow);have F4:Has w4 bF (.cells #[.slice AN ns.length cN,vD,.int .i64 (last+1),X.now,X.count,X.plan,X.dead] 78):=O4.has F2 (by simpa using fun e=>Si e);have hgb:gg≠bF:=fun e=>k_ zT F4 (by decide) (by rw[e];rfl)
  have aN:dE W2 B (Value.slice AN ns.length cN).ownBlock.toList:=dE.row R2 (by decide);have X4:fI w4 B (xs++gu m A c) (ns++[m]):=(X2.only O4 aN).add (m2.only O4 aN);rw[hmm]at zT;obtain⟨w5,Rc⟩:=ai (w4.setCell (bF,0) (.slice (some gg) (ns.length+1) cap));have O5:Only [bF] w4 w5:=by rw[Rc];exact Only.setCell _ _ _ _
  have F5:Has w5 bF (.cells #[.slice (some gg) (ns.length+1) cap,vD,.int .i64 (last+1),X.now,X.count,X.plan,X.dead] 78):=by rw[Rc];exact F4.setCell 0 _
  have y5:w5.cell? (w.heap.size,0)=some (.int .i64 (last+1)):=by rw[Rc];exact (World.cell?_setCell_far _ _ _ _ (show bF≠w.heap.size by omega)).trans y4
  rw[<-Rc];clear Rc y4 v4 f4 x0 x1 x2 x3 x4 x5 x6 x7 x8 x9 kC kn v0;go_wp2;go_ret;have a5:dE w4 B [bF]:=dE.cons (fun x hx=>by cases hx) hb (F4.fV (by decide));refine⟨rfl,gg,cap,F5,⟨xs++gu m A c,?_,?_⟩,?_,?_⟩
  ·rw [aZ]
   exact av zT O5 (fun g hg=>by simp[Value.ownBlock]at hg;subst hg;simpa using hgb)
  ·rw[<-HM.o];exact X4.only O5 a5
  ·exact ((O2.mono (by simp)).then (O4.mono (fun x hx=>cf _ hx))).then (O5.mono (by simp))
  ·rcases hat with h|h
   ·exact .inl h
   ·exact .inr (by have:=O2.size;omega)
theorem yJ {B' s s' n n':Nat} {e e':TypeId} {v':Value} {xs':List Value} (h:w.ownsRow B e s v n xs) (k:w.ownsRow B' e' s' v' n' xs') (hne:e≠e'):∀b,v.ownBlock=some b->v'.ownBlock≠some b:=by
 intro b hb;rcases h.2 with⟨rfl,_⟩|⟨g,cap,cur,rfl,_,hg,_⟩
 ·simp[Value.ownBlock]at hb
 ·have:g=b:=by simpa [Value.ownBlock]using hb
  subst this;exact k_ k (show Has w g _ from hg) hne
theorem Sq:(prog.info? 191).map (fun i=>(i.zero,i.size,i.bytes))=some (some (.agg #[(),(),(),(),(),()]),6,48):=by kernel_rfl
def abV (w:World) (B bF:Nat) (vN vD:Value) (S:ag) (X:cY) (last:Int) (e:Ending) (w':World):Prop:=
 e = .returned (.int .i64 (last+1))/\∃bN bE,gv w' B ⟨bF,bN,bE⟩ S X/\Only (bF::(vN.ownBlock.toList++vD.ownBlock.toList)) w w'/\(vN.ownBlock=some bN\/w.heap.size<=bN)/\(vD.ownBlock=some bE\/w.heap.size<=bE)
theorem zX (B bF:Nat) (vN vD:Value) (S:ag) (X:cY) (over b n:Int) (w:World) (hb:B<=bF) (hF:Has w bF (.cells #[vN,vD,S.last,X.now,X.count,X.plan,X.dead] 78)) (hN:Gl w B vN S.nodes) (hD:fg w B 191 vD S.ae)
  (hv:∃A c,vN=.slice A S.nodes.length c) (Sr:∃A c,vD=.slice A S.ae.length c) (hlen:S.nodes.length<=100000) (RX:S.ae.length<=1000) (hu:aQ S.nodes S.last) (l8:0<=S.last) (jZ:S.last<=1000000) :
  Calls prog 121 #[((),bF),over,b,n] w (abV w B bF vN vD (cZ S over b n) X S.last):=by
 obtain⟨A',c',rfl⟩:=Sr;have c1:=aA hF 1 rfl;have zF:=hF.lt;go_in;go_wp2_with fail;refine (CH B bF vN (.slice A' S.ae.length c') S.nodes S.last X ⟨0,(S.ae.length:Int)+1,1,493,0,0,0,0,1,0,[],[]⟩ none 0 w hb hF hN hv hlen l8 jZ ⟨.nil _ _ _,aE _,bC _,fun _=>rfl⟩).mono ?_;rintro e w1 ⟨rfl,bN,cn,F1,N1,O1,fr1⟩;obtain⟨n1,yG⟩:∃n1:ak,n1=⟨S.last+1,(S.ae.length:Int)+1,1,493,0,0,0,0,1,0,[],[]⟩:=⟨_,rfl⟩;have l1:(S.nodes++[n1]).length=S.nodes.length+1:=by simp
 have N1':FN w1 B bF bN (.slice A' S.ae.length c') (S.nodes++[n1]) (S.last+1) X:=⟨hb,cn,by rw[l1];exact F1,by rw[l1,yG];exact N1⟩;have u1:aQ (S.nodes++[n1]) (S.last+1):=hu.add n1 (by rw[yG]) l8;obtain⟨g1,g2⟩:=CD hu n1 (by rw[yG]);have D1:fg w1 B 191 (.slice A' S.ae.length c') S.ae:=by
  obtain⟨xs,r1,_⟩:=hN;refine av hD O1 fun g hg=>?_
  simp only[aR,not_or];refine⟨fun e=>k_ hD hF (by decide) (by rw[hg,e]),fun hx=>?_⟩;have:vN.ownBlock=some g:=by simpa using hx
  exact yJ r1 hD (by decide) g this hg
 have G1:=zH g1;have G2:=zH g2;have ME:=zH yG;clear g1 g2 yG c1 l1;go_wp2_with fail;refine (MC B bF bN _ _ (S.last+1) X (S.last+1) w1 N1' (by simp;omega) u1).mono ?_;rintro e w2 ⟨A2,c2,rfl,gG,E2⟩;rw[G1.o]at gG|-;go_wp2_with fail;obtain⟨n2,ug⟩:∃n2:ak,n2={n1 with up:=S.last+1}:=⟨_,rfl⟩;obtain⟨W3,cJ⟩:=ai (w2.alloc (.cells (n2,A2,c2) 66));have E3:Ext w2 W3:=by rw[cJ];exact (Ext.refl _).alloc _
 have mE:aD W3 B n2 A2 c2:=(gG.ext E3).same (by rw[ug]);have gb:=cJ;rw[ug]at gb;rw[<-gb];have qN:cP (S.nodes++[n1]) n2=S.nodes++[n2]:=CE hu n1 n2 (by rw[ME.o]) (by rw[ug,ME.o]);have Ra:n2=ct S:=by rw[ug,ME.o];rfl
 have N3:=N1'.ext (E2.trans E3);have D3:fg W3 B 191 (.slice A' S.ae.length c') S.ae:=av D1 (Only.az (L:=[]) (E2.trans E3)) (by simp);have HS:=zH qN;have HR:=zH Ra;have JU:=zH ug;clear qN Ra cJ gb;have Ez:Calls prog 129 #[((),bF),.agg (n2,A2,c2)] W3 (Zb W3 B bF bN (.slice A' S.ae.length c') (S.nodes++[n1]) (S.last+1) X n2):=MD B bF bN _ (S.nodes++[n1]) (S.last+1) X n2 A2 c2 W3 N3 (by simp;omega) u1 mE;rw[JU.o]at Ez;refine Ez.mono ?_;clear Ez;rintro e w4 ⟨rfl,N4,O4⟩;rw[<-JU.o,HS.o,HR.o]at N4;obtain⟨h4b,cn4,F4,RN4⟩:=id N4;have l4:(S.nodes++[ct S]).length=S.nodes.length+1:=by simp
 obtain ⟨xs4,r4,_⟩:=id RN4;have D4:w4.ownsRow B 191 6 (.slice A' S.ae.length c') S.ae.length (bp S.ae):=by
  refine av D3 O4 fun g hg=>?_
  obtain⟨_,cn3,_,xs3,r3,_⟩:=id N3;simp only[ax];intro e;exact yJ r3 D3 (by decide) g (by rw[e];rfl) hg
 have Si:(Value.slice A' S.ae.length c').ownBlock≠some bF:=k_ D4 F4 (by decide);have ad2:∀g,(Value.slice A' S.ae.length c').ownBlock=some g->g≠bN:=fun g hg e=>yJ r4 D4 (by decide) g (by rw[e];rfl) hg
 have v1:=aA F4 1 rfl;have z4:=F4.lt;obtain⟨i0,hi,hz0,hz1,hz2⟩:=jj Sq;go_wp2_with (at_builtin;refine wpList_append_lies _ rfl _ _ 76 rfl B 191 i0 _ 6 48 underlying76 hi hz0 hz1 hz2 rfl (by decide) _ S.ae.length (bp S.ae) rfl (World.ownsRow.alloc D4 _) ⟨w4.heap.size,0,none⟩ 1 1 (bp [⟨S.last+1,over,⟨1,1,b,n⟩⟩]) rfl rfl (DV (cs:=#[.int .i64 (S.last+1),over,.int .i64 1,.int .i64 1,b,n]) (t:=191) (fr:=(0,0)) (FW w4 _)) (uF _) (by decide) (by unfold maxLen;omega) (by omega) (by simp;omega) (w4.heap.size+1) (by simp) ?_);intro gg cap w5 Ss hgrow hat hlt;have v5:w5.cell? (bF,1)=some (.slice A' S.ae.length c'):=((hgrow.cell_far ⟨bF,1,none⟩ (by simp;omega) (dA Si)).trans ((F4.alloc _).cell 1));have f5:w5.frozen? (bF,1)=false:=((hgrow.frozen_far ⟨bF,1,none⟩ (by simp;omega) (dA Si)).trans ((F4.alloc _).free 1));have O5:Only (Value.slice A' S.ae.length c').ownBlock.toList w4 w5:=Only.pre ((Ext.refl _).alloc _) (Only.grown hgrow);have F5:=O5.has F4 (by simpa using fun e=>Si e);have a5:dE w4 B (Value.slice A' S.ae.length c').ownBlock.toList:=dE.row D4 (by decide);have RN5:Gl w5 B (.slice (some bN) (S.nodes++[ct S]).length cn4) (S.nodes++[ct S]):=by
  obtain⟨xs,k1,k2⟩:=RN4;exact⟨xs,av k1 O5 (fun g hg=>by simp[Value.ownBlock]at hg;subst hg;simpa using fun e=>ad2 _ e rfl),k2.only O5 a5⟩
 have hgF:gg≠bF:=fun e=>k_ Ss F5 (by decide) (by rw[e];rfl)
 have hgN:gg≠bN:=fun e=>by
  obtain⟨xs,k1,k2⟩:=id RN5;exact yJ k1 Ss (by decide) bN rfl (by rw[e];rfl)
 clear hgrow v1;go_wp2;go_ret;have O6:=Only.setCell w5 bF 1 (.slice (some gg) (S.ae.length+1) cap);have F6:=F5.setCell 1 (.slice (some gg) (S.ae.length+1) cap);have a6:dE w5 B [bF]:=dE.cons (fun x hx=>by cases hx) hb (F5.fV (by decide));refine⟨rfl,bN,gg,⟨hb,cn4,cap,?_,?_,?_⟩,?_,fr1,?_⟩
 ·simpa [cZ]using F6
 ·obtain ⟨xs,k1,k2⟩:=RN5
  exact⟨xs,av k1 O6 (fun g hg=>by simp[Value.ownBlock]at hg;subst hg;simpa using (FN.ne N4).symm),k2.only O6 a6⟩
 ·have h7:=av Ss O6 (fun g hg=>by simp[Value.ownBlock]at hg;subst hg;simpa using hgF)
  rw[<-kd]at h7;unfold fg cZ;simpa using h7
 ·have hO1:Only (bF::(vN.ownBlock.toList++(Value.slice A' S.ae.length c').ownBlock.toList)) w W3:=(O1.mono (by intro x hx;simp at hx|-;rcases hx with h|h;exact .inl h;exact .inr (.inl h))).ext (E2.trans E3)
  have EC:=hO1.trans O4 (by
   intro x hx;rw[ax]at hx;subst hx;rcases fr1 with h|h
   ·exact .inl (by simp[h])
   ·exact .inr h)
  exact (EC.then (O5.mono (by intro x hx;simp at hx|-;exact .inr (.inr hx)))).then (O6.mono (by simp))
 ·rcases hat with h|h
  ·exact .inl h
  ·refine .inr ?_
   have e1:=O1.size;have e2:=(E2.trans E3).size;have e3:=O4.size;omega
def x0:cY:=⟨0,.int .i64 0,.slice none 0 0,.bool false⟩
theorem iw (B:Nat) (g:cI) (S:ag) (X:cY) (d:Int) (w:World) (h:gv w B g S X) (hl:S.ae.length<=1000):Calls prog 133 #[((),g.bF),d] w (aO w (.int .i64 (aI S.ae d))):=by
 have h0:=h;obtain⟨h1,cn,cd,h3,_,h4⟩:=h
 by_cases Y9:d<1
 ·have hf:Hid (aI S.ae d=0):=by show _=_;unfold aI ic;rw[ac (by simp;omega)]
  go_in;go_wp2;go_ret;exact aO.mk (aS hf.o.symm) (Ext.refl _)
 ·have hW:=h3.lt
  have c1:=aA h3 1 rfl
  by_cases mZ:(S.ae.length:Int)<d
  ·have hf:Hid (aI S.ae d=0):=by show _=_;unfold aI ic;rw[ac (by simp;omega)]
   go_in;go_wp2;go_ret;exact aO.mk (aS hf.o.symm) (Ext.refl _)
  ·obtain ⟨k,hk⟩:∃k:Nat,d=(k:Int)+1:=⟨(d-1).toNat,by omega⟩
   subst hk;have dN:k<S.ae.length:=by omega
   have hf:Hid (aI S.ae ((k:Int)+1)=S.ae[k].root):=by
    show _=_;unfold aI ic jq;rw[af (by simp;omega),show ((k:Int)+1-1).toNat=k by omega,rl,iq dN];rfl
   obtain⟨d0,d1,d2,d3,d4,d5⟩:=fg.at_ h4 k dN
   generalize S.ae[k]=x at hf d0 d1 d2 d3 d4 d5
   go_in;go_wp2;go_ret;exact aO.mk (aS hf.o.symm) (Ext.refl _)
theorem iy (B:Nat) (g:cI) (S:ag) (X:cY) (no:Int) (w:World) (h:gv w B g S X) (hl:S.ae.length<=1000):Calls prog 84 #[((),g.bF),no] w (aO w (.int .i64 (aw S.ae no))):=by
 obtain⟨h1,cn,cd,h3,_,h4⟩:=h;have hW:=h3.lt;have c1:=aA h3 1 rfl;obtain⟨n,hn⟩:=ai S.ae.length;rw[<-hn]at c1 hl;have HN:=zH hn;clear hn;go_in;go_wp2_with fail;go_loop [5] (fun i=>∃k:Nat,k<=n/\i=.int .i64 k/\Hid (0<no->∀j,(hj:j<S.ae.length)->j<k->S.ae[j].over≠no)) (fun i=>n-(intOf i).toNat)
 case atStart=>exact⟨0,bC _,rfl,fun _ j _ h=>by omega⟩
 case round =>
  obtain⟨k,hk,rfl,ha⟩:=hrel
  by_cases hlt:(k:Int)<n
  ·by_cases bB:no<=0
   ·have wE:decide (0<no)=false:=cG (by omega)
    have Gd:Hid (0<no->∀j,(hj:j<S.ae.length)->j<k+1->S.ae[j].over≠no):=fun h=>by omega
    go_wp2_with fail;go_round
    case rel=>exact⟨k+1,by omega,by go_num,Gd⟩
    case measure=>simp[intOf];omega
   ·have wE:0<no:=by omega
    have dN:k<S.ae.length:=by have:=HN.o;omega
    obtain⟨d0,d1,d2,d3,d4,d5⟩:=fg.at_ h4 k dN
    generalize hx:S.ae[k]=x at d0 d1 d2 d3 d4 d5
    by_cases he:x.over=no
    ·have hf:Hid (aw S.ae no=x.root):=by show _=_;rw[<-hx];exact Mz dN wE (ha.o wE) (by rw[hx];exact he)
     have hb:(x.over == no)=true:=by simpa using he
     clear hx he;go_wp2;go_ret;exact aO.mk (aS hf.o.symm) (Ext.refl _)
    ·have Gd:Hid (0<no->∀j,(hj:j<S.ae.length)->j<k+1->S.ae[j].over≠no):=by
      show 0<no->∀j,(hj:j<S.ae.length)->j<k+1->S.ae[j].over≠no;intro h j hj xL
      by_cases e:j=k
      ·subst e;rw[hx];exact he
      ·exact ha.o h j hj (by omega)
     have hb:(x.over == no)=false:=by simpa using he
     clear hx he;go_wp2_with fail;go_round
     case rel=>exact⟨k+1,by omega,by go_num,Gd⟩
     case measure=>simp[intOf];omega
  ·have hf:Hid (aw S.ae no=no):=by
    show _=_
    by_cases bB:0<no
    ·exact MA fun j hj=>ha.o bB j hj (by have:=HN.o;omega)
    ·unfold aw;rw[ac bB]
   go_wp2;go_ret;exact aO.mk (aS hf.o.symm) (Ext.refl _)
def St (w:World) (B:Nat) (g:cI) (S:ag) (X:cY) (at_ b n:Int) (e:Ending) (w':World):Prop:=
 e = .returned (.tuple #[.int .i64 (wC S at_ b n),.int .i64 (ef S at_ b n)])/\∃bN bE,gv w' B ⟨g.bF,bN,bE⟩ (dB S at_ b n) X/\Only g.list w w'/\(bN=g.bN\/w.heap.size<=bN)/\(bE=g.bE\/w.heap.size<=bE)
theorem kG {g:cI} {X:cY} {at_ b n x:Int} (h:gv w B g S X) (hE:Ext w w') (hx:ef S at_ b n=x) (h0:x≠0):St w B g S X at_ b n (.returned (.tuple #[(),x])) w':=by
 refine⟨?_,g.bN,g.bE,?_,Only.az hE,.inl rfl,.inl rfl⟩
 ·unfold wC;rw[hx,ac h0]
 ·unfold dB;rw[hx,ac h0];exact h.ext hE
theorem JV (B:Nat) (g:cI) (S:ag) (X:cY) (at_ b n:Int) (w:World) (h:gv w B g S X) (mZ:S.ae.length<=8) (hu:aQ S.nodes S.last) (l8:0<=S.last) (jZ:S.last<=1000000) (nE:S.nodes.length<=100000) :
  Calls prog 123 #[((),g.bF),at_,b,n] w (St w B g S X at_ b n):=by
 have h0:=h;obtain⟨h1,cn,ce,h3,hN,h4⟩:=h;have lm:∀w1,Ext w w1->w1.cell? (g.bF,1)=some (.slice (some g.bE) S.ae.length ce)/\g.bF<w1.heap.size:=fun w1 b1=>⟨(h3.ext b1).cell 1,(h3.ext b1).lt⟩
 have HI:=zH lm;clear lm;go_in;go_wp2_with fail;refine (eE B g S X at_ w h0 (by omega) hu).mono ?_;rintro e w2 ⟨A2,k2,rfl,gG,b2⟩
 cases hi:aW S.nodes at_
 ·have hE:ef S at_ b n=5:=by unfold ef;rw[af hi]
  have HE:=zH hE;have hz:=(aP hi).1;obtain⟨m,hm⟩:=ai (aa S.nodes at_);rw[<-hm]at hz|-;have MF:(m.no == 0)=true:=by rw[hz];rfl
  clear hi hE hz hm;go_wp2;go_ret2;exact kG h0 (b2.alloc _) HE.o (by decide)
 ·obtain ⟨m, hm⟩:∃m,m=aa S.nodes at_:=⟨_,rfl⟩
  have bB:m.no≠0:=by
   obtain⟨k,hk,e⟩:=qh.1 hi;have e2:=(ap hi).2.1;have:=(hu.2 _ (jh hk)).1;rw[hm,e2];omega
  have MF:(m.no == 0)=false:=by simpa using bB
  rw[<-hm]at gG|-
  by_cases hk:m.kind=1
  ·have mq : (m.kind == 1)=true:=by simpa using hk
   have hk2:(m.kind != 1)=false:=by simpa using hk
   have e0:ef S at_ b n=if aw S.ae at_≠at_\/aI S.ae m.dev=at_ then 16 else if 8<=S.ae.length\/dg b n=false then 3 else 0:=by
    unfold ef;rw[ac (by rw[hi];decide),<-hm,ac (by rw[hk];decide)]
   have W3:=h0.ext (b2.alloc (.cells (m,A2,k2) 66))
   by_cases ho:aw S.ae at_=at_
   ·have NS : (aw S.ae at_ == at_)=true:=by simpa using ho
    have pj:(aw S.ae at_ != at_)=false:=by simpa using ho
    by_cases hr:aI S.ae m.dev=at_
    ·have hE:ef S at_ b n=16:=by rw[e0,af (.inr hr)]
     have HE:=zH hE;have hr1:(aI S.ae m.dev == at_)=true:=by simpa using hr
     clear hi hE hm hk ho hr e0 bB;go_wp2_with fail;refine (iy B g S X at_ _ W3 (by omega)).mono ?_;rintro e w3 ⟨rfl,b3⟩;obtain⟨hc,hf⟩:=b3.cells;have hz:w2.heap.size<w3.heap.size:=by have:=b3.size;simp at this;omega
     go_wp2_with fail;refine (iw B g S X m.dev _ (W3.ext b3) (by omega)).mono ?_;rintro e w4 ⟨rfl,b4⟩;go_wp2;go_ret2;exact kG h0 (((b2.alloc _).trans b3).trans b4) HE.o (by decide)
    ·have hr1:(aI S.ae m.dev == at_)=false:=by simpa using hr
     rw[ac (fun h=>by rcases h with h|h;exact h ho;exact hr h)]at e0
     by_cases h8:8<=S.ae.length
     ·have hE:ef S at_ b n=3:=by rw[e0,af (.inl h8)]
      have HE:=zH hE;have h81:(8:Int)<=(S.ae.length:Int):=by omega
      clear hi hE hm hk ho hr e0 bB;go_wp2_with fail;refine (iy B g S X at_ _ W3 (by omega)).mono ?_;rintro e w3 ⟨rfl,b3⟩;obtain⟨hc,hf⟩:=b3.cells;have hz:w2.heap.size<w3.heap.size:=by have:=b3.size;simp at this;omega
      go_wp2_with fail;refine (iw B g S X m.dev _ (W3.ext b3) (by omega)).mono ?_;rintro e w4 ⟨rfl,b4⟩;have E4:=((b2.alloc (.cells (m,A2,k2) 66)).trans b3).trans b4;obtain⟨c4,z4⟩:=HI.o w4 E4;clear hc hf;go_wp2;go_ret2;exact kG h0 E4 HE.o (by decide)
     ·have h81:(S.ae.length:Int)<8:=by omega
      cases sM:dg b n
      ·have hE:ef S at_ b n=3:=by rw[e0,af (.inr sM)]
       have HE:=zH hE;have HL:=zH sM;clear hi hE hm hk ho hr e0 h8 bB sM;go_wp2_with fail;refine (iy B g S X at_ _ W3 (by omega)).mono ?_;rintro e w3 ⟨rfl,b3⟩;obtain⟨hc,hf⟩:=b3.cells;have hz:w2.heap.size<w3.heap.size:=by have:=b3.size;simp at this;omega
       go_wp2_with fail;refine (iw B g S X m.dev _ (W3.ext b3) (by omega)).mono ?_;rintro e w4 ⟨rfl,b4⟩;have E4:=((b2.alloc (.cells (m,A2,k2) 66)).trans b3).trans b4;obtain⟨c4,z4⟩:=HI.o w4 E4;clear hc hf;go_wp2_with fail;refine (ou b n _).mono ?_;rw[HL.o];rintro e w5 ⟨rfl,b5⟩;go_wp2;go_ret2;exact kG h0 (E4.trans b5) HE.o (by decide)
      ·have hE:ef S at_ b n=0:=by rw[e0,ac (fun h=>by rcases h with h|h;exact h8 h;rw[sM]at h;cases h)]
       have HE:=zH hE;have HL:=zH sM;clear hi hE hm hk ho hr e0 h8 bB sM;go_wp2_with fail;refine (iy B g S X at_ _ W3 (by omega)).mono ?_;rintro e w3 ⟨rfl,b3⟩;obtain⟨hc,hf⟩:=b3.cells;have hz:w2.heap.size<w3.heap.size:=by have:=b3.size;simp at this;omega
       go_wp2_with fail;refine (iw B g S X m.dev _ (W3.ext b3) (by omega)).mono ?_;rintro e w4 ⟨rfl,b4⟩;have E4:=((b2.alloc (.cells (m,A2,k2) 66)).trans b3).trans b4;obtain⟨c4,z4⟩:=HI.o w4 E4;clear hc hf;go_wp2_with fail;refine (ou b n _).mono ?_;rw[HL.o];rintro e w5 ⟨rfl,b5⟩;have E5:=E4.trans b5;clear c4;go_wp2_with fail;obtain⟨_,_,hN5,_⟩:=(h0.ext E5).fn;refine (zX B g.bF (.slice (some g.bN) S.nodes.length cn) (.slice (some g.bE) S.ae.length ce) S X at_ b n w5 h1 (h3.ext E5) (by
        obtain⟨xs,k1,k2⟩:=hN;exact⟨xs,av k1 (Only.az (L:=[]) E5) (by simp),k2.only (Only.az (L:=[]) E5) (fun b hb=>by cases hb)⟩) (av h4 (Only.az (L:=[]) E5) (by simp)) ⟨_,_,rfl⟩ ⟨_,_,rfl⟩ nE (by omega) hu l8 jZ).mono ?_
       rintro e w6 ⟨rfl,bN,bE,F6,O6,f1,f2⟩;go_wp2;go_ret2;refine⟨?_,bN,bE,?_,?_,?_,?_⟩
       ·unfold wC;rw[HE.o];rfl
       ·unfold dB;rw[HE.o];exact F6
       ·exact Only.pre E5 (O6.mono (by intro x hx;simp[Value.ownBlock]at hx|-;exact hx))
       ·rcases f1 with f1|f1
        ·exact .inl (by simpa [Value.ownBlock]using f1.symm)
        ·exact .inr (by have:=E5.size;omega)
       ·rcases f2 with f2|f2
        ·exact .inl (by simpa [Value.ownBlock]using f2.symm)
        ·exact .inr (by have:=E5.size;omega)
   ·have hE:ef S at_ b n=16:=by rw[e0,af (.inl ho)]
    have HE:=zH hE;have NS:(aw S.ae at_ == at_)=false:=by simpa using ho
    have pj:(aw S.ae at_ != at_)=true:=by simpa using ho
    clear hi hE hm hk ho e0 bB;go_wp2_with fail;refine (iy B g S X at_ _ W3 (by omega)).mono ?_;rintro e w3 ⟨rfl,b3⟩;go_wp2;go_ret2;exact kG h0 ((b2.alloc _).trans b3) HE.o (by decide)
  ·have hE:ef S at_ b n=9:=by unfold ef;rw[ac (by rw[hi];decide),af (by rw[<-hm];exact hk)]
   have HE:=zH hE;have hkb:(m.kind == 1)=false:=by simpa using hk
   have ad0:(m.kind != 1)=true:=by simpa using hk
   clear hi hE hm hk bB;go_wp2;go_ret2;exact kG h0 (b2.alloc _) HE.o (by decide)
open Go
section
variable {P:Program} {ops:Array Oper} {md:Region.Mode} {C:World->Prop} {Q:Act->Prop}
theorem oN {Q Q':Act->Prop} (h:∀a,Q a->Q' a):∀(l:List Oper) (a:Act),wpQuiet P ops C Q l a->wpQuiet P ops C Q' l a
 | [],a,hh=>h a hh
 | o::l,a,hh=>by
  have hh':if Region.wanted o (yielded ops a.tmps) then o.quiet P a C (wpQuiet P ops C Q l) else wpQuiet P ops C Q l (a.put o.dst undef):=hh
  show if Region.wanted o (yielded ops a.tmps) then o.quiet P a C (wpQuiet P ops C Q' l) else wpQuiet P ops C Q' l (a.put o.dst undef)
  split
  ·rename_i hw;rw[af hw]at hh';exact Oper.quiet_mono (fun a' h'=>oN h l a' h') hh'
  ·rename_i hw;rw[ac hw]at hh';exact oN h l _ hh'
def uH (P:Program) (md:Region.Mode) (ops:Array Oper) (C:World->Prop) (n:Nat) (L:Array Bool->Act->Prop):Nat->Array Bool->Act->Prop
 | 0,listed,a=>L listed a
 | f+1,listed,a =>
  Region.ready md ops listed≠[]/\∀i∈Region.ready md ops listed,i<n/\qOp P ops C i (uH P md ops C n L f (listed.setIfInBounds i true)) a
theorem rH {n g:Nat} {L:Array Bool->Act->Prop} {Q':Exit->Act->World->Prop} (hL:∀listed a w,C w->L listed a->wpAny P md ops Q' g listed a w) :
  ∀ (f:Nat) (listed:Array Bool) (a:Act) (w:World),C w->uH P md ops C n L f listed a->wpAny P md ops Q' (f+g) listed a w
 | 0,listed,a,w,hw,h=>by rw[eY];exact hL _ _ _ hw h
 | f+1,listed,a,w,hw,h=>by
  rw[show f+1+g=(f+g)+1 by omega];exact⟨fun h0=>absurd h0 h.1,fun i hi=>wpOp_of_qOp hw (fun a' w' hw' h'=>rH hL f _ a' w' hw' h') (h.2 i hi).2⟩
def tK:Nat->Nat->Array Bool->Array Bool
 | _,0,listed=>listed
 | k,f+1,listed=>tK (k+1) f (listed.setIfInBounds k true)
def uI (md:Region.Mode) (ops:Array Oper):Nat->Nat->Array Bool->Bool
 | 0,_,_=>true
 | f+1,k,listed=>(Region.ready md ops listed).contains k&&Region.free md ops listed k&&uI md ops f (k+1) (listed.setIfInBounds k true)
end
end
section
open Go
structure Gr (V:World) where
 w : World
 h : Ext V w
instance aag (V:World):Nonempty (Gr V):=⟨⟨V,Ext.refl V⟩⟩
theorem Gr.cell {V:World} {b o:Nat} {v:Value} (hb:b<V.heap.size) (h:V.cell? (b,o)=some v):∀u:Gr V,u.w.cell? (b,o)=some v:=fun u=>(u.h.cell hb).trans h
section
variable {P:Program} {id:Nat} {Q:Exit->Act->World->Prop} {a:Act} {w:World} {l:List Oper}
theorem zY (V:World) (hm:P.follows .mixedOrders=true) (hB:Region.lexB .any l.toArray=true) (hV:Ext V w.drew)
  (h:wpQuiet P l.toArray (fun w'=>∃u:Gr V,w'=u.w) (fun a'=>∀w',(∃u:Gr V,w'=u.w)->Q .normal a' w') l a):(Code.region id l.toArray true).wp P Q a w:=
 wp_region_quiet (C:=fun w'=>∃u:Gr V,w'=u.w) hm hB ⟨⟨w.drew,hV⟩,rfl⟩ (by simpa using h)
theorem NX {V:World} {Q:World->Prop} (h:∀w',Ext V w'->Q w'):∀w',(∃u:Gr V,w'=u.w)->Q w':=fun _⟨u,e⟩=>by rw[e];exact h _ u.h
theorem Rd {P:Program} {id:Nat} {Q:Exit->Act->World->Prop} {a:Act} {w:World} {l:List Oper} (V:World) (h:wpQuiet P l.toArray (fun w'=>∃u:Gr V,w'=u.w) (fun a'=>∀w',(∃u:Gr V,w'=u.w)->Q .normal a' w') l a) (hm:P.follows .mixedOrders=true:=by kernel_rfl) (hB:Region.lexB .any l.toArray=true:=by kernel_rfl) (hV:Ext V w.drew:=by exact (Ext.refl _).drew):(Code.region id l.toArray true).wp P Q a w:=zY V hm hB hV h
end
end
section
open Go
def rq (P:Program) (V:World) (o:Oper) (a:Act) (v:Value):Prop:=∀u:Gr V,o.quietAt P a (fun w''=>Ext u.w w'') u.w v
def aM (P:Program) (ops:Array Oper) (V:World) (Q:Act->Prop):List Oper->Act->Prop
 | [],a=>Q a
 | o::rest,a=>if Region.wanted o (yielded ops a.tmps) then ∃v,rq P V o a v/\aM P ops V Q rest (a.put o.dst v) else aM P ops V Q rest (a.put o.dst undef)
theorem bc {ops:Array Oper} {V:World} {Q:Act->Prop} (h:Q a):aM P ops V Q [] a:=h
theorem cH {ops:Array Oper} {V:World} {Q:Act->Prop} {o:Oper} {rest:List Oper}
  (h:∀K:Act->Prop,(∀a,aM P ops V Q rest a->K a)->if Region.wanted o (yielded ops a.tmps) then ∃v,(∀u:Gr V,o.quietAt P a (fun w''=>Ext u.w w'') u.w v)/\K (a.put o.dst v) else K (a.put o.dst undef)):aM P ops V Q (o::rest) a:=
 h _ (fun _ h=>h)
section
variable {P:Program} {ops:Array Oper} {md:Region.Mode} {V:World} {m s:Nat} {cs:List (Operand×Value)}
def MG (cs:List (Operand×Value)) (a:Act):Prop:=∀p∈cs,a.eval p.1=p.2
def sN (P:Program) (ops:Array Oper) (V:World) (m s:Nat) (cs:List (Operand×Value)) (i:Nat) (K:Act->Prop) (a:Act):Prop:=
 if i=m then K a else if i=s then MG cs a/\K a else
 match ops[i]? with
 | none=>K a
 | some o=>if Region.wanted o (yielded ops a.tmps) then ∃v,rq P V o a v/\K (a.put o.dst v) else K (a.put o.dst undef)
def wJ (ops:Array Oper) (m s i:Nat):Option Tmp:=if i=m then none else if i=s then none else (ops[i]?).bind (·.dst)
def ke (P:Program) (ops:Array Oper) (V:World) (m s:Nat) (cs:List (Operand×Value)) (i:Nat) (v:Value) (a:Act):Prop:=
 if i=m then True else if i=s then MG cs a else
 match ops[i]? with
 | none=>True
 | some o=>(Region.wanted o (yielded ops a.tmps)=true/\rq P V o a v)\/(Region.wanted o (yielded ops a.tmps)=false/\v=undef)
theorem Su {K K':Act->Prop} (h:∀a,K a->K' a) (hh:sN P ops V m s cs i K a):sN P ops V m s cs i K' a:=by
 unfold sN at *;split
 ·rename_i e;rw[af e]at hh;exact h _ hh
 ·rename_i e
  rw[ac e]at hh;split
  ·rename_i e2;rw[af e2]at hh;exact⟨hh.1,h _ hh.2⟩
  ·rename_i e2
   rw[ac e2]at hh;split
   ·rename_i ho;rw[ho]at hh;exact h _ hh
   ·rename_i o ho
    rw[ho]at hh;dsimp only at hh;split
    ·rename_i hw;rw[af hw]at hh;obtain⟨v,h1,h2⟩:=hh;exact⟨v,h1,h _ h2⟩
    ·rename_i hw;rw[ac hw]at hh;exact h _ hh
theorem oO {K:Act->Prop} (h:sN P ops V m s cs i K a):∃v,ke P ops V m s cs i v a/\K (a.put (wJ ops m s i) v):=by
 unfold sN at h;unfold ke wJ;split
 ·rename_i e;rw[af e]at h;exact⟨undef,trivial,h⟩
 ·rename_i e
  rw[ac e]at h;split
  ·rename_i e2;rw[af e2]at h;exact⟨undef,h.1,h.2⟩
  ·rename_i e2
   rw[ac e2]at h;split
   ·rename_i ho;rw[ho]at h;rw[ho];exact⟨undef,trivial,h⟩
   ·rename_i o ho
    rw[ho]at h;rw[ho];dsimp only at h
    by_cases hw:Region.wanted o (yielded ops a.tmps)=true
    ·rw[af hw]at h;obtain⟨v,h1,h2⟩:=h;exact⟨v,.inl ⟨hw,h1⟩,h2⟩
    ·rw[ac hw]at h;exact⟨undef,.inr ⟨by simpa using hw,rfl⟩,h⟩
theorem oP {K:Act->Prop} (hy:ke P ops V m s cs i v a) (h:K (a.put (wJ ops m s i) v)):sN P ops V m s cs i K a:=by
 unfold sN;unfold ke at hy;unfold wJ at h;split
 ·rename_i e;rw[af e]at h;exact h
 ·rename_i e
  rw[ac e]at h hy;split
  ·rename_i e2;rw[af e2]at h hy;exact⟨hy,h⟩
  ·rename_i e2
   rw[ac e2]at h hy;split
   ·rename_i ho;rw[ho]at h;exact h
   ·rename_i o ho
    rw[ho]at h hy;dsimp only at hy;rcases hy with⟨hw,hv⟩|⟨hw,rfl⟩
    ·rw[af hw];exact⟨v,hv,h⟩
    ·rw[ac (by rw[hw];decide)];exact h
theorem Gp {d:Tmp} (h:wJ ops m s i=some d):∃o,ops[i]?=some o/\o.dst=some d:=by
 unfold wJ at h;split at h
 ·cases h
 ·split at h
  ·cases h
  ·cases ho:ops[i]? with
   | none=>rw[ho]at h;cases h
   | some o=>rw[ho]at h;exact⟨o,rfl,h⟩
theorem EE {oi:Oper} (hi:ops[i]?=some oi) (nY:∀cs b,oi.op≠.select cs b) (hys:i=s->∀p∈cs,∀t,p.1=.tmp t->t∈oi.looksAt ops) {u:Value} {dst:Option Tmp} (hd:∀d,dst=some d->d∉oi.looksAt ops) (hy:ke P ops V m s cs i v a):ke P ops V m s cs i v (a.put dst u):=by
 unfold ke at *;split
 ·trivial
 ·rename_i e
  rw[ac e]at hy;split
  ·rename_i e2
   rw[af e2]at hy;intro p hp;rw[Act.eval_put (fun d MH he=>hd d MH (hys e2 p hp d he))];exact hy p hp
  ·rename_i e2
   rw[ac e2]at hy;rw[hi]at hy|-;dsimp only at hy|-;unfold rq Oper.quietAt at *;rw[zq oi nY a dst u hd,zr oi a dst u hd];exact hy
theorem WX {j:Nat} {oi oj:Oper} (hi:ops[i]?=some oi) (hj:ops[j]?=some oj) (hap:oi.apart ops oj=true)
  (hsi:∀cs b,oi.op≠.select cs b) (hsj:∀cs b,oj.op≠.select cs b) (hys:∀o,ops[s]?=some o->∀p∈cs,∀t,p.1=.tmp t->t∈o.looksAt ops) {K:Act->Prop} 
  (hy:ke P ops V m s cs i v a) (h:sN P ops V m s cs j K (a.put (wJ ops m s i) v)) :
  sN P ops V m s cs j (fun a'=>ke P ops V m s cs i v a'/\K (a'.put (wJ ops m s i) v)) a:=by
 obtain ⟨h1,h2,h3⟩:=Oper.apart_spec hap;have MI:∀d,wJ ops m s i=some d->oi.dst=some d:=fun d hd=>by
  obtain⟨o,ho,hod⟩:=Gp hd;rw[hi]at ho;injection ho with ho;rw[ho];exact hod
 have hdj:∀d,wJ ops m s j=some d->oj.dst=some d:=fun d hd=>by
  obtain⟨o,ho,hod⟩:=Gp hd;rw[hj]at ho;injection ho with ho;rw[ho];exact hod
 obtain ⟨u,hu,hK⟩:=oO h;have uJ:ke P ops V m s cs j u a:=by
  have e:∀x,(a.put (wJ ops m s i) v).put none x=a.put (wJ ops m s i) v:=fun _=>rfl
  unfold ke at *;split
  ·trivial
  ·rename_i e1
   rw[ac e1]at hu;split
   ·rename_i e2
    rw[af e2]at hu;intro p hp;have:=hu p hp;rw[Act.eval_put (fun d hd he=>h1 d (MI d hd) (hys oj (by rw[<-e2];exact hj) p hp d he))]at this;exact this
   ·rename_i e2
    rw[ac e2]at hu;rw[hj]at hu|-;dsimp only at hu|-;unfold rq Oper.quietAt at *;rw[zq oj hsj a _ v (fun d hd=>h1 d (MI d hd)),zr oj a _ v (fun d hd=>h1 d (MI d hd))]at hu;exact hu
 refine oP uJ ⟨EE hi hsi (fun e=>hys oi (by rw[<-e];exact hi)) (fun d hd=>h3 d (hdj d hd)) hy,?_⟩;rw[<-DW a v u (fun d hd mZ=>h2 d (MI d hd) (hdj d mZ))];exact hK
def rI (P:Program) (md:Region.Mode) (ops:Array Oper) (V:World) (m s:Nat) (cs:List (Operand×Value)) (Q:Act->Prop):Nat->Array Bool->Act->Prop
 | 0,listed,a=>Region.ready md ops listed=[]/\listed.getD m true=true/\listed.getD s true=true/\Q a
 | f+1,listed,a=>Region.ready md ops listed≠[]/\∀i∈Region.ready md ops listed,sN P ops V m s cs i (rI P md ops V m s cs Q f (listed.setIfInBounds i true)) a
theorem uK {Q:Act->Prop} {oi:Oper} (hi:ops[i]?=some oi) (nY:∀(j:Nat) (o:Oper) cs b,ops[j]?=some o->o.op≠.select cs b) (hys:∀o,ops[s]?=some o->∀p∈cs,∀t,p.1=.tmp t->t∈o.looksAt ops) :
  ∀ (fuel:Nat) (listed:Array Bool) (a:Act),
   (∀j oj,ops[j]?=some oj->j≠i->listed.getD j true=false->(∀e∈oj.after,Region.binds md e=true->e.on≠i)->oi.apart ops oj=true) ->
   i∈Region.ready md ops listed->ke P ops V m s cs i v a ->
   rI P md ops V m s cs Q fuel (listed.setIfInBounds i true) (a.put (wJ ops m s i) v)->rI P md ops V m s cs Q (fuel+1) listed a:=by
 intro fuel
 induction fuel with
 | zero =>
  intro listed a _ hr hy H;refine⟨fun h=>(by rw[h]at hr;cases hr),fun j hj=>?_⟩
  by_cases s9:j=i
  ·subst s9;exact oP hy H
  ·have:=p7 hj s9
   rw[H.1]at this
   cases this
 | succ fuel ih =>
  intro listed a pA hr hy H;refine⟨fun h=>(by rw[h]at hr;cases hr),fun j hj=>?_⟩
  by_cases s9:j=i
  ·subst s9;exact oP hy H
  ·have h1:=H.2 j (p7 hj s9)
   obtain ⟨Gq,oj,BP,hall⟩:=jt.1 hj;have Sv:∀e∈oj.after,Region.binds md e=true->e.on≠i:=fun e he hb heq=>by
    have h1:=hall e he hb;have h0:=(jt.1 hr).1;rw[heq]at h1;rcases lq i listed.size with h'|h'
    ·simp[h']at h0 h1;rw[h0]at h1;cases h1
    ·simp[rf h']at h1
   have h2:=WX hi BP (pA j oj BP s9 Gq Sv) (fun cs b=>nY i oi cs b hi) (fun cs b=>nY j oj cs b BP) hys hy h1;have zZ:∀k ok,ops[k]?=some ok->k≠i->(listed.setIfInBounds j true).getD k true=false ->
     (∀e∈ok.after,Region.binds md e=true->e.on≠i)->oi.apart ops ok=true:=fun k ok hk Sw sn bB=>by
    refine pA k ok hk Sw ?_ bB
    by_cases JM:j=k
    ·subst JM;exact Gq
    ·rw[ez true JM]at sn;exact sn
   refine Su (fun a' h3=>ih (listed.setIfInBounds j true) a' zZ (p7 hr (dA s9)) h3.1 ?_) h2;rw[Jt _ _ s9];exact h3.2
def oQ (P:Program) (ops:Array Oper) (V:World) (m s:Nat) (cs:List (Operand×Value)) (Q:Act->Prop):List Oper->Nat->Act->Prop
 | [],_,a=>Q a
 | _::rest,k,a=>sN P ops V m s cs k (oQ P ops V m s cs Q rest (k+1)) a
theorem eC (listed:Array Bool) (k:Nat):(listed.setIfInBounds k true).getD k true=true:=by
 rcases lq k listed.size with h|h
 ·simp[h]
 ·simp[rf (show (listed.setIfInBounds k true).size<=k by simpa using h)]
theorem tL {Q:Act->Prop} (hs:Region.noSelect ops=true) (hys:∀o,ops[s]?=some o->∀p∈cs,∀t,p.1=.tmp t->t∈o.looksAt ops):∀(l:List Oper) (k:Nat) (listed:Array Bool) (a:Act),(∀j,l[j]?=ops[k+j]?) ->
  (∀j,j<k->listed.getD j true=true)->m<k+l.length->s<k+l.length->Region.lexFrom md ops l.length k listed=true->oQ P ops V m s cs Q l k a->rI P md ops V m s cs Q l.length listed a
 | [],k,listed,a,_,mF,hm,hs',hB,h=>⟨by simpa [Region.lexFrom]using hB,mF m (by simpa using hm),mF s (by simpa using hs'),h⟩
 | o :: l,k,listed,a,hl,mF,hm,hs',hB,h=>by
  have h0:ops[k]?=some o:=by simpa using (hl 0).symm
  simp only[bk,Region.lexFrom,fl]at hB;obtain⟨⟨hr,hf⟩,hB'⟩:=hB;obtain⟨v,hy,hK⟩:=oO h;refine uK h0 (wg hs) hys l.length listed a (DX h0 hf) (by simpa using hr) hy
   (tL hs hys l (k+1) _ _ (fun j=>by have:=hl (j+1);simpa [un,DY 1 j]using this) ?_ (by simp only[bk]at hm;omega) (by simp only[bk]at hs';omega) hB' hK)
  intro j hj
  by_cases e:k=j
  ·subst e;exact eC listed k
  ·rw[ez true e];exact mF j (by omega)
theorem rJ {Q:Act->Prop} (hs:Region.noSelect ops=true) (hys:∀o,ops[s]?=some o->∀p∈cs,∀t,p.1=.tmp t->t∈o.looksAt ops):∀(l:List Oper) (k:Nat) (listed:Array Bool) (a:Act),(∀j,l[j]?=ops[k+j]?) ->
  (∀j,j<k->listed.getD j true=true)->listed.size=ops.size->s<k+l.length->Region.lexFrom md ops l.length k listed=true->oQ P ops V ops.size s cs Q l k a->rI P md ops V ops.size s cs Q l.length listed a
 | [],k,listed,a,_,mF,hm,hs',hB,h=>⟨by simpa [Region.lexFrom]using hB,by simp[hm],mF s (by simpa using hs'),h⟩
 | o :: l,k,listed,a,hl,mF,hm,hs',hB,h=>by
  have h0:ops[k]?=some o:=by simpa using (hl 0).symm
  simp only[bk,Region.lexFrom,fl]at hB;obtain⟨⟨hr,hf⟩,hB'⟩:=hB;obtain⟨v,hy,hK⟩:=oO h;refine uK h0 (wg hs) hys l.length listed a (DX h0 hf) (by simpa using hr) hy
   (rJ hs hys l (k+1) _ _ (fun j=>by have:=hl (j+1);simpa [un,DY 1 j]using this) ?_ (by simpa using hm) (by simp only[bk]at hs';omega) hB' hK)
  intro j hj
  by_cases e:k=j
  ·subst e;exact eC listed k
  ·rw[ez true e];exact mF j (by omega)
theorem uL {o:Oper} {K':Act->World->Prop} {Q':Exit->Act->World->Prop} (h1:o.quietAt P a (fun w''=>Ext w w'') w v) (hK:∀w'',Ext w w''->K' (a.put o.dst v) w''):o.wp P a w K' Q':=by
 unfold Oper.quietAt at h1;unfold Oper.wp
 generalize (execOp a.eval o).run P w=r at *
 cases r with
 | ok n w' =>
  cases n<;>simp only[Oper.quietUpon]at h1<;>simp only[Oper.upon]
  case value u=>obtain⟨e1,e2⟩:=h1;rw[e1,e2];exact hK _ (Ext.refl _)
  case skip=>obtain⟨e1,e2⟩:=h1;rw[e1,<-e2];exact hK _ (Ext.refl _)
  case enter f args =>
   obtain⟨e1,hc⟩:=h1;rw[e1];exact hc.mono fun e w'' ⟨he,hw''⟩=>by subst he;exact hK _ hw''
 | halt x w'=>simp only[Oper.quietUpon]at h1
theorem wK {Q:Act->Prop} {Q':Exit->Act->World->Prop} {d:Tmp} {om os:Oper} {Z Z':Obj} {yo:Operand} {vy:Value}
  (EF:ops[m]?=some om) (hgm:om.guard=none) (hdm:om.dst=some d) (oW:ops[s]?=some os) (Zc:os.guard=none) (Zd:os.dst=none) (Ze:m≠s)
  (wL:∀(a:Act) (w:World),(execOp a.eval om).run P w=.ok (.value (.pointer (some ⟨w.heap.size,0,none⟩))) (w.alloc Z))
  (jR:∀(a:Act) (w:World) (bx:Nat),d<a.tmps.size->Has w bx Z->(a.put (some d) (.pointer (some ⟨bx,0,none⟩))).eval yo=vy->∃w'',(execOp (a.put (some d) (.pointer (some ⟨bx,0,none⟩))).eval os).run P w=.ok .skip w''/\Has w'' bx Z'/\Only [bx] w w'')
  (NY:yo≠.tmp d) (hsm:∃e∈os.after,Region.binds md e=true/\e.on=m)
  (nY:∀(j:Nat) (o:Oper) cs b,ops[j]?=some o->o.op≠.select cs b)
  (hap:∀i oi,ops[i]?=some oi->i≠m->i≠s->d∉oi.looksAt ops/\oi.dst≠some d)
  (hQ:∀a w bx,Ext V w->V.heap.size<=bx->Has w bx Z'->Q a->Q' .normal (a.put (some d) (.pointer (some ⟨bx,0,none⟩))) w) :
  ∀ (f:Nat) (listed:Array Bool) (a:Act) (w:World),Ext V w->d<a.tmps.size->rI P md ops V m s [(yo,vy)] Q f listed a ->
   (listed.getD m true=false->listed.getD s true=false->wpAny P md ops Q' f listed a w) /\
   (listed.getD m true=true->∀bx,V.heap.size<=bx->((listed.getD s true=false/\Has w bx Z)\/(listed.getD s true=true/\Has w bx Z'))->wpAny P md ops Q' f listed (a.put (some d) (.pointer (some ⟨bx,0,none⟩))) w)
 | 0,listed,a,w,hE,hsz,h=>by
  obtain⟨h1,h2,h3,h4⟩:=h;refine⟨fun h=>(by rw[h2]at h;cases h),fun _ bx vT hz=>⟨h1,?_⟩⟩;rcases hz with⟨h5,_⟩|⟨_,h5⟩
  ·rw[h3]at h5;cases h5
  ·exact hQ a w bx hE vT h5 h4
 | f + 1, listed,a,w,hE,hsz,h=>by
  have hps:∀dst v,d<(a.put dst v).tmps.size:=fun dst v=>by cases dst<;>simpa [Act.put]using hsz
  have ih:=wK EF hgm hdm oW Zc Zd Ze wL jR NY hsm nY hap hQ f;obtain⟨hne,hall⟩:=h;refine⟨fun hm aah=>⟨fun h0=>absurd h0 hne,fun i hi=>?_⟩,fun hm bx vT hz=>⟨fun h0=>absurd h0 hne,fun i hi=>?_⟩⟩
  ·have hr:=hall i hi
   obtain⟨sn,oi,ta,rK⟩:=jt.1 hi
   by_cases e:i=m
   ·subst e
    unfold sN at hr;rw[af rfl]at hr;obtain rfl:om=oi:=nt (EF.symm.trans ta);unfold wpOp;rw[EF];dsimp only;have hw:Region.wanted om (yielded ops a.tmps)=true:=by unfold Region.wanted;rw[hgm]
    rw[af hw]
    left
    unfold Oper.wp;rw[wL a w];simp only[Oper.upon];rw[hdm];refine (ih _ a (w.alloc Z) (hE.alloc Z) hsz hr).2 (eC listed i) w.heap.size hE.size ?_
    left
    exact⟨by rw[ez true Ze];exact aah,Has.new w Z⟩
   ·by_cases e2:i=s
    ·subst e2
     obtain rfl:os=oi:=nt (oW.symm.trans ta);obtain⟨ed,m_,oU,pX⟩:=hsm;have:=rK ed m_ oU;rw[pX]at this
     exfalso
     rcases lq m listed.size with h'|h'
     ·simp[h']at this hm;rw[hm]at this;cases this
     ·simp[rf h']at this
    ·unfold sN at hr
     rw[ac e,ac e2,ta]at hr;unfold wpOp;rw[ta];dsimp only at hr|-;split
     ·rename_i hw
      rw[af hw]at hr;obtain⟨v,h1,h2⟩:=hr
      left
      exact uL (h1 ⟨w,hE⟩) fun w'' hx=>(ih _ _ w'' (hE.trans hx) (hps _ _) h2).1 (by rw[ez true e];exact hm) (by rw[ez true e2];exact aah)
     ·rename_i hw
      rw[ac hw]at hr;exact (ih _ _ w hE (hps _ _) hr).1 (by rw[ez true e];exact hm) (by rw[ez true e2];exact aah)
  ·have hr:=hall i hi
   obtain⟨sn,oi,ta,rK⟩:=jt.1 hi;have e:i≠m:=fun e=>by rw[e,hm]at sn;cases sn
   by_cases e2:i=s
   ·subst e2
    obtain rfl:os=oi:=nt (oW.symm.trans ta);rcases hz with⟨_,hz⟩|⟨hz,_⟩
    ·unfold sN at hr
     rw [ac e,af rfl]at hr;obtain⟨w'',ue,xK,hx3⟩:=jR a w bx hsz hz (by
      rw[Act.eval_put (fun d' hd he=>NY (by injection hd with hd;rw[hd];exact he))];exact hr.1 (yo,vy) (by simp))
     unfold wpOp;rw[oW];dsimp only;have hw:Region.wanted os (yielded ops (a.put (some d) (.pointer (some ⟨bx,0,none⟩))).tmps)=true:=by unfold Region.wanted;rw[Zc]
     rw[af hw]
     left
     unfold Oper.wp;rw[ue];simp only[Oper.upon];rw[Zd];exact (ih _ a w'' (hx3.after hE (by intro x hx;rw[ax]at hx;omega)) hsz hr.2).2 (by rw[ez true (dA Ze)];exact hm) bx vT (.inr ⟨eC listed i,xK⟩)
    ·rw[hz]at sn;cases sn
   ·obtain ⟨Y9,mZ⟩:=hap i oi ta e e2
    unfold sN at hr;rw[ac e,ac e2,ta]at hr;unfold wpOp;rw[ta];dsimp only at hr|-;have mP:∀x,some d=some x->x∉oi.looksAt ops:=fun x hx=>by injection hx with hx;rw[<-hx];exact Y9
    rw[zr oi a (some d) _ mP];have Zf:∀v,(a.put (some d) (.pointer (some ⟨bx,0,none⟩))).put oi.dst v=(a.put oi.dst v).put (some d) (.pointer (some ⟨bx,0,none⟩)):=fun v=>DW a _ v (fun x hx xK=>mZ (by rw[xK,hx]))
    split
    ·rename_i hw
     rw[af hw]at hr;obtain⟨v,h1,h2⟩:=hr
     left
     refine uL (v:=v) (by
      have:=h1 ⟨w,hE⟩;unfold Oper.quietAt at *;rw[zq oi (fun cs b=>nY i oi cs b ta) a (some d) _ mP];exact this) fun w'' hx=>?_
     rw[Zf];refine (ih _ _ w'' (hE.trans hx) (hps _ _) h2).2 (by rw[ez true e];exact hm) bx vT ?_;rw[ez true e2];rcases hz with⟨z1,z2⟩|⟨z1,z2⟩
     ·exact .inl ⟨z1,z2.ext hx⟩
     ·exact .inr ⟨z1,z2.ext hx⟩
    ·rename_i hw
     rw[ac hw]at hr;rw[Zf];refine (ih _ _ w hE (hps _ _) hr).2 (by rw[ez true e];exact hm) bx vT ?_;rw[ez true e2];exact hz
theorem lc {Q:Act->Prop} {rest:List Oper}:∀(pB:List Oper) (k:Nat) (a:Act),(∀j,j<pB.length->k+j≠m/\k+j≠s)->(∀j,j<pB.length->pB[j]?=ops[k+j]?) ->
  aM P ops V (fun a'=>oQ P ops V m s cs Q rest (k+pB.length) a') pB a->oQ P ops V m s cs Q (pB++rest) k a
 | [],k,a,_,_,h=>h
 | o :: pB,k,a,hne,hl,h=>by
  have h0:ops[k]?=some o:=by simpa using (hl 0 (by simp)).symm
  obtain⟨n1,n2⟩:=hne 0 (by simp);rw[zo]at n1 n2;have ih:=fun a'=>lc (Q:=Q) (rest:=rest) pB (k+1) a' (fun j hj=>by have:=hne (j+1) (by simp;omega);rw[show k+1+j=k+(j+1) by omega];exact this) (fun j hj=>by have:=hl (j+1) (by simp;omega);rw[show k+1+j=k+(j+1) by omega];simpa using this)
  rw[show k+(o::pB).length=k+1+pB.length by simp;omega]at h;unfold aM at h;show sN P ops V m s cs k (oQ P ops V m s cs Q (pB++rest) (k+1)) a;unfold sN;rw[ac n1,ac n2,h0];dsimp only;split
  ·rename_i hw
   rw[af hw]at h;obtain⟨v,h1,h2⟩:=h;exact⟨v,h1,ih _ h2⟩
  ·rename_i hw
   rw[ac hw]at h;exact ih _ h
end
def JW (l:List Oper) (m s:Nat) (d t:Tmp):Bool:=
 decide (m<s)&&decide (s<l.length)&&decide (t≠d) &&
 (match l[m]? with|some om=>om.guard == none&&om.dst == some d|none=>false) &&
 (match l[s]? with|some os=>os.guard == none&&os.dst == none&&(os.looksAt l.toArray).contains t&&os.after.any (fun e=>Region.binds .any e&&e.on == m)|none=>false) &&
 (List.range l.length).all fun i=>i == m || i == s || (match l[i]? with|some oi=>!(oi.looksAt l.toArray).contains d&&oi.dst != some d|none=>true)
theorem tc {P:Program} {id:Nat} {Q:Exit->Act->World->Prop} {a:Act} {w:World} {l:List Oper} (V:World) (m s:Nat) (d t:Tmp) (vy:Value) (Z Z':Obj) (om os:Oper)
  (hmo:P.follows .mixedOrders=true) (hB:Region.lexB .any l.toArray=true) (hc:JW l m s d t=true) (EF:l[m]?=some om) (oW:l[s]?=some os)
  (wL:∀(a:Act) (w:World),(execOp a.eval om).run P w=.ok (.value (.pointer (some ⟨w.heap.size,0,none⟩))) (w.alloc Z))
  (jR:∀(a:Act) (w:World) (bx:Nat),d<a.tmps.size->Has w bx Z->(a.put (some d) (.pointer (some ⟨bx,0,none⟩))).eval (.tmp t)=vy->∃w'',(execOp (a.put (some d) (.pointer (some ⟨bx,0,none⟩))).eval os).run P w=.ok .skip w''/\Has w'' bx Z'/\Only [bx] w w'')
  (hV:Ext V w.drew) (WY:d<a.tmps.size)
  (h:aM P l.toArray V (fun a1=>aM P l.toArray V (fun a2=>a2.eval (.tmp t)=vy/\aM P l.toArray V (fun a3=>∀w' bx,Ext V w'->V.heap.size<=bx->Has w' bx Z'->Q .normal (a3.put (some d) (.pointer (some ⟨bx,0,none⟩))) w') (l.drop (s+1)) a2) ((l.take s).drop (m+1)) a1) (l.take m) a) :
  (Code.region id l.toArray true).wp P Q a w:=by
 simp only[JW,fl,lZ,rr,xF,il]at hc;obtain⟨⟨⟨⟨⟨c1,c2⟩,c3⟩,c4⟩,c5⟩,c6⟩:=hc;rw[EF]at c4;rw[oW]at c5;simp only[fl,il,wh]at c4 c5;obtain⟨g1,g2⟩:=c4;obtain⟨⟨⟨g3,g4⟩,g5⟩,g6⟩:=c5;simp only[Region.lexB,fl]at hB;have nY:=wg hB.1;have aai:l.toArray[m]?=some om:=by simpa using EF
 have z_:l.toArray[s]?=some os:=by simpa using oW
 have hys:∀o,l.toArray[s]?=some o->∀p∈[(Operand.tmp t,vy)],∀x,p.1=.tmp x->x∈o.looksAt l.toArray:=fun o ho p hp x hx=>by
  rw[ax]at hp;subst hp;rw[z_]at ho;injection ho with ho;injection hx with hx;rw[<-ho,<-hx];simpa using g5
 refine zt hmo ?_;have ig:(l.take m).length=m:=by simp;omega
 have cq:((l.take s).drop (m+1)).length=s-(m+1):=by simp;omega
 have EH:oQ P l.toArray V m s [(.tmp t,vy)] (fun a3=>∀w' bx,Ext V w'->V.heap.size<=bx->Has w' bx Z'->Q .normal (a3.put (some d) (.pointer (some ⟨bx,0,none⟩))) w') l 0 a:=by
  have e:l=l.take m++(om::((l.take s).drop (m+1)++(os::l.drop (s+1)))):=by
   have e1:l.drop m=om::l.drop (m+1):=by rw[jg (by omega)];congr 1;rw[iq (by omega)]at EF;injection EF
   have e2:l.drop s=os::l.drop (s+1):=by rw[jg c2];congr 1;rw[iq c2]at oW;injection oW
   have e3:(l.take s).drop (m+1)++l.drop s=l.drop (m+1):=by
    conv=>rhs;rw[<-qE s l,RI (by simp;omega)]
   rw[<-e2,e3,<-e1,qE]
  conv=>arg 8;rw[e]
  refine lc (l.take m) 0 a (fun j hj=>by rw[ig]at hj;omega) (fun j hj=>by rw[ig]at hj;rw[eY];simp[hj]) ?_;rw[eY,ig];have pC:∀{Q1 Q2:Act->Prop},(∀a,Q1 a->Q2 a)->∀(pB:List Oper) (a:Act),aM P l.toArray V Q1 pB a->aM P l.toArray V Q2 pB a:=by
   intro Q1 Q2 hq pB
   induction pB with
   | nil=>intro a h;exact hq a h
   | cons o pB ih =>
    intro a h;unfold aM at h|-;split
    ·rename_i hw;rw[af hw]at h;obtain⟨v,h1,h2⟩:=h;exact⟨v,h1,ih _ h2⟩
    ·rename_i hw;rw[ac hw]at h;exact ih _ h
  refine pC (fun a1 h1=>?_) _ _ h;show sN P l.toArray V m s [(.tmp t,vy)] m _ a1;unfold sN;rw[af rfl];refine lc ((l.take s).drop (m+1)) (m+1) a1 (fun j hj=>by rw[cq]at hj;omega) (fun j hj=>by rw[cq]at hj;rw[Ju,List.getElem?_take_of_lt (by omega)];simp) ?_;rw[cq,show m+1+(s-(m+1))=s by omega];refine pC (fun a2 h2=>?_) _ _ h1;show sN P l.toArray V m s [(.tmp t,vy)] s _ a2;unfold sN;rw[ac (by omega),af rfl];refine⟨fun p hp=>by rw[ax]at hp;subst hp;exact h2.1,?_⟩;have e5:l.drop (s+1)=l.drop (s+1)++[]:=by simp
  rw[e5];refine lc (l.drop (s+1)) (s+1) a2 (fun j hj=>by omega) (fun j hj=>by simp) ?_;exact h2.2
 have hR:=tL (md:=.any) (m:=m) (s:=s) hB.1 hys l 0 (Array.replicate l.toArray.size false) a (by simp) (fun j hj=>by omega) (by simpa using (by omega:m<l.length)) (by simpa using c2) (by simpa using hB.2) EH;have hf:∀i,i<l.length->(Array.replicate l.toArray.size false).getD i true=false:=fun i hi=>by simp[hi]
 have:=(wK (V:=V) (P:=P) (ops:=l.toArray) (md:=.any) (m:=m) (s:=s) (yo:=.tmp t) (vy:=vy) (Q':=Q) aai g1 g2 z_ g3 g4 (by omega) wL jR (by intro e;injection e with e;exact c3 e) ?_ nY ?_ (fun a w bx h1 h2 h3 h4=>h4 w bx h1 h2 h3) _ _ a w.drew hV WY hR).1 (hf m (by omega)) (hf s c2)
 ·simpa using this
 ·obtain ⟨e,he,oU⟩:=g6
  exact⟨e,he,oU.1,by simpa using oU.2⟩
 ·intro i oi hi h1 h2
  have hil:i<l.length:=by
   rcases lq i l.length with h'|h'
   ·exact h'
   ·rw[rf (by simpa using h')]at hi;cases hi
  have:=c6 i (ru.2 hil);rw[show l[i]?=some oi by simpa using hi]at this;rcases this with (this|this)|this
  ·exact absurd this h1
  ·exact absurd this h2
  ·simpa using this
theorem Has.Gs {a0 a1 a2 a3:Value} (h:Has w b (.cells #[a0,a1,a2,a3] t)) (q:dW):Has (w.setCells b 0 [.int .i64 q.blocks,.int .i64 q.nodes,.int .i64 q.bH,.int .i64 q.bG]) b (.cells #[q.blocks,q.nodes,q.bH,q.bG] t):=
 (((h.setCell 0 (.int .i64 q.blocks)).setCell 1 (.int .i64 q.nodes)).setCell 2 (.int .i64 q.bH)).setCell 3 (.int .i64 q.bG)
theorem nH:(prog.info? 189).map (·.size)=some 4:=by kernel_rfl
theorem BW (b:Nat):∀(vs:List Value) (o:Nat) (w:World),Only [b] w (w.setCells b o vs):=by
 intro vs
 induction vs with
 | nil=>intro o w;exact Only.refl _ _
 | cons v vs ih=>intro o w;exact (Only.setCell w b o v).then (ih (o+1) _)
theorem Gt {a0 a1 a2 a3:Value} (h:Has w b (.cells #[a0,a1,a2,a3] t)):w.there b 0 4:=fun j hj=>by
 rw[eY,h.cell j,h.free j];refine⟨?_,by simp⟩;rw[RN (by simpa using hj)];rfl
theorem wM (q:dW):(#[q.blocks,q.nodes,q.bH,q.bG]:Array Value).all (·.oneCell')=true:=rv (cs:=[.int .i64 q.blocks,.int .i64 q.nodes,.int .i64 q.bH,.int .i64 q.bG]) fun u hu=>by
 simp only[aR,bg,bh]at hu;rcases hu with rfl|rfl|rfl|rfl<;>rfl
theorem qJ {id:Nat} {Q:Exit->Act->World->Prop} {l:List Oper} (V:World) (m s:Nat) (d t:Tmp) (q:dW) (om os:Oper)
  (hB:Region.lexB .any l.toArray=true) (hc:JW l m s d t=true) (EF:l[m]?=some om) (oW:l[s]?=some os) (NS:om.op=.alloc 189) (pj:os.op=.store 189 (.tmp d) (.tmp t)) (WY:d<a.tmps.size)
  (hV:Ext V w.drew) :
  aM prog l.toArray V (fun a1=>aM prog l.toArray V (fun a2=>a2.eval (.tmp t)=.agg #[q.blocks,q.nodes,q.bH,q.bG]/\aM prog l.toArray V (fun a3=>∀w' bx,Ext V w'->V.heap.size<=bx->Has w' bx (.cells #[q.blocks,q.nodes,q.bH,q.bG] 189)->Q .normal (a3.put (some d) (.pointer (some ⟨bx,0,none⟩))) w') (l.drop (s+1)) a2) ((l.take s).drop (m+1)) a1) (l.take m) a ->
  (Code.region id l.toArray true).wp prog Q a w:=by
 refine tc V m s d t (.agg #[q.blocks,q.nodes,q.bH,q.bG]) (.cells #[(),(),(),()] 189) _ om os (by kernel_rfl) hB hc EF oW ?_ ?_ hV WY
 ·intro a w
  simp[execOp,NS,go_sem]
 ·intro a w bx hsz hb he
  have hd:(a.put (some d) (.pointer (some ⟨bx,0,none⟩))).eval (.tmp d)=.pointer (some ⟨bx,0,none⟩):=by
   simp[Act.put,Act.eval,hsz]
  refine⟨_,?_,hb.Gs q,BW bx _ 0 w⟩;simp only[execOp,pj,hd,he,tF w bx 0 189 #[q.blocks,q.nodes,q.bH,q.bG] (Gt hb) nH (wM q),nr,o7,rn]
theorem uO {o:Oper} {C:World->Prop} {t:Operand} {ix:Nat} (ho:o.op=.extract t ix) (h:o.quietAt P a C w v) (w':World):(execOp a.eval o).run P w'=.ok (.value v) w':=by
 have e:∀w:World,(execOp a.eval o).run P w=((do pure (Next.value (<-Instr.extract (a.eval t) ix))):Sem Next).run P w:=fun w=>by unfold execOp;rw[ho]
 unfold Oper.quietAt at h;rw[e]at h|-
 cases hx:a.eval t with
 | tuple vs =>
  cases hv:vs[ix]? with
  | none=>simp[Instr.extract,hx,hv,stuck,Oper.quietUpon]at h
  | some u =>
   simp[Instr.extract,hx,hv,Oper.quietUpon]at h|-;exact h
 | _=>simp[Instr.extract,hx,stuck,Oper.quietUpon]at h
theorem CJ {P:Program} {ops:Array Oper} {md:Region.Mode} {V:World} {s:Nat} {cs:List (Operand×Value)} {Q:Act->Prop} {Q':Exit->Act->World->Prop} {os:Oper} {F:World->Prop}
  (oW:ops[s]?=some os) (Zc:os.guard=none) (Zd:os.dst=none)
  (jR:∀(a:Act) (w:World),Ext V w->MG cs a->∃w'',(execOp a.eval os).run P w=.ok .skip w''/\F w'')
  (hpu:∀i oi,ops[i]?=some oi->i≠s->(∃e∈os.after,Region.binds md e=true/\e.on=i)\/(oi.guard=none/\∃t ix,oi.op=.extract t ix))
  (hQ:∀a w,F w->Q a->Q' .normal a w) :
  ∀ (f:Nat) (listed:Array Bool) (a:Act) (w:World),rI P md ops V ops.size s cs Q f listed a ->
   (listed.getD s true=false->Ext V w->wpAny P md ops Q' f listed a w) /\
   (listed.getD s true=true->F w->(∀i oi,ops[i]?=some oi->listed.getD i true=false->oi.guard=none/\∃t ix,oi.op=.extract t ix)->wpAny P md ops Q' f listed a w)
 | 0,listed,a,w,h=>by
  obtain⟨h1,_,h3,h4⟩:=h;exact⟨fun h=>(by rw[h3]at h;cases h),fun _ hF _=>⟨h1,hQ a w hF h4⟩⟩
 | f + 1, listed,a,w,h=>by
  have ih:=fun listed a w=>CJ oW Zc Zd jR hpu hQ f listed a w
  obtain⟨hne,hall⟩:=h;refine⟨fun hs hE=>⟨fun h0=>absurd h0 hne,fun i hi=>?_⟩,fun hs hF sn=>⟨fun h0=>absurd h0 hne,fun i hi=>?_⟩⟩
  ·have hr:=hall i hi
   obtain⟨EI,oi,ta,rK⟩:=jt.1 hi;have NZ:i≠ops.size:=by have:=(jM.1 ta).1;omega
   unfold sN at hr;rw[ac NZ]at hr
   by_cases e2:i=s
   ·subst e2
    obtain rfl:os=oi:=nt (oW.symm.trans ta);rw[af rfl]at hr;obtain⟨w'',ue,xK⟩:=jR a w hE hr.1;unfold wpOp;rw[oW];dsimp only;have hw:Region.wanted os (yielded ops a.tmps)=true:=by unfold Region.wanted;rw[Zc]
    rw[af hw]
    left
    unfold Oper.wp;rw[ue];simp only[Oper.upon];rw[Zd];refine (ih _ a w'' hr.2).2 (eC listed i) xK fun j oj BP hj=>?_
    have s9:j≠i:=fun e=>by rw[e,eC]at hj;cases hj
    rcases hpu j oj BP s9 with⟨e,m_,oU,pX⟩|hp
    ·have:=rK e m_ oU
     rw[pX]at this;rw[ez true (dA s9)]at hj;rcases lq j listed.size with h'|h'
     ·simp[h']at this hj;rw[hj]at this;cases this
     ·simp[rf h']at this
    ·exact hp
   ·rw [ac e2,ta]at hr
    unfold wpOp;rw[ta];dsimp only at hr|-;split
    ·rename_i hw
     rw[af hw]at hr;obtain⟨v,h1,h2⟩:=hr
     left
     exact uL (h1 ⟨w,hE⟩) fun w'' hx=>(ih _ _ w'' h2).1 (by rw[ez true e2];exact hs) (hE.trans hx)
    ·rename_i hw
     rw[ac hw]at hr;exact (ih _ _ w hr).1 (by rw[ez true e2];exact hs) hE
  ·have hr:=hall i hi
   obtain⟨EI,oi,ta,rK⟩:=jt.1 hi;have NZ:i≠ops.size:=by have:=(jM.1 ta).1;omega
   have e2:i≠s:=fun e=>by rw[e,hs]at EI;cases EI
   obtain⟨hg,t,ix,hx⟩:=sn i oi ta EI;unfold sN at hr;rw[ac NZ,ac e2,ta]at hr;unfold wpOp;rw[ta];dsimp only at hr|-;have hw:Region.wanted oi (yielded ops a.tmps)=true:=by unfold Region.wanted;rw[hg]
   rw[af hw]at hr|-;obtain⟨v,h1,h2⟩:=hr
   left
   unfold Oper.wp;rw[uO hx (h1 ⟨V,Ext.refl V⟩) w];simp only[Oper.upon];refine (ih _ _ w h2).2 (by rw[ez true e2];exact hs) hF fun j oj BP hj=>?_
   by_cases e:i=j
   ·subst e;rw[eC]at hj;cases hj
   ·rw[ez true e]at hj;exact sn j oj BP hj
def wN (o:Oper):Bool:=match o.op with
 | .extract _ _=>true
 | _=>false
def EJ (l:List Oper) (i:Nat):Bool:=
 match l[i]? with
 | some oi=>(oi.guard == none)&&wN oi
 | none=>true
def Zg (l:List Oper) (s:Nat) (x y:Tmp) (os:Oper):Bool:=
 os.guard == none&&os.dst == none&&(os.looksAt l.toArray).contains x&&(os.looksAt l.toArray).contains y &&
  (List.range l.length).all (fun i=>(i == s || os.after.any (fun e=>Region.binds .any e&&e.on == i)) || EJ l i)
def Sy (l:List Oper) (s:Nat) (x y:Tmp):Bool:=
 decide (s<l.length)&&(match l[s]? with
  | some os=>Zg l s x y os
  | none=>false)
theorem BX {P:Program} {id:Nat} {Q:Exit->Act->World->Prop} {a:Act} {w:World} {l:List Oper} (V:World) (s:Nat) (x y:Tmp) (vx vy:Value) (F:World->Prop) (os:Oper)
  (hmo:P.follows .mixedOrders=true) (hB:Region.lexB .any l.toArray=true) (hc:Sy l s x y=true) (oW:l[s]?=some os)
  (jR:∀(a:Act) (w:World),Ext V w->a.eval (.tmp x)=vx->a.eval (.tmp y)=vy->∃w'',(execOp a.eval os).run P w=.ok .skip w''/\F w'')
  (hV:Ext V w.drew)
  (h:aM P l.toArray V (fun a2=>a2.eval (.tmp x)=vx/\a2.eval (.tmp y)=vy/\aM P l.toArray V (fun a3=>∀w',F w'->Q .normal a3 w') (l.drop (s+1)) a2) (l.take s) a) :
  (Code.region id l.toArray true).wp P Q a w:=by
 simp only[Sy,oW,Zg,fl,lZ,rr,xF,il,wh]at hc;obtain⟨c2,⟨⟨⟨g3,g4⟩,g5⟩,g6⟩,c6⟩:=hc;simp only[Region.lexB,fl]at hB;have z_:l.toArray[s]?=some os:=by simpa using oW
 have hys:∀o,l.toArray[s]?=some o->∀p∈[(Operand.tmp x,vx),(Operand.tmp y,vy)],∀z,p.1=.tmp z->z∈o.looksAt l.toArray:=fun o ho p hp z hz=>by
  rw[z_]at ho;injection ho with ho;simp only[aR,bg,bh]at hp;rcases hp with rfl|rfl
  ·injection hz with hz;rw[<-ho,<-hz];simpa using g5
  ·injection hz with hz;rw[<-ho,<-hz];simpa using g6
 refine zt hmo ?_;have ig:(l.take s).length=s:=by simp;omega
 have EH:oQ P l.toArray V l.toArray.size s [(.tmp x,vx),(.tmp y,vy)] (fun a3=>∀w',F w'->Q .normal a3 w') l 0 a:=by
  have e:l=l.take s++(os::l.drop (s+1)):=by
   have e2:l.drop s=os::l.drop (s+1):=by rw[jg c2];congr 1;rw[iq c2]at oW;injection oW
   rw[<-e2,qE]
  conv=>arg 8;rw[e]
  refine lc (l.take s) 0 a (fun j hj=>by rw[ig]at hj;simp;omega) (fun j hj=>by rw[ig]at hj;rw[eY];simp[hj]) ?_;rw[eY,ig];have pC:∀{Q1 Q2:Act->Prop},(∀a,Q1 a->Q2 a)->∀(pB:List Oper) (a:Act),aM P l.toArray V Q1 pB a->aM P l.toArray V Q2 pB a:=by
   intro Q1 Q2 hq pB
   induction pB with
   | nil=>intro a h;exact hq a h
   | cons o pB ih =>
    intro a h;unfold aM at h|-;split
    ·rename_i hw;rw[af hw]at h;obtain⟨v,h1,h2⟩:=h;exact⟨v,h1,ih _ h2⟩
    ·rename_i hw;rw[ac hw]at h;exact ih _ h
  refine pC (fun a2 h2=>?_) _ _ h;show sN P l.toArray V l.toArray.size s _ s _ a2;unfold sN;rw[ac (by simp;omega),af rfl];refine⟨fun p hp=>?_,?_⟩
  ·simp only[aR,bg,bh]at hp
   rcases hp with rfl|rfl
   ·exact h2.1
   ·exact h2.2.1
  have e5:l.drop (s+1)=l.drop (s+1)++[]:=by simp
  rw[e5];refine lc (l.drop (s+1)) (s+1) a2 (fun j hj=>by simp at hj|-;omega) (fun j hj=>by simp) ?_;exact h2.2.2
 have hR:=rJ (md:=.any) (s:=s) hB.1 hys l 0 (Array.replicate l.toArray.size false) a (by simp) (fun j hj=>by omega) (by simp) (by simpa using c2) (by simpa using hB.2) EH;have:=(CJ (V:=V) (P:=P) (ops:=l.toArray) (md:=.any) (s:=s) (Q':=Q) (F:=F) z_ g3 g4 (fun a w h1 h2=>jR a w h1 (h2 (.tmp x,vx) (by simp)) (h2 (.tmp y,vy) (by simp))) ?_ (fun a w h1 h2=>h2 w h1) _ _ a w.drew hR).1 (by simp[c2]) hV
 ·simpa using this
 ·intro i oi hi h1
  have hil:i<l.length:=by
   rcases lq i l.length with h'|h'
   ·exact h'
   ·rw[rf (by simpa using h')]at hi;cases hi
  have:=c6 i (ru.2 hil);unfold EJ at this;rw[show l[i]?=some oi by simpa using hi]at this;dsimp only at this;rcases this with (this|this)|this
  ·exact absurd this h1
  ·obtain ⟨e,he,oU⟩:=this
   exact .inl ⟨e,he,oU.1,by simpa using oU.2⟩
  ·right
   simp only[fl,il]at this;refine⟨this.1,?_⟩;have h3:=this.2;unfold wN at h3
   cases ho:oi.op<;>simp[ho]at h3
   exact⟨_,_,rfl⟩
end
open Go.ChangeShapes Go.WideShapes Go.ChangeAt Go.RowKit
def Zh (w:World) (B:Nat) (g:cI) (S:ag) (X:cY) (n:ak) (e:Ending) (w':World):Prop:=
 e = .returned (.tuple #[.int .i64 (qI S n),.int .i64 (gp S n)])/\∃bN,gv w' B ⟨g.bF,bN,g.bE⟩ (cC S n) X/\Only g.list w w'/\(bN=g.bN\/w.heap.size<=bN)
theorem Aa {g:cI} {X:cY} {x:Int} (h:gv w B g S X) (hE:Ext w w') (hx:gp S n=x) (h0:x≠0):Zh w B g S X n (.returned (.tuple #[(),x])) w':=by
 refine⟨?_,g.bN,?_,Only.az hE,.inl rfl⟩
 ·unfold qI;rw[hx,ac h0]
 ·unfold cC;rw[hx,ac h0];exact h.ext hE
theorem N_ (B : Nat) (g:cI) (S:ag) (X:cY) (n:ak) (A:Option Addr) (c:Nat) (w:World) (h:gv w B g S X) (nE:S.nodes.length<=100000) (hn:aD w B n A c) (hr:eV S.ae) (mZ:S.ae.length<=8) (_hu:aQ S.nodes S.last) (l8:0<=S.last) (jZ:S.last<=1000000) (mP:n.data.length<=1000000000) :
  Calls prog 196 #[((),g.bF),.agg (n,A,c)] w (Zh w B g S X n):=by
 have h0:=h;obtain⟨h1,cn,cd,h3,hN,h4⟩:=h;obtain⟨W1,cA⟩:=ai (w.alloc (.cells (n,A,c) 66));have E1:Ext w W1:=by rw[cA];exact (Ext.refl _).alloc _
 have B1:Has W1 w.heap.size (.cells (n,A,c) 66):=by rw[cA];exact Has.new _ _
 rcases cT hr n.dev with⟨e1,e2⟩|⟨k,hk,e1,e2,e3,e4,e5,e6⟩
 ·have HE:Hid (gp S n=1):=by show _=_;unfold gp;rw[af e1]
  have e1b:(aI S.ae n.dev == 0)=true:=by rw[e1];rfl
  clear e1 e2;go_in;go_wp2_with fail;rw[<-cA];refine (iw B g S X n.dev _ (h0.ext E1) (by omega)).mono ?_;rintro e w2 ⟨rfl,b2⟩;go_wp2;go_ret2;exact Aa h0 (E1.trans b2) HE.o (by decide)
 ·have e0 : gp S n=eZ S.ae[k].q (cx n.kind n.data.length) 1:=by unfold gp;rw[ac (by rw[e4];omega),e3]
  have e1b:(aI S.ae n.dev == 0)=false:=by rw[e4];simpa using (show ¬S.ae[k].root=0 by omega)
  obtain⟨bl,oV⟩:=ai (cx n.kind n.data.length);have tJ:=sm (k:=n.kind) (s:=n.data.length) (by omega) (by omega);rw[<-oV]at tJ e0;obtain⟨q,hq⟩:=ai (S.ae[k].q);rw[<-hq]at e6 e0;have inr:V7 bl 1:=⟨by omega,by omega,by omega,by omega⟩;obtain⟨d0,d1,d2,d3,d4,d5⟩:=fg.at_ h4 k hk;rw[<-hq]at d2 d3 d4 d5;have HB:=zH oV;have lC:=zH e0;have HQ:=zH hq;have H3:=zH e3;have HD:=zH e1;have hsz:((bs n.data).size:Int)=n.data.length:=by rw[bo]
  clear e0 hq e1 e3 e4 e2 oV d0 d1;go_in;go_wp2_with fail;rw[<-cA];refine (iw B g S X n.dev _ (h0.ext E1) (by omega)).mono ?_;rintro e w2 ⟨rfl,b2⟩;have E2:=E1.trans b2;have x0:w2.cell? (w.heap.size,0)=some (.int .i64 n.no):=(B1.ext b2).cell 0;have x1:w2.cell? (w.heap.size,1)=some (.int .i64 n.dev):=(B1.ext b2).cell 1;have xz:=(B1.ext b2).lt;go_upto_region 3 with fail;have y0:(0:Int)<=n.dev-1:=by rw[HD.o];omega
  have y1:n.dev-1<(S.ae.length:Int):=by rw[HD.o];omega
  have y2:(n.dev-1).toNat=k:=by rw[HD.o];omega
  have y3:IntKind.i64.wrap (n.dev-1)=n.dev-1:=aU (by omega) (by omega);have y4:1<=n.dev:=by omega
  have y5:n.dev.toNat-1=k:=by omega
  have hl:=h0.lt;have c1':w2.cell? (g.bF,1)=some (.slice (some g.bE) S.ae.length cd):=(h3.ext E2).cell 1;have zF:g.bF<w2.heap.size:=(h3.ext E2).lt;have zE:g.bE<w2.heap.size:=by have:=E2.size;omega
  have R2:=B1.ext b2;clear x0 x1;go_cut [6,7] (fun p e wc=>∃bx,p=.pointer (some ⟨bx,0,none⟩)/\e=.int .i64 (eZ q bl 1)/\Has wc bx (.cells #[.int .i64 (bf q bl 1).blocks,.int .i64 (bf q bl 1).nodes,.int .i64 (bf q bl 1).bH,.int .i64 (bf q bl 1).bG] 189)/\Ext w2 wc)
  case first =>
   have K0:Hid (∀w:World,Calls prog 215 #[n.kind,n.data.length] w (fun e w'=>e=.returned (.int .i64 bl)/\w'=w)):=by
    show ∀w:World,_;intro w;rw[HB.o];exact uE n.kind n.data.length (by omega) (by omega) w
   have KT:Hid (∀w:World,Calls prog 214 #[.agg #[q.blocks,q.nodes,q.bH,q.bG],bl,.int .i64 1] w (aO w (.tuple #[.agg #[.int .i64 (bf q bl 1).blocks,.int .i64 (bf q bl 1).nodes,.int .i64 (bf q bl 1).bH,.int .i64 (bf q bl 1).bG],.int .i64 (eZ q bl 1)]))):=CC q bl 1 e6 inr;have u0:∀u:Gr w2,u.w.cell? (g.bF,1)=some (.slice (some g.bE) S.ae.length cd):=Gr.cell zF c1';have u1:∀u:Gr w2,u.w.cell? (w.heap.size,1)=some (.int .i64 n.dev):=Gr.cell R2.lt (R2.cell 1);have u2:∀u:Gr w2,u.w.cell? (w.heap.size,2)=some (.int .i64 n.kind):=Gr.cell R2.lt (R2.cell 2);have u10:∀u:Gr w2,u.w.cell? (w.heap.size,10)=some (.string (bs n.data)):=Gr.cell R2.lt (R2.cell 10);have t2:∀u:Gr w2,u.w.cell? (g.bE,k*6+2)=some (.int .i64 q.blocks):=Gr.cell zE ((E2.cell hl.2.2).trans d2);have t3:∀u:Gr w2,u.w.cell? (g.bE,k*6+3)=some (.int .i64 q.nodes):=Gr.cell zE ((E2.cell hl.2.2).trans d3);have t4:∀u:Gr w2,u.w.cell? (g.bE,k*6+4)=some (.int .i64 q.bH):=Gr.cell zE ((E2.cell hl.2.2).trans d4);have t5:∀u:Gr w2,u.w.cell? (g.bE,k*6+5)=some (.int .i64 q.bG):=Gr.cell zE ((E2.cell hl.2.2).trans d5);clear d2 d3 d4 d5 c1' zF zE;refine qJ w2 20 21 6 31 (bf q bl 1) _ _ (by kernel_rfl) (by kernel_rfl) rfl rfl rfl rfl (by simp) ((Ext.refl _).drew) ?_;simp only[qG,oH,qH,jN,p9]
   repeat (
       refine cH (fun K hK=>?_);go_simp
       first
        | (refine hK _ ?_;clear hK K)
        | (
          apply Exists.intro;refine⟨fun u=>?_,hK _ ?_⟩
          first
           | ((with_reducible refine (K0.o _).mono ?_);rintro e w'' ⟨rfl,rfl⟩;exact⟨rfl,Ext.refl _⟩)
           | ((with_reducible refine (KT.o _).mono ?_);rintro e w'' ⟨rfl,hx⟩;exact⟨rfl,hx⟩)
          clear hK K))
   refine bc ?_;refine bc ⟨rfl,?_⟩;refine cH (fun K hK=>?_);go_simp;refine hK _ ?_;clear hK K;refine bc ?_;intro w' bx hx vT hb;simp only[Act.put];go_wp2_with fail;go_meet;exact⟨bx,rfl,rfl,hb,hx⟩
  case rest =>
  obtain⟨bx,rfl,rfl,XB,Z⟩:=hcut;obtain⟨V2,oM⟩:=ai wc;rw[<-oM]at XB Z|-;clear oM d2 d3 d4 d5 c1';have Y:Ext w V2:=E2.trans Z;have B2:=(B1.ext b2).ext Z;have W2:=h0.ext Y
  by_cases hz:eZ q bl 1=0
  ·have hzb:(eZ q bl 1 == 0)=true:=by rw[hz];rfl
   have aae:(eZ q bl 1 != 0)=false:=by rw[hz];rfl
   have HZ:=zH hz;have cW:=(h3.ext Y).lt;have c1:V2.cell? (g.bF,1)=some (.slice (some g.bE) S.ae.length cd):=(h3.ext Y).cell 1;have x1:=aA B2 1 rfl;have xz2:=B2.lt;have q0:=aA XB 0 rfl;have q1:=aA XB 1 rfl;have q2:=aA XB 2 rfl;have q3:=aA XB 3 rfl;have ym:V2.ownsRow B 191 6 (.slice (some g.bE) S.ae.length cd) S.ae.length (bp S.ae):=av h4 (Only.az (L:=[]) Y) (by simp);obtain⟨_,_,d2,d3,d4,d5⟩:=fg.at_ (show fg V2 B _ _ S.ae from ym) k hk;have f2:=ym.frozenAt (k*6+2);have f3:=ym.frozenAt (k*6+3);have f4:=ym.frozenAt (k*6+4);have f5:=ym.frozenAt (k*6+5);clear hz;go_upto_region 6 with fail;go_cut [] (fun wc=>Only [g.bE] V2 wc/\wc.ownsRow B 191 6 (.slice (some g.bE) S.ae.length cd) S.ae.length (bp (jb S.ae ((k:Int)+1) (bf q bl 1))))
   case first =>
    go_still_tail 10,(by kernel_rfl);change wpList _ _ _ _ _ V2.drew;go_wp2_with fail;go_meet;have aaj:V2.drew.ownsRow B 191 6 (.slice (some g.bE) S.ae.length cd) S.ae.length (bp S.ae):=av ym (Only.az (L:=[]) ((Ext.refl _).drew)) (by simp);refine⟨(Only.az ((Ext.refl V2).drew)).then ((((Only.setCell _ _ _ _).then (Only.setCell _ _ _ _)).then (Only.setCell _ _ _ _)).then (Only.setCell _ _ _ _)),?_⟩;rw[<-lU S.ae k hk];exact (jL (jL (jL (jL aaj (k*6+2) _).1 (k*6+3) _).1 (k*6+4) _).1 (k*6+5) _).1
   case rest =>
   obtain ⟨O3,D3⟩:=hcut;obtain⟨V3,hV3⟩:=ai wc;rw[<-hV3]at O3 D3|-;clear hV3;have W2a:=W2.apart;obtain⟨m1,m2,m3⟩:=W2.ne;have H3':=O3.has (h3.ext Y) (by simpa using m2);have N3:Gl V3 B (.slice (some g.bN) S.nodes.length cn) S.nodes:=by
    obtain⟨xs,k1,k2⟩:=hN;refine⟨xs,av (av k1 (Only.az (L:=[]) Y) (by simp)) O3 (fun x hx=>?_),(k2.only (Only.az (L:=[]) Y) (fun b hb=>by cases hb)).only O3 (W2a.sub (by simp))⟩;injection hx with hx;subst hx;simpa using m3
   have hxD:w.heap.size≠g.bE:=by have:=hl.2.2;omega
   have B3:=O3.has B2 (by simpa using hxD);have n3:aD V3 B n A c:=(hn.ext Y).only O3 (W2a.sub (by simp));obtain⟨y0',y1',x2,x3,x4,x5,x6,x7,x8,x9,kC,kn⟩:=B3.da;have xz3:=B3.lt;have vz:=H3'.lt;clear c1 x1 q0 q1 q2 q3 d2 d3 d4 d5 f2 f3 f4 f5;go_wp2_with fail;refine (CH B g.bF (.slice (some g.bN) S.nodes.length cn) (.slice (some g.bE) S.ae.length cd) S.nodes S.last X n A c _ h1 H3' N3 ⟨_,_,rfl⟩ nE l8 jZ n3).mono ?_;rintro e w5 ⟨rfl,bN,cn5,F5,N5,O5,f5⟩;go_wp2;go_ret2;have O35:Only [g.bF,g.bN] V3 w5:=O5.mono (by intro x hx;simp[Value.ownBlock]at hx|-;exact hx);have eM:gp S n=0:=by rw[lC.o];exact HZ.o
   have eT:cC S n=⟨S.nodes++[{n with no:=S.last+1}],jb S.ae ((k:Int)+1) (bf q bl 1),S.last+1⟩:=by
    unfold cC;rw[af eM,H3.o,<-HQ.o,<-HB.o,HD.o]
   refine⟨?_,bN,?_,?_,?_⟩
   ·unfold qI;rw[eM];rfl
   ·rw [eT]
    refine⟨h1,cn5,cd,?_,?_,?_⟩
    ·simpa [gQ]using F5
    ·simpa using N5
    ·unfold fg
     simp only[gQ];exact av D3 O35 (fun b hb=>by simp[Value.ownBlock]at hb;subst hb;simp;exact⟨m2.symm,m3.symm⟩)
   ·exact (Only.pre Y (O3.mono (by simp))).then (O35.mono (by simp))
   ·rcases f5 with f5|f5
    ·exact .inl (by simpa [Value.ownBlock]using f5.symm)
    ·exact .inr (by have e1:=Y.size;have e2:=O3.size;omega)
  ·have hzb:(eZ q bl 1 == 0)=false:=by simpa using hz
   have aae:(eZ q bl 1 != 0)=true:=by simpa using hz
   have HZ:=zH hz;clear hz;go_wp2;go_ret2;exact Aa h0 Y lC.o HZ.o
def hasB (l:List UInt8) (c:UInt8):Bool:=decide (c∈l)
def cU (l:List UInt8):Int:=if l=[]\/l=[46]\/l=[46,46]\/hasB l 47=true\/hasB l 0=true then 1 else if 255<l.length then 13 else 0
theorem WZ {s:ByteArray} {k:Nat} (h:k<s.size):s[k]∈s.data.toList:=by
 have h1:=drop_at s k h;exact List.mem_of_mem_drop (i:=k) (by rw[h1];exact bY ..)
theorem jw (s:ByteArray) (c:UInt8) (ci:Int) (hci:ci=c.toNat) (hs:s.size<=1000000) (w:World):Calls prog 131 #[.string s,.int .u8 ci] w (aO w (.bool (hasB s.data.toList c))):=by
 have HC:=zH hci;clear hci;go_in;go_wp2_with fail;go_loop [5] (fun i=>∃k:Nat,k<=s.size/\i=.int .i64 k/\Hid (c∉s.data.toList.take k)) (fun i=>s.size-(intOf i).toNat)
 case atStart=>exact⟨0,by omega,rfl,by show _∉_;simp⟩
 case round =>
  obtain⟨k,hk,rfl,hn⟩:=hrel
  by_cases hlt:k<s.size
  ·have hcb:(s[k].toNat:Int)<256:=by have:=s[k].toNat_lt;omega
   by_cases he:s[k]=c
   ·have hf:Hid (hasB s.data.toList c=true):=by show _=_;rw[<-he];exact cj (WZ hlt)
    have he':((s[k].toNat:Int) == ci)=true:=by rw[HC.o,he];exact Mk _
    clear he;go_wp2;go_ret;exact aO.mk (eo (by rw[hf.o])) (Ext.refl _)
   ·have Re:Hid (c∉s.data.toList.take (k+1)):=by
     show _∉_;rw[NC s k hlt,dn,not_or];exact⟨hn.o,by simpa using fun h=>he h.symm⟩
    have he':((s[k].toNat:Int) == ci)=false:=by
     rw[HC.o,ji];exact fun h=>he (DZ.1 (by omega))
    clear he;go_wp2_with fail;go_round
    case rel=>exact⟨k+1,by omega,by go_num,Re⟩
    case measure=>simp[intOf];omega
  ·obtain rfl:k=s.size:=by omega
   have hf:Hid (hasB s.data.toList c=false):=by
    show _=_;have:=hn.o;rw[lw (by simp)]at this;exact cG this
   go_wp2;go_ret;exact aO.mk (eo (by rw[hf.o])) (Ext.refl _)
theorem CK {l:List UInt8} (h0:¬l=[]) (h1:¬l=[46]) (h2:¬l=[46,46]):cU l=if hasB l 47=true\/hasB l 0=true then 1 else if 255<l.length then 13 else 0:=by
 unfold cU;simp[h0,h1,h2]
theorem JX (s:ByteArray) (hs:s.size<=1000000) (w:World):Calls prog 197 #[.string s] w (aO w (.int .i64 (cU s.data.toList))):=by
 by_cases h0:s.data.toList=[]
 ·have hf:Hid (cU s.data.toList=1):=by show _=_;unfold cU;rw[af (.inl h0)]
  have e:s.toList=[]:=by rw[oZ];exact h0
  clear h0;go_in;go_wp2;go_ret;exact aO.mk (aS (by rw[hf.o])) (Ext.refl _)
 ·by_cases h1 : s.data.toList=[46]
  ·have hf:Hid (cU s.data.toList=1):=by show _=_;unfold cU;rw[af (.inr (.inl h1))]
   have e:s.toList=[46]:=by rw[oZ];exact h1
   clear h0 h1;go_in;go_wp2;go_ret;exact aO.mk (aS (by rw[hf.o])) (Ext.refl _)
  ·by_cases h2:s.data.toList=[46,46]
   ·have hf:Hid (cU s.data.toList=1):=by show _=_;unfold cU;rw[af (.inr (.inr (.inl h2)))]
    have e:s.toList=[46,46]:=by rw[oZ];exact h2
    clear h0 h1 h2;go_in;go_wp2;go_ret;exact aO.mk (aS (by rw[hf.o])) (Ext.refl _)
   ·have hk:=CK h0 h1 h2
    have e0:s.toList.isEmpty=false:=by rw[oZ,D_];exact h0
    have e1:(s.toList == [46])=false:=by rw[oZ];exact ji.2 h1
    have e2:(s.toList == [46,46])=false:=by rw[oZ];exact ji.2 h2
    clear h0 h1 h2;have hsz:s.data.toList.length=s.size:=by simp
    rw[hsz]at hk
    cases hb:hasB s.data.toList 47 with
    | true =>
     have hf:Hid (cU s.data.toList=1):=by show _=_;rw[hk,af (.inl hb)]
     have HB:=zH hb;clear hk hb hsz;go_in;go_wp2_with fail;refine (jw _ 47 _ (by rfl) hs _).mono ?_;rintro e w1 ⟨rfl,b1⟩;rw[HB.o];go_wp2;go_ret;exact aO.mk (aS (by rw[hf.o])) b1
    | false =>
     cases hc:hasB s.data.toList 0 with
     | true =>
      have hf:Hid (cU s.data.toList=1):=by show _=_;rw[hk,af (.inr hc)]
      have HB:=zH hb;have HC:=zH hc;clear hk hb hc hsz;go_in;go_wp2_with fail;refine (jw _ 47 _ (by rfl) hs _).mono ?_;rintro e w1 ⟨rfl,b1⟩;rw[HB.o];go_wp2_with fail;refine (jw _ 0 _ (by rfl) hs _).mono ?_;rintro e w2 ⟨rfl,b2⟩;rw[HC.o];go_wp2;go_ret;exact aO.mk (aS (by rw[hf.o])) (b1.trans b2)
     | false =>
      have hf:Hid (cU s.data.toList=if 255<s.size then 13 else 0):=by show _=_;rw[hk,ac (by rw[hb,hc];simp)]
      have HB:=zH hb;have HC:=zH hc;clear hk hb hc hsz
      by_cases h:255<s.size
      ·rw [af h]at hf
       go_in;go_wp2_with fail;refine (jw _ 47 _ (by rfl) hs _).mono ?_;rintro e w1 ⟨rfl,b1⟩;rw[HB.o];go_wp2_with fail;refine (jw _ 0 _ (by rfl) hs _).mono ?_;rintro e w2 ⟨rfl,b2⟩;rw[HC.o];go_wp2;go_ret;exact aO.mk (aS (by rw[hf.o])) (b1.trans b2)
      ·rw [ac h]at hf
       go_in;go_wp2_with fail;refine (jw _ 47 _ (by rfl) hs _).mono ?_;rintro e w1 ⟨rfl,b1⟩;rw[HB.o];go_wp2_with fail;refine (jw _ 0 _ (by rfl) hs _).mono ?_;rintro e w2 ⟨rfl,b2⟩;rw[HC.o];go_wp2;go_ret;exact aO.mk (aS (by rw[hf.o])) (b1.trans b2)
structure xM where
 dir:Int
 name:List UInt8
 kind:Int
 mode:Int
 uid:Int
 gid:Int
 data:List UInt8
 n : Int
def aY (l:List aK) (nm:List UInt8):Int:=match l.find? (fun x=>x.1 == nm) with|some x=>x.2|none=>0
def atI (S:ag) (it:xM):Int:=1+it.dir % 18446744073709551616 % S.last
def aak (S:ag) (it:xM):Bool:=
 decide ((aa S.nodes (atI S it)).kind=1)&&decide (1<=it.kind)&&decide (it.kind<=3)&&decide (cU it.name=0)&&decide (aY (aa S.nodes (atI S it)).ah it.name=0)
def Zi (S:ag) (it:xM):ak:=
 { aj with dev:=(aa S.nodes (atI S it)).dev,kind:=it.kind,mode:=it.mode % 1024,uid:=it.uid,gid:=it.gid,ar:=1,up:=if it.kind=1 then atI S it else 0,data:=if it.kind=1 then [] else it.data}
def abW (S:ag) (it:xM):ag:=
 if it.kind=4 then dB S (atI S it) it.n it.n
 else if aak S it=true then
  if gp S (Zi S it)=0 then aV (cC S (Zi S it)) {aa S.nodes (atI S it) with ah:=fC (aa S.nodes (atI S it)).ah (it.name,S.last+1)} else S
 else S
def W9 (S:ag) (l:List xM):ag:=l.foldl abW S
structure Good (S:ag):Prop where
 bL:aQ S.nodes S.last
 last:1<=S.last
 ae:0<S.ae.length
 eight:S.ae.length<=8
 roots:eV S.ae
 count:S.nodes.length<=S.last
 qO:∀n∈S.nodes,jQ n.ah
 small:∀n∈S.nodes,n.ah.length<=S.last
theorem xN {a b n:Int} (h:ef S a b n=0):S.ae.length<8/\dg b n=true:=by
 unfold ef at h;split at h
 ·cases h
 ·split at h
  ·cases h
  ·split at h
   ·cases h
   ·split at h
    ·cases h
    ·rename_i h1
     rw[not_or]at h1;exact⟨by omega,by simpa using h1.2⟩
theorem JY {ds:List fP} (h:eV ds) (d:Int) (q:dW) (hq:qi q):eV (jb ds d q):=by
 intro x hx;unfold jb at hx;obtain⟨i,hi,rfl⟩:=mj hx;rw[List.length_modify]at hi;rw[List.getElem_modify];have:=h _ (jh hi);split
 ·exact⟨this.1,hq⟩
 ·exact this
theorem uP {m:ak} (h:m∈cP ns n):m∈ns\/m=n:=by
 unfold cP at h;obtain⟨x,hx,e⟩:=fH.1 h;split at e
 ·exact .inr e.symm
 ·exact .inl (by rw[<-e];exact hx)
theorem JZ {b n:Int} (hl:dg b n=true):Good (cZ dF 0 b n):=by
 refine⟨(aQ.nil 0).add (ct dF) rfl (by decide),show (1:Int)<=1 by decide,show 0<1 by decide,show 1<=8 by decide,?_,show ((1:Nat):Int)<=1 by decide,?_,?_⟩
 ·intro d hd
  rcases iK b n with⟨h1,h2,h3,h4,_⟩|⟨h0,_⟩
  ·simp [cZ,dF]at hd
   subst hd;exact⟨show (0:Int)<1 by decide,show (0:Int)<=1 by decide,show (0:Int)<=1 by decide,h1,h3,h2,h4⟩
  ·rw[h0]at hl;cases hl
 ·intro m hm
  simp[cZ,dF]at hm;subst hm;exact List.Pairwise.nil
 ·intro m hm
  simp[cZ,dF]at hm;subst hm;show ((0:Nat):Int)<=1;decide
theorem pD (A:Option Addr) (l:List aK) (cap:Nat) (nm:List UInt8) (w:World) (h:bU w A l) (hlen:l.length<=2000000):Calls prog 85 #[.slice A l.length cap,bs nm] w (aO w (.int .i64 (aY l nm))):=by
 obtain⟨n,hn⟩:=ai l.length;rw[<-hn]at hlen|-;have HN:=zH hn;clear hn;go_in;go_wp2_with fail;go_loop [5] (fun i=>∃k:Nat,k<=n/\i=.int .i64 k/\Hid (∀x∈l.take k,(x.1 == nm)=false)) (fun i=>n-(intOf i).toNat)
 case atStart=>exact⟨0,bC _,rfl,fun x hx=>by simp at hx⟩
 case round =>
  obtain⟨k,hk,rfl,ha⟩:=hrel
  by_cases hlt:(k:Int)<n
  ·have dN:k<l.length:=by have:=HN.o;omega
   obtain⟨b,o,rfl,qY,ca,cb⟩:=h.at_ (Ext.refl w) k dN
   generalize hx:l[k]=x at ca cb
   have e1:((bs x.1).toList == (bs nm).toList)=(x.1 == nm):=by rw[bA,bA]
   cases hq:(x.1 == nm)
   ·rw [hq]at e1
    have Gd:Hid (∀y∈l.take (k+1),(y.1 == nm)=false):=by
     show ∀y∈l.take (k+1),(y.1 == nm)=false;intro y hy;rw[mC dN,dn]at hy;rcases hy with hy|hy
     ·exact ha.o y hy
     ·rw[ax.1 hy,hx];exact hq
    clear hx hq;go_wp2_with fail;go_round
    case rel=>exact⟨k+1,by omega,by go_num,Gd⟩
    case measure=>simp[intOf];omega
   ·rw [hq]at e1
    have hf:Hid (aY l nm=x.2):=by
     show _=_;unfold aY;have:l.find? (fun y=>y.1 == nm)=some l[k]:=by
      rw[DQ];refine⟨by rw[hx];exact hq,k,dN,rfl,fun j hj=>?_⟩;have:=ha.o l[j] (by rw[List.mem_take_iff_getElem];exact⟨j,by omega,rfl⟩);rw[this];rfl
     rw[this,hx]
    clear hx hq;go_wp2;go_ret;exact aO.mk (aS hf.o.symm) (Ext.refl _)
  ·have hf:Hid (aY l nm=0):=by
    show _=_;unfold aY;have:l.find? (fun y=>y.1 == nm)=none:=by
     rw[sW];intro x hx;have:=ha.o x (by rw[lw (by have:=HN.o;omega)];exact hx);simpa using this
    rw[this]
   go_wp2;go_ret;exact aO.mk (aS hf.o.symm) (Ext.refl _)
theorem Gu (A:Option Addr) (l:List aK) (cap:Nat) (x:aK) (w:World) (h:bU w A l) (hlen:l.length<=1000000):Calls prog 167 #[.slice A l.length cap,bs x.1,x.2] w (NG w (fC l x)):=by
 obtain⟨n,hn⟩:=ai l.length;rw[<-hn]at hlen|-;have HN:=zH hn;clear hn;obtain⟨i0,hi,hz0,hz1,hz2⟩:=jj kX;go_in;go_wp2_with fail;go_loopw [7,8] (fun u i wr=>∃k:Nat,k<=n/\i=.int .i64 k/\eD wr w.heap.size u ((l.take k).filter fun y=>bl y.1 x.1)/\Ext w wr) (fun _ i _=>n-(intOf i).toNat)
 case atStart=>exact⟨0,bC _,rfl,⟨rfl,.inl ⟨rfl,rfl⟩⟩,Ext.refl _⟩
 case round =>
  obtain⟨k,hk,rfl,hown,hE⟩:=hrel
  by_cases hlt:(k:Int)<n
  ·have dN:k<l.length:=by have:=HN.o;omega
   have hs:=rD dN fun y=>bl y.1 x.1
   have BU:=qf l k fun y=>bl y.1 x.1
   obtain⟨b,o,rfl,qY,ca,cb⟩:=h.at_ hE k dN
   generalize l[k]=z at ca cb hs
   have e1:Go.Op.bytesLess (bs z.1).toList (bs x.1).toList=bl z.1 x.1:=by rw[bA,bA]
   obtain⟨P,hP⟩:=ai ((l.take k).filter fun y=>bl y.1 x.1)
   rw[<-hP]at hown hs BU;have g2:(0:Int)<=(k:Int):=by omega
   cases hq:bl z.1 x.1
   ·rw [hq]at e1
    have qN:Hid ((l.take (k+1)).filter (fun y=>bl y.1 x.1)=P):=by show _=_;rw[hs,hq];simp
    clear hs hq hP;go_wp2_with fail;go_roundw
    case rel=>exact⟨k+1,by omega,by go_num,by rw[qN.o];exact hown,hE⟩
    case measure=>simp[intOf];omega
   ·rw [hq]at e1
    have qN:Hid ((l.take (k+1)).filter (fun y=>bl y.1 x.1)=P++[z]):=by show _=_;rw[hs,hq];rfl
    clear hs hq hP;unfold eD at hown;go_wp2_with (at_builtin;refine rh _ rfl _ _ 64 rfl w.heap.size 153 i0 (.agg #[.string ⟨#[]⟩,()]) 2 24 underlying64 hi hz0 hz1 hz2 rfl (by decide) _ _ _ rfl (hown.alloc _) ⟨wr.heap.size,0,none⟩ 1 1 (ay [z]) rfl rfl (rE wr z) (dZ [z]) (by unfold maxLen;omega) (by omega) (by have:=hE.size;simp;omega) ?_);intro v' w2 gP hgrow _;obtain⟨pj,j0⟩:=yF hown hE gP hgrow;clear gP hgrow hown;have Sz:=zH pj;clear pj;go_wp2_with fail;go_roundw
    case rel=>exact⟨k+1,by omega,by go_num,by rw[qN.o];exact Sz.o,j0⟩
    case measure=>simp[intOf];omega
  ·have ut : k=n:=by omega
   have hf:Hid ((l.take k).filter (fun y=>bl y.1 x.1)=kZ l x.1):=by show _=_;rw[ut,HN.o,od];rfl
   have BU:=qf l k fun y=>bl y.1 x.1
   obtain⟨P,hP⟩:=ai ((l.take k).filter fun y=>bl y.1 x.1)
   rw[<-hP]at hown BU hf;clear hP hlt;unfold eD at hown;go_wp2_with (at_builtin;refine rh _ rfl _ _ 64 rfl w.heap.size 153 i0 (.agg #[.string ⟨#[]⟩,()]) 2 24 underlying64 hi hz0 hz1 hz2 rfl (by decide) _ _ _ rfl (hown.alloc _) ⟨wr.heap.size,0,none⟩ 1 1 (ay [x]) rfl rfl (rE wr x) (dZ [x]) (by unfold maxLen;omega) (by omega) (by have:=hE.size;simp;omega) ?_);intro v1 wa hown1 SA _;obtain⟨hoa,W_⟩:=yF hown hE hown1 SA;clear hown1 SA hown ut;have HOA:=zH hoa;have HEA:=zH W_;clear hoa W_;go_wp2_with fail;go_loopw [7,9] (fun u i wr=>∃k:Nat,k<=n/\i=.int .i64 k/\eD wr w.heap.size u ((P++[x])++(l.take k).filter fun y=>bl x.1 y.1)/\Ext w wr) (fun _ i _=>n-(intOf i).toNat)
   case atStart=>exact⟨0,bC _,rfl,by simpa using HOA.o,HEA.o⟩
   case round =>
    obtain⟨q,hq,rfl,hown,j0⟩:=hrel
    by_cases hlt:(q:Int)<n
    ·have hql:q<l.length:=by have:=HN.o;omega
     have hs:=rD hql fun y=>bl x.1 y.1
     have afI:=qf l q fun y=>bl x.1 y.1
     obtain⟨b,o,rfl,qY,ca,cb⟩:=h.at_ j0 q hql
     generalize l[q]=z at ca cb hs
     obtain⟨R,hR⟩:=ai (P++[x]++(l.take q).filter fun y=>bl x.1 y.1)
     have Ms:R.length<=2000001:=by rw[hR,aZ,aZ];simp;omega
     rw[<-hR]at hown;have g2:(0:Int)<=(q:Int):=by omega
     obtain ⟨t1,t2,t3,ht1,ht2,ht3,Sg⟩:∃t1 t2 t3:Bool,bl z.1 x.1=t1/\(z.1 == x.1)=t2/\bl x.1 z.1=t3/\((t1=true/\t2=false/\t3=false)\/(t1=false/\t2=true/\t3=false)\/(t1=false/\t2=false/\t3=true)):=by
      refine⟨_,_,_,rfl,rfl,rfl,?_⟩;rcases oJ z.1 x.1 with h|h|h
      ·refine .inl ⟨h,?_,iS h⟩
       rw[ji];intro e;rw[e,dD]at h;cases h
      ·rw[h];exact .inr (.inl ⟨dD _,Mk _,dD _⟩)
      ·refine .inr (.inr ⟨iS h,?_,h⟩)
       rw[ji];intro e;rw[e,dD]at h;cases h
     have e1:Go.Op.bytesLess (bs z.1).toList (bs x.1).toList=t1:=by rw[bA,bA];exact ht1
     have e2:((bs z.1).toList == (bs x.1).toList)=t2:=by rw[bA,bA];exact ht2
     have qN:Hid (P++[x]++(l.take (q+1)).filter (fun y=>bl x.1 y.1)=R++if t3=true then [z] else []):=by
      show _=_;rw[hs,ht3,hR,<-l6]
     clear ht1 ht2 ht3 hs hR;have Xa:=hq;rcases Sg with⟨rfl,rfl,rfl⟩|⟨rfl,rfl,rfl⟩|⟨rfl,rfl,rfl⟩
     ·go_wp2_with fail
      go_roundw
      case rel=>exact⟨q+1,by omega,by go_num,by rw[qN.o];simpa using hown,j0⟩
      case measure=>simp[intOf];omega
     ·go_wp2_with fail
      go_roundw
      case rel=>exact⟨q+1,by omega,by go_num,by rw[qN.o];simpa using hown,j0⟩
      case measure=>simp[intOf];omega
     ·unfold eD at hown
      go_wp2_with (at_builtin;refine rh _ rfl _ _ 64 rfl w.heap.size 153 i0 (.agg #[.string ⟨#[]⟩,()]) 2 24 underlying64 hi hz0 hz1 hz2 rfl (by decide) _ _ _ rfl (hown.alloc _) ⟨wr.heap.size,0,none⟩ 1 1 (ay [z]) rfl rfl (rE wr z) (dZ [z]) (by unfold maxLen;omega) (by omega) (by have:=j0.size;simp;omega) ?_);intro v' w2 gP hgrow _;obtain⟨pj,yK⟩:=yF hown j0 gP hgrow;clear gP hgrow hown;have Sz:=zH pj;clear pj;go_wp2_with fail;go_roundw
      case rel=>exact⟨q+1,by omega,by go_num,by rw[qN.o];simpa using Sz.o,yK⟩
      case measure=>simp[intOf];omega
    ·have Ab:q=n:=by omega
     have JS:Hid (P++[x]++(l.take q).filter (fun y=>bl x.1 y.1)=fC l x):=by
      show _=_;rw[Ab,HN.o,od,hf.o];rfl
     clear Ab;go_wp2;go_ret;exact⟨_,rfl,by rw[<-JS.o];exact hown,j0⟩
theorem uQ (n:Int):IntKind.u64.wrap n=n % 18446744073709551616:=by
 exact IntKind.wrap_u64 n
end Go.Proofs.YtpibnfdolojpcaaGreat
