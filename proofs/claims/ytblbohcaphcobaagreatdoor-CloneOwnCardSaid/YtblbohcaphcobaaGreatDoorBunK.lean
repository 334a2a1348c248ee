import Derived.Test.YtblbohcaphcobaaGreatDoorBunX
import Derived.Test.YtblbohcaphcobaaGreatDoorBunH
import Derived.Test.YtblbohcaphcobaaGreatDoorBunJ
import Derived.Test.YtblbohcaphcobaaGreatDoorBunC
import Derived.Test.YtblbohcaphcobaaGreatDoorBunI
import Derived.Test.YtblbohcaphcobaaGreatDoorBunG
import Derived.Lib.AppendZerosOnto
set_option maxHeartbeats 4000000
set_option maxRecDepth 100000
namespace Go.Proofs.YtblbohcaphcobaaGreatDoor
section
theorem yh {c:Nat} {S T:aa} {p:Int} (h:dC c S) (hT:p=0->dC (c+1) T):dC (c+1) (dR p S T):=by
 unfold dR;split
 ·exact fX h (by omega)
 ·rename_i h0;exact hT (Decidable.not_not.1 h0)
theorem qJ (S:aa) (cu cg now dir:Int) (nm:List UInt8) (n:ai):(aW S cu cg now dir nm n).last<=S.last+1:=by
 unfold aW;split
 ·show (aQ S _).last<=_
  unfold aQ;split
  ·exact Int.le_refl _
  ·omega
 ·omega
theorem tQ {S T:aa} {p:Int} (h:T.last<=S.last+1):(dR p S T).last<=S.last+1:=by
 unfold dR;split
 ·omega
 ·exact h
theorem Af {S:aa} (h:bg S) (no:Int):bg (kG S no):=by
 unfold kG;split
 ·exact fun m hm=>h m (dK hm).1
 ·exact h
theorem kJ {S:aa} (h:bg S) {n:ai} (hn:n.kind≠1->n.af=[]):bg (aJ S n):=fun m hm hk=>by
 rcases aM hm with⟨hm,_⟩|rfl
 ·exact h m hm hk
 ·exact hn hk
theorem Ah {S:aa} (h:bg S) (now:Int) {n:ai} (hn:n.kind≠1->n.af=[]):bg (mQ S now n):=by
 unfold mQ;split
 ·exact Af (kJ (n:=jy now n) h hn) _
 ·exact kJ (n:=jy now n) h hn
theorem lZ {S:aa} (h:bg S) {dir now:Int} {l:List aw} (hk:(ac S.nodes dir).kind=1):bg (cI S dir now l):=kJ h fun hn=>absurd hk hn
theorem kV {S:aa} (h:bg S) (no:Int) (hi:aK S.nodes no=true):(ac S.nodes no).kind≠1->(ac S.nodes no).af=[]:=h _ (aj hi).2.2
theorem rE {S:aa} (h:bg S) {cu cg now dir:Int} {nm:List UInt8} (hl:jK S cu cg dir nm=0):bg (mg S now (lY S cu cg dir nm) (h_ S cu cg dir nm) nm):=by
 obtain ⟨z1,z2,_,z4,z5⟩:=f_ hl;obtain ⟨hi,hk,_⟩:=aE z1;unfold mg;rw [z4,z5,(aj hi).2.1];exact Ah (lZ h hk) now (kV h _ z2)
theorem Aj {c:Nat} {S:aa} (_hT:dC c S) (h:bg S) (cu cg now no dir:Int) (nm:List UInt8):bg (eW S cu cg now no dir nm):=by
 unfold eW;split
 ·rename_i h0
  obtain ⟨z1,z2,z3,_⟩:=g_ h0;obtain ⟨hi,hk,_⟩:=aE z1;have h1:bg (aJ S (cy S now no)):=kJ h (kV h no z2);refine lZ h1 ?_;have hne:dir≠(cy S now no).no:=by
   intro e;have e2:(cy S now no).no=no:=(aj z2).2.1;rw [e2]at e;rw [e]at hk;exact z3 hk
  rw [(fZ hne).1];exact hk
 ·exact h
theorem Gg (S:aa) (cu cg now fr to_:Int) (a b:List UInt8):(Eo S cu cg now fr to_ a b).last=S.last:=by
 unfold Eo;split
 ·show (zY S now _).last=S.last
  exact (F9 S now _).1
 ·rfl
open Go.ChangeShapes Go.WideShapes Go.ChangeAt Go.RowKit
structure az where
 t : aa
 now:Int
 count:Int
 plan:List (Int×Int)
 dead:Bool
def yi (s:az):Int:=if s.dead=true then 20 else jp s.plan (s.count+1)
def Gh (s:az):az:=if s.dead=true then s else {s with count:=s.count+1,dead:=gx s.plan (s.count+1)}
inductive ia where
 | bB (dir:Int) (nm:List UInt8) (mode:Int)
 | bc (dir:Int) (nm:List UInt8) (mode:Int) (data:List UInt8)
 | symlink (dir:Int) (nm:List UInt8) (text:List UInt8)
 | link (no dir:Int) (nm:List UInt8)
 | unlink (dir:Int) (nm:List UInt8)
 | ou (dir:Int) (nm:List UInt8)
 | rename (fr:Int) (a:List UInt8) (to_:Int) (b:List UInt8)
 | cJ (no mode:Int)
 | cK (no uid gid:Int)
 | dA (no mt:Int)
 | write (no:Int) (data:List UInt8)
def cq (S:aa) (cu cg now:Int):ia->aa
 | .bB dir nm mode=>dR (lX mode) S (aW S cu cg now dir nm (dM mode dir))
 | .bc dir nm mode data=>dR (gH mode data.length) S (aW S cu cg now dir nm (ct mode data))
 | .symlink dir nm text=>dR (kN text) S (aW S cu cg now dir nm (dY text))
 | .link no dir nm=>eW S cu cg now no dir nm
 | .unlink dir nm=>iU S cu cg now dir nm
 | .ou dir nm=>kI S cu cg now dir nm
 | .rename fr a to_ b=>Eo S cu cg now fr to_ a b
 | .cJ no mode=>dX S cu now no mode
 | .cK no uid gid=>fj S cu now no uid gid
 | .dA no mt=>ef S cu now no mt
 | .write no data=>xU S cu cg now no data
def fA (S:aa) (cu cg now:Int):ia->Int
 | .bB dir nm mode=>fQ (lX mode) (bC S cu cg now dir nm (dM mode dir))
 | .bc dir nm mode data=>fQ (gH mode data.length) (bC S cu cg now dir nm (ct mode data))
 | .symlink dir nm text=>fQ (kN text) (bC S cu cg now dir nm (dY text))
 | .link no dir nm=>eV S cu cg no dir nm
 | .unlink dir nm=>nt S cu cg dir nm
 | .ou dir nm=>qH S cu cg dir nm
 | .rename fr a to_ b=>PY S cu cg fr to_ a b
 | .cJ no mode=>eN S cu no mode
 | .cK no uid gid=>fF S cu no uid gid
 | .dA no mt=>fq S cu no mt
 | .write no data=>FK S cu cg no data.length
def j_ (S:aa) (cu cg now:Int):ia->Int
 | .bB dir nm mode=>gZ (lX mode) (cZ S cu cg now dir nm (dM mode dir))
 | .bc dir nm mode data=>gZ (gH mode data.length) (cZ S cu cg now dir nm (ct mode data))
 | .symlink dir nm text=>gZ (kN text) (cZ S cu cg now dir nm (dY text))
 | _=>0
def jq (s:az) (cu cg:Int) (x:ia):az:=if yi s≠0 then Gh s else {Gh s with t:=cq s.t cu cg s.now x}
def kW (s:az) (cu cg:Int) (x:ia):Int:=if yi s≠0 then yi s else fA s.t cu cg s.now x
def ow (s:az) (cu cg:Int) (x:ia):Int:=if yi s≠0 then 0 else j_ s.t cu cg s.now x
theorem qK {l:List (Int×Int)} {c:Int} (h:jp l c=0):gx l c=false:=by
 unfold jp at h;unfold gx
 cases hx:tO l c with
 | none=>rfl
 | some x =>
  rw [hx]at h;have h':x.2=0:=h;show (x.2 == 20)=false;rw [h'];rfl
theorem nv {s:az} (h:yi s=0):s.dead=false/\Gh s={s with count:=s.count+1}:=by
 unfold yi at h;split at h
 ·cases h
 ·rename_i hd
  have hd':s.dead=false:=by simpa using hd
  refine ⟨hd',?_⟩;unfold Gh;rw [if_neg hd,qK h,<-hd']
theorem iV {s:az} (h:s.dead=false):yi s=jp s.plan (s.count+1):=by unfold yi;rw[if_neg (by rw[h];decide)]
theorem Ak {s:az} (h:s.dead=false):Gh s={s with count:=s.count+1,dead:=gx s.plan (s.count+1)}:=by unfold Gh;rw[if_neg (by rw[h];decide)]
structure fJ (c:Nat) (s:az):Prop where
 eD:dC c s.t
 BN:bg s.t
 last:s.t.last<=c+1
 c0:0<=s.count
 c1:s.count<=c
 plan:s.plan.length<=1000
theorem oR {S T:aa} {p:Int} (h:bg S) (k:bg T):bg (dR p S T):=by unfold dR;split;exact h;exact k
theorem Al {S:aa} (h:bg S) {n:ai} (hn:n.kind≠1->n.af=[]):bg (aQ S n):=by
 unfold aQ;split
 ·intro m hm hk
  rcases List.mem_append.1 hm with hm|hm
  ·exact h m hm hk
  ·rw [List.mem_singleton]at hm
   subst hm;exact hn hk
 ·exact h
theorem mT {S:aa} (hu:aD S.nodes S.last) (h:bg S) (cu cg now dir:Int) (nm:List UInt8) (n:ai) (hn:n.kind≠1->n.af=[]):bg (aW S cu cg now dir nm n):=by
 unfold aW;split
 ·rename_i h0
  obtain ⟨h1,_,_⟩:=eA h0;obtain ⟨p1,p2,_⟩:=aE h1;refine lZ (Al (n:=bi S cu cg now dir n) h hn) ?_;rw [(fk hu _ p1).1];exact p2
 ·exact h
theorem kX {S:aa} (h:bg S) {no:Int} (hi:aK S.nodes no=true) {n:ai} (hk:n.kind=(ac S.nodes no).kind) (he:n.af=(ac S.nodes no).af):bg (aJ S n):=
 kJ h fun hn=>by rw[he];exact kV h no hi (by rw[<-hk];exact hn)
theorem eZ {S:aa} {cu no:Int} (h:dW S cu no=0):aK S.nodes no=true:=(gv h).1
theorem Aq {S:aa} (h:bg S) (cu now no m:Int):bg (dX S cu now no m):=by
 unfold dX;split
 ·rename_i h0
  unfold eN at h0;split at h0
  ·rename_i h1;exact absurd h0 h1
  ·rename_i h1;exact kX h (eZ (Decidable.not_not.1 h1)) rfl rfl
 ·exact h
theorem Ar {S:aa} (h:bg S) (cu now no u g:Int):bg (fj S cu now no u g):=by
 unfold fj;split
 ·rename_i h0
  unfold fF at h0;split at h0
  ·rename_i h1;exact absurd h0 h1
  ·rename_i h1;exact kX h (eZ (Decidable.not_not.1 h1)) rfl rfl
 ·exact h
theorem Au {S:aa} (h:bg S) (cu now no t:Int):bg (ef S cu now no t):=by
 unfold ef;split
 ·rename_i h0
  unfold fq at h0;split at h0
  ·rename_i h1;exact absurd h0 h1
  ·rename_i h1;exact kX h (eZ (Decidable.not_not.1 h1)) rfl rfl
 ·exact h
theorem CQ {S:aa} (h:bg S) (cu cg now no:Int) (data:List UInt8):bg (xU S cu cg now no data):=by
 unfold xU;split
 ·rename_i h0
  have hi:aK S.nodes no=true:=by
   unfold FK at h0;split at h0
   ·cases h0
   ·rename_i h1;simpa using h1
  have h1:bg (jf S no data):=by
   unfold jf;split
   ·intro m hm hk
    rcases zB hm with hm|rfl
    ·exact h m hm hk
    ·exact kV h no hi hk
   ·exact h
  have oh:aK (jf S no data).nodes no=true:=by
   unfold jf;split
   ·show aK (cA S.nodes _) no=true;rw[gW];exact hi
   ·exact hi
  exact kX h1 oh rfl rfl
 ·exact h
theorem CR {c:Nat} {S:aa} (h:dC c S) (hN:bg S) (cu cg now:Int) (x:ia) (hx:∀fr a to_ b,x≠.rename fr a to_ b):bg (cq S cu cg now x):=by
 cases x with
 | bB dir nm mode=>exact oR hN (mT h.aC hN _ _ _ _ _ _ fun _=>rfl)
 | bc dir nm mode data=>exact oR hN (mT h.aC hN _ _ _ _ _ _ fun _=>rfl)
 | symlink dir nm text=>exact oR hN (mT h.aC hN _ _ _ _ _ _ fun _=>rfl)
 | link no dir nm=>exact Aj h hN _ _ _ _ _ _
 | unlink dir nm =>
  show bg (iU S cu cg now dir nm);unfold iU;split
  ·rename_i h0
   refine rE hN ?_;unfold nt at h0;split at h0
   ·rename_i h1;exact absurd h0 h1
   ·rename_i h1;exact Decidable.not_not.1 h1
  ·exact hN
 | ou dir nm =>
  show bg (kI S cu cg now dir nm);unfold kI;split
  ·rename_i h0
   refine rE hN ?_;unfold qH at h0;split at h0
   ·rename_i h1;exact absurd h0 h1
   ·rename_i h1;exact Decidable.not_not.1 h1
  ·exact hN
 | rename fr a to_ b=>exact absurd rfl (hx fr a to_ b)
 | cJ no mode=>exact Aq hN _ _ _ _
 | cK no uid gid=>exact Ar hN _ _ _ _ _
 | dA no mt=>exact Au hN _ _ _ _
 | write no data=>exact CQ hN _ _ _ _ _
theorem Gi (S:aa) (now:Int) (n:ai):(mQ S now n).last=S.last:=by
 unfold mQ;split
 ·rw[Ct];rfl
 ·rfl
theorem wN (S:aa) (now:Int) (d n:ai) (nm:List UInt8):(mg S now d n nm).last=S.last:=by unfold mg;rw[Gi];rfl
theorem JU (S:aa) (cu cg now:Int) (x:ia):(cq S cu cg now x).last<=S.last+1:=by
 cases x with
 | bB dir nm mode=>exact tQ (qJ ..)
 | bc dir nm mode data=>exact tQ (qJ ..)
 | symlink dir nm text=>exact tQ (qJ ..)
 | link no dir nm=>show (eW ..).last<=_;unfold eW;split<;>(show S.last<=_;omega)
 | unlink dir nm=>show (iU ..).last<=_;unfold iU;split<;>(try rw[wN])<;>omega
 | ou dir nm=>show (kI ..).last<=_;unfold kI;split<;>(try rw[wN])<;>omega
 | rename fr a to_ b=>show (Eo ..).last<=_;rw[Gg];omega
 | cJ no mode=>show (dX ..).last<=_;unfold dX;split<;>(show S.last<=_;omega)
 | cK no uid gid=>show (fj ..).last<=_;unfold fj;split<;>(show S.last<=_;omega)
 | dA no mt=>show (ef ..).last<=_;unfold ef;split<;>(show S.last<=_;omega)
 | write no data =>
  show (xU ..).last<=_;unfold xU;split
  ·show (jf S no data).last<=_;rw[Cu];omega
  ·omega
theorem NX {c:Nat} {S:aa} (h:dC c S) (cu cg now:Int) (x:ia) (hx:∀fr a to_ b,x≠.rename fr a to_ b):dC (c+1) (cq S cu cg now x):=by
 cases x with
 | bB dir nm mode =>
  refine yh h fun h0=>qC h rfl (by show ([]:List UInt8).length<=_;simp) (fun _=>rfl) ?_
  unfold lX at h0;split at h0
  ·cases h0
  ·show 0<=mode/\mode<=1023
   omega
 | bc dir nm mode data =>
  have key:gH mode data.length=0->(0<=mode/\mode<=1023)/\data.length<=1048576:=fun h0=>by
   unfold gH at h0;split at h0
   ·cases h0
   ·split at h0
    ·cases h0
    ·omega
  exact yh h fun h0=>qC h rfl (key h0).2 (fun hk=>by cases hk) (key h0).1
 | symlink dir nm text =>
  have key:kN text=0->text.length<=1048576:=fun h0=>by
   unfold kN at h0;split at h0
   ·cases h0
   ·split at h0
    ·cases h0
    ·omega
  exact yh h fun h0=>qC h rfl (key h0) (fun hk=>by cases hk) ⟨by show (0:Int)<=511;decide,by show (511:Int)<=1023;decide⟩
 | link no dir nm=>exact Js h ..
 | unlink dir nm=>exact fX (CL h ..) (by omega)
 | ou dir nm=>exact fX (FZ h ..) (by omega)
 | rename fr a to_ b=>exact absurd rfl (hx fr a to_ b)
 | cJ no mode=>exact fX (Jo h ..) (by omega)
 | cK no uid gid=>exact fX (Jp h ..) (by omega)
 | dA no mt=>exact fX (Jq h ..) (by omega)
 | write no data=>exact fX (NP h ..) (by omega)
theorem gU.aad {w:World} {B:Nat} {g:cE} {S:aa} {X:cQ} (h:gU w B g S X) (i:Nat) (v:Value) (Y:cQ)
  (hY:∀cn ce:Nat,(#[.slice (some ⟨g.bN,0,none⟩) S.nodes.length cn,.slice (some ⟨g.bE,0,none⟩) S.ag.length ce,.int .i64 S.last,X.now,X.count,X.plan,X.dead]:Array Value).setIfInBounds i v=#[.slice (some ⟨g.bN,0,none⟩) S.nodes.length cn,.slice (some ⟨g.bE,0,none⟩) S.ag.length ce,.int .i64 S.last,.int .i64 Y.now,Y.count,Y.plan,Y.dead]) :
  gU (w.setCell ⟨g.bF,i,none⟩ v) B g S Y:=by
 have hne:=h.ne;have ha:=h.apart;obtain ⟨h1,cn,ce,h2,⟨xs,h3,h5⟩,h4⟩:=h;have o:=Only.setCell w g.bF i v;have nu:=Has.setCell h2 i v;rw [hY cn ce]at nu;refine ⟨h1,cn,ce,nu,⟨xs,au h3 o fun b hb=>?_,h5.only o (ha.sub (by simp[cE.list]))⟩,au h4 o fun b hb=>?_⟩
 ·injection hb with hb;subst hb;simp;exact fun e=>hne.1 e.symm
 ·injection hb with hb;subst hb;simp;exact fun e=>hne.2.1 e.symm
abbrev RE (now count:Int) (A:Option Addr) (n cap:Nat) (dead:Bool):cQ:=⟨now,.int .i64 count,.slice A n cap,.bool dead⟩
def eK (l:List (Int×Int)):List Value:=l.flatMap fun x=>[.int .i64 x.1,.int .i64 x.2]
theorem oy (l:List (Int×Int)):(eK l).length=l.length*2:=by
 unfold eK
 induction l with
 | nil=>rfl
 | cons x l ih=>rw[List.flatMap_cons,List.length_append,ih];simp;omega
theorem oz (l:List (Int×Int)):∀k,(h:k<l.length)->(eK l)[k*2]?=some (.int .i64 l[k].1)/\(eK l)[k*2+1]?=some (.int .i64 l[k].2):=by
 induction l with
 | nil=>intro k h;simp at h
 | cons x l ih =>
  intro k h;have e:eK (x::l)=.int .i64 x.1::.int .i64 x.2::eK l:=rfl;rw [e]
  cases k with
  | zero=>exact⟨rfl,rfl⟩
  | succ k =>
   have:=ih k (by simpa using h);rw [show (k+1)*2=k*2+1+1 by omega];simpa using this
theorem vE (l:List (Int×Int)):∀u∈eK l,u.oneCell'=true:=by
 intro u hu;unfold eK at hu;rw [List.mem_flatMap]at hu;obtain ⟨x,_,hx⟩:=hu;simp only[List.mem_cons,List.not_mem_nil,or_false]at hx;rcases hx with rfl|rfl<;>rfl
theorem JV (A:Option Addr) (cap:Nat) (l:List (Int×Int)) (wr:World) (h:cV wr A l) (hA:A=none->cap=0) (hl:l.length<=1000000) :
  ∃ v' w2,(Builtin.append_ #[28,28] 28 #[.slice none 0 0,.slice A l.length cap]).run Tryz.prog wr=.ok v' w2/\w2.ownsRow wr.heap.size 198 2 v' l.length (eK l)/\Ext wr w2:=by
 obtain ⟨i0,hi,hz0,hz1,hz2⟩:=info_parts Ge
 cases A with
 | none =>
  have jF:l=[]:=by
   rcases h with h|⟨b',o',h,_⟩
   ·exact h
   ·cases h
  subst jF;obtain rfl:cap=0:=hA rfl;refine ⟨.slice none 0 0,wr,?_,World.ownsRow_nil _ _ _ _,Ext.refl _⟩;simp [Builtin.append_,run_underlying Tryz.underlying28,sizeOf,typeInfo,hi,Builtin.lenOf,Builtin.firstCells]
 | some ad =>
  have oG:∀j u,(eK l)[j]?=some u->wr.cell? (ad.add j)=some u:=by
   intro j u hu;rcases h with h|⟨b',o',hAe,hb,h2⟩
   ·subst h;simp[eK]at hu
   ·obtain rfl:ad=⟨b',o',none⟩:=Option.some.inj hAe
    rw [Addr.add_lit];have hj:j<l.length*2:=by
     rcases Nat.lt_or_ge j (l.length*2) with h'|h'
     ·exact h'
     ·rw[List.getElem?_eq_none (by rw[oy];exact h')]at hu;cases hu
    have hk:j / 2<l.length:=by omega
    have g:=oz l (j / 2) hk;have c:=h2 (j / 2) hk;rcases Nat.mod_two_eq_zero_or_one j with e|e
    ·have ej:j=j / 2*2:=by omega
     rw [ej]at hu;rw [g.1]at hu;rw [ej,show o'+j / 2*2=o'+(j / 2)*2 from rfl];rw [c.1];exact hu
    ·have ej:j=j / 2*2+1:=by omega
     rw [ej]at hu;rw [g.2]at hu;rw [ej,<-Nat.add_assoc];rw [c.2];exact hu
  obtain ⟨v',w2,hr,h2,h3,_⟩:=run_append_own (P:=Tryz.prog) wr wr.heap.size 28 28 198 i0 (.agg #[.int .i64 0,.int .i64 0]) 2 16 Tryz.underlying28 hi hz0 hz1 hz2 rfl (by decide) _ 0 [] (World.ownsRow_nil _ _ _ _) ad l.length cap (eK l) (oy l) oG (vE l) (by unfold maxLen;omega) (by omega) (Nat.le_refl _);refine ⟨v',w2,hr,by rw[Nat.zero_add,List.nil_append]at h2;exact h2,?_⟩;exact (Ext.refl wr).grown h3 (fun g hv=>by simp[Value.ownBlock]at hv)
theorem NY {b:Nat} {g:bJ} {now count:Int} {A:Option Addr} {len cap:Nat} {dead:Bool} (A0:Option Addr) (l:List (Int×Int)) (mv:Nat) (w:World) (h:eI w b g now count A len cap dead) (hp:cV w A0 l) (hA:A0=none->mv=0) (ho:l≠[]->dx A0 b) (hl:l.length<=1000000) :
  Calls Tryz.prog 28 #[.pointer (some ⟨b,0,none⟩),.slice A0 l.length mv] w (fun e w'=>(∃v,e=.returned v)/\∃A' cap',eI w' b g now 0 A' l.length cap' dead/\cV w' A' l/\dx A' b/\(∀x,A'=some x->fS w' x.block 198)/\Only [b] w w'):=by
 obtain⟨n,hn⟩:=aq l.length;have HN:=zH hn;rw [<-hn];clear hn;go_enter Tryz.func28,Tryz.ntmps28;go_wp2_with fail;refine (Ew _ h).mono ?_;rintro e w1 ⟨rfl,b1⟩;have h1:=h.ext b1;have c2:=Has.cell h1 2;have f2:=Has.free h1 2;have z:=Has.lt h1;obtain⟨W2,du⟩:=aq (w1.setCell ⟨b,2,none⟩ (.int .i64 0));have h2:eI W2 b g now 0 A len cap dead:=by rw[du];exact Has.setCell h1 2 (.int .i64 0)
 have O2:Only [b] w1 W2:=by rw[du];exact Only.setCell _ _ _ _
 have TK:cV W2 A0 l:=by
  by_cases jF:l=[]
  ·exact .inl jF
  ·exact (hp.ext b1).only O2 (fun x hx=>by simp at hx;subst hx;exact ho jF)
 have hb2:=Has.lt h2;obtain ⟨v3,w3,hr,hown,E3⟩:=JV A0 mv l W2 TK hA hl;rw [<-HN.out]at hr;have HR:=zH hr;have h3:=h2.ext E3;have c3:=Has.cell h3 3;have f3:=Has.free h3 3;have z3:=Has.lt h3;have hne:∀g',v3.ownBlock=some g'->g'≠b:=fun g' hv=>by have:=(World.ownsRow.lt hown g' hv).1;omega
 obtain ⟨A3,Vj,rfl⟩:∃A3 Vj,v3=.slice A3 n Vj:=by
  rcases hown.2 with⟨e,h0⟩|⟨g',cap',cur,e,_⟩
  ·exact⟨none,0,by rw[e];congr 1;rw[HN.out];omega⟩
  ·exact⟨_,_,by rw[e,HN.out]⟩
 have c3':=Has.cell h2 3;have z2:=Has.lt h2;clear h h1 hr;go_upto_region 2 with fail;rw [<-du];clear du c2 f2 z;go_wp2_with (at_builtin;refine Lib.wpList_append_run _ rfl _ _ 28 28 rfl _ _ rfl rfl _ _ HR.out ?_);go_end0;obtain⟨W5,lj⟩:=aq (w3.setCell ⟨b,3,none⟩ (.slice A3 n Vj));have h5:eI W5 b g now 0 A3 n Vj dead:=by rw[lj];exact Has.setCell h3 3 _
 have O5:Only [b] w3 W5:=by rw[lj];exact Only.setCell _ _ _ _
 refine ⟨⟨_,rfl⟩,A3,Vj,by rw[<-lj];exact h5,?_,fun x hx=>hne x.block (by rw[hx];rfl),?_,(Only.pre b1 O2).then ((Only.av E3).then (by rw[<-lj];exact O5))⟩
 case refine_2 =>
  intro x hx;subst hx;rw [<-lj];rcases hown.2 with⟨e,_⟩|⟨g',cap',cur,e,_,hg,_⟩
  ·cases e
  ·injection e with e1
   injection e1 with e1;subst e1;exact ⟨cur,_,O5.has hg (by simpa using hne g' rfl)⟩
 rw [<-lj]
 cases A3 with
 | none =>
  rcases hown.2 with⟨_,h0⟩|⟨g',cap',cur,e,_⟩
  ·exact .inl (List.eq_nil_of_length_eq_zero h0)
  ·cases e
 | some ad =>
  rcases hown.2 with⟨e,_⟩|⟨g',cap',cur,e,_⟩
  ·cases e
  ·injection e with e1
   injection e1 with e1;subst e1;have hc:=World.ownsRow.cells hown (g:=g') rfl;have hlt:=(World.ownsRow.lt hown g' rfl).2;have e:W5.heap[g']?=w3.heap[g']?:=O5.block g' hlt (by simpa using hne g' rfl);have ec:∀j,W5.cell? ⟨g',j,none⟩=w3.cell? ⟨g',j,none⟩:=fun j=>by simp[World.cell?,e]
   refine .inr ⟨g',0,rfl,by have:=O5.size;omega,fun k hk=>?_⟩;rw [ec,ec,Nat.zero_add];have g1:=oz l k hk;have y1:=hc (k*2) _ g1.1;have y2:=hc (k*2+1) _ g1.2;simp only[Addr.add_lit,Nat.zero_add]at y1 y2;exact ⟨y1,y2⟩
def oB (w:World) (B:Nat) (A:Option Addr) (l:List (Int×Int)):Prop:=
 l = []\/∃b o,A=some ⟨b,o,none⟩/\b<w.heap.size/\(b<B\/fS w b 198)/\∀k,(h:k<l.length)->w.cell? ⟨b,o+k*2,none⟩=some (.int .i64 l[k].1)/\w.cell? ⟨b,o+k*2+1,none⟩=some (.int .i64 l[k].2)
theorem oB.plan {w:World} {B:Nat} {A:Option Addr} {l:List (Int×Int)} (h:oB w B A l):cV w A l:=by
 rcases h with h|⟨b,o,hA,hb,_,hc⟩
 ·exact .inl h
 ·exact .inr ⟨b,o,hA,hb,hc⟩
def eG (w:World) (B:Nat) (L:List Nat):Prop:=∀b∈L,B<=b/\¬fS w b 106/\¬fS w b 198
theorem eG.apart {w:World} {B:Nat} {L:List Nat} (h:eG w B L):cY w B L:=fun b hb=>⟨(h b hb).1,(h b hb).2.1⟩
theorem eG.nil (w:World) (B:Nat):eG w B []:=fun b hb=>by cases hb
theorem eG.cons {w:World} {B b:Nat} {L:List Nat} {cs:Array Value} {t:TypeId} {fr:Nat×Nat} (h:eG w B L) (hb:B<=b) (k:w.heap[b]?=some (.cells cs t fr)) (h1:t≠106) (h2:t≠198):eG w B (b::L):=fun x hx=>by
 rcases List.mem_cons.1 hx with rfl|hx
 ·refine ⟨hb,?_,?_⟩
  ·rintro⟨c,f,e⟩;rw[k]at e;injection e with e;injection e with _ e;exact h1 e
  ·rintro⟨c,f,e⟩;rw[k]at e;injection e with e;injection e with _ e;exact h2 e
 ·exact h x hx
theorem oB.only {w w':World} {B:Nat} {A:Option Addr} {l:List (Int×Int)} {L:List Nat} (h:oB w B A l) (o:Only L w w') (ha:eG w B L):oB w' B A l:=by
 rcases h with h|⟨b,f,hA,hb,ht,hc⟩
 ·exact .inl h
 ·have hn:b∉L:=fun hx=>by
   rcases ht with ht|ht
   ·have:=(ha b hx).1;omega
   ·exact (ha b hx).2.2 ht
  have hk:=o.block b hb hn;have hcell:∀i,w'.cell? ⟨b,i,none⟩=w.cell? ⟨b,i,none⟩:=fun i=>by simp only[World.cell?,hk]
  refine .inr ⟨b,f,hA,by have:=o.size;omega,?_,fun k dh=>by rw[hcell,hcell];exact hc k dh⟩;rcases ht with ht|⟨cur,fr,ht⟩
  ·exact .inl ht
  ·exact .inr ⟨cur,fr,hk.trans ht⟩
theorem ep.cR {w:World} {B:Nat} {g:bJ} {S:aa} (h:ep w B g S):eG w B g.list:=by
 have ha:=h.apart;obtain ⟨_,⟨_,_,k2,es,cl,k3,_⟩,cd,k4,k5⟩:=h;obtain ⟨_,cur,k6⟩:=k5.has;intro b hb;refine ⟨(ha b hb).1,(ha b hb).2,?_⟩;rintro ⟨c,f,e⟩;simp only[bJ.list,List.mem_cons,List.not_mem_nil,or_false]at hb;unfold Has at *;rcases hb with rfl|rfl|rfl|rfl
 ·rw[k4]at e;injection e with e;injection e with _ e;exact absurd e (by decide)
 ·rw[k2]at e;injection e with e;injection e with _ e;exact absurd e (by decide)
 ·rw[k3]at e;injection e with e;cases e
 ·rw[k6]at e;injection e with e;injection e with _ e;exact absurd e (by decide)
theorem gU.cR {w:World} {B:Nat} {g:cE} {S:aa} {X:cQ} (h:gU w B g S X):eG w B g.list:=by
 have ha:=h.apart;obtain ⟨_,cn,ce,k2,⟨xs,k3,_⟩,k4⟩:=h;obtain ⟨_,xI,k5⟩:=bU k3;obtain ⟨_,Fp,k6⟩:=bU k4;intro b hb;refine ⟨(ha b hb).1,(ha b hb).2,?_⟩;rintro ⟨c,f,e⟩;simp only[cE.list,List.mem_cons,List.not_mem_nil,or_false]at hb;unfold Has at *;rcases hb with rfl|rfl|rfl
 ·rw[k2]at e;injection e with e;injection e with _ e;exact absurd e (by decide)
 ·rw[k5]at e;injection e with e;injection e with _ e;exact absurd e (by decide)
 ·rw[k6]at e;injection e with e;injection e with _ e;exact absurd e (by decide)
def CS (w:World) (B b:Nat) (g:bJ) (s:az) (A:Option Addr) (cap:Nat):Prop:=
 ep w B g s.t/\eI w b g s.now s.count A s.plan.length cap s.dead/\oB w B A s.plan/\dx A b/\B<=b
def PS (w:World) (B b:Nat) (g:bJ) (s:az):Prop:=∃A cap,CS w B b g s A cap
theorem CS.iy {w:World} {B b:Nat} {g:bJ} {s:az} {A:Option Addr} {cap:Nat} (h:CS w B b g s A cap):b∉g.list:=h.1.iy h.2.1 (by decide) (by decide) (by decide)
theorem CS.cR {w:World} {B b:Nat} {g:bJ} {s:az} {A:Option Addr} {cap:Nat} (h:CS w B b g s A cap):eG w B (b::g.list):=
 eG.cons h.1.cR h.2.2.2.2 h.2.1 (by decide) (by decide)
theorem CS.only {w w':World} {B b:Nat} {g:bJ} {s:az} {A:Option Addr} {cap:Nat} {L:List Nat} (h:CS w B b g s A cap) (o:Only L w w') (ha:eG w B L) (hn:∀x∈b::g.list,x∉L):CS w' B b g s A cap:=
 ⟨h.1.only o ha.apart fun x hx=>hn x (List.mem_cons_of_mem _ hx),eI.only h.2.1 o (hn b (List.mem_cons_self ..)),h.2.2.1.only o ha,h.2.2.2.1,h.2.2.2.2⟩
theorem CS.ext {w w':World} {B b:Nat} {g:bJ} {s:az} {A:Option Addr} {cap:Nat} (h:CS w B b g s A cap) (o:Ext w w'):CS w' B b g s A cap:=h.only (Only.av (L:=[]) o) (eG.nil _ _) (by simp)
theorem PS.iy {w:World} {B b:Nat} {g:bJ} {s:az} (h:PS w B b g s):b∉g.list:=by obtain⟨A,c,h⟩:=h;exact h.iy
theorem PS.cR {w:World} {B b:Nat} {g:bJ} {s:az} (h:PS w B b g s):eG w B (b::g.list):=by obtain⟨A,c,h⟩:=h;exact h.cR
theorem PS.only {w w':World} {B b:Nat} {g:bJ} {s:az} {L:List Nat} (h:PS w B b g s) (o:Only L w w') (ha:eG w B L) (hn:∀x∈b::g.list,x∉L):PS w' B b g s:=by
 obtain ⟨A,c,h⟩:=h;exact⟨A,c,h.only o ha hn⟩
theorem PS.ext {w w':World} {B b:Nat} {g:bJ} {s:az} (h:PS w B b g s) (o:Ext w w'):PS w' B b g s:=by
 obtain ⟨A,c,h⟩:=h;exact⟨A,c,h.ext o⟩
theorem PS.lt {w:World} {B b:Nat} {g:bJ} {s:az} (h:PS w B b g s):∀x∈b::g.list,x<w.heap.size:=by
 obtain ⟨A,c,h⟩:=h;have h1:=h.1.lt;have h2:=Has.lt h.2.1;intro x hx;simp only[bJ.list,List.mem_cons,List.not_mem_nil,or_false]at hx;omega
theorem PS.Yn {w:World} {B b:Nat} {g:bJ} {s:az} (h:PS w B b g s):ep w B g s.t:=by obtain⟨A,c,h⟩:=h;exact h.1
theorem CS.NZ {w:World} {B b:Nat} {g:bJ} {s:az} {A:Option Addr} {cap:Nat} (h:CS w B b g s A cap) (hd:s.dead=false) {P:Program} {fn:FuncId} {args:Array Value} {cu cg:Int} {x:ia}
  (F:yi s≠0->Calls P fn args w (fun e w'=>e=.returned (.int .i64 (yi s))/\eI w' b g s.now (s.count+1) A s.plan.length cap (gx s.plan (s.count+1))/\Only [b] w w'))
  (G:jp s.plan (s.count+1)=0/\gx s.plan (s.count+1)=false->Calls P fn args w (fun e w'=>e=.returned (.int .i64 (fA s.t cu cg s.now x))/\ep w' B g (cq s.t cu cg s.now x)/\eI w' b g s.now (s.count+1) A s.plan.length cap false/\Only (b::g.list) w w')) :
  Calls P fn args w (fun e w'=>e=.returned (.int .i64 (kW s cu cg x))/\PS w' B b g (jq s cu cg x)/\Only (b::g.list) w w'):=by
 have hn:=h.iy;have hF:=h.cR
 by_cases h0:yi s=0
 ·have h1:jp s.plan (s.count+1)=0:=by rw[<-iV hd];exact h0
  refine (G ⟨h1,qK h1⟩).mono ?_;rintro e w' ⟨rfl,K,S1,O⟩;refine ⟨by unfold kW;rw[if_neg (by rw[h0];decide)],⟨A,cap,?_⟩,O⟩;unfold jq;rw [if_neg (by rw[h0];decide),(nv h0).2,hd];exact ⟨K,S1,h.2.2.1.only O hF,h.2.2.2.1,h.2.2.2.2⟩
 ·refine (F h0).mono ?_
  rintro e w' ⟨rfl,S1,O⟩;have jO:eG w B [b]:=fun x hx=>hF x (by simp at hx;subst hx;simp)
  refine ⟨by unfold kW;rw[if_pos h0],⟨A,cap,?_⟩,O.mono (by simp)⟩;unfold jq;rw [if_pos h0,Ak hd];exact ⟨h.1.tP h.2.1 h.2.2.2.2 hn O,S1,h.2.2.1.only O jO,h.2.2.2.1,h.2.2.2.2⟩
theorem CS.RF {w:World} {B b:Nat} {g:bJ} {s:az} {A:Option Addr} {cap:Nat} (h:CS w B b g s A cap) (hd:s.dead=false) {P:Program} {fn:FuncId} {args:Array Value} {cu cg:Int} {x:ia}
  (F:yi s≠0->Calls P fn args w (fun e w'=>e=.returned (.tuple #[.int .i64 0,.int .i64 (yi s)])/\eI w' b g s.now (s.count+1) A s.plan.length cap (gx s.plan (s.count+1))/\Only [b] w w'))
  (G:jp s.plan (s.count+1)=0/\gx s.plan (s.count+1)=false->Calls P fn args w (fun e w'=>e=.returned (.tuple #[.int .i64 (j_ s.t cu cg s.now x),.int .i64 (fA s.t cu cg s.now x)])/\ep w' B g (cq s.t cu cg s.now x)/\eI w' b g s.now (s.count+1) A s.plan.length cap false/\Only (b::g.list) w w')) :
  Calls P fn args w (fun e w'=>e=.returned (.tuple #[.int .i64 (ow s cu cg x),.int .i64 (kW s cu cg x)])/\PS w' B b g (jq s cu cg x)/\Only (b::g.list) w w'):=by
 have hn:=h.iy;have hF:=h.cR
 by_cases h0:yi s=0
 ·have h1:jp s.plan (s.count+1)=0:=by rw[<-iV hd];exact h0
  refine (G ⟨h1,qK h1⟩).mono ?_;rintro e w' ⟨rfl,K,S1,O⟩;refine ⟨by unfold kW ow;rw[if_neg (by rw[h0];decide),if_neg (by rw[h0];decide)],⟨A,cap,?_⟩,O⟩;unfold jq;rw [if_neg (by rw[h0];decide),(nv h0).2,hd];exact ⟨K,S1,h.2.2.1.only O hF,h.2.2.2.1,h.2.2.2.2⟩
 ·refine (F h0).mono ?_
  rintro e w' ⟨rfl,S1,O⟩;have jO:eG w B [b]:=fun x hx=>hF x (by simp at hx;subst hx;simp)
  refine ⟨by unfold kW ow;rw[if_pos h0,if_pos h0],⟨A,cap,?_⟩,O.mono (by simp)⟩;unfold jq;rw [if_pos h0,Ak hd];exact ⟨h.1.tP h.2.1 h.2.2.2.2 hn O,S1,h.2.2.1.only O jO,h.2.2.2.1,h.2.2.2.2⟩
def JW (w:World) (B b:Nat) (g:bJ) (s:az) (cu cg:Int) (x:ia) (e:Ending) (w':World):Prop:=e=.returned (.int .i64 (kW s cu cg x))/\PS w' B b g (jq s cu cg x)/\Only (b::g.list) w w'
def Mz (w:World) (B b:Nat) (g:bJ) (s:az) (cu cg:Int) (x:ia) (e:Ending) (w':World):Prop:=e=.returned (.tuple #[.int .i64 (ow s cu cg x),.int .i64 (kW s cu cg x)])/\PS w' B b g (jq s cu cg x)/\Only (b::g.list) w w'
section
variable {c:Nat} {w:World} {B b:Nat} {g:bJ} {s:az}
theorem fJ.len (h:fJ c s):s.plan.length<=1000000:=by have:=h.plan;omega
theorem fJ.hi (h:fJ c s) (hc:c<=900):s.count<=1000000:=by have:=h.c1;omega
theorem fJ.dd (h:fJ c s) (hc:c<=900):s.t.last<=901:=by have:=h.last;omega
theorem fJ.ok (h:fJ c s) (hc:c<=900):Ok s.t:=h.eD.ok (by omega)
theorem PS.bB (h:PS w B b g s) (hs:fJ c s) (hc:c<=900) (hd:s.dead=false) (cu cg:Int) (dir:Int) (nm:List UInt8) (mode:Int) :
  Calls Tryz.prog 64 #[.pointer (some ⟨b,0,none⟩),.agg #[cu,cg],.int .i64 dir,bs nm,.int .i64 mode] w (Mz w B b g s cu cg (.bB dir nm mode)):=by
 obtain ⟨A,cap,h⟩:=h;obtain ⟨h1,h2,h3,h4,h5⟩:=id h;have nu:=h2;rw [hd]at nu;refine h.RF hd (fun h0=>?_) (fun h0=>?_)
 ·exact Ru s.plan w cu cg dir (bs nm) mode nu h3.plan h4 hs.len hs.c0 (hs.hi hc) (iV hd).symm h0
 ·exact Rv s.plan w cu cg dir (bs nm) mode nu h3.plan h4 hs.len hs.c0 (hs.hi hc) B s.t h1 h.iy h5 h0 fun u hu=>JB B g s.t cu cg s.now dir nm mode u hu (hs.ok hc) (by have:=hs.dd hc;omega)
theorem PS.bc (h:PS w B b g s) (hs:fJ c s) (hc:c<=900) (hd:s.dead=false) (cu cg:Int) (dir:Int) (nm:List UInt8) (mode:Int) (data:List UInt8) (kM:data.length<=1000000000) :
  Calls Tryz.prog 66 #[.pointer (some ⟨b,0,none⟩),.agg #[cu,cg],.int .i64 dir,bs nm,.int .i64 mode,bs data] w (Mz w B b g s cu cg (.bc dir nm mode data)):=by
 obtain ⟨A,cap,h⟩:=h;obtain ⟨h1,h2,h3,h4,h5⟩:=id h;have nu:=h2;rw [hd]at nu;refine h.RF hd (fun h0=>?_) (fun h0=>?_)
 ·exact NU s.plan w cu cg dir (bs nm) mode (bs data) nu h3.plan h4 hs.len hs.c0 (hs.hi hc) (iV hd).symm h0
 ·exact NW s.plan w cu cg dir (bs nm) mode (bs data) nu h3.plan h4 hs.len hs.c0 (hs.hi hc) B s.t h1 h.iy h5 h0 fun u hu=>FW B g s.t cu cg s.now dir nm mode data u hu (hs.ok hc) (by have:=hs.dd hc;omega) kM
theorem PS.symlink (h:PS w B b g s) (hs:fJ c s) (hc:c<=900) (hd:s.dead=false) (cu cg:Int) (dir:Int) (nm text:List UInt8) (kM:text.length<=1000000000) :
  Calls Tryz.prog 68 #[.pointer (some ⟨b,0,none⟩),.agg #[cu,cg],.int .i64 dir,bs nm,bs text] w (Mz w B b g s cu cg (.symlink dir nm text)):=by
 obtain ⟨A,cap,h⟩:=h;obtain ⟨h1,h2,h3,h4,h5⟩:=id h;have nu:=h2;rw [hd]at nu;refine h.RF hd (fun h0=>?_) (fun h0=>?_)
 ·exact JS s.plan w cu cg dir (bs nm) (bs text) nu h3.plan h4 hs.len hs.c0 (hs.hi hc) (iV hd).symm h0
 ·exact JT s.plan w cu cg dir (bs nm) (bs text) nu h3.plan h4 hs.len hs.c0 (hs.hi hc) B s.t h1 h.iy h5 h0 fun u hu=>JC B g s.t cu cg s.now dir nm text u hu (hs.ok hc) (by have:=hs.dd hc;omega) kM
theorem PS.link (h:PS w B b g s) (hs:fJ c s) (hc:c<=900) (hd:s.dead=false) (cu cg:Int) (no dir:Int) (nm:List UInt8) :
  Calls Tryz.prog 63 #[.pointer (some ⟨b,0,none⟩),.agg #[cu,cg],.int .i64 no,.int .i64 dir,bs nm] w (JW w B b g s cu cg (.link no dir nm)):=by
 obtain ⟨A,cap,h⟩:=h;obtain ⟨h1,h2,h3,h4,h5⟩:=id h;have nu:=h2;rw [hd]at nu;refine h.NZ hd (fun h0=>?_) (fun h0=>?_)
 ·exact Vh s.plan w cu cg no dir (bs nm) nu h3.plan h4 hs.len hs.c0 (hs.hi hc) (iV hd).symm h0
 ·exact Vi s.plan w cu cg no dir (bs nm) nu h3.plan h4 hs.len hs.c0 (hs.hi hc) B s.t h1 h.iy h5 h0 fun u hu=>FQ B g s.t cu cg s.now no dir nm u hu (hs.ok hc)
theorem PS.cJ (h:PS w B b g s) (hs:fJ c s) (hc:c<=900) (hd:s.dead=false) (cu cg:Int) (no mode:Int) :
  Calls Tryz.prog 48 #[.pointer (some ⟨b,0,none⟩),.agg #[cu,cg],.int .i64 no,.int .i64 mode] w (JW w B b g s cu cg (.cJ no mode)):=by
 obtain ⟨A,cap,h⟩:=h;obtain ⟨h1,h2,h3,h4,h5⟩:=id h;have nu:=h2;rw [hd]at nu;refine h.NZ hd (fun h0=>?_) (fun h0=>?_)
 ·exact Rw s.plan w cu cg no mode nu h3.plan h4 hs.len hs.c0 (hs.hi hc) (iV hd).symm h0
 ·exact Rx s.plan w cu cg no mode nu h3.plan h4 hs.len hs.c0 (hs.hi hc) B s.t h1 h.iy h5 h0 fun u hu=>Fy B g s.t cu cg s.now no mode u hu hs.eD.ag hs.eD.aC
theorem PS.cK (h:PS w B b g s) (hs:fJ c s) (hc:c<=900) (hd:s.dead=false) (cu cg:Int) (no uid gid:Int) :
  Calls Tryz.prog 47 #[.pointer (some ⟨b,0,none⟩),.agg #[cu,cg],.int .i64 no,.int .i64 uid,.int .i64 gid] w (JW w B b g s cu cg (.cK no uid gid)):=by
 obtain ⟨A,cap,h⟩:=h;obtain ⟨h1,h2,h3,h4,h5⟩:=id h;have nu:=h2;rw [hd]at nu;refine h.NZ hd (fun h0=>?_) (fun h0=>?_)
 ·exact Ry s.plan w cu cg no uid gid nu h3.plan h4 hs.len hs.c0 (hs.hi hc) (iV hd).symm h0
 ·exact Rz s.plan w cu cg no uid gid nu h3.plan h4 hs.len hs.c0 (hs.hi hc) B s.t h1 h.iy h5 h0 fun u hu=>Cw B g s.t cu cg s.now no uid gid u hu hs.eD.ag hs.eD.aC
theorem PS.dA (h:PS w B b g s) (hs:fJ c s) (hc:c<=900) (hd:s.dead=false) (cu cg:Int) (no mt:Int) :
  Calls Tryz.prog 49 #[.pointer (some ⟨b,0,none⟩),.agg #[cu,cg],.int .i64 no,.int .i64 mt] w (JW w B b g s cu cg (.dA no mt)):=by
 obtain ⟨A,cap,h⟩:=h;obtain ⟨h1,h2,h3,h4,h5⟩:=id h;have nu:=h2;rw [hd]at nu;refine h.NZ hd (fun h0=>?_) (fun h0=>?_)
 ·exact RB s.plan w cu cg no mt nu h3.plan h4 hs.len hs.c0 (hs.hi hc) (iV hd).symm h0
 ·exact RD s.plan w cu cg no mt nu h3.plan h4 hs.len hs.c0 (hs.hi hc) B s.t h1 h.iy h5 h0 fun u hu=>FG B g s.t cu cg s.now no mt u hu hs.eD.ag hs.eD.aC
end
end
section
open Go.ChangeShapes Go.WideShapes Go.ChangeAt Go.RowKit
def TL (w:World) (B:Nat) (f:cE) (s:az) (A:Option Addr) (cap:Nat):Prop:=gU w B f s.t (RE s.now s.count A s.plan.length cap s.dead)/\oB w B A s.plan
def RS (w:World) (B:Nat) (f:cE) (s:az):Prop:=∃A cap,TL w B f s A cap
theorem RS.cR {w:World} {B:Nat} {f:cE} {s:az} (h:RS w B f s):eG w B f.list:=by obtain⟨A,c,h⟩:=h;exact h.1.cR
theorem TL.only {w w':World} {B:Nat} {f:cE} {s:az} {A:Option Addr} {cap:Nat} {L:List Nat} (h:TL w B f s A cap) (o:Only L w w') (ha:eG w B L) (hn:∀x∈f.list,x∉L):TL w' B f s A cap:=⟨h.1.only o ha.apart hn,h.2.only o ha⟩
theorem RS.only {w w':World} {B:Nat} {f:cE} {s:az} {L:List Nat} (h:RS w B f s) (o:Only L w w') (ha:eG w B L) (hn:∀x∈f.list,x∉L):RS w' B f s:=by
 obtain ⟨A,c,h⟩:=h;exact⟨A,c,h.only o ha hn⟩
theorem RS.ext {w w':World} {B:Nat} {f:cE} {s:az} (h:RS w B f s) (o:Ext w w'):RS w' B f s:=h.only (Only.av (L:=[]) o) (eG.nil _ _) (by simp)
theorem RS.lt {w:World} {B:Nat} {f:cE} {s:az} (h:RS w B f s):∀x∈f.list,x<w.heap.size:=by
 obtain ⟨A,c,h⟩:=h;have h1:=h.1.lt;intro x hx;simp only[cE.list,List.mem_cons,List.not_mem_nil,or_false]at hx;omega
theorem RS.TM {w:World} {B:Nat} {f:cE} {s:az} (h:RS w B f s):∃X,gU w B f s.t X:=by obtain⟨A,c,h⟩:=h;exact⟨_,h.1⟩
def MA (w:World) (B:Nat) (f:cE) (s':az) (w':World):Prop:=∃f',RS w' B f' s'/\Only f.list w w'/\cE.on f' f w
theorem TL.kp {w w':World} {B:Nat} {f f':cE} {s:az} {A:Option Addr} {cap:Nat} {T:aa} (h:TL w B f s A cap) (k:gU w' B f' T (RE s.now s.count A s.plan.length cap s.dead)) (o:Only f.list w w') (ho:cE.on f' f w):MA w B f {s with t:=T} w':=
 ⟨f',⟨A,cap,k,h.2.only o h.1.cR⟩,o,ho⟩
section
variable {c:Nat} {w:World} {B:Nat} {f:cE} {s:az}
theorem RS.bB (h:RS w B f s) (hs:fJ c s) (hc:c<=900) (cu cg:Int) (dir:Int) (nm:List UInt8) (mode:Int) (gP:nm.length<=1000000) :
  Calls Tryz.prog 87 #[.pointer (some ⟨f.bF,0,none⟩),.agg #[cu,cg],.int .i64 dir,bs nm,.int .i64 mode] w (fun e w'=>e=.returned (.tuple #[.int .i64 (j_ s.t cu cg s.now (.bB dir nm mode)),.int .i64 (fA s.t cu cg s.now (.bB dir nm mode))])/\MA w B f {s with t:=cq s.t cu cg s.now (.bB dir nm mode)} w'):=by
 obtain ⟨A,cap,h⟩:=h;refine (JJ B f s.t _ cu cg dir nm mode w h.1 (hs.ok hc) (by have:=hs.dd hc;omega) gP).mono ?_;rintro e w' ⟨rfl,f2,k,o,ho⟩;exact ⟨rfl,h.kp k o ho⟩
theorem RS.bc (h:RS w B f s) (hs:fJ c s) (hc:c<=900) (cu cg:Int) (dir:Int) (nm:List UInt8) (mode:Int) (data:List UInt8) (gP:nm.length<=1000000) (kM:data.length<=1000000000) :
  Calls Tryz.prog 89 #[.pointer (some ⟨f.bF,0,none⟩),.agg #[cu,cg],.int .i64 dir,bs nm,.int .i64 mode,bs data] w (fun e w'=>e=.returned (.tuple #[.int .i64 (j_ s.t cu cg s.now (.bc dir nm mode data)),.int .i64 (fA s.t cu cg s.now (.bc dir nm mode data))])/\MA w B f {s with t:=cq s.t cu cg s.now (.bc dir nm mode data)} w'):=by
 obtain ⟨A,cap,h⟩:=h;refine (F_ B f s.t _ cu cg dir nm mode data w h.1 (hs.ok hc) (by have:=hs.dd hc;omega) gP kM).mono ?_;rintro e w' ⟨rfl,f2,k,o,ho⟩;exact ⟨rfl,h.kp k o ho⟩
theorem RS.symlink (h:RS w B f s) (hs:fJ c s) (hc:c<=900) (cu cg:Int) (dir:Int) (nm text:List UInt8) (gP:nm.length<=1000000) (kM:text.length<=1000000) :
  Calls Tryz.prog 90 #[.pointer (some ⟨f.bF,0,none⟩),.agg #[cu,cg],.int .i64 dir,bs nm,bs text] w (fun e w'=>e=.returned (.tuple #[.int .i64 (j_ s.t cu cg s.now (.symlink dir nm text)),.int .i64 (fA s.t cu cg s.now (.symlink dir nm text))])/\MA w B f {s with t:=cq s.t cu cg s.now (.symlink dir nm text)} w'):=by
 obtain ⟨A,cap,h⟩:=h;refine (JK B f s.t _ cu cg dir nm text w h.1 (hs.ok hc) (by have:=hs.dd hc;omega) gP kM).mono ?_;rintro e w' ⟨rfl,f2,k,o,ho⟩;exact ⟨rfl,h.kp k o ho⟩
theorem RS.link (h:RS w B f s) (hs:fJ c s) (hc:c<=900) (cu cg:Int) (no dir:Int) (nm:List UInt8) (gP:nm.length<=1000000) :
  Calls Tryz.prog 91 #[.pointer (some ⟨f.bF,0,none⟩),.agg #[cu,cg],.int .i64 no,.int .i64 dir,bs nm] w (fun e w'=>e=.returned (.int .i64 (fA s.t cu cg s.now (.link no dir nm)))/\MA w B f {s with t:=cq s.t cu cg s.now (.link no dir nm)} w'):=by
 obtain ⟨A,cap,h⟩:=h;refine (Ga B f s.t _ cu cg no dir nm w h.1 (hs.ok hc) (by have:=hs.dd hc;omega) gP).mono ?_;rintro e w' ⟨rfl,f2,k,o,ho⟩;exact ⟨rfl,h.kp k o ho⟩
theorem RS.cJ (h:RS w B f s) (hs:fJ c s) (hc:c<=900) (cu cg:Int) (no mode:Int) :
  Calls Tryz.prog 56 #[.pointer (some ⟨f.bF,0,none⟩),.agg #[cu,cg],.int .i64 no,.int .i64 mode] w (fun e w'=>e=.returned (.int .i64 (fA s.t cu cg s.now (.cJ no mode)))/\MA w B f {s with t:=cq s.t cu cg s.now (.cJ no mode)} w'):=by
 obtain ⟨A,cap,h⟩:=h;refine (FR B f s.t _ cu cg no mode w h.1 (by have:=hs.eD.count;have:=hs.dd hc;omega) hs.eD.aC).mono ?_;rintro e w' ⟨rfl,k,o⟩;exact ⟨rfl,h.kp k o (cE.fx _ _)⟩
theorem RS.cK (h:RS w B f s) (hs:fJ c s) (hc:c<=900) (cu cg:Int) (no uid gid:Int) :
  Calls Tryz.prog 55 #[.pointer (some ⟨f.bF,0,none⟩),.agg #[cu,cg],.int .i64 no,.int .i64 uid,.int .i64 gid] w (fun e w'=>e=.returned (.int .i64 (fA s.t cu cg s.now (.cK no uid gid)))/\MA w B f {s with t:=cq s.t cu cg s.now (.cK no uid gid)} w'):=by
 obtain ⟨A,cap,h⟩:=h;refine (CD B f s.t _ cu cg no uid gid w h.1 (by have:=hs.eD.count;have:=hs.dd hc;omega) hs.eD.aC).mono ?_;rintro e w' ⟨rfl,k,o⟩;exact ⟨rfl,h.kp k o (cE.fx _ _)⟩
theorem RS.dA (h:RS w B f s) (hs:fJ c s) (hc:c<=900) (cu cg:Int) (no mt:Int) :
  Calls Tryz.prog 57 #[.pointer (some ⟨f.bF,0,none⟩),.agg #[cu,cg],.int .i64 no,.int .i64 mt] w (fun e w'=>e=.returned (.int .i64 (fA s.t cu cg s.now (.dA no mt)))/\MA w B f {s with t:=cq s.t cu cg s.now (.dA no mt)} w'):=by
 obtain ⟨A,cap,h⟩:=h;refine (FT B f s.t _ cu cg no mt w h.1 (by have:=hs.eD.count;have:=hs.dd hc;omega) hs.eD.aC).mono ?_;rintro e w' ⟨rfl,k,o⟩;exact ⟨rfl,h.kp k o (cE.fx _ _)⟩
end
end
section
open Go.ChangeShapes Go.WideShapes Go.ChangeAt Go.RowKit
def tR (w0:World) (B b:Nat) (g:bJ) (f:cE) (s r:az) (w:World):Prop:=
 ∃ g' f',bJ.on g' g w0/\cE.on f' f w0/\PS w B b g' s/\RS w B f' r/\Only (b::(g.list++f.list)) w0 w
theorem PS.JX {w:World} {B b:Nat} {g:bJ} {f:cE} {s r:az} (h:PS w B b g s) (k:RS w B f r):∀x∈b::g.list,x∉f.list:=by
 obtain ⟨A,cap,h⟩:=h;obtain ⟨A2,JY,k⟩:=k;intro x hx;rcases List.mem_cons.1 hx with rfl|hx
 ·exact k.1.iy h.2.1 (by decide) (by decide) (by decide)
 ·exact ep.QR h.1 k.1 x hx
theorem tR.start {w0:World} {B b:Nat} {g:bJ} {f:cE} {s r:az} (h:PS w0 B b g s) (k:RS w0 B f r):tR w0 B b g f s r w0:=⟨g,f,bJ.fx _ _,cE.fx _ _,h,k,Only.refl _ _⟩
theorem tR.only {w0 w:World} {B b:Nat} {g:bJ} {f:cE} {s r:az} (h:tR w0 B b g f s r w):Only (b::(g.list++f.list)) w0 w:=by obtain⟨_,_,_,_,_,_,h5⟩:=h;exact h5
theorem tR.has {w0 w:World} {B b x:Nat} {g:bJ} {f:cE} {s r:az} {o:Obj} (h:tR w0 B b g f s r w) (k:Has w0 x o) (hx:x∉b::(g.list++f.list)):Has w x o:=h.only.has k hx
theorem tR.prog {w0 w w':World} {B b:Nat} {g g1:bJ} {f f1:cE} {s s' r:az} (h1:bJ.on g1 g w0) (h2:cE.on f1 f w0) (hP:PS w B b g1 s) (hR:RS w B f1 r) (hO:Only (b::(g.list++f.list)) w0 w)
  (k:PS w' B b g1 s') (o:Only (b::g1.list) w w'):tR w0 B b g f s' r w':=
 ⟨g1, f1,h1,h2,k,hR.only o hP.cR (fun x hx hx2=>hP.JX hR x hx2 hx),hO.trans o (fun x hx=>by
  rcases List.mem_cons.1 hx with rfl|hx
  ·exact .inl (List.mem_cons_self ..)
  ·rcases h1.2 x hx with e|e
   ·exact .inl (List.mem_cons_of_mem _ (List.mem_append_left _ e))
   ·exact .inr e)⟩
theorem tR.aae {w0 w w':World} {B b:Nat} {g g1:bJ} {f f1:cE} {s r r':az} (h1:bJ.on g1 g w0) (h2:cE.on f1 f w0) (hP:PS w B b g1 s) (hR:RS w B f1 r) (hO:Only (b::(g.list++f.list)) w0 w)
  (k:MA w B f1 r' w'):tR w0 B b g f s r' w':=by
 obtain ⟨f2,k1,o,k2⟩:=k;exact ⟨g1,f2,h1,cE.pC h2 k2 hO.size,hP.only o hR.cR (fun x hx=>hP.JX hR x hx),k1,hO.trans o (fun x hx=>by
  rcases h2.2 x hx with e|e
  ·exact .inl (List.mem_cons_of_mem _ (List.mem_append_right _ e))
  ·exact .inr e)⟩
theorem tR.fs {w0 w:World} {B b:Nat} {g:bJ} {f:cE} {s r:az} (h:tR w0 B b g f s r w):∃vN vD A cap,Has w f.bF (.cells #[vN,vD,.int .i64 r.t.last,r.now,.int .i64 r.count,.slice A r.plan.length cap,.bool r.dead] 54):=by
 obtain ⟨g1,f1,_,h2,_,⟨A,cap,⟨_,cn,ce,k,_⟩,_⟩,_⟩:=h;rw [h2.1]at k;exact ⟨_,_,A,cap,k⟩
theorem tR.after {w1 w0 w:World} {B b:Nat} {g:bJ} {f:cE} {s r s' r':az} (h:tR w0 B b g f s r w) (hE:Ext w1 w0) (hB:w1.heap.size<=B) (K:PS w0 B b g s') (F:RS w0 B f r'):Ext w1 w:=by
 refine h.only.after hE fun x hx=>?_
 rcases List.mem_cons.1 hx with rfl|hx
 ·have:=(K.cR x (List.mem_cons_self ..)).1;omega
 ·rcases List.mem_append.1 hx with hx|hx
  ·have:=(K.cR x (List.mem_cons_of_mem _ hx)).1;omega
  ·have:=(F.cR x hx).1;omega
attribute [local irreducible] wpQuiet
end
end Go.Proofs.YtblbohcaphcobaaGreatDoor
