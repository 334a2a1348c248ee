import Derived.Test.YtblbohcaphcobaaGreatDoorBunX
import Derived.Test.YtblbohcaphcobaaGreatDoorBunH
import Derived.Test.YtblbohcaphcobaaGreatDoorBunJ
import Derived.Test.YtblbohcaphcobaaGreatDoorBunC
import Derived.Test.YtblbohcaphcobaaGreatDoorBunI
import Derived.Test.YtblbohcaphcobaaGreatDoorBunG
import Derived.Lib.AppendZerosOnto
set_option maxHeartbeats 4000000
set_option maxRecDepth 100000
namespace Go.Proofs.YtblbohcaphcobaaGreatDoor
section
theorem yP {c:Nat} {S T:ac} {p:Int} (h:dI c S) (hT:p=0->dI (c+1) T):dI (c+1) (dM p S T):=by
 unfold dM;split
 ·exact gu h (by omega)
 ·rename_i h0;exact hT (Decidable.not_not.1 h0)
theorem rh (S:ac) (cu cg now dir:Int) (nm:List UInt8) (n:ai):(aX S cu cg now dir nm n).last<=S.last+1:=by
 unfold aX;split
 ·show (bj S _).last<=_
  unfold bj;split
  ·exact Int.le_refl _
  ·omega
 ·omega
theorem uw {S T:ac} {p:Int} (h:T.last<=S.last+1):(dM p S T).last<=S.last+1:=by
 unfold dM;split
 ·omega
 ·exact h
theorem Bi {S:ac} (h:bi S) (no:Int):bi (kO S no):=by
 unfold kO;split
 ·exact fun m hm=>h m (dU hm).1
 ·exact h
theorem kR {S:ac} (h:bi S) {n:ai} (hn:n.kind≠1->n.ae=[]):bi (aK S n):=fun m hm hk=>by
 rcases aM hm with⟨hm,_⟩|rfl
 ·exact h m hm hk
 ·exact hn hk
theorem Bj {S:ac} (h:bi S) (now:Int) {n:ai} (hn:n.kind≠1->n.ae=[]):bi (na S now n):=by
 unfold na;split
 ·exact Bi (kR (n:=jI now n) h hn) _
 ·exact kR (n:=jI now n) h hn
theorem mq {S:ac} (h:bi S) {dir now:Int} {l:List ax} (hk:(aa S.nodes dir).kind=1):bi (cI S dir now l):=kR h fun hn=>absurd hk hn
theorem lg {S:ac} (h:bi S) (no:Int) (hi:aQ S.nodes no=true):(aa S.nodes no).kind≠1->(aa S.nodes no).ae=[]:=h _ (aj hi).2.2
theorem rZ {S:ac} (h:bi S) {cu cg now dir:Int} {nm:List UInt8} (hl:jR S cu cg dir nm=0):bi (mA S now (mm S cu cg dir nm) (ij S cu cg dir nm) nm):=by
 obtain ⟨z1,z2,_,z4,z5⟩:=gz hl;obtain ⟨hi,hk,_⟩:=aR z1;unfold mA;rw [z4,z5,(aj hi).2.1];exact Bj (mq h hk) now (lg h _ z2)
theorem Bk {c:Nat} {S:ac} (_hT:dI c S) (h:bi S) (cu cg now no dir:Int) (nm:List UInt8):bi (dW S cu cg now no dir nm):=by
 unfold dW;split
 ·rename_i h0
  obtain ⟨z1,z2,z3,_⟩:=ii h0;obtain ⟨hi,hk,_⟩:=aR z1;have h1:bi (aK S (bH S now no)):=kR h (lg h no z2);refine mq h1 ?_;have hne:dir≠(bH S now no).no:=by
   intro e;have e2:(bH S now no).no=no:=(aj z2).2.1;rw [e2]at e;rw [e]at hk;exact z3 hk
  rw [(jH hne).1];exact hk
 ·exact h
theorem G_ (S:ac) (cu cg now fr aY:Int) (a b:List UInt8):(Fc S cu cg now fr aY a b).last=S.last:=by
 unfold Fc;split
 ·show (AZ S now _).last=S.last
  exact (GV S now _).1
 ·rfl
open Go.ChangeShapes Go.WideShapes Go.ChangeAt Go.RowKit
structure aA where
 t : ac
 now:Int
 count:Int
 plan:List (Int×Int)
 dead:Bool
def Bl (s:aA):Int:=if s.dead=true then 20 else jz s.plan (s.count+1)
def Ha (s:aA):aA:=if s.dead=true then s else {s with count:=s.count+1,dead:=gK s.plan (s.count+1)}
inductive jn where
 | bZ (dir:Int) (nm:List UInt8) (mode:Int)
 | bB (dir:Int) (nm:List UInt8) (mode:Int) (data:List UInt8)
 | symlink (dir:Int) (nm:List UInt8) (text:List UInt8)
 | link (no dir:Int) (nm:List UInt8)
 | unlink (dir:Int) (nm:List UInt8)
 | ux (dir:Int) (nm:List UInt8)
 | rename (fr:Int) (a:List UInt8) (aY:Int) (b:List UInt8)
 | dn (no mode:Int)
 | cU (no uid gid:Int)
 | dp (no mt:Int)
 | write (no:Int) (data:List UInt8)
def cF (S:ac) (cu cg now:Int):jn->ac
 | .bZ dir nm mode=>dM (lO mode) S (aX S cu cg now dir nm (dV mode dir))
 | .bB dir nm mode data=>dM (gw mode data.length) S (aX S cu cg now dir nm (cx mode data))
 | .symlink dir nm text=>dM (kP text) S (aX S cu cg now dir nm (ep text))
 | .link no dir nm=>dW S cu cg now no dir nm
 | .unlink dir nm=>jf S cu cg now dir nm
 | .ux dir nm=>kQ S cu cg now dir nm
 | .rename fr a aY b=>Fc S cu cg now fr aY a b
 | .dn no mode=>d_ S cu now no mode
 | .cU no uid gid=>ey S cu now no uid gid
 | .dp no mt=>ee S cu now no mt
 | .write no data=>yD S cu cg now no data
def fE (S:ac) (cu cg now:Int):jn->Int
 | .bZ dir nm mode=>fQ (lO mode) (bL S cu cg now dir nm (dV mode dir))
 | .bB dir nm mode data=>fQ (gw mode data.length) (bL S cu cg now dir nm (cx mode data))
 | .symlink dir nm text=>fQ (kP text) (bL S cu cg now dir nm (ep text))
 | .link no dir nm=>eP S cu cg no dir nm
 | .unlink dir nm=>nO S cu cg dir nm
 | .ux dir nm=>rc S cu cg dir nm
 | .rename fr a aY b=>Rq S cu cg fr aY a b
 | .dn no mode=>eJ S cu no mode
 | .cU no uid gid=>fu S cu no uid gid
 | .dp no mt=>fw S cu no mt
 | .write no data=>GC S cu cg no data.length
def jT (S:ac) (cu cg now:Int):jn->Int
 | .bZ dir nm mode=>ig (lO mode) (dh S cu cg now dir nm (dV mode dir))
 | .bB dir nm mode data=>ig (gw mode data.length) (dh S cu cg now dir nm (cx mode data))
 | .symlink dir nm text=>ig (kP text) (dh S cu cg now dir nm (ep text))
 | _=>0
def jU (s:aA) (cu cg:Int) (x:jn):aA:=if Bl s≠0 then Ha s else {Ha s with t:=cF s.t cu cg s.now x}
def kF (s:aA) (cu cg:Int) (x:jn):Int:=if Bl s≠0 then Bl s else fE s.t cu cg s.now x
def o_ (s:aA) (cu cg:Int) (x:jn):Int:=if Bl s≠0 then 0 else jT s.t cu cg s.now x
theorem rl {l:List (Int×Int)} {c:Int} (h:jz l c=0):gK l c=false:=by
 unfold jz at h;unfold gK
 cases hx:uu l c with
 | none=>rfl
 | some x =>
  rw [hx]at h;have h':x.2=0:=h;show (x.2 == 20)=false;rw [h'];rfl
theorem nQ {s:aA} (h:Bl s=0):s.dead=false/\Ha s={s with count:=s.count+1}:=by
 unfold Bl at h;split at h
 ·cases h
 ·rename_i hd
  have hd':s.dead=false:=by simpa using hd
  refine ⟨hd',?_⟩;unfold Ha;rw [if_neg hd,rl h,<-hd']
theorem jg {s:aA} (h:s.dead=false):Bl s=jz s.plan (s.count+1):=by unfold Bl;rw[if_neg (by rw[h];decide)]
theorem Bm {s:aA} (h:s.dead=false):Ha s={s with count:=s.count+1,dead:=gK s.plan (s.count+1)}:=by unfold Ha;rw[if_neg (by rw[h];decide)]
structure fT (c:Nat) (s:aA):Prop where
 eE:dI c s.t
 xo:bi s.t
 last:s.t.last<=c+1
 c0:0<=s.count
 c1:s.count<=c
 plan:s.plan.length<=1000
theorem pd {S T:ac} {p:Int} (h:bi S) (k:bi T):bi (dM p S T):=by unfold dM;split;exact h;exact k
theorem Bn {S:ac} (h:bi S) {n:ai} (hn:n.kind≠1->n.ae=[]):bi (bj S n):=by
 unfold bj;split
 ·intro m hm hk
  rcases List.mem_append.1 hm with hm|hm
  ·exact h m hm hk
  ·rw [List.mem_singleton]at hm
   subst hm;exact hn hk
 ·exact h
theorem nj {S:ac} (hu:aI S.nodes S.last) (h:bi S) (cu cg now dir:Int) (nm:List UInt8) (n:ai) (hn:n.kind≠1->n.ae=[]):bi (aX S cu cg now dir nm n):=by
 unfold aX;split
 ·rename_i h0
  obtain ⟨h1,_,_⟩:=gx h0;obtain ⟨p1,p2,_⟩:=aR h1;refine mq (Bn (n:=bA S cu cg now dir n) h hn) ?_;rw [(jw hu _ p1).1];exact p2
 ·exact h
theorem lh {S:ac} (h:bi S) {no:Int} (hi:aQ S.nodes no=true) {n:ai} (hk:n.kind=(aa S.nodes no).kind) (he:n.ae=(aa S.nodes no).ae):bi (aK S n):=
 kR h fun hn=>by rw[he];exact lg h no hi (by rw[<-hk];exact hn)
theorem fM {S:ac} {cu no:Int} (h:ew S cu no=0):aQ S.nodes no=true:=(gI h).1
theorem Bo {S:ac} (h:bi S) (cu now no m:Int):bi (d_ S cu now no m):=by
 unfold d_;split
 ·rename_i h0
  unfold eJ at h0;split at h0
  ·rename_i h1;exact absurd h0 h1
  ·rename_i h1;exact lh h (fM (Decidable.not_not.1 h1)) rfl rfl
 ·exact h
theorem Bp {S:ac} (h:bi S) (cu now no u g:Int):bi (ey S cu now no u g):=by
 unfold ey;split
 ·rename_i h0
  unfold fu at h0;split at h0
  ·rename_i h1;exact absurd h0 h1
  ·rename_i h1;exact lh h (fM (Decidable.not_not.1 h1)) rfl rfl
 ·exact h
theorem Bq {S:ac} (h:bi S) (cu now no t:Int):bi (ee S cu now no t):=by
 unfold ee;split
 ·rename_i h0
  unfold fw at h0;split at h0
  ·rename_i h1;exact absurd h0 h1
  ·rename_i h1;exact lh h (fM (Decidable.not_not.1 h1)) rfl rfl
 ·exact h
theorem Dw {S:ac} (h:bi S) (cu cg now no:Int) (data:List UInt8):bi (yD S cu cg now no data):=by
 unfold yD;split
 ·rename_i h0
  have hi:aQ S.nodes no=true:=by
   unfold GC at h0;split at h0
   ·cases h0
   ·rename_i h1;simpa using h1
  have h1:bi (jp S no data):=by
   unfold jp;split
   ·intro m hm hk
    rcases Ar hm with hm|rfl
    ·exact h m hm hk
    ·exact lg h no hi hk
   ·exact h
  have pB:aQ (jp S no data).nodes no=true:=by
   unfold jp;split
   ·show aQ (bn S.nodes _) no=true;rw[je];exact hi
   ·exact hi
  exact lh h1 pB rfl rfl
 ·exact h
theorem Dx {c:Nat} {S:ac} (h:dI c S) (hN:bi S) (cu cg now:Int) (x:jn) (hx:∀fr a aY b,x≠.rename fr a aY b):bi (cF S cu cg now x):=by
 cases x with
 | bZ dir nm mode=>exact pd hN (nj h.aC hN _ _ _ _ _ _ fun _=>rfl)
 | bB dir nm mode data=>exact pd hN (nj h.aC hN _ _ _ _ _ _ fun _=>rfl)
 | symlink dir nm text=>exact pd hN (nj h.aC hN _ _ _ _ _ _ fun _=>rfl)
 | link no dir nm=>exact Bk h hN _ _ _ _ _ _
 | unlink dir nm =>
  show bi (jf S cu cg now dir nm);unfold jf;split
  ·rename_i h0
   refine rZ hN ?_;unfold nO at h0;split at h0
   ·rename_i h1;exact absurd h0 h1
   ·rename_i h1;exact Decidable.not_not.1 h1
  ·exact hN
 | ux dir nm =>
  show bi (kQ S cu cg now dir nm);unfold kQ;split
  ·rename_i h0
   refine rZ hN ?_;unfold rc at h0;split at h0
   ·rename_i h1;exact absurd h0 h1
   ·rename_i h1;exact Decidable.not_not.1 h1
  ·exact hN
 | rename fr a aY b=>exact absurd rfl (hx fr a aY b)
 | dn no mode=>exact Bo hN _ _ _ _
 | cU no uid gid=>exact Bp hN _ _ _ _ _
 | dp no mt=>exact Bq hN _ _ _ _
 | write no data=>exact Dw hN _ _ _ _ _
theorem Hb (S:ac) (now:Int) (n:ai):(na S now n).last=S.last:=by
 unfold na;split
 ·rw[C_];rfl
 ·rfl
theorem xp (S:ac) (now:Int) (d n:ai) (nm:List UInt8):(mA S now d n nm).last=S.last:=by unfold mA;rw[Hb];rfl
theorem Li (S:ac) (cu cg now:Int) (x:jn):(cF S cu cg now x).last<=S.last+1:=by
 cases x with
 | bZ dir nm mode=>exact uw (rh ..)
 | bB dir nm mode data=>exact uw (rh ..)
 | symlink dir nm text=>exact uw (rh ..)
 | link no dir nm=>show (dW ..).last<=_;unfold dW;split<;>(show S.last<=_;omega)
 | unlink dir nm=>show (jf ..).last<=_;unfold jf;split<;>(try rw[xp])<;>omega
 | ux dir nm=>show (kQ ..).last<=_;unfold kQ;split<;>(try rw[xp])<;>omega
 | rename fr a aY b=>show (Fc ..).last<=_;rw[G_];omega
 | dn no mode=>show (d_ ..).last<=_;unfold d_;split<;>(show S.last<=_;omega)
 | cU no uid gid=>show (ey ..).last<=_;unfold ey;split<;>(show S.last<=_;omega)
 | dp no mt=>show (ee ..).last<=_;unfold ee;split<;>(show S.last<=_;omega)
 | write no data =>
  show (yD ..).last<=_;unfold yD;split
  ·show (jp S no data).last<=_;rw[Da];omega
  ·omega
theorem PD {c:Nat} {S:ac} (h:dI c S) (cu cg now:Int) (x:jn) (hx:∀fr a aY b,x≠.rename fr a aY b):dI (c+1) (cF S cu cg now x):=by
 cases x with
 | bZ dir nm mode =>
  refine yP h fun h0=>qX h rfl (by show ([]:List UInt8).length<=_;simp) (fun _=>rfl) ?_
  unfold lO at h0;split at h0
  ·cases h0
  ·show 0<=mode/\mode<=1023
   omega
 | bB dir nm mode data =>
  have key:gw mode data.length=0->(0<=mode/\mode<=1023)/\data.length<=1048576:=fun h0=>by
   unfold gw at h0;split at h0
   ·cases h0
   ·split at h0
    ·cases h0
    ·omega
  exact yP h fun h0=>qX h rfl (key h0).2 (fun hk=>by cases hk) (key h0).1
 | symlink dir nm text =>
  have key:kP text=0->text.length<=1048576:=fun h0=>by
   unfold kP at h0;split at h0
   ·cases h0
   ·split at h0
    ·cases h0
    ·omega
  exact yP h fun h0=>qX h rfl (key h0) (fun hk=>by cases hk) ⟨by show (0:Int)<=511;decide,by show (511:Int)<=1023;decide⟩
 | link no dir nm=>exact Kq h ..
 | unlink dir nm=>exact gu (Dp h ..) (by omega)
 | ux dir nm=>exact gu (GU h ..) (by omega)
 | rename fr a aY b=>exact absurd rfl (hx fr a aY b)
 | dn no mode=>exact gu (Kl h ..) (by omega)
 | cU no uid gid=>exact gu (Km h ..) (by omega)
 | dp no mt=>exact gu (Kn h ..) (by omega)
 | write no data=>exact gu (Pw h ..) (by omega)
theorem gV.aaH {w:World} {B:Nat} {g:cJ} {S:ac} {X:cM} (h:gV w B g S X) (i:Nat) (v:Value) (Y:cM)
  (hY:∀cn ce:Nat,(#[.slice (some ⟨g.bN,0,none⟩) S.nodes.length cn,.slice (some ⟨g.bE,0,none⟩) S.af.length ce,.int .i64 S.last,X.now,X.count,X.plan,X.dead]:Array Value).setIfInBounds i v=#[.slice (some ⟨g.bN,0,none⟩) S.nodes.length cn,.slice (some ⟨g.bE,0,none⟩) S.af.length ce,.int .i64 S.last,.int .i64 Y.now,Y.count,Y.plan,Y.dead]) :
  gV (w.setCell ⟨g.bF,i,none⟩ v) B g S Y:=by
 have hne:=h.ne;have ha:=h.apart;obtain ⟨h1,cn,ce,h2,⟨xs,h3,h5⟩,h4⟩:=h;have o:=Only.setCell w g.bF i v;have nP:=Has.setCell h2 i v;rw [hY cn ce]at nP;refine ⟨h1,cn,ce,nP,⟨xs,av h3 o fun b hb=>?_,h5.only o (ha.sub (by simp[cJ.list]))⟩,av h4 o fun b hb=>?_⟩
 ·injection hb with hb;subst hb;simp;exact fun e=>hne.1 e.symm
 ·injection hb with hb;subst hb;simp;exact fun e=>hne.2.1 e.symm
abbrev Tn (now count:Int) (A:Option Addr) (n cap:Nat) (dead:Bool):cM:=⟨now,.int .i64 count,.slice A n cap,.bool dead⟩
def eW (l:List (Int×Int)):List Value:=l.flatMap fun x=>[.int .i64 x.1,.int .i64 x.2]
theorem oO (l:List (Int×Int)):(eW l).length=l.length*2:=by
 unfold eW
 induction l with
 | nil=>rfl
 | cons x l ih=>rw[List.flatMap_cons,List.length_append,ih];simp;omega
theorem oP (l:List (Int×Int)):∀k,(h:k<l.length)->(eW l)[k*2]?=some (.int .i64 l[k].1)/\(eW l)[k*2+1]?=some (.int .i64 l[k].2):=by
 induction l with
 | nil=>intro k h;simp at h
 | cons x l ih =>
  intro k h;have e:eW (x::l)=.int .i64 x.1::.int .i64 x.2::eW l:=rfl;rw [e]
  cases k with
  | zero=>exact⟨rfl,rfl⟩
  | succ k =>
   have:=ih k (by simpa using h);rw [show (k+1)*2=k*2+1+1 by omega];simpa using this
theorem wu (l:List (Int×Int)):∀u∈eW l,u.oneCell'=true:=by
 intro u hu;unfold eW at hu;rw [List.mem_flatMap]at hu;obtain ⟨x,_,hx⟩:=hu;simp only[List.mem_cons,List.not_mem_nil,or_false]at hx;rcases hx with rfl|rfl<;>rfl
theorem Lj (A:Option Addr) (cap:Nat) (l:List (Int×Int)) (wr:World) (h:cZ wr A l) (hA:A=none->cap=0) (hl:l.length<=1000000) :
  ∃ v' w2,(Builtin.append_ #[28,28] 28 #[.slice none 0 0,.slice A l.length cap]).run Tryz.prog wr=.ok v' w2/\w2.ownsRow wr.heap.size 198 2 v' l.length (eW l)/\Ext wr w2:=by
 obtain ⟨i0,hi,hz0,hz1,hz2⟩:=info_parts G8
 cases A with
 | none =>
  have jF:l=[]:=by
   rcases h with h|⟨b',o',h,_⟩
   ·exact h
   ·cases h
  subst jF;obtain rfl:cap=0:=hA rfl;refine ⟨.slice none 0 0,wr,?_,World.ownsRow_nil _ _ _ _,Ext.refl _⟩;simp [Builtin.append_,run_underlying Tryz.underlying28,sizeOf,typeInfo,hi,Builtin.lenOf,Builtin.firstCells]
 | some ad =>
  have sx:∀j u,(eW l)[j]?=some u->wr.cell? (ad.add j)=some u:=by
   intro j u hu;rcases h with h|⟨b',o',hAe,hb,h2⟩
   ·subst h;simp[eW]at hu
   ·obtain rfl:ad=⟨b',o',none⟩:=Option.some.inj hAe
    rw [Addr.add_lit];have hj:j<l.length*2:=by
     rcases Nat.lt_or_ge j (l.length*2) with h'|h'
     ·exact h'
     ·rw[List.getElem?_eq_none (by rw[oO];exact h')]at hu;cases hu
    have hk:j / 2<l.length:=by omega
    have g:=oP l (j / 2) hk;have c:=h2 (j / 2) hk;rcases Nat.mod_two_eq_zero_or_one j with e|e
    ·have ej:j=j / 2*2:=by omega
     rw [ej]at hu;rw [g.1]at hu;rw [ej,show o'+j / 2*2=o'+(j / 2)*2 from rfl];rw [c.1];exact hu
    ·have ej:j=j / 2*2+1:=by omega
     rw [ej]at hu;rw [g.2]at hu;rw [ej,<-Nat.add_assoc];rw [c.2];exact hu
  obtain ⟨v',w2,hr,h2,h3,_⟩:=run_append_own (P:=Tryz.prog) wr wr.heap.size 28 28 198 i0 (.agg #[.int .i64 0,.int .i64 0]) 2 16 Tryz.underlying28 hi hz0 hz1 hz2 rfl (by decide) _ 0 [] (World.ownsRow_nil _ _ _ _) ad l.length cap (eW l) (oO l) sx (wu l) (by unfold maxLen;omega) (by omega) (Nat.le_refl _);refine ⟨v',w2,hr,by rw[Nat.zero_add,List.nil_append]at h2;exact h2,?_⟩;exact (Ext.refl wr).grown h3 (fun g hv=>by simp[Value.ownBlock]at hv)
theorem PE {b:Nat} {g:bQ} {now count:Int} {A:Option Addr} {len cap:Nat} {dead:Bool} (A0:Option Addr) (l:List (Int×Int)) (mH:Nat) (w:World) (h:eQ w b g now count A len cap dead) (hp:cZ w A0 l) (hA:A0=none->mH=0) (ho:l≠[]->dK A0 b) (hl:l.length<=1000000) :
  Calls Tryz.prog 28 #[.pointer (some ⟨b,0,none⟩),.slice A0 l.length mH] w (fun e w'=>(∃v,e=.returned v)/\∃A' cap',eQ w' b g now 0 A' l.length cap' dead/\cZ w' A' l/\dK A' b/\(∀x,A'=some x->gh w' x.block 198)/\Only [b] w w'):=by
 obtain⟨n,hn⟩:=ar l.length;have HN:=zH hn;rw [<-hn];clear hn;go_enter Tryz.func28,Tryz.ntmps28;go_wp2_with fail;refine (Fh _ h).mono ?_;rintro e w1 ⟨rfl,b1⟩;have h1:=h.ext b1;have c2:=Has.cell h1 2;have f2:=Has.free h1 2;have z:=Has.lt h1;obtain⟨W2,dF⟩:=ar (w1.setCell ⟨b,2,none⟩ (.int .i64 0));have h2:eQ W2 b g now 0 A len cap dead:=by rw[dF];exact Has.setCell h1 2 (.int .i64 0)
 have O2:Only [b] w1 W2:=by rw[dF];exact Only.setCell _ _ _ _
 have Vx:cZ W2 A0 l:=by
  by_cases jF:l=[]
  ·exact .inl jF
  ·exact (hp.ext b1).only O2 (fun x hx=>by simp at hx;subst hx;exact ho jF)
 have hb2:=Has.lt h2;obtain ⟨v3,w3,hr,hown,E3⟩:=Lj A0 mH l W2 Vx hA hl;rw [<-HN.out]at hr;have HR:=zH hr;have h3:=h2.ext E3;have c3:=Has.cell h3 3;have f3:=Has.free h3 3;have z3:=Has.lt h3;have hne:∀g',v3.ownBlock=some g'->g'≠b:=fun g' hv=>by have:=(World.ownsRow.lt hown g' hv).1;omega
 obtain ⟨A3,Xf,rfl⟩:∃A3 Xf,v3=.slice A3 n Xf:=by
  rcases hown.2 with⟨e,h0⟩|⟨g',cap',cur,e,_⟩
  ·exact⟨none,0,by rw[e];congr 1;rw[HN.out];omega⟩
  ·exact⟨_,_,by rw[e,HN.out]⟩
 have Z_:=Has.cell h2 3;have z2:=Has.lt h2;clear h h1 hr;go_upto_region 2 with fail;rw [<-dF];clear dF c2 f2 z;go_wp2_with (at_builtin;refine Lib.wpList_append_run _ rfl _ _ 28 28 rfl _ _ rfl rfl _ _ HR.out ?_);go_end0;obtain⟨W5,kL⟩:=ar (w3.setCell ⟨b,3,none⟩ (.slice A3 n Xf));have h5:eQ W5 b g now 0 A3 n Xf dead:=by rw[kL];exact Has.setCell h3 3 _
 have O5:Only [b] w3 W5:=by rw[kL];exact Only.setCell _ _ _ _
 refine ⟨⟨_,rfl⟩,A3,Xf,by rw[<-kL];exact h5,?_,fun x hx=>hne x.block (by rw[hx];rfl),?_,(Only.pre b1 O2).then ((Only.aw E3).then (by rw[<-kL];exact O5))⟩
 case refine_2 =>
  intro x hx;subst hx;rw [<-kL];rcases hown.2 with⟨e,_⟩|⟨g',cap',cur,e,_,hg,_⟩
  ·cases e
  ·injection e with e1
   injection e1 with e1;subst e1;exact ⟨cur,_,O5.has hg (by simpa using hne g' rfl)⟩
 rw [<-kL]
 cases A3 with
 | none =>
  rcases hown.2 with⟨_,h0⟩|⟨g',cap',cur,e,_⟩
  ·exact .inl (List.eq_nil_of_length_eq_zero h0)
  ·cases e
 | some ad =>
  rcases hown.2 with⟨e,_⟩|⟨g',cap',cur,e,_⟩
  ·cases e
  ·injection e with e1
   injection e1 with e1;subst e1;have hc:=World.ownsRow.cells hown (g:=g') rfl;have hlt:=(World.ownsRow.lt hown g' rfl).2;have e:W5.heap[g']?=w3.heap[g']?:=O5.block g' hlt (by simpa using hne g' rfl);have ec:∀j,W5.cell? ⟨g',j,none⟩=w3.cell? ⟨g',j,none⟩:=fun j=>by simp[World.cell?,e]
   refine .inr ⟨g',0,rfl,by have:=O5.size;omega,fun k hk=>?_⟩;rw [ec,ec,Nat.zero_add];have g1:=oP l k hk;have y1:=hc (k*2) _ g1.1;have y2:=hc (k*2+1) _ g1.2;simp only[Addr.add_lit,Nat.zero_add]at y1 y2;exact ⟨y1,y2⟩
def oQ (w:World) (B:Nat) (A:Option Addr) (l:List (Int×Int)):Prop:=
 l = []\/∃b o,A=some ⟨b,o,none⟩/\b<w.heap.size/\(b<B\/gh w b 198)/\∀k,(h:k<l.length)->w.cell? ⟨b,o+k*2,none⟩=some (.int .i64 l[k].1)/\w.cell? ⟨b,o+k*2+1,none⟩=some (.int .i64 l[k].2)
theorem oQ.plan {w:World} {B:Nat} {A:Option Addr} {l:List (Int×Int)} (h:oQ w B A l):cZ w A l:=by
 rcases h with h|⟨b,o,hA,hb,_,hc⟩
 ·exact .inl h
 ·exact .inr ⟨b,o,hA,hb,hc⟩
def eR (w:World) (B:Nat) (L:List Nat):Prop:=∀b∈L,B<=b/\¬gh w b 106/\¬gh w b 198
theorem eR.apart {w:World} {B:Nat} {L:List Nat} (h:eR w B L):dg w B L:=fun b hb=>⟨(h b hb).1,(h b hb).2.1⟩
theorem eR.nil (w:World) (B:Nat):eR w B []:=fun b hb=>by cases hb
theorem eR.cons {w:World} {B b:Nat} {L:List Nat} {cs:Array Value} {t:TypeId} {fr:Nat×Nat} (h:eR w B L) (hb:B<=b) (k:w.heap[b]?=some (.cells cs t fr)) (h1:t≠106) (h2:t≠198):eR w B (b::L):=fun x hx=>by
 rcases List.mem_cons.1 hx with rfl|hx
 ·refine ⟨hb,?_,?_⟩
  ·rintro⟨c,f,e⟩;rw[k]at e;injection e with e;injection e with _ e;exact h1 e
  ·rintro⟨c,f,e⟩;rw[k]at e;injection e with e;injection e with _ e;exact h2 e
 ·exact h x hx
theorem oQ.only {w w':World} {B:Nat} {A:Option Addr} {l:List (Int×Int)} {L:List Nat} (h:oQ w B A l) (o:Only L w w') (ha:eR w B L):oQ w' B A l:=by
 rcases h with h|⟨b,f,hA,hb,ht,hc⟩
 ·exact .inl h
 ·have hn:b∉L:=fun hx=>by
   rcases ht with ht|ht
   ·have:=(ha b hx).1;omega
   ·exact (ha b hx).2.2 ht
  have hk:=o.block b hb hn;have hcell:∀i,w'.cell? ⟨b,i,none⟩=w.cell? ⟨b,i,none⟩:=fun i=>by simp only[World.cell?,hk]
  refine .inr ⟨b,f,hA,by have:=o.size;omega,?_,fun k dq=>by rw[hcell,hcell];exact hc k dq⟩;rcases ht with ht|⟨cur,fr,ht⟩
  ·exact .inl ht
  ·exact .inr ⟨cur,fr,hk.trans ht⟩
theorem eD.cV {w:World} {B:Nat} {g:bQ} {S:ac} (h:eD w B g S):eR w B g.list:=by
 have ha:=h.apart;obtain ⟨_,⟨_,_,k2,es,cl,k3,_⟩,cd,k4,k5⟩:=h;obtain ⟨_,cur,k6⟩:=k5.has;intro b hb;refine ⟨(ha b hb).1,(ha b hb).2,?_⟩;rintro ⟨c,f,e⟩;simp only[bQ.list,List.mem_cons,List.not_mem_nil,or_false]at hb;unfold Has at *;rcases hb with rfl|rfl|rfl|rfl
 ·rw[k4]at e;injection e with e;injection e with _ e;exact absurd e (by decide)
 ·rw[k2]at e;injection e with e;injection e with _ e;exact absurd e (by decide)
 ·rw[k3]at e;injection e with e;cases e
 ·rw[k6]at e;injection e with e;injection e with _ e;exact absurd e (by decide)
theorem gV.cV {w:World} {B:Nat} {g:cJ} {S:ac} {X:cM} (h:gV w B g S X):eR w B g.list:=by
 have ha:=h.apart;obtain ⟨_,cn,ce,k2,⟨xs,k3,_⟩,k4⟩:=h;obtain ⟨_,yp,k5⟩:=bY k3;obtain ⟨_,Ge,k6⟩:=bY k4;intro b hb;refine ⟨(ha b hb).1,(ha b hb).2,?_⟩;rintro ⟨c,f,e⟩;simp only[cJ.list,List.mem_cons,List.not_mem_nil,or_false]at hb;unfold Has at *;rcases hb with rfl|rfl|rfl
 ·rw[k2]at e;injection e with e;injection e with _ e;exact absurd e (by decide)
 ·rw[k5]at e;injection e with e;injection e with _ e;exact absurd e (by decide)
 ·rw[k6]at e;injection e with e;injection e with _ e;exact absurd e (by decide)
def Dy (w:World) (B b:Nat) (g:bQ) (s:aA) (A:Option Addr) (cap:Nat):Prop:=
 eD w B g s.t/\eQ w b g s.now s.count A s.plan.length cap s.dead/\oQ w B A s.plan/\dK A b/\B<=b
def PS (w:World) (B b:Nat) (g:bQ) (s:aA):Prop:=∃A cap,Dy w B b g s A cap
theorem Dy.iG {w:World} {B b:Nat} {g:bQ} {s:aA} {A:Option Addr} {cap:Nat} (h:Dy w B b g s A cap):b∉g.list:=h.1.iG h.2.1 (by decide) (by decide) (by decide)
theorem Dy.cV {w:World} {B b:Nat} {g:bQ} {s:aA} {A:Option Addr} {cap:Nat} (h:Dy w B b g s A cap):eR w B (b::g.list):=
 eR.cons h.1.cV h.2.2.2.2 h.2.1 (by decide) (by decide)
theorem Dy.only {w w':World} {B b:Nat} {g:bQ} {s:aA} {A:Option Addr} {cap:Nat} {L:List Nat} (h:Dy w B b g s A cap) (o:Only L w w') (ha:eR w B L) (hn:∀x∈b::g.list,x∉L):Dy w' B b g s A cap:=
 ⟨h.1.only o ha.apart fun x hx=>hn x (List.mem_cons_of_mem _ hx),eQ.only h.2.1 o (hn b (List.mem_cons_self ..)),h.2.2.1.only o ha,h.2.2.2.1,h.2.2.2.2⟩
theorem Dy.ext {w w':World} {B b:Nat} {g:bQ} {s:aA} {A:Option Addr} {cap:Nat} (h:Dy w B b g s A cap) (o:Ext w w'):Dy w' B b g s A cap:=h.only (Only.aw (L:=[]) o) (eR.nil _ _) (by simp)
theorem PS.iG {w:World} {B b:Nat} {g:bQ} {s:aA} (h:PS w B b g s):b∉g.list:=by obtain⟨A,c,h⟩:=h;exact h.iG
theorem PS.cV {w:World} {B b:Nat} {g:bQ} {s:aA} (h:PS w B b g s):eR w B (b::g.list):=by obtain⟨A,c,h⟩:=h;exact h.cV
theorem PS.only {w w':World} {B b:Nat} {g:bQ} {s:aA} {L:List Nat} (h:PS w B b g s) (o:Only L w w') (ha:eR w B L) (hn:∀x∈b::g.list,x∉L):PS w' B b g s:=by
 obtain ⟨A,c,h⟩:=h;exact⟨A,c,h.only o ha hn⟩
theorem PS.ext {w w':World} {B b:Nat} {g:bQ} {s:aA} (h:PS w B b g s) (o:Ext w w'):PS w' B b g s:=by
 obtain ⟨A,c,h⟩:=h;exact⟨A,c,h.ext o⟩
theorem PS.lt {w:World} {B b:Nat} {g:bQ} {s:aA} (h:PS w B b g s):∀x∈b::g.list,x<w.heap.size:=by
 obtain ⟨A,c,h⟩:=h;have h1:=h.1.lt;have h2:=Has.lt h.2.1;intro x hx;simp only[bQ.list,List.mem_cons,List.not_mem_nil,or_false]at hx;omega
theorem PS.Tp {w:World} {B b:Nat} {g:bQ} {s:aA} (h:PS w B b g s):eD w B g s.t:=by obtain⟨A,c,h⟩:=h;exact h.1
theorem Dy.PF {w:World} {B b:Nat} {g:bQ} {s:aA} {A:Option Addr} {cap:Nat} (h:Dy w B b g s A cap) (hd:s.dead=false) {P:Program} {fn:FuncId} {args:Array Value} {cu cg:Int} {x:jn}
  (F:Bl s≠0->Calls P fn args w (fun e w'=>e=.returned (.int .i64 (Bl s))/\eQ w' b g s.now (s.count+1) A s.plan.length cap (gK s.plan (s.count+1))/\Only [b] w w'))
  (G:jz s.plan (s.count+1)=0/\gK s.plan (s.count+1)=false->Calls P fn args w (fun e w'=>e=.returned (.int .i64 (fE s.t cu cg s.now x))/\eD w' B g (cF s.t cu cg s.now x)/\eQ w' b g s.now (s.count+1) A s.plan.length cap false/\Only (b::g.list) w w')) :
  Calls P fn args w (fun e w'=>e=.returned (.int .i64 (kF s cu cg x))/\PS w' B b g (jU s cu cg x)/\Only (b::g.list) w w'):=by
 have hn:=h.iG;have hF:=h.cV
 by_cases h0:Bl s=0
 ·have h1:jz s.plan (s.count+1)=0:=by rw[<-jg hd];exact h0
  refine (G ⟨h1,rl h1⟩).mono ?_;rintro e w' ⟨rfl,K,S1,O⟩;refine ⟨by unfold kF;rw[if_neg (by rw[h0];decide)],⟨A,cap,?_⟩,O⟩;unfold jU;rw [if_neg (by rw[h0];decide),(nQ h0).2,hd];exact ⟨K,S1,h.2.2.1.only O hF,h.2.2.2.1,h.2.2.2.2⟩
 ·refine (F h0).mono ?_
  rintro e w' ⟨rfl,S1,O⟩;have jZ:eR w B [b]:=fun x hx=>hF x (by simp at hx;subst hx;simp)
  refine ⟨by unfold kF;rw[if_pos h0],⟨A,cap,?_⟩,O.mono (by simp)⟩;unfold jU;rw [if_pos h0,Bm hd];exact ⟨h.1.uv h.2.1 h.2.2.2.2 hn O,S1,h.2.2.1.only O jZ,h.2.2.2.1,h.2.2.2.2⟩
theorem Dy.Tq {w:World} {B b:Nat} {g:bQ} {s:aA} {A:Option Addr} {cap:Nat} (h:Dy w B b g s A cap) (hd:s.dead=false) {P:Program} {fn:FuncId} {args:Array Value} {cu cg:Int} {x:jn}
  (F:Bl s≠0->Calls P fn args w (fun e w'=>e=.returned (.tuple #[.int .i64 0,.int .i64 (Bl s)])/\eQ w' b g s.now (s.count+1) A s.plan.length cap (gK s.plan (s.count+1))/\Only [b] w w'))
  (G:jz s.plan (s.count+1)=0/\gK s.plan (s.count+1)=false->Calls P fn args w (fun e w'=>e=.returned (.tuple #[.int .i64 (jT s.t cu cg s.now x),.int .i64 (fE s.t cu cg s.now x)])/\eD w' B g (cF s.t cu cg s.now x)/\eQ w' b g s.now (s.count+1) A s.plan.length cap false/\Only (b::g.list) w w')) :
  Calls P fn args w (fun e w'=>e=.returned (.tuple #[.int .i64 (o_ s cu cg x),.int .i64 (kF s cu cg x)])/\PS w' B b g (jU s cu cg x)/\Only (b::g.list) w w'):=by
 have hn:=h.iG;have hF:=h.cV
 by_cases h0:Bl s=0
 ·have h1:jz s.plan (s.count+1)=0:=by rw[<-jg hd];exact h0
  refine (G ⟨h1,rl h1⟩).mono ?_;rintro e w' ⟨rfl,K,S1,O⟩;refine ⟨by unfold kF o_;rw[if_neg (by rw[h0];decide),if_neg (by rw[h0];decide)],⟨A,cap,?_⟩,O⟩;unfold jU;rw [if_neg (by rw[h0];decide),(nQ h0).2,hd];exact ⟨K,S1,h.2.2.1.only O hF,h.2.2.2.1,h.2.2.2.2⟩
 ·refine (F h0).mono ?_
  rintro e w' ⟨rfl,S1,O⟩;have jZ:eR w B [b]:=fun x hx=>hF x (by simp at hx;subst hx;simp)
  refine ⟨by unfold kF o_;rw[if_pos h0,if_pos h0],⟨A,cap,?_⟩,O.mono (by simp)⟩;unfold jU;rw [if_pos h0,Bm hd];exact ⟨h.1.uv h.2.1 h.2.2.2.2 hn O,S1,h.2.2.1.only O jZ,h.2.2.2.1,h.2.2.2.2⟩
def Lk (w:World) (B b:Nat) (g:bQ) (s:aA) (cu cg:Int) (x:jn) (e:Ending) (w':World):Prop:=e=.returned (.int .i64 (kF s cu cg x))/\PS w' B b g (jU s cu cg x)/\Only (b::g.list) w w'
def NU (w:World) (B b:Nat) (g:bQ) (s:aA) (cu cg:Int) (x:jn) (e:Ending) (w':World):Prop:=e=.returned (.tuple #[.int .i64 (o_ s cu cg x),.int .i64 (kF s cu cg x)])/\PS w' B b g (jU s cu cg x)/\Only (b::g.list) w w'
section
variable {c:Nat} {w:World} {B b:Nat} {g:bQ} {s:aA}
theorem fT.len (h:fT c s):s.plan.length<=1000000:=by have:=h.plan;omega
theorem fT.hi (h:fT c s) (hc:c<=900):s.count<=1000000:=by have:=h.c1;omega
theorem fT.di (h:fT c s) (hc:c<=900):s.t.last<=901:=by have:=h.last;omega
theorem fT.ok (h:fT c s) (hc:c<=900):Ok s.t:=h.eE.ok (by omega)
theorem PS.bZ (h:PS w B b g s) (hs:fT c s) (hc:c<=900) (hd:s.dead=false) (cu cg:Int) (dir:Int) (nm:List UInt8) (mode:Int) :
  Calls Tryz.prog 64 #[.pointer (some ⟨b,0,none⟩),.agg #[cu,cg],.int .i64 dir,bs nm,.int .i64 mode] w (NU w B b g s cu cg (.bZ dir nm mode)):=by
 obtain ⟨A,cap,h⟩:=h;obtain ⟨h1,h2,h3,h4,h5⟩:=id h;have nP:=h2;rw [hd]at nP;refine h.Tq hd (fun h0=>?_) (fun h0=>?_)
 ·exact Te s.plan w cu cg dir (bs nm) mode nP h3.plan h4 hs.len hs.c0 (hs.hi hc) (jg hd).symm h0
 ·exact Tf s.plan w cu cg dir (bs nm) mode nP h3.plan h4 hs.len hs.c0 (hs.hi hc) B s.t h1 h.iG h5 h0 fun u hu=>Ky B g s.t cu cg s.now dir nm mode u hu (hs.ok hc) (by have:=hs.di hc;omega)
theorem PS.bB (h:PS w B b g s) (hs:fT c s) (hc:c<=900) (hd:s.dead=false) (cu cg:Int) (dir:Int) (nm:List UInt8) (mode:Int) (data:List UInt8) (kT:data.length<=1000000000) :
  Calls Tryz.prog 66 #[.pointer (some ⟨b,0,none⟩),.agg #[cu,cg],.int .i64 dir,bs nm,.int .i64 mode,bs data] w (NU w B b g s cu cg (.bB dir nm mode data)):=by
 obtain ⟨A,cap,h⟩:=h;obtain ⟨h1,h2,h3,h4,h5⟩:=id h;have nP:=h2;rw [hd]at nP;refine h.Tq hd (fun h0=>?_) (fun h0=>?_)
 ·exact PB s.plan w cu cg dir (bs nm) mode (bs data) nP h3.plan h4 hs.len hs.c0 (hs.hi hc) (jg hd).symm h0
 ·exact PC s.plan w cu cg dir (bs nm) mode (bs data) nP h3.plan h4 hs.len hs.c0 (hs.hi hc) B s.t h1 h.iG h5 h0 fun u hu=>GQ B g s.t cu cg s.now dir nm mode data u hu (hs.ok hc) (by have:=hs.di hc;omega) kT
theorem PS.symlink (h:PS w B b g s) (hs:fT c s) (hc:c<=900) (hd:s.dead=false) (cu cg:Int) (dir:Int) (nm text:List UInt8) (kT:text.length<=1000000000) :
  Calls Tryz.prog 68 #[.pointer (some ⟨b,0,none⟩),.agg #[cu,cg],.int .i64 dir,bs nm,bs text] w (NU w B b g s cu cg (.symlink dir nm text)):=by
 obtain ⟨A,cap,h⟩:=h;obtain ⟨h1,h2,h3,h4,h5⟩:=id h;have nP:=h2;rw [hd]at nP;refine h.Tq hd (fun h0=>?_) (fun h0=>?_)
 ·exact Lg s.plan w cu cg dir (bs nm) (bs text) nP h3.plan h4 hs.len hs.c0 (hs.hi hc) (jg hd).symm h0
 ·exact Lh s.plan w cu cg dir (bs nm) (bs text) nP h3.plan h4 hs.len hs.c0 (hs.hi hc) B s.t h1 h.iG h5 h0 fun u hu=>Kz B g s.t cu cg s.now dir nm text u hu (hs.ok hc) (by have:=hs.di hc;omega) kT
theorem PS.link (h:PS w B b g s) (hs:fT c s) (hc:c<=900) (hd:s.dead=false) (cu cg:Int) (no dir:Int) (nm:List UInt8) :
  Calls Tryz.prog 63 #[.pointer (some ⟨b,0,none⟩),.agg #[cu,cg],.int .i64 no,.int .i64 dir,bs nm] w (Lk w B b g s cu cg (.link no dir nm)):=by
 obtain ⟨A,cap,h⟩:=h;obtain ⟨h1,h2,h3,h4,h5⟩:=id h;have nP:=h2;rw [hd]at nP;refine h.PF hd (fun h0=>?_) (fun h0=>?_)
 ·exact Xd s.plan w cu cg no dir (bs nm) nP h3.plan h4 hs.len hs.c0 (hs.hi hc) (jg hd).symm h0
 ·exact Xe s.plan w cu cg no dir (bs nm) nP h3.plan h4 hs.len hs.c0 (hs.hi hc) B s.t h1 h.iG h5 h0 fun u hu=>GK B g s.t cu cg s.now no dir nm u hu (hs.ok hc)
theorem PS.dn (h:PS w B b g s) (hs:fT c s) (hc:c<=900) (hd:s.dead=false) (cu cg:Int) (no mode:Int) :
  Calls Tryz.prog 48 #[.pointer (some ⟨b,0,none⟩),.agg #[cu,cg],.int .i64 no,.int .i64 mode] w (Lk w B b g s cu cg (.dn no mode)):=by
 obtain ⟨A,cap,h⟩:=h;obtain ⟨h1,h2,h3,h4,h5⟩:=id h;have nP:=h2;rw [hd]at nP;refine h.PF hd (fun h0=>?_) (fun h0=>?_)
 ·exact Tg s.plan w cu cg no mode nP h3.plan h4 hs.len hs.c0 (hs.hi hc) (jg hd).symm h0
 ·exact Th s.plan w cu cg no mode nP h3.plan h4 hs.len hs.c0 (hs.hi hc) B s.t h1 h.iG h5 h0 fun u hu=>Gn B g s.t cu cg s.now no mode u hu hs.eE.af hs.eE.aC
theorem PS.cU (h:PS w B b g s) (hs:fT c s) (hc:c<=900) (hd:s.dead=false) (cu cg:Int) (no uid gid:Int) :
  Calls Tryz.prog 47 #[.pointer (some ⟨b,0,none⟩),.agg #[cu,cg],.int .i64 no,.int .i64 uid,.int .i64 gid] w (Lk w B b g s cu cg (.cU no uid gid)):=by
 obtain ⟨A,cap,h⟩:=h;obtain ⟨h1,h2,h3,h4,h5⟩:=id h;have nP:=h2;rw [hd]at nP;refine h.PF hd (fun h0=>?_) (fun h0=>?_)
 ·exact Ti s.plan w cu cg no uid gid nP h3.plan h4 hs.len hs.c0 (hs.hi hc) (jg hd).symm h0
 ·exact Tj s.plan w cu cg no uid gid nP h3.plan h4 hs.len hs.c0 (hs.hi hc) B s.t h1 h.iG h5 h0 fun u hu=>Dc B g s.t cu cg s.now no uid gid u hu hs.eE.af hs.eE.aC
theorem PS.dp (h:PS w B b g s) (hs:fT c s) (hc:c<=900) (hd:s.dead=false) (cu cg:Int) (no mt:Int) :
  Calls Tryz.prog 49 #[.pointer (some ⟨b,0,none⟩),.agg #[cu,cg],.int .i64 no,.int .i64 mt] w (Lk w B b g s cu cg (.dp no mt)):=by
 obtain ⟨A,cap,h⟩:=h;obtain ⟨h1,h2,h3,h4,h5⟩:=id h;have nP:=h2;rw [hd]at nP;refine h.PF hd (fun h0=>?_) (fun h0=>?_)
 ·exact Tk s.plan w cu cg no mt nP h3.plan h4 hs.len hs.c0 (hs.hi hc) (jg hd).symm h0
 ·exact Tm s.plan w cu cg no mt nP h3.plan h4 hs.len hs.c0 (hs.hi hc) B s.t h1 h.iG h5 h0 fun u hu=>Gw B g s.t cu cg s.now no mt u hu hs.eE.af hs.eE.aC
end
end
section
open Go.ChangeShapes Go.WideShapes Go.ChangeAt Go.RowKit
def Vy (w:World) (B:Nat) (f:cJ) (s:aA) (A:Option Addr) (cap:Nat):Prop:=gV w B f s.t (Tn s.now s.count A s.plan.length cap s.dead)/\oQ w B A s.plan
def RS (w:World) (B:Nat) (f:cJ) (s:aA):Prop:=∃A cap,Vy w B f s A cap
theorem RS.cV {w:World} {B:Nat} {f:cJ} {s:aA} (h:RS w B f s):eR w B f.list:=by obtain⟨A,c,h⟩:=h;exact h.1.cV
theorem Vy.only {w w':World} {B:Nat} {f:cJ} {s:aA} {A:Option Addr} {cap:Nat} {L:List Nat} (h:Vy w B f s A cap) (o:Only L w w') (ha:eR w B L) (hn:∀x∈f.list,x∉L):Vy w' B f s A cap:=⟨h.1.only o ha.apart hn,h.2.only o ha⟩
theorem RS.only {w w':World} {B:Nat} {f:cJ} {s:aA} {L:List Nat} (h:RS w B f s) (o:Only L w w') (ha:eR w B L) (hn:∀x∈f.list,x∉L):RS w' B f s:=by
 obtain ⟨A,c,h⟩:=h;exact⟨A,c,h.only o ha hn⟩
theorem RS.ext {w w':World} {B:Nat} {f:cJ} {s:aA} (h:RS w B f s) (o:Ext w w'):RS w' B f s:=h.only (Only.aw (L:=[]) o) (eR.nil _ _) (by simp)
theorem RS.lt {w:World} {B:Nat} {f:cJ} {s:aA} (h:RS w B f s):∀x∈f.list,x<w.heap.size:=by
 obtain ⟨A,c,h⟩:=h;have h1:=h.1.lt;intro x hx;simp only[cJ.list,List.mem_cons,List.not_mem_nil,or_false]at hx;omega
theorem RS.PG {w:World} {B:Nat} {f:cJ} {s:aA} (h:RS w B f s):∃X,gV w B f s.t X:=by obtain⟨A,c,h⟩:=h;exact⟨_,h.1⟩
def NW (w:World) (B:Nat) (f:cJ) (s':aA) (w':World):Prop:=∃f',RS w' B f' s'/\Only f.list w w'/\cJ.on f' f w
theorem Vy.lP {w w':World} {B:Nat} {f f':cJ} {s:aA} {A:Option Addr} {cap:Nat} {T:ac} (h:Vy w B f s A cap) (k:gV w' B f' T (Tn s.now s.count A s.plan.length cap s.dead)) (o:Only f.list w w') (ho:cJ.on f' f w):NW w B f {s with t:=T} w':=
 ⟨f',⟨A,cap,k,h.2.only o h.1.cV⟩,o,ho⟩
section
variable {c:Nat} {w:World} {B:Nat} {f:cJ} {s:aA}
theorem RS.bZ (h:RS w B f s) (hs:fT c s) (hc:c<=900) (cu cg:Int) (dir:Int) (nm:List UInt8) (mode:Int) (gY:nm.length<=1000000) :
  Calls Tryz.prog 87 #[.pointer (some ⟨f.bF,0,none⟩),.agg #[cu,cg],.int .i64 dir,bs nm,.int .i64 mode] w (fun e w'=>e=.returned (.tuple #[.int .i64 (jT s.t cu cg s.now (.bZ dir nm mode)),.int .i64 (fE s.t cu cg s.now (.bZ dir nm mode))])/\NW w B f {s with t:=cF s.t cu cg s.now (.bZ dir nm mode)} w'):=by
 obtain ⟨A,cap,h⟩:=h;refine (KY B f s.t _ cu cg dir nm mode w h.1 (hs.ok hc) (by have:=hs.di hc;omega) gY).mono ?_;rintro e w' ⟨rfl,f2,k,o,ho⟩;exact ⟨rfl,h.lP k o ho⟩
theorem RS.bB (h:RS w B f s) (hs:fT c s) (hc:c<=900) (cu cg:Int) (dir:Int) (nm:List UInt8) (mode:Int) (data:List UInt8) (gY:nm.length<=1000000) (kT:data.length<=1000000000) :
  Calls Tryz.prog 89 #[.pointer (some ⟨f.bF,0,none⟩),.agg #[cu,cg],.int .i64 dir,bs nm,.int .i64 mode,bs data] w (fun e w'=>e=.returned (.tuple #[.int .i64 (jT s.t cu cg s.now (.bB dir nm mode data)),.int .i64 (fE s.t cu cg s.now (.bB dir nm mode data))])/\NW w B f {s with t:=cF s.t cu cg s.now (.bB dir nm mode data)} w'):=by
 obtain ⟨A,cap,h⟩:=h;refine (GW B f s.t _ cu cg dir nm mode data w h.1 (hs.ok hc) (by have:=hs.di hc;omega) gY kT).mono ?_;rintro e w' ⟨rfl,f2,k,o,ho⟩;exact ⟨rfl,h.lP k o ho⟩
theorem RS.symlink (h:RS w B f s) (hs:fT c s) (hc:c<=900) (cu cg:Int) (dir:Int) (nm text:List UInt8) (gY:nm.length<=1000000) (kT:text.length<=1000000) :
  Calls Tryz.prog 90 #[.pointer (some ⟨f.bF,0,none⟩),.agg #[cu,cg],.int .i64 dir,bs nm,bs text] w (fun e w'=>e=.returned (.tuple #[.int .i64 (jT s.t cu cg s.now (.symlink dir nm text)),.int .i64 (fE s.t cu cg s.now (.symlink dir nm text))])/\NW w B f {s with t:=cF s.t cu cg s.now (.symlink dir nm text)} w'):=by
 obtain ⟨A,cap,h⟩:=h;refine (KZ B f s.t _ cu cg dir nm text w h.1 (hs.ok hc) (by have:=hs.di hc;omega) gY kT).mono ?_;rintro e w' ⟨rfl,f2,k,o,ho⟩;exact ⟨rfl,h.lP k o ho⟩
theorem RS.link (h:RS w B f s) (hs:fT c s) (hc:c<=900) (cu cg:Int) (no dir:Int) (nm:List UInt8) (gY:nm.length<=1000000) :
  Calls Tryz.prog 91 #[.pointer (some ⟨f.bF,0,none⟩),.agg #[cu,cg],.int .i64 no,.int .i64 dir,bs nm] w (fun e w'=>e=.returned (.int .i64 (fE s.t cu cg s.now (.link no dir nm)))/\NW w B f {s with t:=cF s.t cu cg s.now (.link no dir nm)} w'):=by
 obtain ⟨A,cap,h⟩:=h;refine (GX B f s.t _ cu cg no dir nm w h.1 (hs.ok hc) (by have:=hs.di hc;omega) gY).mono ?_;rintro e w' ⟨rfl,f2,k,o,ho⟩;exact ⟨rfl,h.lP k o ho⟩
theorem RS.dn (h:RS w B f s) (hs:fT c s) (hc:c<=900) (cu cg:Int) (no mode:Int) :
  Calls Tryz.prog 56 #[.pointer (some ⟨f.bF,0,none⟩),.agg #[cu,cg],.int .i64 no,.int .i64 mode] w (fun e w'=>e=.returned (.int .i64 (fE s.t cu cg s.now (.dn no mode)))/\NW w B f {s with t:=cF s.t cu cg s.now (.dn no mode)} w'):=by
 obtain ⟨A,cap,h⟩:=h;refine (GL B f s.t _ cu cg no mode w h.1 (by have:=hs.eE.count;have:=hs.di hc;omega) hs.eE.aC).mono ?_;rintro e w' ⟨rfl,k,o⟩;exact ⟨rfl,h.lP k o (cJ.fK _ _)⟩
theorem RS.cU (h:RS w B f s) (hs:fT c s) (hc:c<=900) (cu cg:Int) (no uid gid:Int) :
  Calls Tryz.prog 55 #[.pointer (some ⟨f.bF,0,none⟩),.agg #[cu,cg],.int .i64 no,.int .i64 uid,.int .i64 gid] w (fun e w'=>e=.returned (.int .i64 (fE s.t cu cg s.now (.cU no uid gid)))/\NW w B f {s with t:=cF s.t cu cg s.now (.cU no uid gid)} w'):=by
 obtain ⟨A,cap,h⟩:=h;refine (Dj B f s.t _ cu cg no uid gid w h.1 (by have:=hs.eE.count;have:=hs.di hc;omega) hs.eE.aC).mono ?_;rintro e w' ⟨rfl,k,o⟩;exact ⟨rfl,h.lP k o (cJ.fK _ _)⟩
theorem RS.dp (h:RS w B f s) (hs:fT c s) (hc:c<=900) (cu cg:Int) (no mt:Int) :
  Calls Tryz.prog 57 #[.pointer (some ⟨f.bF,0,none⟩),.agg #[cu,cg],.int .i64 no,.int .i64 mt] w (fun e w'=>e=.returned (.int .i64 (fE s.t cu cg s.now (.dp no mt)))/\NW w B f {s with t:=cF s.t cu cg s.now (.dp no mt)} w'):=by
 obtain ⟨A,cap,h⟩:=h;refine (GM B f s.t _ cu cg no mt w h.1 (by have:=hs.eE.count;have:=hs.di hc;omega) hs.eE.aC).mono ?_;rintro e w' ⟨rfl,k,o⟩;exact ⟨rfl,h.lP k o (cJ.fK _ _)⟩
end
end
section
open Go.ChangeShapes Go.WideShapes Go.ChangeAt Go.RowKit
def uy (w0:World) (B b:Nat) (g:bQ) (f:cJ) (s r:aA) (w:World):Prop:=
 ∃ g' f',bQ.on g' g w0/\cJ.on f' f w0/\PS w B b g' s/\RS w B f' r/\Only (b::(g.list++f.list)) w0 w
theorem PS.Dz {w:World} {B b:Nat} {g:bQ} {f:cJ} {s r:aA} (h:PS w B b g s) (k:RS w B f r):∀x∈b::g.list,x∉f.list:=by
 obtain ⟨A,cap,h⟩:=h;obtain ⟨A2,Ll,k⟩:=k;intro x hx;rcases List.mem_cons.1 hx with rfl|hx
 ·exact k.1.iG h.2.1 (by decide) (by decide) (by decide)
 ·exact eD.Sy h.1 k.1 x hx
theorem uy.start {w0:World} {B b:Nat} {g:bQ} {f:cJ} {s r:aA} (h:PS w0 B b g s) (k:RS w0 B f r):uy w0 B b g f s r w0:=⟨g,f,bQ.fK _ _,cJ.fK _ _,h,k,Only.refl _ _⟩
theorem uy.only {w0 w:World} {B b:Nat} {g:bQ} {f:cJ} {s r:aA} (h:uy w0 B b g f s r w):Only (b::(g.list++f.list)) w0 w:=by obtain⟨_,_,_,_,_,_,h5⟩:=h;exact h5
theorem uy.has {w0 w:World} {B b x:Nat} {g:bQ} {f:cJ} {s r:aA} {o:Obj} (h:uy w0 B b g f s r w) (k:Has w0 x o) (hx:x∉b::(g.list++f.list)):Has w x o:=h.only.has k hx
theorem uy.prog {w0 w w':World} {B b:Nat} {g g1:bQ} {f f1:cJ} {s s' r:aA} (h1:bQ.on g1 g w0) (h2:cJ.on f1 f w0) (hP:PS w B b g1 s) (hR:RS w B f1 r) (hO:Only (b::(g.list++f.list)) w0 w)
  (k:PS w' B b g1 s') (o:Only (b::g1.list) w w'):uy w0 B b g f s' r w':=
 ⟨g1, f1,h1,h2,k,hR.only o hP.cV (fun x hx hx2=>hP.Dz hR x hx2 hx),hO.trans o (fun x hx=>by
  rcases List.mem_cons.1 hx with rfl|hx
  ·exact .inl (List.mem_cons_self ..)
  ·rcases h1.2 x hx with e|e
   ·exact .inl (List.mem_cons_of_mem _ (List.mem_append_left _ e))
   ·exact .inr e)⟩
theorem uy.aaI {w0 w w':World} {B b:Nat} {g g1:bQ} {f f1:cJ} {s r r':aA} (h1:bQ.on g1 g w0) (h2:cJ.on f1 f w0) (hP:PS w B b g1 s) (hR:RS w B f1 r) (hO:Only (b::(g.list++f.list)) w0 w)
  (k:NW w B f1 r' w'):uy w0 B b g f s r' w':=by
 obtain ⟨f2,k1,o,k2⟩:=k;exact ⟨g1,f2,h1,cJ.pN h2 k2 hO.size,hP.only o hR.cV (fun x hx=>hP.Dz hR x hx),k1,hO.trans o (fun x hx=>by
  rcases h2.2 x hx with e|e
  ·exact .inl (List.mem_cons_of_mem _ (List.mem_append_right _ e))
  ·exact .inr e)⟩
theorem uy.fs {w0 w:World} {B b:Nat} {g:bQ} {f:cJ} {s r:aA} (h:uy w0 B b g f s r w):∃vN vD A cap,Has w f.bF (.cells #[vN,vD,.int .i64 r.t.last,r.now,.int .i64 r.count,.slice A r.plan.length cap,.bool r.dead] 54):=by
 obtain ⟨g1,f1,_,h2,_,⟨A,cap,⟨_,cn,ce,k,_⟩,_⟩,_⟩:=h;rw [h2.1]at k;exact ⟨_,_,A,cap,k⟩
theorem uy.after {w1 w0 w:World} {B b:Nat} {g:bQ} {f:cJ} {s r s' r':aA} (h:uy w0 B b g f s r w) (hE:Ext w1 w0) (hB:w1.heap.size<=B) (K:PS w0 B b g s') (F:RS w0 B f r'):Ext w1 w:=by
 refine h.only.after hE fun x hx=>?_
 rcases List.mem_cons.1 hx with rfl|hx
 ·have:=(K.cV x (List.mem_cons_self ..)).1;omega
 ·rcases List.mem_append.1 hx with hx|hx
  ·have:=(K.cV x (List.mem_cons_of_mem _ hx)).1;omega
  ·have:=(F.cV x hx).1;omega
attribute [local irreducible] wpQuiet
end
end Go.Proofs.YtblbohcaphcobaaGreatDoor
