import Derived.Test.YtpibnfdolojpcaaGreatBunX
import Derived.Test.YtpibnfdolojpcaaGreatBunH
import Derived.Test.YtpibnfdolojpcaaGreatBunJ
import Derived.Test.YtpibnfdolojpcaaGreatBunC
import Derived.Test.YtpibnfdolojpcaaGreatBunI
import Derived.Test.YtpibnfdolojpcaaGreatBunG
import Derived.Lib.AppendZerosOnto
set_option maxHeartbeats 4000000
set_option maxRecDepth 100000
namespace Go.Proofs.YtpibnfdolojpcaaGreat
section
theorem yU {c:Nat} {S T:ae} {p:Int} (h:dy c S) (hT:p=0->dy (c+1) T):dy (c+1) (fc p S T):=by
 unfold fc;split
 ·exact gz h (by omega)
 ·rename_i h0;exact hT (Decidable.not_not.1 h0)
theorem rZ (S:ae) (cu cg now dir:Int) (nm:List UInt8) (n:ai):(bV S cu cg now dir nm n).last<=S.last+1:=by
 unfold bV;split
 ·show (bB S _).last<=_
  unfold bB;split
  ·exact Int.le_refl _
  ·omega
 ·omega
theorem uT {S T:ae} {p:Int} (h:T.last<=S.last+1):(fc p S T).last<=S.last+1:=by
 unfold fc;split
 ·omega
 ·exact h
theorem A_ {S:ae} (h:bj S) (no:Int):bj (gK S no):=by
 unfold gK;split
 ·exact fun m hm=>h m (dJ hm).1
 ·exact h
theorem kV {S:ae} (h:bj S) {n:ai} (hn:n.kind≠1->n.af=[]):bj (aE S n):=fun m hm hk=>by
 rcases aQ hm with⟨hm,_⟩|rfl
 ·exact h m hm hk
 ·exact hn hk
theorem Bb {S:ae} (h:bj S) (now:Int) {n:ai} (hn:n.kind≠1->n.af=[]):bj (ju S now n):=by
 unfold ju;split
 ·exact A_ (kV (n:=fu now n) h hn) _
 ·exact kV (n:=fu now n) h hn
theorem mI {S:ae} (h:bj S) {dir now:Int} {l:List ay} (hk:(ac S.nodes dir).kind=1):bj (bR S dir now l):=kV h fun hn=>absurd hk hn
theorem ll {S:ae} (h:bj S) (no:Int) (hi:aJ S.nodes no=true):(ac S.nodes no).kind≠1->(ac S.nodes no).af=[]:=h _ (ak hi).2.2
theorem sS {S:ae} (h:bj S) {cu cg now dir:Int} {nm:List UInt8} (hl:ct S cu cg dir nm=0):bj (eN S now (dF S cu cg dir nm) (cv S cu cg dir nm) nm):=by
 obtain ⟨z1,z2,_,z4,z5⟩:=eD hl;obtain ⟨hi,hk,_⟩:=aT z1;unfold eN;rw [z4,z5,(ak hi).2.1];exact Bb (mI h hk) now (ll h _ z2)
theorem Bc {c:Nat} {S:ae} (_hT:dy c S) (h:bj S) (cu cg now no dir:Int) (nm:List UInt8):bj (gM S cu cg now no dir nm):=by
 unfold gM;split
 ·rename_i h0
  obtain ⟨z1,z2,z3,_⟩:=kT h0;obtain ⟨hi,hk,_⟩:=aT z1;have h1:bj (aE S (dE S now no)):=kV h (ll h no z2);refine mI h1 ?_;have hne:dir≠(dE S now no).no:=by
   intro e;have e2:(dE S now no).no=no:=(ak z2).2.1;rw [e2]at e;rw [e]at hk;exact z3 hk
  rw [(jt hne).1];exact hk
 ·exact h
theorem Ho (S:ae) (cu cg now fr gN:Int) (a b:List UInt8):(Fz S cu cg now fr gN a b).last=S.last:=by
 unfold Fz;split
 ·show (AL S now _).last=S.last
  exact (Hc S now _).1
 ·rfl
open Go.ChangeShapes Go.WideShapes Go.ChangeAt Go.RowKit
structure av where
 t : ae
 now:Int
 count:Int
 plan:List (Int×Int)
 dead:Bool
def Bd (s:av):Int:=if s.dead=true then 20 else iS s.plan (s.count+1)
def Hq (s:av):av:=if s.dead=true then s else {s with count:=s.count+1,dead:=fV s.plan (s.count+1)}
inductive lG where
 | da (dir:Int) (nm:List UInt8) (mode:Int)
 | cL (dir:Int) (nm:List UInt8) (mode:Int) (data:List UInt8)
 | symlink (dir:Int) (nm:List UInt8) (text:List UInt8)
 | link (no dir:Int) (nm:List UInt8)
 | unlink (dir:Int) (nm:List UInt8)
 | lY (dir:Int) (nm:List UInt8)
 | rename (fr:Int) (a:List UInt8) (gN:Int) (b:List UInt8)
 | dP (no mode:Int)
 | eu (no uid gid:Int)
 | fP (no mt:Int)
 | write (no:Int) (data:List UInt8)
def cM (S:ae) (cu cg now:Int):lG->ae
 | .da dir nm mode=>fc (mH mode) S (bV S cu cg now dir nm (dY mode dir))
 | .cL dir nm mode data=>fc (ik mode data.length) S (bV S cu cg now dir nm (cG mode data))
 | .symlink dir nm text=>fc (k_ text) S (bV S cu cg now dir nm (eC text))
 | .link no dir nm=>gM S cu cg now no dir nm
 | .unlink dir nm=>eS S cu cg now dir nm
 | .lY dir nm=>gI S cu cg now dir nm
 | .rename fr a gN b=>Fz S cu cg now fr gN a b
 | .dP no mode=>eZ S cu now no mode
 | .eu no uid gid=>fN S cu now no uid gid
 | .fP no mt=>fO S cu now no mt
 | .write no data=>yN S cu cg now no data
def fQ (S:ae) (cu cg now:Int):lG->Int
 | .da dir nm mode=>iw (mH mode) (cC S cu cg now dir nm (dY mode dir))
 | .cL dir nm mode data=>iw (ik mode data.length) (cC S cu cg now dir nm (cG mode data))
 | .symlink dir nm text=>iw (k_ text) (cC S cu cg now dir nm (eC text))
 | .link no dir nm=>fD S cu cg no dir nm
 | .unlink dir nm=>eR S cu cg dir nm
 | .lY dir nm=>gi S cu cg dir nm
 | .rename fr a gN b=>Sd S cu cg fr gN a b
 | .dP no mode=>fC S cu no mode
 | .eu no uid gid=>gD S cu no uid gid
 | .fP no mt=>gL S cu no mt
 | .write no data=>GS S cu cg no data.length
def kW (S:ae) (cu cg now:Int):lG->Int
 | .da dir nm mode=>js (mH mode) (dD S cu cg now dir nm (dY mode dir))
 | .cL dir nm mode data=>js (ik mode data.length) (dD S cu cg now dir nm (cG mode data))
 | .symlink dir nm text=>js (k_ text) (dD S cu cg now dir nm (eC text))
 | _=>0
def ww (s:av) (cu cg:Int) (x:lG):av:=if Bd s≠0 then Hq s else {Hq s with t:=cM s.t cu cg s.now x}
def zJ (s:av) (cu cg:Int) (x:lG):Int:=if Bd s≠0 then Bd s else fQ s.t cu cg s.now x
def VZ (s:av) (cu cg:Int) (x:lG):Int:=if Bd s≠0 then 0 else kW s.t cu cg s.now x
theorem r7 {l:List (Int×Int)} {c:Int} (h:iS l c=0):fV l c=false:=by
 unfold iS at h;unfold fV
 cases hx:uS l c with
 | none=>rfl
 | some x =>
  rw [hx]at h;have h':x.2=0:=h;show (x.2 == 20)=false;rw [h'];rfl
theorem lZ {s:av} (h:Bd s=0):s.dead=false/\Hq s={s with count:=s.count+1}:=by
 unfold Bd at h;split at h
 ·cases h
 ·rename_i hd
  have hd':s.dead=false:=by simpa using hd
  refine ⟨hd',?_⟩;unfold Hq;rw [if_neg hd,r7 h,<-hd']
theorem gE {s:av} (h:s.dead=false):Bd s=iS s.plan (s.count+1):=by unfold Bd;rw[if_neg (by rw[h];decide)]
theorem Be {s:av} (h:s.dead=false):Hq s={s with count:=s.count+1,dead:=fV s.plan (s.count+1)}:=by unfold Hq;rw[if_neg (by rw[h];decide)]
structure eH (c:Nat) (s:av):Prop where
 fE:dy c s.t
 JF:bj s.t
 last:s.t.last<=c+1
 c0:0<=s.count
 c1:s.count<=c
 plan:s.plan.length<=1000
theorem eH.mono {c d:Nat} {s:av} (h:eH c s) (FB:c<=d):eH d s:=⟨gz h.fE FB,h.JF,by have:=h.last;omega,h.c0,by have:=h.c1;omega,h.plan⟩
theorem pN {S T:ae} {p:Int} (h:bj S) (k:bj T):bj (fc p S T):=by unfold fc;split;exact h;exact k
theorem Bf {S:ae} (h:bj S) {n:ai} (hn:n.kind≠1->n.af=[]):bj (bB S n):=by
 unfold bB;split
 ·intro m hm hk
  rcases List.mem_append.1 hm with hm|hm
  ·exact h m hm hk
  ·rw [List.mem_singleton]at hm
   subst hm;exact hn hk
 ·exact h
theorem n_ {S:ae} (hu:aD S.nodes S.last) (h:bj S) (cu cg now dir:Int) (nm:List UInt8) (n:ai) (hn:n.kind≠1->n.af=[]):bj (bV S cu cg now dir nm n):=by
 unfold bV;split
 ·rename_i h0
  obtain ⟨h1,_,_⟩:=jN h0;obtain ⟨p1,p2,_⟩:=aT h1;refine mI (Bf (n:=bZ S cu cg now dir n) h hn) ?_;rw [(kL hu _ p1).1];exact p2
 ·exact h
theorem lm {S:ae} (h:bj S) {no:Int} (hi:aJ S.nodes no=true) {n:ai} (hk:n.kind=(ac S.nodes no).kind) (he:n.af=(ac S.nodes no).af):bj (aE S n):=
 kV h fun hn=>by rw[he];exact ll h no hi (by rw[<-hk];exact hn)
theorem ic {S:ae} {cu no:Int} (h:eo S cu no=0):aJ S.nodes no=true:=(ia h).1
theorem Bg {S:ae} (h:bj S) (cu now no m:Int):bj (eZ S cu now no m):=by
 unfold eZ;split
 ·rename_i h0
  unfold fC at h0;split at h0
  ·rename_i h1;exact absurd h0 h1
  ·rename_i h1;exact lm h (ic (Decidable.not_not.1 h1)) rfl rfl
 ·exact h
theorem Bh {S:ae} (h:bj S) (cu now no u g:Int):bj (fN S cu now no u g):=by
 unfold fN;split
 ·rename_i h0
  unfold gD at h0;split at h0
  ·rename_i h1;exact absurd h0 h1
  ·rename_i h1;exact lm h (ic (Decidable.not_not.1 h1)) rfl rfl
 ·exact h
theorem Bi {S:ae} (h:bj S) (cu now no t:Int):bj (fO S cu now no t):=by
 unfold fO;split
 ·rename_i h0
  unfold gL at h0;split at h0
  ·rename_i h1;exact absurd h0 h1
  ·rename_i h1;exact lm h (ic (Decidable.not_not.1 h1)) rfl rfl
 ·exact h
theorem Dz {S:ae} (h:bj S) (cu cg now no:Int) (data:List UInt8):bj (yN S cu cg now no data):=by
 unfold yN;split
 ·rename_i h0
  have hi:aJ S.nodes no=true:=by
   unfold GS at h0;split at h0
   ·cases h0
   ·rename_i h1;simpa using h1
  have h1:bj (jH S no data):=by
   unfold jH;split
   ·intro m hm hk
    rcases ql hm with hm|rfl
    ·exact h m hm hk
    ·exact ll h no hi hk
   ·exact h
  have po:aJ (jH S no data).nodes no=true:=by
   unfold jH;split
   ·show aJ (bQ S.nodes _) no=true;rw[iL];exact hi
   ·exact hi
  exact lm h1 po rfl rfl
 ·exact h
theorem DA {c:Nat} {S:ae} (h:dy c S) (hN:bj S) (cu cg now:Int) (x:lG) (hx:∀fr a gN b,x≠.rename fr a gN b):bj (cM S cu cg now x):=by
 cases x with
 | da dir nm mode=>exact pN hN (n_ h.bc hN _ _ _ _ _ _ fun _=>rfl)
 | cL dir nm mode data=>exact pN hN (n_ h.bc hN _ _ _ _ _ _ fun _=>rfl)
 | symlink dir nm text=>exact pN hN (n_ h.bc hN _ _ _ _ _ _ fun _=>rfl)
 | link no dir nm=>exact Bc h hN _ _ _ _ _ _
 | unlink dir nm =>
  show bj (eS S cu cg now dir nm);unfold eS;split
  ·rename_i h0
   refine sS hN ?_;unfold eR at h0;split at h0
   ·rename_i h1;exact absurd h0 h1
   ·rename_i h1;exact Decidable.not_not.1 h1
  ·exact hN
 | lY dir nm =>
  show bj (gI S cu cg now dir nm);unfold gI;split
  ·rename_i h0
   refine sS hN ?_;unfold gi at h0;split at h0
   ·rename_i h1;exact absurd h0 h1
   ·rename_i h1;exact Decidable.not_not.1 h1
  ·exact hN
 | rename fr a gN b=>exact absurd rfl (hx fr a gN b)
 | dP no mode=>exact Bg hN _ _ _ _
 | eu no uid gid=>exact Bh hN _ _ _ _ _
 | fP no mt=>exact Bi hN _ _ _ _
 | write no data=>exact Dz hN _ _ _ _ _
theorem Hr (S:ae) (now:Int) (n:ai):(ju S now n).last=S.last:=by
 unfold ju;split
 ·rw[Df];rfl
 ·rfl
theorem xy (S:ae) (now:Int) (d n:ai) (nm:List UInt8):(eN S now d n nm).last=S.last:=by unfold eN;rw[Hr];rfl
theorem L_ (S:ae) (cu cg now:Int) (x:lG):(cM S cu cg now x).last<=S.last+1:=by
 cases x with
 | da dir nm mode=>exact uT (rZ ..)
 | cL dir nm mode data=>exact uT (rZ ..)
 | symlink dir nm text=>exact uT (rZ ..)
 | link no dir nm=>show (gM ..).last<=_;unfold gM;split<;>(show S.last<=_;omega)
 | unlink dir nm=>show (eS ..).last<=_;unfold eS;split<;>(try rw[xy])<;>omega
 | lY dir nm=>show (gI ..).last<=_;unfold gI;split<;>(try rw[xy])<;>omega
 | rename fr a gN b=>show (Fz ..).last<=_;rw[Ho];omega
 | dP no mode=>show (eZ ..).last<=_;unfold eZ;split<;>(show S.last<=_;omega)
 | eu no uid gid=>show (fN ..).last<=_;unfold fN;split<;>(show S.last<=_;omega)
 | fP no mt=>show (fO ..).last<=_;unfold fO;split<;>(show S.last<=_;omega)
 | write no data =>
  show (yN ..).last<=_;unfold yN;split
  ·show (jH S no data).last<=_;rw[Dg];omega
  ·omega
theorem Qj {c:Nat} {S:ae} (h:dy c S) (cu cg now:Int) (x:lG) (hx:∀fr a gN b,x≠.rename fr a gN b):dy (c+1) (cM S cu cg now x):=by
 cases x with
 | da dir nm mode =>
  refine yU h fun h0=>rS h rfl (by show ([]:List UInt8).length<=_;simp) (fun _=>rfl) ?_
  unfold mH at h0;split at h0
  ·cases h0
  ·show 0<=mode/\mode<=1023
   omega
 | cL dir nm mode data =>
  have key:ik mode data.length=0->(0<=mode/\mode<=1023)/\data.length<=1048576:=fun h0=>by
   unfold ik at h0;split at h0
   ·cases h0
   ·split at h0
    ·cases h0
    ·omega
  exact yU h fun h0=>rS h rfl (key h0).2 (fun hk=>by cases hk) (key h0).1
 | symlink dir nm text =>
  have key:k_ text=0->text.length<=1048576:=fun h0=>by
   unfold k_ at h0;split at h0
   ·cases h0
   ·split at h0
    ·cases h0
    ·omega
  exact yU h fun h0=>rS h rfl (key h0) (fun hk=>by cases hk) ⟨by show (0:Int)<=511;decide,by show (511:Int)<=1023;decide⟩
 | link no dir nm=>exact Lx h ..
 | unlink dir nm=>exact gz (Du h ..) (by omega)
 | lY dir nm=>exact gz (Hb h ..) (by omega)
 | rename fr a gN b=>exact absurd rfl (hx fr a gN b)
 | dP no mode=>exact gz (Lt h ..) (by omega)
 | eu no uid gid=>exact gz (Lu h ..) (by omega)
 | fP no mt=>exact gz (Lv h ..) (by omega)
 | write no data=>exact gz (PV h ..) (by omega)
theorem gR.aaV {w:World} {B:Nat} {g:cI} {S:ae} {X:cP} (h:gR w B g S X) (i:Nat) (v:Value) (Y:cP)
  (hY:∀cn ce:Nat,(#[.slice (some ⟨g.bN,0,none⟩) S.nodes.length cn,.slice (some ⟨g.bE,0,none⟩) S.ah.length ce,.int .i64 S.last,X.now,X.count,X.plan,X.dead]:Array Value).setIfInBounds i v=#[.slice (some ⟨g.bN,0,none⟩) S.nodes.length cn,.slice (some ⟨g.bE,0,none⟩) S.ah.length ce,.int .i64 S.last,.int .i64 Y.now,Y.count,Y.plan,Y.dead]) :
  gR (w.setCell ⟨g.bF,i,none⟩ v) B g S Y:=by
 have hne:=h.ne;have ha:=h.apart;obtain ⟨h1,cn,ce,h2,⟨xs,h3,h5⟩,h4⟩:=h;have o:=Only.setCell w g.bF i v;have kK:=Has.setCell h2 i v;rw [hY cn ce]at kK;refine ⟨h1,cn,ce,kK,⟨xs,au h3 o fun b hb=>?_,h5.only o (ha.sub (by simp[cI.list]))⟩,au h4 o fun b hb=>?_⟩
 ·injection hb with hb;subst hb;simp;exact fun e=>hne.1 e.symm
 ·injection hb with hb;subst hb;simp;exact fun e=>hne.2.1 e.symm
theorem gR.TT {w:World} {B:Nat} {g:cI} {S:ae} {X:cP} (h:gR w B g S X):w.cell? ⟨g.bF,4,none⟩=some X.count/\w.cell? ⟨g.bF,5,none⟩=some X.plan/\w.cell? ⟨g.bF,6,none⟩=some X.dead/\w.frozen? ⟨g.bF,4,none⟩=false/\w.frozen? ⟨g.bF,6,none⟩=false/\g.bF<w.heap.size:=by
 obtain ⟨h1,cn,ce,h2,_,_⟩:=h;exact ⟨h2.cell 4,h2.cell 5,h2.cell 6,by rw[Has.free h2 4];rfl,by rw[Has.free h2 6];rfl,h2.lt⟩
abbrev TU (now count:Int) (A:Option Addr) (n cap:Nat) (dead:Bool):cP:=⟨now,.int .i64 count,.slice A n cap,.bool dead⟩
def fh (l:List (Int×Int)):List Value:=l.flatMap fun x=>[.int .i64 x.1,.int .i64 x.2]
theorem pq (l:List (Int×Int)):(fh l).length=l.length*2:=by
 unfold fh
 induction l with
 | nil=>rfl
 | cons x l ih=>rw[List.flatMap_cons,List.length_append,ih];simp;omega
theorem pu (l:List (Int×Int)):∀k,(h:k<l.length)->(fh l)[k*2]?=some (.int .i64 l[k].1)/\(fh l)[k*2+1]?=some (.int .i64 l[k].2):=by
 induction l with
 | nil=>intro k h;simp at h
 | cons x l ih =>
  intro k h;have e:fh (x::l)=.int .i64 x.1::.int .i64 x.2::fh l:=rfl;rw [e]
  cases k with
  | zero=>exact⟨rfl,rfl⟩
  | succ k =>
   have:=ih k (by simpa using h);rw [show (k+1)*2=k*2+1+1 by omega];simpa using this
theorem wy (l:List (Int×Int)):∀u∈fh l,u.oneCell'=true:=by
 intro u hu;unfold fh at hu;rw [List.mem_flatMap]at hu;obtain ⟨x,_,hx⟩:=hu;simp only[List.mem_cons,List.not_mem_nil,or_false]at hx;rcases hx with rfl|rfl<;>rfl
theorem Ma (A:Option Addr) (cap:Nat) (l:List (Int×Int)) (wr:World) (h:cK wr A l) (hA:A=none->cap=0) (hl:l.length<=1000000) :
  ∃ v' w2,(Builtin.append_ #[28,28] 28 #[.slice none 0 0,.slice A l.length cap]).run Tryz.prog wr=.ok v' w2/\w2.ownsRow wr.heap.size 216 2 v' l.length (fh l)/\Ext wr w2:=by
 obtain ⟨i0,hi,hz0,hz1,hz2⟩:=info_parts Hm
 cases A with
 | none =>
  have j_:l=[]:=by
   rcases h with h|⟨b',o',h,_⟩
   ·exact h
   ·cases h
  subst j_;obtain rfl:cap=0:=hA rfl;refine ⟨.slice none 0 0,wr,?_,World.ownsRow_nil _ _ _ _,Ext.refl _⟩;simp [Builtin.append_,run_underlying Tryz.underlying28,sizeOf,typeInfo,hi,Builtin.lenOf,Builtin.firstCells]
 | some ad =>
  have tf:∀j u,(fh l)[j]?=some u->wr.cell? (ad.add j)=some u:=by
   intro j u hu;rcases h with h|⟨b',o',hAe,hb,h2⟩
   ·subst h;simp[fh]at hu
   ·obtain rfl:ad=⟨b',o',none⟩:=Option.some.inj hAe
    rw [Addr.add_lit];have hj:j<l.length*2:=by
     rcases Nat.lt_or_ge j (l.length*2) with h'|h'
     ·exact h'
     ·rw[List.getElem?_eq_none (by rw[pq];exact h')]at hu;cases hu
    have hk:j / 2<l.length:=by omega
    have g:=pu l (j / 2) hk;have c:=h2 (j / 2) hk;rcases Nat.mod_two_eq_zero_or_one j with e|e
    ·have ej:j=j / 2*2:=by omega
     rw [ej]at hu;rw [g.1]at hu;rw [ej,show o'+j / 2*2=o'+(j / 2)*2 from rfl];rw [c.1];exact hu
    ·have ej:j=j / 2*2+1:=by omega
     rw [ej]at hu;rw [g.2]at hu;rw [ej,<-Nat.add_assoc];rw [c.2];exact hu
  obtain ⟨v',w2,hr,h2,h3,_⟩:=run_append_own (P:=Tryz.prog) wr wr.heap.size 28 28 216 i0 (.agg #[.int .i64 0,.int .i64 0]) 2 16 Tryz.underlying28 hi hz0 hz1 hz2 rfl (by decide) _ 0 [] (World.ownsRow_nil _ _ _ _) ad l.length cap (fh l) (pq l) tf (wy l) (by unfold maxLen;omega) (by omega) (Nat.le_refl _);refine ⟨v',w2,hr,by rw[Nat.zero_add,List.nil_append]at h2;exact h2,?_⟩;exact (Ext.refl wr).grown h3 (fun g hv=>by simp[Value.ownBlock]at hv)
theorem Qk {b:Nat} {g:bG} {now count:Int} {A:Option Addr} {len cap:Nat} {dead:Bool} (A0:Option Addr) (l:List (Int×Int)) (mZ:Nat) (w:World) (h:dR w b g now count A len cap dead) (hp:cK w A0 l) (hA:A0=none->mZ=0) (ho:l≠[]->cZ A0 b) (hl:l.length<=1000000) :
  Calls Tryz.prog 38 #[.pointer (some ⟨b,0,none⟩),.slice A0 l.length mZ] w (fun e w'=>(∃v,e=.returned v)/\∃A' cap',dR w' b g now 0 A' l.length cap' dead/\cK w' A' l/\cZ A' b/\(∀x,A'=some x->dO w' x.block 216)/\Only [b] w w'):=by
 obtain⟨n,hn⟩:=zE l.length;have HN:=zH hn;rw [<-hn];clear hn;go_enter Tryz.func38,Tryz.ntmps38;go_wp2_with fail;refine (FF _ h).mono ?_;rintro e w1 ⟨rfl,b1⟩;have h1:=h.ext b1;have c2:=Has.cell h1 2;have f2:=Has.free h1 2;have z:=Has.lt h1;obtain⟨W2,cQ⟩:=zE (w1.setCell ⟨b,2,none⟩ (.int .i64 0));have h2:dR W2 b g now 0 A len cap dead:=by rw[cQ];exact Has.setCell h1 2 (.int .i64 0)
 have O2:Only [b] w1 W2:=by rw[cQ];exact Only.setCell _ _ _ _
 have hp2:cK W2 A0 l:=by
  by_cases j_:l=[]
  ·exact .inl j_
  ·exact (hp.ext b1).only O2 (fun x hx=>by simp at hx;subst hx;exact ho j_)
 have hb2:=Has.lt h2;obtain ⟨v3,w3,hr,hown,E3⟩:=Ma A0 mZ l W2 hp2 hA hl;rw [<-HN.out]at hr;have HR:=zH hr;have h3:=h2.ext E3;have c3:=Has.cell h3 3;have f3:=Has.free h3 3;have z3:=Has.lt h3;have hne:∀g',v3.ownBlock=some g'->g'≠b:=fun g' hv=>by have:=(World.ownsRow.lt hown g' hv).1;omega
 obtain ⟨A3,XT,rfl⟩:∃A3 XT,v3=.slice A3 n XT:=by
  rcases hown.2 with⟨e,h0⟩|⟨g',cap',cur,e,_⟩
  ·exact⟨none,0,by rw[e];congr 1;rw[HN.out];omega⟩
  ·exact⟨_,_,by rw[e,HN.out]⟩
 have c3':=Has.cell h2 3;have z2:=Has.lt h2;clear h h1 hr;go_upto_region 2 with fail;rw [<-cQ];clear cQ c2 f2 z;go_wp2_with (at_builtin;refine Lib.wpList_append_run _ rfl _ _ 28 28 rfl _ _ rfl rfl _ _ HR.out ?_);go_end0;obtain⟨W5,jJ⟩:=zE (w3.setCell ⟨b,3,none⟩ (.slice A3 n XT));have h5:dR W5 b g now 0 A3 n XT dead:=by rw[jJ];exact Has.setCell h3 3 _
 have O5:Only [b] w3 W5:=by rw[jJ];exact Only.setCell _ _ _ _
 refine ⟨⟨_,rfl⟩,A3,XT,by rw[<-jJ];exact h5,?_,fun x hx=>hne x.block (by rw[hx];rfl),?_,(Only.pre b1 O2).then ((Only.ax E3).then (by rw[<-jJ];exact O5))⟩
 case refine_2 =>
  intro x hx;subst hx;rw [<-jJ];rcases hown.2 with⟨e,_⟩|⟨g',cap',cur,e,_,hg,_⟩
  ·cases e
  ·injection e with e1
   injection e1 with e1;subst e1;exact ⟨cur,_,O5.has hg (by simpa using hne g' rfl)⟩
 rw [<-jJ]
 cases A3 with
 | none =>
  rcases hown.2 with⟨_,h0⟩|⟨g',cap',cur,e,_⟩
  ·exact .inl (List.eq_nil_of_length_eq_zero h0)
  ·cases e
 | some ad =>
  rcases hown.2 with⟨e,_⟩|⟨g',cap',cur,e,_⟩
  ·cases e
  ·injection e with e1
   injection e1 with e1;subst e1;have hc:=World.ownsRow.cells hown (g:=g') rfl;have hlt:=(World.ownsRow.lt hown g' rfl).2;have e:W5.heap[g']?=w3.heap[g']?:=O5.block g' hlt (by simpa using hne g' rfl);have ec:∀j,W5.cell? ⟨g',j,none⟩=w3.cell? ⟨g',j,none⟩:=fun j=>by simp[World.cell?,e]
   refine .inr ⟨g',0,rfl,by have:=O5.size;omega,fun k hk=>?_⟩;rw [ec,ec,Nat.zero_add];have g1:=pu l k hk;have y1:=hc (k*2) _ g1.1;have y2:=hc (k*2+1) _ g1.2;simp only[Addr.add_lit,Nat.zero_add]at y1 y2;exact ⟨y1,y2⟩
def pz (w:World) (B:Nat) (A:Option Addr) (l:List (Int×Int)):Prop:=
 l = []\/∃b o,A=some ⟨b,o,none⟩/\b<w.heap.size/\(b<B\/dO w b 216)/\∀k,(h:k<l.length)->w.cell? ⟨b,o+k*2,none⟩=some (.int .i64 l[k].1)/\w.cell? ⟨b,o+k*2+1,none⟩=some (.int .i64 l[k].2)
theorem pz.plan {w:World} {B:Nat} {A:Option Addr} {l:List (Int×Int)} (h:pz w B A l):cK w A l:=by
 rcases h with h|⟨b,o,hA,hb,_,hc⟩
 ·exact .inl h
 ·exact .inr ⟨b,o,hA,hb,hc⟩
def dh (w:World) (B:Nat) (L:List Nat):Prop:=∀b∈L,B<=b/\¬dO w b 153/\¬dO w b 216
theorem dh.apart {w:World} {B:Nat} {L:List Nat} (h:dh w B L):db w B L:=fun b hb=>⟨(h b hb).1,(h b hb).2.1⟩
theorem dh.nil (w:World) (B:Nat):dh w B []:=fun b hb=>by cases hb
theorem dh.append {w:World} {B:Nat} {L M:List Nat} (h:dh w B L) (k:dh w B M):dh w B (L++M):=fun b hb=>by
 rcases List.mem_append.1 hb with hb|hb
 ·exact h b hb
 ·exact k b hb
theorem dh.cons {w:World} {B b:Nat} {L:List Nat} {cs:Array Value} {t:TypeId} {fr:Nat×Nat} (h:dh w B L) (hb:B<=b) (k:w.heap[b]?=some (.cells cs t fr)) (h1:t≠153) (h2:t≠216):dh w B (b::L):=fun x hx=>by
 rcases List.mem_cons.1 hx with rfl|hx
 ·refine ⟨hb,?_,?_⟩
  ·rintro⟨c,f,e⟩;rw[k]at e;injection e with e;injection e with _ e;exact h1 e
  ·rintro⟨c,f,e⟩;rw[k]at e;injection e with e;injection e with _ e;exact h2 e
 ·exact h x hx
theorem pz.only {w w':World} {B:Nat} {A:Option Addr} {l:List (Int×Int)} {L:List Nat} (h:pz w B A l) (o:Only L w w') (ha:dh w B L):pz w' B A l:=by
 rcases h with h|⟨b,f,hA,hb,ht,hc⟩
 ·exact .inl h
 ·have hn:b∉L:=fun hx=>by
   rcases ht with ht|ht
   ·have:=(ha b hx).1;omega
   ·exact (ha b hx).2.2 ht
  have hk:=o.block b hb hn;have hcell:∀i,w'.cell? ⟨b,i,none⟩=w.cell? ⟨b,i,none⟩:=fun i=>by simp only[World.cell?,hk]
  refine .inr ⟨b,f,hA,by have:=o.size;omega,?_,fun k dI=>by rw[hcell,hcell];exact hc k dI⟩;rcases ht with ht|⟨cur,fr,ht⟩
  ·exact .inl ht
  ·exact .inr ⟨cur,fr,hk.trans ht⟩
theorem dM.cU {w:World} {B:Nat} {g:bG} {S:ae} (h:dM w B g S):dh w B g.list:=by
 have ha:=h.apart;obtain ⟨_,⟨_,_,k2,es,cl,k3,_⟩,cd,k4,k5⟩:=h;obtain ⟨_,cur,k6⟩:=k5.has;intro b hb;refine ⟨(ha b hb).1,(ha b hb).2,?_⟩;rintro ⟨c,f,e⟩;simp only[bG.list,List.mem_cons,List.not_mem_nil,or_false]at hb;unfold Has at *;rcases hb with rfl|rfl|rfl|rfl
 ·rw[k4]at e;injection e with e;injection e with _ e;exact absurd e (by decide)
 ·rw[k2]at e;injection e with e;injection e with _ e;exact absurd e (by decide)
 ·rw[k3]at e;injection e with e;cases e
 ·rw[k6]at e;injection e with e;injection e with _ e;exact absurd e (by decide)
theorem gR.cU {w:World} {B:Nat} {g:cI} {S:ae} {X:cP} (h:gR w B g S X):dh w B g.list:=by
 have ha:=h.apart;obtain ⟨_,cn,ce,k2,⟨xs,k3,_⟩,k4⟩:=h;obtain ⟨_,yy,k5⟩:=bY k3;obtain ⟨_,Gq,k6⟩:=bY k4;intro b hb;refine ⟨(ha b hb).1,(ha b hb).2,?_⟩;rintro ⟨c,f,e⟩;simp only[cI.list,List.mem_cons,List.not_mem_nil,or_false]at hb;unfold Has at *;rcases hb with rfl|rfl|rfl
 ·rw[k2]at e;injection e with e;injection e with _ e;exact absurd e (by decide)
 ·rw[k5]at e;injection e with e;injection e with _ e;exact absurd e (by decide)
 ·rw[k6]at e;injection e with e;injection e with _ e;exact absurd e (by decide)
def DB (w:World) (B b:Nat) (g:bG) (s:av) (A:Option Addr) (cap:Nat):Prop:=
 dM w B g s.t/\dR w b g s.now s.count A s.plan.length cap s.dead/\pz w B A s.plan/\cZ A b/\B<=b
def PS (w:World) (B b:Nat) (g:bG) (s:av):Prop:=∃A cap,DB w B b g s A cap
theorem DB.ja {w:World} {B b:Nat} {g:bG} {s:av} {A:Option Addr} {cap:Nat} (h:DB w B b g s A cap):b∉g.list:=h.1.ja h.2.1 (by decide) (by decide) (by decide)
theorem DB.cU {w:World} {B b:Nat} {g:bG} {s:av} {A:Option Addr} {cap:Nat} (h:DB w B b g s A cap):dh w B (b::g.list):=
 dh.cons h.1.cU h.2.2.2.2 h.2.1 (by decide) (by decide)
theorem DB.only {w w':World} {B b:Nat} {g:bG} {s:av} {A:Option Addr} {cap:Nat} {L:List Nat} (h:DB w B b g s A cap) (o:Only L w w') (ha:dh w B L) (hn:∀x∈b::g.list,x∉L):DB w' B b g s A cap:=
 ⟨h.1.only o ha.apart fun x hx=>hn x (List.mem_cons_of_mem _ hx),dR.only h.2.1 o (hn b (List.mem_cons_self ..)),h.2.2.1.only o ha,h.2.2.2.1,h.2.2.2.2⟩
theorem DB.ext {w w':World} {B b:Nat} {g:bG} {s:av} {A:Option Addr} {cap:Nat} (h:DB w B b g s A cap) (o:Ext w w'):DB w' B b g s A cap:=h.only (Only.ax (L:=[]) o) (dh.nil _ _) (by simp)
theorem PS.ja {w:World} {B b:Nat} {g:bG} {s:av} (h:PS w B b g s):b∉g.list:=by obtain⟨A,c,h⟩:=h;exact h.ja
theorem PS.cU {w:World} {B b:Nat} {g:bG} {s:av} (h:PS w B b g s):dh w B (b::g.list):=by obtain⟨A,c,h⟩:=h;exact h.cU
theorem PS.only {w w':World} {B b:Nat} {g:bG} {s:av} {L:List Nat} (h:PS w B b g s) (o:Only L w w') (ha:dh w B L) (hn:∀x∈b::g.list,x∉L):PS w' B b g s:=by
 obtain ⟨A,c,h⟩:=h;exact⟨A,c,h.only o ha hn⟩
theorem PS.ext {w w':World} {B b:Nat} {g:bG} {s:av} (h:PS w B b g s) (o:Ext w w'):PS w' B b g s:=by
 obtain ⟨A,c,h⟩:=h;exact⟨A,c,h.ext o⟩
theorem PS.lt {w:World} {B b:Nat} {g:bG} {s:av} (h:PS w B b g s):∀x∈b::g.list,x<w.heap.size:=by
 obtain ⟨A,c,h⟩:=h;have h1:=h.1.lt;have h2:=Has.lt h.2.1;intro x hx;simp only[bG.list,List.mem_cons,List.not_mem_nil,or_false]at hx;omega
theorem PS.V0 {w:World} {B b:Nat} {g:bG} {s:av} (h:PS w B b g s):dM w B g s.t:=by obtain⟨A,c,h⟩:=h;exact h.1
theorem DB.Hs {w:World} {B b:Nat} {g:bG} {s:av} {A:Option Addr} {cap:Nat} (h:DB w B b g s A cap) (hd:s.dead=false) {P:Program} {fn:FuncId} {args:Array Value} {cu cg:Int} {x:lG}
  (F:Bd s≠0->Calls P fn args w (fun e w'=>e=.returned (.int .i64 (Bd s))/\dR w' b g s.now (s.count+1) A s.plan.length cap (fV s.plan (s.count+1))/\Only [b] w w'))
  (G:iS s.plan (s.count+1)=0/\fV s.plan (s.count+1)=false->Calls P fn args w (fun e w'=>e=.returned (.int .i64 (fQ s.t cu cg s.now x))/\dM w' B g (cM s.t cu cg s.now x)/\dR w' b g s.now (s.count+1) A s.plan.length cap false/\Only (b::g.list) w w')) :
  Calls P fn args w (fun e w'=>e=.returned (.int .i64 (zJ s cu cg x))/\PS w' B b g (ww s cu cg x)/\Only (b::g.list) w w'):=by
 have hn:=h.ja;have hF:=h.cU
 by_cases h0:Bd s=0
 ·have h1:iS s.plan (s.count+1)=0:=by rw[<-gE hd];exact h0
  refine (G ⟨h1,r7 h1⟩).mono ?_;rintro e w' ⟨rfl,K,S1,O⟩;refine ⟨by unfold zJ;rw[if_neg (by rw[h0];decide)],⟨A,cap,?_⟩,O⟩;unfold ww;rw [if_neg (by rw[h0];decide),(lZ h0).2,hd];exact ⟨K,S1,h.2.2.1.only O hF,h.2.2.2.1,h.2.2.2.2⟩
 ·refine (F h0).mono ?_
  rintro e w' ⟨rfl,S1,O⟩;have kG:dh w B [b]:=fun x hx=>hF x (by simp at hx;subst hx;simp)
  refine ⟨by unfold zJ;rw[if_pos h0],⟨A,cap,?_⟩,O.mono (by simp)⟩;unfold ww;rw [if_pos h0,Be hd];exact ⟨h.1.rY h.2.1 h.2.2.2.2 hn O,S1,h.2.2.1.only O kG,h.2.2.2.1,h.2.2.2.2⟩
theorem DB.TV {w:World} {B b:Nat} {g:bG} {s:av} {A:Option Addr} {cap:Nat} (h:DB w B b g s A cap) (hd:s.dead=false) {P:Program} {fn:FuncId} {args:Array Value} {cu cg:Int} {x:lG}
  (F:Bd s≠0->Calls P fn args w (fun e w'=>e=.returned (.tuple #[.int .i64 0,.int .i64 (Bd s)])/\dR w' b g s.now (s.count+1) A s.plan.length cap (fV s.plan (s.count+1))/\Only [b] w w'))
  (G:iS s.plan (s.count+1)=0/\fV s.plan (s.count+1)=false->Calls P fn args w (fun e w'=>e=.returned (.tuple #[.int .i64 (kW s.t cu cg s.now x),.int .i64 (fQ s.t cu cg s.now x)])/\dM w' B g (cM s.t cu cg s.now x)/\dR w' b g s.now (s.count+1) A s.plan.length cap false/\Only (b::g.list) w w')) :
  Calls P fn args w (fun e w'=>e=.returned (.tuple #[.int .i64 (VZ s cu cg x),.int .i64 (zJ s cu cg x)])/\PS w' B b g (ww s cu cg x)/\Only (b::g.list) w w'):=by
 have hn:=h.ja;have hF:=h.cU
 by_cases h0:Bd s=0
 ·have h1:iS s.plan (s.count+1)=0:=by rw[<-gE hd];exact h0
  refine (G ⟨h1,r7 h1⟩).mono ?_;rintro e w' ⟨rfl,K,S1,O⟩;refine ⟨by unfold zJ VZ;rw[if_neg (by rw[h0];decide),if_neg (by rw[h0];decide)],⟨A,cap,?_⟩,O⟩;unfold ww;rw [if_neg (by rw[h0];decide),(lZ h0).2,hd];exact ⟨K,S1,h.2.2.1.only O hF,h.2.2.2.1,h.2.2.2.2⟩
 ·refine (F h0).mono ?_
  rintro e w' ⟨rfl,S1,O⟩;have kG:dh w B [b]:=fun x hx=>hF x (by simp at hx;subst hx;simp)
  refine ⟨by unfold zJ VZ;rw[if_pos h0,if_pos h0],⟨A,cap,?_⟩,O.mono (by simp)⟩;unfold ww;rw [if_pos h0,Be hd];exact ⟨h.1.rY h.2.1 h.2.2.2.2 hn O,S1,h.2.2.1.only O kG,h.2.2.2.1,h.2.2.2.2⟩
def TW (w:World) (B b:Nat) (g:bG) (s:av) (cu cg:Int) (x:lG) (e:Ending) (w':World):Prop:=e=.returned (.int .i64 (zJ s cu cg x))/\PS w' B b g (ww s cu cg x)/\Only (b::g.list) w w'
def Ch2 (w:World) (B b:Nat) (g:bG) (s:av) (cu cg:Int) (x:lG) (e:Ending) (w':World):Prop:=e=.returned (.tuple #[.int .i64 (VZ s cu cg x),.int .i64 (zJ s cu cg x)])/\PS w' B b g (ww s cu cg x)/\Only (b::g.list) w w'
section
variable {c:Nat} {w:World} {B b:Nat} {g:bG} {s:av}
theorem eH.len (h:eH c s):s.plan.length<=1000000:=by have:=h.plan;omega
theorem eH.hi (h:eH c s) (hc:c<=900):s.count<=1000000:=by have:=h.c1;omega
theorem eH.di (h:eH c s) (hc:c<=900):s.t.last<=901:=by have:=h.last;omega
theorem eH.ok (h:eH c s) (hc:c<=900):Ok s.t:=h.fE.ok (by omega)
theorem PS.da (h:PS w B b g s) (hs:eH c s) (hc:c<=900) (hd:s.dead=false) (cu cg:Int) (dir:Int) (nm:List UInt8) (mode:Int) :
  Calls Tryz.prog 111 #[.pointer (some ⟨b,0,none⟩),.agg #[cu,cg],.int .i64 dir,bs nm,.int .i64 mode] w (Ch2 w B b g s cu cg (.da dir nm mode)):=by
 obtain ⟨A,cap,h⟩:=h;obtain ⟨h1,h2,h3,h4,h5⟩:=id h;have kK:=h2;rw [hd]at kK;refine h.TV hd (fun h0=>?_) (fun h0=>?_)
 ·exact TI s.plan w cu cg dir (bs nm) mode kK h3.plan h4 hs.len hs.c0 (hs.hi hc) (gE hd).symm h0
 ·exact TJ s.plan w cu cg dir (bs nm) mode kK h3.plan h4 hs.len hs.c0 (hs.hi hc) B s.t h1 h.ja h5 h0 fun u hu=>LG B g s.t cu cg s.now dir nm mode u hu (hs.ok hc) (by have:=hs.di hc;omega)
theorem PS.cL (h:PS w B b g s) (hs:eH c s) (hc:c<=900) (hd:s.dead=false) (cu cg:Int) (dir:Int) (nm:List UInt8) (mode:Int) (data:List UInt8) (lr:data.length<=1000000000) :
  Calls Tryz.prog 113 #[.pointer (some ⟨b,0,none⟩),.agg #[cu,cg],.int .i64 dir,bs nm,.int .i64 mode,bs data] w (Ch2 w B b g s cu cg (.cL dir nm mode data)):=by
 obtain ⟨A,cap,h⟩:=h;obtain ⟨h1,h2,h3,h4,h5⟩:=id h;have kK:=h2;rw [hd]at kK;refine h.TV hd (fun h0=>?_) (fun h0=>?_)
 ·exact Qf s.plan w cu cg dir (bs nm) mode (bs data) kK h3.plan h4 hs.len hs.c0 (hs.hi hc) (gE hd).symm h0
 ·exact Qg s.plan w cu cg dir (bs nm) mode (bs data) kK h3.plan h4 hs.len hs.c0 (hs.hi hc) B s.t h1 h.ja h5 h0 fun u hu=>G7 B g s.t cu cg s.now dir nm mode data u hu (hs.ok hc) (by have:=hs.di hc;omega) lr
theorem PS.symlink (h:PS w B b g s) (hs:eH c s) (hc:c<=900) (hd:s.dead=false) (cu cg:Int) (dir:Int) (nm text:List UInt8) (lr:text.length<=1000000000) :
  Calls Tryz.prog 114 #[.pointer (some ⟨b,0,none⟩),.agg #[cu,cg],.int .i64 dir,bs nm,bs text] w (Ch2 w B b g s cu cg (.symlink dir nm text)):=by
 obtain ⟨A,cap,h⟩:=h;obtain ⟨h1,h2,h3,h4,h5⟩:=id h;have kK:=h2;rw [hd]at kK;refine h.TV hd (fun h0=>?_) (fun h0=>?_)
 ·exact L4 s.plan w cu cg dir (bs nm) (bs text) kK h3.plan h4 hs.len hs.c0 (hs.hi hc) (gE hd).symm h0
 ·exact L9 s.plan w cu cg dir (bs nm) (bs text) kK h3.plan h4 hs.len hs.c0 (hs.hi hc) B s.t h1 h.ja h5 h0 fun u hu=>LH B g s.t cu cg s.now dir nm text u hu (hs.ok hc) (by have:=hs.di hc;omega) lr
theorem PS.link (h:PS w B b g s) (hs:eH c s) (hc:c<=900) (hd:s.dead=false) (cu cg:Int) (no dir:Int) (nm:List UInt8) :
  Calls Tryz.prog 115 #[.pointer (some ⟨b,0,none⟩),.agg #[cu,cg],.int .i64 no,.int .i64 dir,bs nm] w (TW w B b g s cu cg (.link no dir nm)):=by
 obtain ⟨A,cap,h⟩:=h;obtain ⟨h1,h2,h3,h4,h5⟩:=id h;have kK:=h2;rw [hd]at kK;refine h.Hs hd (fun h0=>?_) (fun h0=>?_)
 ·exact XR s.plan w cu cg no dir (bs nm) kK h3.plan h4 hs.len hs.c0 (hs.hi hc) (gE hd).symm h0
 ·exact XS s.plan w cu cg no dir (bs nm) kK h3.plan h4 hs.len hs.c0 (hs.hi hc) B s.t h1 h.ja h5 h0 fun u hu=>GY B g s.t cu cg s.now no dir nm u hu (hs.ok hc)
theorem PS.unlink (h:PS w B b g s) (hs:eH c s) (hc:c<=900) (hd:s.dead=false) (cu cg:Int) (dir:Int) (nm:List UInt8) :
  Calls Tryz.prog 98 #[.pointer (some ⟨b,0,none⟩),.agg #[cu,cg],.int .i64 dir,bs nm] w (TW w B b g s cu cg (.unlink dir nm)):=by
 obtain ⟨A,cap,h⟩:=h;obtain ⟨h1,h2,h3,h4,h5⟩:=id h;have kK:=h2;rw [hd]at kK;refine h.Hs hd (fun h0=>?_) (fun h0=>?_)
 ·exact Qh s.plan w cu cg dir (bs nm) kK h3.plan h4 hs.len hs.c0 (hs.hi hc) (gE hd).symm h0
 ·exact Qi s.plan w cu cg dir (bs nm) kK h3.plan h4 hs.len hs.c0 (hs.hi hc) B s.t h1 h.ja h5 h0 fun u hu=>AJ B g s.t cu cg s.now dir nm u hu (hs.ok hc)
theorem PS.lY (h:PS w B b g s) (hs:eH c s) (hc:c<=900) (hd:s.dead=false) (cu cg:Int) (dir:Int) (nm:List UInt8) :
  Calls Tryz.prog 97 #[.pointer (some ⟨b,0,none⟩),.agg #[cu,cg],.int .i64 dir,bs nm] w (TW w B b g s cu cg (.lY dir nm)):=by
 obtain ⟨A,cap,h⟩:=h;obtain ⟨h1,h2,h3,h4,h5⟩:=id h;have kK:=h2;rw [hd]at kK;refine h.Hs hd (fun h0=>?_) (fun h0=>?_)
 ·exact TK s.plan w cu cg dir (bs nm) kK h3.plan h4 hs.len hs.c0 (hs.hi hc) (gE hd).symm h0
 ·exact TL s.plan w cu cg dir (bs nm) kK h3.plan h4 hs.len hs.c0 (hs.hi hc) B s.t h1 h.ja h5 h0 fun u hu=>Dr B g s.t cu cg s.now dir nm u hu (hs.ok hc)
theorem PS.dP (h:PS w B b g s) (hs:eH c s) (hc:c<=900) (hd:s.dead=false) (cu cg:Int) (no mode:Int) :
  Calls Tryz.prog 68 #[.pointer (some ⟨b,0,none⟩),.agg #[cu,cg],.int .i64 no,.int .i64 mode] w (TW w B b g s cu cg (.dP no mode)):=by
 obtain ⟨A,cap,h⟩:=h;obtain ⟨h1,h2,h3,h4,h5⟩:=id h;have kK:=h2;rw [hd]at kK;refine h.Hs hd (fun h0=>?_) (fun h0=>?_)
 ·exact TM s.plan w cu cg no mode kK h3.plan h4 hs.len hs.c0 (hs.hi hc) (gE hd).symm h0
 ·exact TN s.plan w cu cg no mode kK h3.plan h4 hs.len hs.c0 (hs.hi hc) B s.t h1 h.ja h5 h0 fun u hu=>Gz B g s.t cu cg s.now no mode u hu hs.fE.ah hs.fE.bc
theorem PS.eu (h:PS w B b g s) (hs:eH c s) (hc:c<=900) (hd:s.dead=false) (cu cg:Int) (no uid gid:Int) :
  Calls Tryz.prog 67 #[.pointer (some ⟨b,0,none⟩),.agg #[cu,cg],.int .i64 no,.int .i64 uid,.int .i64 gid] w (TW w B b g s cu cg (.eu no uid gid)):=by
 obtain ⟨A,cap,h⟩:=h;obtain ⟨h1,h2,h3,h4,h5⟩:=id h;have kK:=h2;rw [hd]at kK;refine h.Hs hd (fun h0=>?_) (fun h0=>?_)
 ·exact TP s.plan w cu cg no uid gid kK h3.plan h4 hs.len hs.c0 (hs.hi hc) (gE hd).symm h0
 ·exact TQ s.plan w cu cg no uid gid kK h3.plan h4 hs.len hs.c0 (hs.hi hc) B s.t h1 h.ja h5 h0 fun u hu=>Di B g s.t cu cg s.now no uid gid u hu hs.fE.ah hs.fE.bc
theorem PS.fP (h:PS w B b g s) (hs:eH c s) (hc:c<=900) (hd:s.dead=false) (cu cg:Int) (no mt:Int) :
  Calls Tryz.prog 69 #[.pointer (some ⟨b,0,none⟩),.agg #[cu,cg],.int .i64 no,.int .i64 mt] w (TW w B b g s cu cg (.fP no mt)):=by
 obtain ⟨A,cap,h⟩:=h;obtain ⟨h1,h2,h3,h4,h5⟩:=id h;have kK:=h2;rw [hd]at kK;refine h.Hs hd (fun h0=>?_) (fun h0=>?_)
 ·exact TR s.plan w cu cg no mt kK h3.plan h4 hs.len hs.c0 (hs.hi hc) (gE hd).symm h0
 ·exact TS s.plan w cu cg no mt kK h3.plan h4 hs.len hs.c0 (hs.hi hc) B s.t h1 h.ja h5 h0 fun u hu=>GN B g s.t cu cg s.now no mt u hu hs.fE.ah hs.fE.bc
end
end
section
open Go.ChangeShapes Go.WideShapes Go.ChangeAt Go.RowKit
def V6 (w:World) (B:Nat) (f:cI) (s:av) (A:Option Addr) (cap:Nat):Prop:=gR w B f s.t (TU s.now s.count A s.plan.length cap s.dead)/\pz w B A s.plan
def RS (w:World) (B:Nat) (f:cI) (s:av):Prop:=∃A cap,V6 w B f s A cap
theorem RS.cU {w:World} {B:Nat} {f:cI} {s:av} (h:RS w B f s):dh w B f.list:=by obtain⟨A,c,h⟩:=h;exact h.1.cU
theorem V6.only {w w':World} {B:Nat} {f:cI} {s:av} {A:Option Addr} {cap:Nat} {L:List Nat} (h:V6 w B f s A cap) (o:Only L w w') (ha:dh w B L) (hn:∀x∈f.list,x∉L):V6 w' B f s A cap:=⟨h.1.only o ha.apart hn,h.2.only o ha⟩
theorem RS.only {w w':World} {B:Nat} {f:cI} {s:av} {L:List Nat} (h:RS w B f s) (o:Only L w w') (ha:dh w B L) (hn:∀x∈f.list,x∉L):RS w' B f s:=by
 obtain ⟨A,c,h⟩:=h;exact⟨A,c,h.only o ha hn⟩
theorem RS.ext {w w':World} {B:Nat} {f:cI} {s:av} (h:RS w B f s) (o:Ext w w'):RS w' B f s:=h.only (Only.ax (L:=[]) o) (dh.nil _ _) (by simp)
theorem RS.lt {w:World} {B:Nat} {f:cI} {s:av} (h:RS w B f s):∀x∈f.list,x<w.heap.size:=by
 obtain ⟨A,c,h⟩:=h;have h1:=h.1.lt;intro x hx;simp only[cI.list,List.mem_cons,List.not_mem_nil,or_false]at hx;omega
theorem RS.Sh {w:World} {B:Nat} {f:cI} {s:av} (h:RS w B f s):∃X,gR w B f s.t X:=by obtain⟨A,c,h⟩:=h;exact⟨_,h.1⟩
def OP (w:World) (B:Nat) (f:cI) (s':av) (w':World):Prop:=∃f',RS w' B f' s'/\Only f.list w w'/\cI.on f' f w
theorem V6.oc {w w':World} {B:Nat} {f f':cI} {s:av} {A:Option Addr} {cap:Nat} {T:ae} (h:V6 w B f s A cap) (k:gR w' B f' T (TU s.now s.count A s.plan.length cap s.dead)) (o:Only f.list w w') (ho:cI.on f' f w):OP w B f {s with t:=T} w':=
 ⟨f',⟨A,cap,k,h.2.only o h.1.cU⟩,o,ho⟩
section
variable {c:Nat} {w:World} {B:Nat} {f:cI} {s:av}
theorem RS.da (h:RS w B f s) (hs:eH c s) (hc:c<=900) (cu cg:Int) (dir:Int) (nm:List UInt8) (mode:Int) (jA:nm.length<=1000000) :
  Calls Tryz.prog 122 #[.pointer (some ⟨f.bF,0,none⟩),.agg #[cu,cg],.int .i64 dir,bs nm,.int .i64 mode] w (fun e w'=>e=.returned (.tuple #[.int .i64 (kW s.t cu cg s.now (.da dir nm mode)),.int .i64 (fQ s.t cu cg s.now (.da dir nm mode))])/\OP w B f {s with t:=cM s.t cu cg s.now (.da dir nm mode)} w'):=by
 obtain ⟨A,cap,h⟩:=h;refine (LU B f s.t _ cu cg dir nm mode w h.1 (hs.ok hc) (by have:=hs.di hc;omega) jA).mono ?_;rintro e w' ⟨rfl,f2,k,o,ho⟩;exact ⟨rfl,h.oc k o ho⟩
theorem RS.cL (h:RS w B f s) (hs:eH c s) (hc:c<=900) (cu cg:Int) (dir:Int) (nm:List UInt8) (mode:Int) (data:List UInt8) (jA:nm.length<=1000000) (lr:data.length<=1000000000) :
  Calls Tryz.prog 124 #[.pointer (some ⟨f.bF,0,none⟩),.agg #[cu,cg],.int .i64 dir,bs nm,.int .i64 mode,bs data] w (fun e w'=>e=.returned (.tuple #[.int .i64 (kW s.t cu cg s.now (.cL dir nm mode data)),.int .i64 (fQ s.t cu cg s.now (.cL dir nm mode data))])/\OP w B f {s with t:=cM s.t cu cg s.now (.cL dir nm mode data)} w'):=by
 obtain ⟨A,cap,h⟩:=h;refine (Hd B f s.t _ cu cg dir nm mode data w h.1 (hs.ok hc) (by have:=hs.di hc;omega) jA lr).mono ?_;rintro e w' ⟨rfl,f2,k,o,ho⟩;exact ⟨rfl,h.oc k o ho⟩
theorem RS.symlink (h:RS w B f s) (hs:eH c s) (hc:c<=900) (cu cg:Int) (dir:Int) (nm text:List UInt8) (jA:nm.length<=1000000) (lr:text.length<=1000000) :
  Calls Tryz.prog 125 #[.pointer (some ⟨f.bF,0,none⟩),.agg #[cu,cg],.int .i64 dir,bs nm,bs text] w (fun e w'=>e=.returned (.tuple #[.int .i64 (kW s.t cu cg s.now (.symlink dir nm text)),.int .i64 (fQ s.t cu cg s.now (.symlink dir nm text))])/\OP w B f {s with t:=cM s.t cu cg s.now (.symlink dir nm text)} w'):=by
 obtain ⟨A,cap,h⟩:=h;refine (LV B f s.t _ cu cg dir nm text w h.1 (hs.ok hc) (by have:=hs.di hc;omega) jA lr).mono ?_;rintro e w' ⟨rfl,f2,k,o,ho⟩;exact ⟨rfl,h.oc k o ho⟩
theorem RS.link (h:RS w B f s) (hs:eH c s) (hc:c<=900) (cu cg:Int) (no dir:Int) (nm:List UInt8) (jA:nm.length<=1000000) :
  Calls Tryz.prog 126 #[.pointer (some ⟨f.bF,0,none⟩),.agg #[cu,cg],.int .i64 no,.int .i64 dir,bs nm] w (fun e w'=>e=.returned (.int .i64 (fQ s.t cu cg s.now (.link no dir nm)))/\OP w B f {s with t:=cM s.t cu cg s.now (.link no dir nm)} w'):=by
 obtain ⟨A,cap,h⟩:=h;refine (He B f s.t _ cu cg no dir nm w h.1 (hs.ok hc) (by have:=hs.di hc;omega) jA).mono ?_;rintro e w' ⟨rfl,f2,k,o,ho⟩;exact ⟨rfl,h.oc k o ho⟩
theorem RS.dP (h:RS w B f s) (hs:eH c s) (hc:c<=900) (cu cg:Int) (no mode:Int) :
  Calls Tryz.prog 76 #[.pointer (some ⟨f.bF,0,none⟩),.agg #[cu,cg],.int .i64 no,.int .i64 mode] w (fun e w'=>e=.returned (.int .i64 (fQ s.t cu cg s.now (.dP no mode)))/\OP w B f {s with t:=cM s.t cu cg s.now (.dP no mode)} w'):=by
 obtain ⟨A,cap,h⟩:=h;refine (GZ B f s.t _ cu cg no mode w h.1 (by have:=hs.fE.count;have:=hs.di hc;omega) hs.fE.bc).mono ?_;rintro e w' ⟨rfl,k,o⟩;exact ⟨rfl,h.oc k o (cI.fq _ _)⟩
theorem RS.eu (h:RS w B f s) (hs:eH c s) (hc:c<=900) (cu cg:Int) (no uid gid:Int) :
  Calls Tryz.prog 75 #[.pointer (some ⟨f.bF,0,none⟩),.agg #[cu,cg],.int .i64 no,.int .i64 uid,.int .i64 gid] w (fun e w'=>e=.returned (.int .i64 (fQ s.t cu cg s.now (.eu no uid gid)))/\OP w B f {s with t:=cM s.t cu cg s.now (.eu no uid gid)} w'):=by
 obtain ⟨A,cap,h⟩:=h;refine (Dn B f s.t _ cu cg no uid gid w h.1 (by have:=hs.fE.count;have:=hs.di hc;omega) hs.fE.bc).mono ?_;rintro e w' ⟨rfl,k,o⟩;exact ⟨rfl,h.oc k o (cI.fq _ _)⟩
theorem RS.fP (h:RS w B f s) (hs:eH c s) (hc:c<=900) (cu cg:Int) (no mt:Int) :
  Calls Tryz.prog 77 #[.pointer (some ⟨f.bF,0,none⟩),.agg #[cu,cg],.int .i64 no,.int .i64 mt] w (fun e w'=>e=.returned (.int .i64 (fQ s.t cu cg s.now (.fP no mt)))/\OP w B f {s with t:=cM s.t cu cg s.now (.fP no mt)} w'):=by
 obtain ⟨A,cap,h⟩:=h;refine (G0 B f s.t _ cu cg no mt w h.1 (by have:=hs.fE.count;have:=hs.di hc;omega) hs.fE.bc).mono ?_;rintro e w' ⟨rfl,k,o⟩;exact ⟨rfl,h.oc k o (cI.fq _ _)⟩
end
end
section
open Go.ChangeShapes Go.WideShapes Go.ChangeAt Go.RowKit
def tP (w0:World) (B b:Nat) (g:bG) (f:cI) (s r:av) (w:World):Prop:=
 ∃ g' f',bG.on g' g w0/\cI.on f' f w0/\PS w B b g' s/\RS w B f' r/\Only (b::(g.list++f.list)) w0 w
theorem PS.Mb {w:World} {B b:Nat} {g:bG} {f:cI} {s r:av} (h:PS w B b g s) (k:RS w B f r):∀x∈b::g.list,x∉f.list:=by
 obtain ⟨A,cap,h⟩:=h;obtain ⟨A2,Ql,k⟩:=k;intro x hx;rcases List.mem_cons.1 hx with rfl|hx
 ·exact k.1.ja h.2.1 (by decide) (by decide) (by decide)
 ·exact dM.S8 h.1 k.1 x hx
theorem tP.start {w0:World} {B b:Nat} {g:bG} {f:cI} {s r:av} (h:PS w0 B b g s) (k:RS w0 B f r):tP w0 B b g f s r w0:=⟨g,f,bG.fq _ _,cI.fq _ _,h,k,Only.refl _ _⟩
theorem tP.only {w0 w:World} {B b:Nat} {g:bG} {f:cI} {s r:av} (h:tP w0 B b g f s r w):Only (b::(g.list++f.list)) w0 w:=by obtain⟨_,_,_,_,_,_,h5⟩:=h;exact h5
theorem tP.has {w0 w:World} {B b x:Nat} {g:bG} {f:cI} {s r:av} {o:Obj} (h:tP w0 B b g f s r w) (k:Has w0 x o) (hx:x∉b::(g.list++f.list)):Has w x o:=h.only.has k hx
theorem tP.prog {w0 w w':World} {B b:Nat} {g g1:bG} {f f1:cI} {s s' r:av} (h1:bG.on g1 g w0) (h2:cI.on f1 f w0) (hP:PS w B b g1 s) (hR:RS w B f1 r) (hO:Only (b::(g.list++f.list)) w0 w)
  (k:PS w' B b g1 s') (o:Only (b::g1.list) w w'):tP w0 B b g f s' r w':=
 ⟨g1, f1,h1,h2,k,hR.only o hP.cU (fun x hx tI=>hP.Mb hR x tI hx),hO.trans o (fun x hx=>by
  rcases List.mem_cons.1 hx with rfl|hx
  ·exact .inl (List.mem_cons_self ..)
  ·rcases h1.2 x hx with e|e
   ·exact .inl (List.mem_cons_of_mem _ (List.mem_append_left _ e))
   ·exact .inr e)⟩
theorem tP.aaW {w0 w w':World} {B b:Nat} {g g1:bG} {f f1:cI} {s r r':av} (h1:bG.on g1 g w0) (h2:cI.on f1 f w0) (hP:PS w B b g1 s) (hR:RS w B f1 r) (hO:Only (b::(g.list++f.list)) w0 w)
  (k:OP w B f1 r' w'):tP w0 B b g f s r' w':=by
 obtain ⟨f2,k1,o,k2⟩:=k;exact ⟨g1,f2,h1,cI.qp h2 k2 hO.size,hP.only o hR.cU (fun x hx=>hP.Mb hR x hx),k1,hO.trans o (fun x hx=>by
  rcases h2.2 x hx with e|e
  ·exact .inl (List.mem_cons_of_mem _ (List.mem_append_right _ e))
  ·exact .inr e)⟩
theorem tP.fs {w0 w:World} {B b:Nat} {g:bG} {f:cI} {s r:av} (h:tP w0 B b g f s r w):∃vN vD A cap,Has w f.bF (.cells #[vN,vD,.int .i64 r.t.last,r.now,.int .i64 r.count,.slice A r.plan.length cap,.bool r.dead] 78):=by
 obtain ⟨g1,f1,_,h2,_,⟨A,cap,⟨_,cn,ce,k,_⟩,_⟩,_⟩:=h;rw [h2.1]at k;exact ⟨_,_,A,cap,k⟩
theorem tP.after {w1 w0 w:World} {B b:Nat} {g:bG} {f:cI} {s r s' r':av} (h:tP w0 B b g f s r w) (hE:Ext w1 w0) (hB:w1.heap.size<=B) (K:PS w0 B b g s') (F:RS w0 B f r'):Ext w1 w:=by
 refine h.only.after hE fun x hx=>?_
 rcases List.mem_cons.1 hx with rfl|hx
 ·have:=(K.cU x (List.mem_cons_self ..)).1;omega
 ·rcases List.mem_append.1 hx with hx|hx
  ·have:=(K.cU x (List.mem_cons_of_mem _ hx)).1;omega
  ·have:=(F.cU x hx).1;omega
attribute [local irreducible] wpQuiet
end
end Go.Proofs.YtpibnfdolojpcaaGreat
