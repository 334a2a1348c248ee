import Derived.Test.YtblbohcaphcobaaGreatDoorBunR
import Derived.Test.YtblbohcaphcobaaGreatDoorBunS
import Derived.Test.YtblbohcaphcobaaGreatDoorBunI
import Derived.Test.YtblbohcaphcobaaGreatDoorBunL
import Derived.Test.YtblbohcaphcobaaGreatDoorBunN
import Derived.Test.YtblbohcaphcobaaGreatDoorBunV
import Derived.Test.YtblbohcaphcobaaGreatDoorBunC
import Derived.Test.YtblbohcaphcobaaGreatDoorBunU
import Derived.Test.YtblbohcaphcobaaGreatDoorBunQ
import Derived.Test.YtblbohcaphcobaaGreatDoorBunO
import Derived.StillTailTactics
import Derived.Deep.CutBlock
import Derived.OpenShut
set_option maxHeartbeats 16000000
set_option maxRecDepth 100000
namespace Go.Proofs.YtblbohcaphcobaaGreatDoor
section
theorem YW (ds:List eC) (d:Int) (q:dH) (no:Int):ak (ja ds d q) no=ak ds no:=by
 unfold ak ja;have key:∀(l:List eC) (k:Nat),(match (l.modify k fun x=>{x with q:=q}).find? (fun d=>d.over == no) with|some d=>d.root|none=>no)=(match l.find? (fun d=>d.over == no) with|some d=>d.root|none=>no):=by
  intro l
  induction l with
  | nil=>intro k;cases k<;>rfl
  | cons a l ih =>
   intro k
   cases k with
   | zero =>
    rw [List.modify_zero_cons,List.find?_cons,List.find?_cons]
    cases a.over == no<;>rfl
   | succ k =>
    rw [List.modify_succ_cons,List.find?_cons,List.find?_cons]
    cases a.over == no
    ·exact ih k
    ·rfl
 split
 ·exact key _ _
 ·rfl
theorem RV (s:aA):(Ha s).t=s.t/\(Ha s).plan=s.plan/\(Ha s).now=s.now:=by unfold Ha;split<;>exact⟨rfl,rfl,rfl⟩
structure Pl (c:Nat) (s:aA):Prop where
 dL:fy c s.t
 c0:0<=s.count
 c1:s.count<=c
 plan:s.plan.length<=1000
theorem Pl.jj {c:Nat} {s:aA} (h:Pl c s):fT c s:=⟨h.dL.eE,h.dL.xo,h.dL.last,h.c0,h.c1,h.plan⟩
theorem Pl.mono {c d:Nat} {s:aA} (h:Pl c s) (I1:c<=d):Pl d s:=⟨h.dL.mono I1,h.c0,by have:=h.c1;omega,h.plan⟩
theorem Pl.go {c:Nat} {s:aA} (h:Pl c s):Pl (c+1) (Ha s):=by
 have:=h.c0;have:=h.c1;refine ⟨by rw[(RV s).1];exact h.dL.mono (by omega),?_,?_,by rw[(RV s).2.1];exact h.plan⟩<;>unfold Ha<;>split
 ·omega
 ·show 0<=s.count+1;omega
 ·omega
 ·show s.count+1<=((c+1:Nat):Int);omega
theorem Pl.lP {c:Nat} {s:aA} (h:Pl c s) (cu cg:Int) (x:jn) (hx:∀fr a aY b,x≠.rename fr a aY b):Pl (c+1) (jU s cu cg x):=by
 unfold jU;split
 ·exact h.go
 ·have:=h.go
  exact ⟨h.dL.lP _ _ _ _ hx,this.c0,this.c1,this.plan⟩
def eV (cu cg:Int):aA->List jn->aA×Int
 | s,[]=>(s,0)
 | s,x::l=>if kF s cu cg x≠0 then (jU s cu cg x,kF s cu cg x) else eV cu cg (jU s cu cg x) l
theorem nH {cu cg:Int} {s:aA} {x:jn} {l:List jn} (h:kF s cu cg x≠0):eV cu cg s (x::l)=(jU s cu cg x,kF s cu cg x):=by unfold eV;rw[if_pos h]
theorem qu {cu cg:Int} {s:aA} {x:jn} {l:List jn} (h:kF s cu cg x=0):eV cu cg s (x::l)=eV cu cg (jU s cu cg x) l:=by conv=>{lhs;unfold eV};rw[if_neg (fun k=>k h)]
theorem MS (cu cg:Int) (s:aA) (x:jn):eV cu cg s [x]=(jU s cu cg x,kF s cu cg x):=by
 by_cases h:kF s cu cg x=0
 ·rw[qu h,h];rfl
 ·exact nH h
def Qu (keep:Bool) (cu cg no:Int) (m:ai):List jn:=if keep=true/\cu=0/\(m.uid≠cu\/m.gid≠cg) then [.cU no m.uid m.gid] else []
def Fy (no:Int) (m:ai):List jn:=if m.kind=1 then [.dn no m.mode] else []
def lV (keep:Bool) (cu cg no:Int) (m:ai):List jn:=Qu keep cu cg no m++(Fy no m++[.dp no m.mtime])
theorem vr {keep:Bool} {cu cg no:Int} {m:ai}:∀x∈lV keep cu cg no m,∀fr a aY b,x≠.rename fr a aY b:=by
 intro x hx;unfold lV Qu Fy at hx;rcases List.mem_append.1 hx with hx|hx
 ·split at hx
  ·rw[List.mem_singleton]at hx;subst hx;exact fun _ _ _ _ e=>by cases e
  ·cases hx
 ·rcases List.mem_append.1 hx with hx|hx
  ·split at hx
   ·rw[List.mem_singleton]at hx;subst hx;exact fun _ _ _ _ e=>by cases e
   ·cases hx
  ·rw[List.mem_singleton]at hx;subst hx;exact fun _ _ _ _ e=>by cases e
theorem zj (keep:Bool) (cu cg no:Int) (m:ai):(lV keep cu cg no m).length<=3:=by
 unfold lV Qu Fy;rw [List.length_append,List.length_append];split<;>split<;>simp
theorem Pl.eV {c:Nat} {s:aA} (h:Pl c s) (cu cg:Int) (l:List jn) (hm:∀x∈l,∀fr a aY b,x≠.rename fr a aY b):Pl (c+l.length) (eV cu cg s l).1:=by
 induction l generalizing s c with
 | nil=>exact h
 | cons x l ih =>
  have h1:=h.lP cu cg x (hm x (List.mem_cons_self ..));unfold Go.Proofs.YtblbohcaphcobaaGreatDoor.eV;split
  ·exact h1.mono (by rw[List.length_cons];omega)
  ·exact (ih h1 (fun y hy=>hm y (List.mem_cons_of_mem _ hy))).mono (by rw[List.length_cons];omega)
theorem iQ {s:aA} {cu cg:Int} {x:jn} (h:kF s cu cg x=0):Bl s=0/\(jU s cu cg x).dead=false:=by
 have h0:Bl s=0:=by
  unfold kF at h;split at h
  ·rename_i h1;exact absurd h h1
  ·rename_i h1;exact Decidable.not_not.1 h1
 refine ⟨h0,?_⟩;obtain ⟨h1,h2⟩:=nQ h0;unfold jU;rw [if_neg (fun k=>k h0)];show (Ha s).dead=false;rw [h2];exact h1
structure vT where
 s : aA
 made:List (Int×Int)
 late:List ai
def ap:List (Int×Int)->Int->Int
 | [],_=>0
 | p::M,no=>if p.1=no then p.2 else ap M no
theorem zk {M:List (Int×Int)} {no n:Int} (h:ap M no=0) (hz:∀p∈M,p.2≠0) (k:Int):ap (M++[(no,n)]) k=if k=no then n else ap M k:=by
 induction M with
 | nil =>
  show (if no=k then n else 0)=_
  by_cases e:k=no
  ·rw[if_pos e.symm,if_pos e]
  ·rw[if_neg (fun x=>e x.symm),if_neg e];rfl
 | cons p M ih =>
  unfold ap at h;split at h
  ·exact absurd h (hz p (List.mem_cons_self ..))
  ·rename_i hp
   have ih:=ih h (fun q hq=>hz q (List.mem_cons_of_mem _ hq));show (if p.1=k then p.2 else ap (M++[(no,n)]) k)=if k=no then n else (if p.1=k then p.2 else ap M k)
   rw [ih]
   by_cases e:p.1=k
   ·rw[if_pos e,if_pos e,if_neg (fun x=>hp (e.trans x))]
   ·rw[if_neg e,if_neg e]
def xS (s:aA) (cu cg:Int) (m:ai) (no:Int):Int:=if m.kind=1 then 0 else if m.kind=2 then dR s (bf s.t cu cg no 2 4) else dR s (bf s.t 0 0 no 3 0)
def YX (s:aA) (cu cg:Int) (m:ai) (no:Int):List UInt8:=if m.kind=1 then [] else if m.kind=2 then nr s (aS s.t cu cg no 2 4).data else nr s (aS s.t 0 0 no 3 0).data
def zl (m:ai) (dir:Int) (nm x:List UInt8):jn:=if m.kind=1 then .bZ dir nm 448 else if m.kind=2 then .bB dir nm m.mode x else .symlink dir nm x
theorem MT {m:ai} {dir:Int} {nm x:List UInt8}:∀fr a aY b,zl m dir nm x≠.rename fr a aY b:=by
 intro fr a aY b;unfold zl;split
 ·exact fun e=>by cases e
 ·split<;>exact fun e=>by cases e
theorem zm {cu cg:Int} {s:aA} {m:ai} {dir:Int} {nm x:List UInt8} (h:kF s cu cg (zl m dir nm x)=0) :
  o_ s cu cg (zl m dir nm x)=s.t.last+1/\∃n:ai,n.ae=[]/\bL s.t cu cg s.now dir nm n=0/\(jU s cu cg (zl m dir nm x)).t=aX s.t cu cg s.now dir nm n:=by
 obtain ⟨h0,_⟩:=iQ h;have e1:fE s.t cu cg s.now (zl m dir nm x)=0:=by unfold kF at h;rw[if_neg (fun k=>k h0)]at h;exact h
 have e2:o_ s cu cg (zl m dir nm x)=jT s.t cu cg s.now (zl m dir nm x):=by unfold o_;rw[if_neg (fun k=>k h0)]
 have e3:(jU s cu cg (zl m dir nm x)).t=cF s.t cu cg s.now (zl m dir nm x):=by unfold jU;rw[if_neg (fun k=>k h0)]
 rw [e2,e3];have key:∀(p:Int) (n0:ai),n0.ae=[]->fQ p (bL s.t cu cg s.now dir nm n0)=0->ig p (dh s.t cu cg s.now dir nm n0)=s.t.last+1/\∃n:ai,n.ae=[]/\bL s.t cu cg s.now dir nm n=0/\dM p s.t (aX s.t cu cg s.now dir nm n0)=aX s.t cu cg s.now dir nm n:=by
  intro p n hn hp;have Tw:p=0:=by
   unfold fQ at hp;split at hp
   ·exact hp
   ·rename_i h;exact Decidable.not_not.1 h
  have hc:bL s.t cu cg s.now dir nm n=0:=by unfold fQ at hp;rw[if_neg (fun k=>k Tw)]at hp;exact hp
  exact ⟨by unfold ig dh;rw[if_neg (fun k=>k Tw),if_pos hc],n,hn,hc,by unfold dM;rw[if_neg (fun k=>k Tw)]⟩
 unfold zl at e1|-;split
 ·rename_i hk
  rw [if_pos hk]at e1;obtain ⟨g1,n,g2,g3,g4⟩:=key _ (dV 448 dir) rfl e1;exact⟨g1,n,g2,g3,g4⟩
 ·rename_i hk
  rw [if_neg hk]at e1;split
  ·rename_i hk2
   rw [if_pos hk2]at e1;obtain ⟨g1,n,g2,g3,g4⟩:=key _ (cx m.mode x) rfl e1;exact⟨g1,n,g2,g3,g4⟩
  ·rename_i hk2
   rw [if_neg hk2]at e1;obtain ⟨g1,n,g2,g3,g4⟩:=key _ (ep x) rfl e1;exact⟨g1,n,g2,g3,g4⟩
def fx (T:vT) (cu cg:Int) (x:aq) (dir:Int) (nm:List UInt8):jn:=zl (aa T.s.t.nodes x.no) dir nm (YX T.s cu cg (aa T.s.t.nodes x.no) x.no)
def jA (keep:Bool) (cu cg:Int) (T:vT) (x:aq) (dir:Int) (nm:List UInt8):vT×Int:=
 if dR T.s (cK T.s.t x.no)≠0 then (T,dR T.s (cK T.s.t x.no))
 else if ap T.made x.no≠0 then ({T with s:=jU T.s cu cg (.link (ap T.made x.no) dir nm)},kF T.s cu cg (.link (ap T.made x.no) dir nm))
 else if xS T.s cu cg (aa T.s.t.nodes x.no) x.no≠0 then (T,xS T.s cu cg (aa T.s.t.nodes x.no) x.no)
 else if kF T.s cu cg (fx T cu cg x dir nm)≠0 then ({T with s:=jU T.s cu cg (fx T cu cg x dir nm)},kF T.s cu cg (fx T cu cg x dir nm))
 else if (aa T.s.t.nodes x.no).kind=1 then (⟨jU T.s cu cg (fx T cu cg x dir nm),T.made++[(x.no,o_ T.s cu cg (fx T cu cg x dir nm))],T.late++[aa T.s.t.nodes x.no]⟩,0)
 else (⟨(eV cu cg (jU T.s cu cg (fx T cu cg x dir nm)) (lV keep cu cg (o_ T.s cu cg (fx T cu cg x dir nm)) (aa T.s.t.nodes x.no))).1,T.made++[(x.no,o_ T.s cu cg (fx T cu cg x dir nm))],T.late⟩,
  (eV cu cg (jU T.s cu cg (fx T cu cg x dir nm)) (lV keep cu cg (o_ T.s cu cg (fx T cu cg x dir nm)) (aa T.s.t.nodes x.no))).2)
theorem vu {c n:Nat} {keep:Bool} {cu cg:Int} {T:vT} (h:Pl c T.s) (hn:c+3*T.late.length<=n) (x:aq) (dir:Int) (nm:List UInt8):∃c',Pl c' (jA keep cu cg T x dir nm).1.s/\c'+3*(jA keep cu cg T x dir nm).1.late.length<=n+4:=by
 have h1:=h.lP cu cg (.link (ap T.made x.no) dir nm) (fun _ _ _ _ e=>by cases e);have h2:=h.lP cu cg (fx T cu cg x dir nm) MT;have h3:=h2.eV cu cg (lV keep cu cg (o_ T.s cu cg (fx T cu cg x dir nm)) (aa T.s.t.nodes x.no)) vr;have h4:=zj keep cu cg (o_ T.s cu cg (fx T cu cg x dir nm)) (aa T.s.t.nodes x.no);unfold jA;split
 ·exact⟨c,h,by show c+3*T.late.length<=_;omega⟩
 split
 ·exact⟨c+1,h1,by show c+1+3*T.late.length<=_;omega⟩
 split
 ·exact⟨c,h,by show c+3*T.late.length<=_;omega⟩
 split
 ·exact⟨c+1,h2,by show c+1+3*T.late.length<=_;omega⟩
 split
 ·exact⟨c+1,h2,by show c+1+3*(T.late++[_]).length<=_;rw[List.length_append,List.length_singleton];omega⟩
 ·exact⟨_,h3,by show _+3*T.late.length<=_;omega⟩
def Jd (keep:Bool) (cu cg:Int):vT->List aq->vT×Int
 | T,[]=>(T,0)
 | T,x::l=>if (jA keep cu cg T x (ap T.made x.dir) x.name).2≠0 then jA keep cu cg T x (ap T.made x.dir) x.name else Jd keep cu cg (jA keep cu cg T x (ap T.made x.dir) x.name).1 l
def vU (keep:Bool) (cu cg aY:Int) (b:List UInt8) (s:aA):List aq->vT×Int
 | []=>(⟨s,[],[]⟩,0)
 | x::l=>if (jA keep cu cg ⟨s,[],[]⟩ x aY b).2≠0 then jA keep cu cg ⟨s,[],[]⟩ x aY b else Jd keep cu cg (jA keep cu cg ⟨s,[],[]⟩ x aY b).1 l
def lW (keep:Bool) (cu cg:Int) (M:List (Int×Int)):aA->List ai->aA×Int
 | s,[]=>(s,0)
 | s,m::l=>if (eV cu cg s (lV keep cu cg (ap M m.no) m)).2≠0 then eV cu cg s (lV keep cu cg (ap M m.no) m) else lW keep cu cg M (eV cu cg s (lV keep cu cg (ap M m.no) m)).1 l
def jM (keep:Bool) (cu cg aY:Int) (b:List UInt8) (s:aA) (l:List aq) (e:Int):aA×Int:=
 if e≠0 then (s,e) else if (vU keep cu cg aY b s l).2≠0 then ((vU keep cu cg aY b s l).1.s,(vU keep cu cg aY b s l).2)
 else lW keep cu cg (vU keep cu cg aY b s l).1.made (vU keep cu cg aY b s l).1.s (vU keep cu cg aY b s l).1.late.reverse
theorem vv {cu cg:Int} {l:List jn}:∀{s:aA},l≠[]->(eV cu cg s l).2=0->(eV cu cg s l).1.dead=false:=by
 induction l with
 | nil=>intro s h _;exact absurd rfl h
 | cons x l ih =>
  intro s _ hr
  by_cases h:kF s cu cg x=0
  ·rw [qu h]at hr|-
   cases l with
   | nil=>exact (iQ h).2
   | cons y l=>exact ih (by simp) hr
  ·rw[nH h]at hr;exact absurd hr h
theorem MU {keep:Bool} {cu cg no:Int} {m:ai}:lV keep cu cg no m≠[]:=by unfold lV;simp
theorem qv {keep:Bool} {cu cg:Int} {T:vT} {c:Nat} (hp:Pl c T.s) (hz:∀p∈T.made,p.2≠0) {x:aq} {dir:Int} {nm:List UInt8} :
  (∀p∈(jA keep cu cg T x dir nm).1.made,p.2≠0)/\(jA keep cu cg T x dir nm).1.late.length<=T.late.length+1/\((jA keep cu cg T x dir nm).2=0->(jA keep cu cg T x dir nm).1.s.dead=false):=by
 unfold jA
 by_cases h1:dR T.s (cK T.s.t x.no)=0
 case neg=>rw[if_pos h1];exact⟨hz,Nat.le_succ _,fun k=>absurd k h1⟩
 rw [if_neg (fun k=>k h1)]
 by_cases h2:ap T.made x.no=0
 case neg=>rw[if_pos h2];exact⟨hz,Nat.le_succ _,fun k=>(iQ k).2⟩
 rw [if_neg (fun k=>k h2)]
 by_cases h3:xS T.s cu cg (aa T.s.t.nodes x.no) x.no=0
 case neg=>rw[if_pos h3];exact⟨hz,Nat.le_succ _,fun k=>absurd k h3⟩
 rw [if_neg (fun k=>k h3)]
 by_cases h4:kF T.s cu cg (fx T cu cg x dir nm)=0
 case neg=>rw[if_pos h4];exact⟨hz,Nat.le_succ _,fun k=>absurd k h4⟩
 rw [if_neg (fun k=>k h4)];have hn:o_ T.s cu cg (fx T cu cg x dir nm)≠0:=by
  have e:o_ T.s cu cg (fx T cu cg x dir nm)=T.s.t.last+1:=(zm h4).1;have:=hp.dL.eE.last;omega
 have hz':∀p∈T.made++[(x.no,o_ T.s cu cg (fx T cu cg x dir nm))],p.2≠0:=fun p hq=>by
  rcases List.mem_append.1 hq with hq|hq
  ·exact hz p hq
  ·rw[List.mem_singleton]at hq;subst hq;exact hn
 split
 ·exact⟨hz',by show (T.late++[_]).length<=_;rw[List.length_append];exact Nat.le_refl _,fun _=>(iQ h4).2⟩
 ·exact⟨hz',Nat.le_succ _,fun k=>vv MU k⟩
open Go.ChangeShapes Go.WideShapes Go.ChangeAt Go.RowKit
def ie (m:ai):List Value:=[.int .i64 m.no,.int .i64 m.dev,.int .i64 m.kind,.int .i64 m.mode,.int .i64 m.uid,.int .i64 m.gid,.int .i64 m.ah,.int .i64 m.data.length,.int .i64 m.mtime,.int .i64 m.ctime]
def zn:RowK ai:=⟨95,46,10,80,.agg #[.int .i64 0,.int .i64 0,.int .i64 0,.int .i64 0,.int .i64 0,.int .i64 0,.int .i64 0,.int .i64 0,.int .i64 0,.int .i64 0],ie,by decide,Tryz.underlying95,by kernel_rfl,rfl,fun _=>rfl,fun x u hu=>by
 unfold ie at hu;simp only[List.mem_cons,List.not_mem_nil,or_false]at hu;rcases hu with rfl|rfl|rfl|rfl|rfl|rfl|rfl|rfl|rfl|rfl<;>rfl,by decide⟩
def jY (es:List MapEntry) (M:List (Int×Int)):Prop:=
 es.length=M.length/\∀k,(h:k<M.length)->∃e,es[k]?=some e/\e.key=.int .i64 M[k].1/\e.val=.int .i64 M[k].2
theorem vA {M:List (Int×Int)} {x:Int} (h:∀p∈M,p.1≠x):ap M x=0:=by
 induction M with
 | nil=>rfl
 | cons p M ih =>
  unfold ap;rw [if_neg (h p (List.mem_cons_self ..))];exact ih fun q hq=>h q (List.mem_cons_of_mem _ hq)
theorem Ej {M:List (Int×Int)} {x:Int} (h:∃p∈M,p.1=x) (hz:∀p∈M,p.2≠0):ap M x≠0:=by
 induction M with
 | nil=>obtain⟨p,hp,_⟩:=h;cases hp
 | cons p M ih =>
  unfold ap;split
  ·exact hz p (List.mem_cons_self ..)
  ·rename_i hn
   obtain ⟨q,hq,e⟩:=h;rcases List.mem_cons.1 hq with rfl|hq
   ·exact absurd e hn
   ·exact ih ⟨q,hq,e⟩ fun y hy=>hz y (List.mem_cons_of_mem _ hy)
theorem kw (x:Int):∀(es:List MapEntry) (M:List (Int×Int)) (i:Nat),jY es M ->
  ((∀p∈M,p.1≠x)/\Instr.findNow (.int .i64) (.int .i64 x) es i=some none)\/((∃p∈M,p.1=x)/\∃k,Instr.findNow (.int .i64) (.int .i64 x) es i=some (some (k,.int .i64 (ap M x)))):=by
 intro es
 induction es with
 | nil =>
  intro M i h;obtain rfl:M=[]:=List.eq_nil_of_length_eq_zero h.1.symm;exact .inl ⟨fun p hp=>(by cases hp),rfl⟩
 | cons e es ih =>
  intro M i h
  cases M with
  | nil=>have:=h.1;simp at this
  | cons n M =>
   obtain ⟨e',h1,h2,h3⟩:=h.2 0 (by simp);simp at h1;subst h1;simp at h2 h3;have hs:Instr.sameNow (.int .i64) (.int .i64 x) e.key=some (x == n.1):=by rw[h2];simp[Instr.sameNow]
   by_cases hq:n.1=x
   ·right
    refine ⟨⟨n,List.mem_cons_self ..,hq⟩,i,?_⟩;unfold Instr.findNow;rw [hs];have hm:ap (n::M) x=n.2:=by unfold ap;rw[if_pos hq]
    rw [hm];simp [hq,h3]
   ·have hb:(x == n.1)=false:=by simpa using fun e:x=n.1=>hq e.symm
    have rS:Instr.findNow (.int .i64) (.int .i64 x) (e::es) i=Instr.findNow (.int .i64) (.int .i64 x) es (i+1):=by
     conv=>lhs;unfold Instr.findNow
     rw [hs,hb]
    have hm:ap (n::M) x=ap M x:=by conv=>{lhs;unfold ap};rw[if_neg hq]
    rw [rS,hm];rcases ih M (i+1) ⟨by have:=h.1;simpa using this,fun k hk=>by
     obtain ⟨y,hx1,hx2,hx3⟩:=h.2 (k+1) (by simpa using hk);exact ⟨y,by simpa using hx1,by simpa using hx2,by simpa using hx3⟩⟩ with⟨g1,g2⟩|⟨⟨p,hp,g1⟩,g2⟩
    ·exact .inl ⟨fun p hp=>(List.mem_cons.1 hp).elim (fun e=>e▸hq) (g1 p),g2⟩
    ·exact .inr ⟨⟨p,List.mem_cons_of_mem _ hp,g1⟩,g2⟩
theorem vB {w:World} {bM:Nat} {es:Array MapEntry} {clock:Nat} {M:List (Int×Int)} (hm:Has w bM (.map es clock)) (h:jY es.toList M) (x:Int) :
  (Instr.lookup 94 (.map (some bM)) (.int .i64 x) false).run Tryz.prog w=.ok (.int .i64 (ap M x)) w:=by
 have hk:∀r,Instr.findNow (.int .i64) (.int .i64 x) es.toList 0=some r->(Instr.findKey 3 (.int .i64 x) es.toList).run Tryz.prog w=.ok r w:=fun r hr=>by
  unfold Instr.findKey;rw [Sem.run_bind,run_underlying Tryz.underlying3];simp [hr]
 have hz:(zeroValue 3).run Tryz.prog w=.ok (.int .i64 0) w:=by kernel_rfl
 rcases kw x es.toList M 0 h with⟨g1,g2⟩|⟨_,k,g2⟩
 ·rw [vA g1]
  simp [Instr.lookup,run_underlying Tryz.underlying94,MapKept.run_getObj_map hm,cT,hk _ g2,hz]
 ·simp[Instr.lookup,run_underlying Tryz.underlying94,MapKept.run_getObj_map hm,cT,hk _ g2]
theorem run_make {w:World} {bM:Nat} {es:Array MapEntry} {clock:Nat} {M:List (Int×Int)} (hm:Has w bM (.map es clock)) (h:jY es.toList M) {x:Int} (h0:ap M x=0) (hz:∀p∈M,p.2≠0) (n:Int) :
  ∃ es' clock',(Instr.mapUpdate 94 (.map (some bM)) (.int .i64 x) (.int .i64 n)).run Tryz.prog w=.ok () (js w bM (.map es' clock'))/\jY es'.toList (M++[(x,n)]):=by
 have hk:∀r,Instr.findNow (.int .i64) (.int .i64 x) es.toList 0=some r->(Instr.findKey 3 (.int .i64 x) es.toList).run Tryz.prog w=.ok r w:=fun r hr=>by
  unfold Instr.findKey;rw [Sem.run_bind,run_underlying Tryz.underlying3];simp [hr]
 rcases kw x es.toList M 0 h with⟨g1,g2⟩|⟨g1,_⟩
 case inr=>exact absurd h0 (Ej g1 hz)
 refine ⟨es.push ⟨.int .i64 x,.int .i64 n,clock⟩,clock+1,?_,?_⟩
 ·simp[Instr.mapUpdate,run_underlying Tryz.underlying94,MapKept.run_getObj_map hm,cT,hk _ g2,MapKept.run_setObj_map _ hm,Result.andThen,js]
 ·have hl:es.size=M.length:=by simpa using h.1
  refine ⟨by simp;simpa using h.1,fun j hj=>?_⟩;rw [List.length_append,List.length_singleton]at hj;rw [Array.getElem?_toList,Array.getElem?_push,hl]
  by_cases ej:j=M.length
  ·subst ej
   refine ⟨_,by rw[if_pos rfl],?_⟩;rw [List.getElem_append_right (Nat.le_refl _)];simp only[Nat.sub_self,List.getElem_singleton];exact ⟨trivial,trivial⟩
  ·obtain ⟨e',h1,h2,h3⟩:=h.2 j (by omega)
   rw [Array.getElem?_toList]at h1;refine ⟨e',by rw[if_neg ej];exact h1,?_⟩;rw [List.getElem_append_left (by omega)];exact ⟨h2,h3⟩
def Qv (w:World) (B b:Nat) (g:bQ) (s':aA) (x:Int) (e:Ending) (w':World):Prop:=e=.returned (.int .i64 x)/\PS w' B b g s'/\Only (b::g.list) w w'
def UE (w:World) (bt b:Nat) (cu cg:Int) (keep:Bool) (bM:Nat) (v:Value):Prop:=Has w bt (.cells #[.pointer (some ⟨b,0,none⟩),cu,cg,.bool keep,.map (some bM),v] 97)
theorem PS.UF {w:World} {B b bt bM:Nat} {g:bQ} {s:aA} {cu cg:Int} {keep:Bool} {v:Value} (h:PS w B b g s) (hT:UE w bt b cu cg keep bM v):bt∉b::g.list:=by
 obtain ⟨A,cap,h1,h2,_⟩:=h;intro hm;rcases List.mem_cons.1 hm with rfl|hm
 ·unfold UE Has at hT
  unfold eQ Has at h2;rw [hT]at h2;cases h2
 ·exact h1.iG hT (by decide) (by decide) (by decide) hm
theorem PS.Fz {c:Nat} {w:World} {B b:Nat} {g:bQ} {s:aA} (h:PS w B b g s) (hp:Pl c s) (hc:c+3<=900) (hd:s.dead=false) {bt bM:Nat} {cu cg:Int} {keep:Bool} {v:Value} (hT:UE w bt b cu cg keep bM v) (no:Int) (m:ai) :
  Calls Tryz.prog 32 #[.pointer (some ⟨bt,0,none⟩),.int .i64 no,gD m] w (Qv w B b g (eV cu cg s (lV keep cu cg no m)).1 (eV cu cg s (lV keep cu cg no m)).2):=by
 obtain ⟨W0,bg⟩:∃W,W=w.alloc (.cells #[m.no,m.dev,m.kind,m.mode,m.uid,m.gid,m.ah,.int .i64 m.data.length,m.mtime,m.ctime] 46):=⟨_,rfl⟩;obtain ⟨b5,jP⟩:∃b,b=w.heap.size:=⟨_,rfl⟩;have E0:Ext w W0:=by rw[bg];exact (Ext.refl _).alloc _
 have X0:Has W0 b5 (.cells #[m.no,m.dev,m.kind,m.mode,m.uid,m.gid,m.ah,.int .i64 m.data.length,m.mtime,m.ctime] 46):=by rw[bg,jP];exact Has.new _ _
 have hnT:=h.UF hT;have hn5:b5∉b::g.list:=fun hm=>by have:=h.lt _ hm;omega
 have P0:=h.ext E0;have T0:UE W0 bt b cu cg keep bM v:=Has.ext hT E0;obtain⟨R,hR⟩:=ar (eV cu cg s (lV keep cu cg no m));obtain⟨C,hC⟩:=ar (decide (keep=true/\cu=0/\(m.uid≠cu\/m.gid≠cg)));have hCt:C=true->Qu keep cu cg no m=[.cU no m.uid m.gid]:=fun e=>by unfold Qu;rw[if_pos (of_decide_eq_true (hC.symm.trans e))]
 have hCf:C=false->Qu keep cu cg no m=[]:=fun e=>by unfold Qu;rw[if_neg (of_decide_eq_false (hC.symm.trans e))]
 have RW:=zH hCt;have UG:=zH hCf;have HR:=zH hR;rw [<-hR];have RX:=zH P0;have RY:=zH T0;have se:=zH X0;have jm:=zH E0;have HP:=zH hp;have HD:=zH hd;have MW:=zH hnT;have Qw:=zH hn5;have t1:=Has.cell T0 1;have t2:=Has.cell T0 2;have t3:=Has.cell T0 3;have tz:=Has.lt T0;have x4:=X0.cell 4;have x5:=X0.cell 5;have xz:=X0.lt;simp only[gA,gB,gC]at t1 t2 t3 x4 x5;unfold gD;clear h hp hd hT hnT hn5 P0 T0 X0 E0 hR hCt hCf;go_enter Tryz.func32,Tryz.ntmps32;go_upto_region 1 with fail;rw [<-bg,<-jP];clear bg jP;go_cut [40] (fun t wc=>t=.bool C/\Ext W0 wc)
 case first =>
  cases keep with
  | false =>
   have Qx:C=false:=by rw[hC];simp
   clear hC HR HP HD RW UG se RY MW Qw RX jm;go_quiet (fail);go_wp2_with fail;go_meet;exact ⟨by rw[Qx],(Ext.refl _).drewN nq⟩
  | true =>
   by_cases k2:cu=0
   case neg =>
    have h2:(cu == 0)=false:=by simpa using k2
    have Qx:C=false:=by rw[hC];simp[k2]
    clear hC HR HP HD RW UG se RY MW Qw RX jm k2;go_quiet (fail);go_wp2_with fail;go_meet;exact ⟨by rw[Qx],(Ext.refl _).drewN nq⟩
   have h2:(cu == 0)=true:=by simpa using k2
   by_cases k3:m.uid=cu
   case neg =>
    have h3:(m.uid != cu)=true:=by simpa using k3
    have Qx:C=true:=by rw[hC];simp only[decide_eq_true_eq];exact⟨trivial,k2,.inl k3⟩
    clear hC HR HP HD RW UG se RY MW Qw RX jm k2 k3;go_quiet (fail);go_wp2_with fail;go_meet;exact ⟨by rw[Qx],(Ext.refl _).drewN nq⟩
   have h3:(m.uid != cu)=false:=by simpa using k3
   by_cases k4:m.gid=cg
   case neg =>
    have h4:(m.gid != cg)=true:=by simpa using k4
    have Qx:C=true:=by rw[hC];simp only[decide_eq_true_eq];exact⟨trivial,k2,.inr k4⟩
    clear hC HR HP HD RW UG se RY MW Qw RX jm k2 k3 k4;go_quiet (fail);go_wp2_with fail;go_meet;exact ⟨by rw[Qx],(Ext.refl _).drewN nq⟩
   have h4:(m.gid != cg)=false:=by simpa using k4
   have Qx:C=false:=by rw[hC];simp only[decide_eq_false_iff_not];rintro⟨_,_,h|h⟩;exact h k3;exact h k4
   clear hC HR HP HD RW UG se RY MW Qw RX jm k2 k3 k4;go_quiet (fail);go_wp2_with fail;go_meet;exact ⟨by rw[Qx],(Ext.refl _).drewN nq⟩
 case rest =>
 obtain ⟨rfl,E1⟩:=hcut;clear hC t1 t2 t3 tz x4 x5 xz;obtain⟨w1,Xh⟩:=ar wc;rw [<-Xh]at E1|-;have BL:=zH E1;clear Xh;go_upto_if 40 with fail;go_cut [] (fun wd=>∃s1,PS wd B b g s1/\Pl (c+1) s1/\s1.dead=false/\R=eV cu cg s1 (Fy no m++[.dp no m.mtime])/\Only (b::g.list) W0 wd)
 case first =>
  cases C with
  | false =>
   go_wp2_with fail;go_meet;exact ⟨s,RX.out.ext BL.out,HP.out.mono (by omega),HD.out,by rw[HR.out];unfold lV;rw[UG.out (by first|rfl|trivial)];rfl,Only.aw BL.out⟩
  | true =>
   have K:Hid (∀u,Ext w1 u->Calls Tryz.prog 47 #[.pointer (some ⟨b,0,none⟩),.agg #[cu,cg],.int .i64 no,m.uid,m.gid] u (Lk u B b g s cu cg (.cU no m.uid m.gid))):=by
    show ∀_,_;intro u hu;exact (RX.out.ext (BL.out.trans hu)).cU HP.out.jj (by omega) HD.out cu cg no m.uid m.gid
   obtain ⟨e1,qB⟩:∃e,e=kF s cu cg (.cU no m.uid m.gid):=⟨_,rfl⟩;obtain ⟨s1,hs1⟩:∃e,e=jU s cu cg (.cU no m.uid m.gid):=⟨_,rfl⟩;unfold Lk at K;rw [<-qB,<-hs1]at K;have HE:=zH qB;have HS:=zH hs1;have T1:=Has.ext RY.out E1;have X1:=se.out.ext E1;have t0:=Has.cell T1 0;have t1:=Has.cell T1 1;have t2:=Has.cell T1 2;have tz:=Has.lt T1;have x4:=X1.cell 4;have x5:=X1.cell 5;have xz:=X1.lt;simp only[gA,gB,gC]at t0 t1 t2 x4 x5;clear qB hs1 T1 X1;go_upto_region 2 with fail;go_still_tail 13,(by kernel_rfl);change wpList _ _ _ _ _ w1.drew;go_wp2_with fail;have ED:Ext w1 w1.drew:=(Ext.refl _).drew;refine (K.out _ ED).mono ?_;rintro e w2 ⟨rfl,P2,O2⟩;have O2:=(Only.aw (L:=b::g.list) ED).then O2;have xO:=zH P2;have v_:=zH O2;clear t0 t1 t2 tz x4 x5 xz K P2 O2
   by_cases k:e1=0
   ·have hk:(e1 != 0)=false:=by simpa using k
    have H1:=zH k;clear k;go_wp2_with fail;go_meet;have he:kF s cu cg (.cU no m.uid m.gid)=0:=by rw[<-HE.out];exact H1.out
    refine ⟨s1,xO.out,?_,?_,?_,(Only.aw BL.out).then v_.out⟩
    ·rw[HS.out];exact HP.out.lP cu cg _ (fun _ _ _ _ e=>by cases e)
    ·rw[HS.out];exact (iQ he).2
    ·rw[HR.out,HS.out];unfold lV;rw[RW.out (by first|rfl|trivial)];exact qu he
   ·have hk:(e1 != 0)=true:=by simpa using k
    have H1:=zH k;clear k;go_wp2_with fail;go_ret;have he:R=(s1,e1):=by rw[HR.out,HS.out,HE.out];unfold lV;rw[RW.out (by first|rfl|trivial)];exact nH (by rw[<-HE.out];exact H1.out)
    rw [he];exact ⟨rfl,xO.out,Only.pre jm.out ((Only.aw BL.out).then v_.out)⟩
 case rest =>
 obtain ⟨s1,P1,p1,d1,r1,O1⟩:=hcut;obtain ⟨w2,Ri⟩:∃w1,w1=wc:=⟨_,rfl⟩;rw [<-Ri]at P1 O1|-;clear Ri HR HP HD RW UG RX E1 BL;have Cx:=zH P1;have Hp1:=zH p1;have Hd1:=zH d1;have HR:=zH r1;have HO1:=zH O1;have T2:=O1.has RY.out MW.out;have X2:=O1.has se.out Qw.out;have RZ:=zH T2;have wE:=zH X2;have x2:=X2.cell 2;have xz:=X2.lt;simp only[gA,gB,gC]at x2;clear P1 p1 d1 r1 O1 T2 X2 RY se;go_upto_if 60 with fail;clear x2 xz;go_cut [] (fun wd=>∃s1,PS wd B b g s1/\Pl (c+2) s1/\s1.dead=false/\R=eV cu cg s1 [.dp no m.mtime]/\Only (b::g.list) w2 wd)
 case first =>
  by_cases kk:m.kind=1
  case neg =>
   have hk:(m.kind == 1)=false:=by simpa using kk
   have H1:=zH kk;clear kk;go_wp2_with fail;go_meet;exact ⟨s1,Cx.out,Hp1.out.mono (by omega),Hd1.out,by rw[HR.out];unfold Fy;rw[if_neg H1.out];rfl,Only.aw (Ext.refl _)⟩
  case pos =>
   have hk:(m.kind == 1)=true:=by simpa using kk
   have HK:=zH kk;have K:Hid (∀u,Ext w2 u->Calls Tryz.prog 48 #[.pointer (some ⟨b,0,none⟩),.agg #[cu,cg],.int .i64 no,m.mode] u (Lk u B b g s1 cu cg (.dn no m.mode))):=by
    show ∀_,_;intro u hu;exact (Cx.out.ext hu).dn Hp1.out.jj (by omega) Hd1.out cu cg no m.mode
   obtain ⟨e1,qB⟩:∃e,e=kF s1 cu cg (.dn no m.mode):=⟨_,rfl⟩;obtain ⟨s2,hs2⟩:∃e,e=jU s1 cu cg (.dn no m.mode):=⟨_,rfl⟩;unfold Lk at K;rw [<-qB,<-hs2]at K;have HE:=zH qB;have HS:=zH hs2;have t0:=Has.cell RZ.out 0;have t1:=Has.cell RZ.out 1;have t2:=Has.cell RZ.out 2;have tz:=Has.lt RZ.out;have x3:=wE.out.cell 3;have xz:=wE.out.lt;simp only[gA,gB,gC]at t0 t1 t2 x3;clear qB hs2 kk;go_upto_region 6 with fail;go_still_tail 11,(by kernel_rfl);change wpList _ _ _ _ _ w2.drew;go_wp2_with fail;have ED:Ext w2 w2.drew:=(Ext.refl _).drew;refine (K.out _ ED).mono ?_;rintro e w3 ⟨rfl,P2,O2⟩;have O2:=(Only.aw (L:=b::g.list) ED).then O2;have xO:=zH P2;have v_:=zH O2;clear t0 t1 t2 tz x3 xz K P2 O2
   by_cases k:e1=0
   ·have hk:(e1 != 0)=false:=by simpa using k
    have H1:=zH k;clear k;go_wp2_with fail;go_meet;have he:kF s1 cu cg (.dn no m.mode)=0:=by rw[<-HE.out];exact H1.out
    refine ⟨s2,xO.out,?_,?_,?_,v_.out⟩
    ·rw[HS.out];exact Hp1.out.lP cu cg _ (fun _ _ _ _ e=>by cases e)
    ·rw[HS.out];exact (iQ he).2
    ·rw[HR.out,HS.out];unfold Fy;rw[if_pos HK.out];exact qu he
   ·have hk:(e1 != 0)=true:=by simpa using k
    have H1:=zH k;clear k;go_wp2_with fail;go_ret;have he:R=(s2,e1):=by rw[HR.out,HS.out,HE.out];unfold Fy;rw[if_pos HK.out];exact nH (by rw[<-HE.out];exact H1.out)
    rw [he];exact ⟨rfl,xO.out,Only.pre jm.out (HO1.out.then v_.out)⟩
 case rest =>
 obtain ⟨s2,P2,p2,d2,r2,O2⟩:=hcut;obtain ⟨w3,SH⟩:∃w1,w1=wc:=⟨_,rfl⟩;rw [<-SH]at P2 O2|-;have T3:=O2.has RZ.out MW.out;have X3:=O2.has wE.out Qw.out;have t0:=Has.cell T3 0;have t1:=Has.cell T3 1;have t2:=Has.cell T3 2;have tz:=Has.lt T3;have x8:=X3.cell 8;have xz:=X3.lt;simp only[gA,gB,gC]at t0 t1 t2 x8;have K:Hid (∀u,Ext w3 u->Calls Tryz.prog 49 #[.pointer (some ⟨b,0,none⟩),.agg #[cu,cg],.int .i64 no,m.mtime] u (Qv u B b g R.1 R.2)):=by
  show ∀_,_;intro u hu;rw [r2,MS];exact (P2.ext hu).dp p2.jj (by omega) d2 cu cg no m.mtime
 have HO:=zH ((HO1.out).then O2);clear SH P2 p2 d2 r2 O2 T3 X3 HR Cx Hp1 Hd1 RZ wE HO1;go_upto_region 9 with fail;go_still_tail 11,(by kernel_rfl);change wpList _ _ _ _ _ w3.drew;go_wp2_with fail;have ED:Ext w3 w3.drew:=(Ext.refl _).drew;refine (K.out _ ED).mono ?_;rintro e w4 ⟨rfl,P4,O4⟩;have O4:=(Only.aw (L:=b::g.list) ED).then O4;go_wp2_with fail;go_ret;exact ⟨rfl,P4,Only.pre jm.out (HO.out.then O4)⟩
theorem vC {id:Nat} {Q:Exit->Act->World->Prop} {a:Act} {w:World} {l:List Oper} (V:World) (m s:Nat) (d t:Tmp) (n:ai) (om os:Oper)
  (hB:Region.lexB .any l.toArray=true) (hc:JR l m s d t=true) (ES:l[m]?=some om) (rU:l[s]?=some os) (Jw:om.op=.alloc 46) (mL:os.op=.store 46 (.tmp d) (.tmp t)) (SD:d<a.tmps.size)
  (hV:Ext V w.drew) :
  bq Tryz.prog l.toArray V (fun a1=>bq Tryz.prog l.toArray V (fun a2=>a2.eval (.tmp t)=gD n/\bq Tryz.prog l.toArray V (fun a3=>∀w' bx,Ext V w'->V.heap.size<=bx->Has w' bx (.cells (ie n).toArray 46)->Q .normal (a3.put (some d) (.pointer (some ⟨bx,0,none⟩))) w') (l.drop (s+1)) a2) ((l.take s).drop (m+1)) a1) (l.take m) a ->
  (Code.region id l.toArray true).wp Tryz.prog Q a w:=by
 refine lq V m s d t (gD n) (.cells (ie ag).toArray 46) _ om os (by kernel_rfl) hB hc ES rU ?_ ?_ hV SD
 ·intro a w
  simp [execOp,Jw,go_sem];rfl
 ·intro a w bx hsz hb he
  have hd:(a.put (some d) (.pointer (some ⟨bx,0,none⟩))).eval (.tmp d)=.pointer (some ⟨bx,0,none⟩):=by
   simp [Act.put,Act.eval,hsz]
  have hb':Has w bx (.cells (ie ag).toArray 46):=hb;refine ⟨_,?_,Has.Fg hb' n,cO (Bg n) 0 w⟩;have hst:=run_storeAt_mid (P:=Tryz.prog) w bx 0 46 (ie n).toArray hb'.there o7 (Bh n);unfold ie at hst;simp only[execOp,mL,hd,he,gD,hst,Sem.run_bind,Sem.run_pure,Result.andThen_ok];rfl
def kA (w:World) (B b:Nat) (g:bQ) (N bt bM:Nat) (cu cg:Int) (keep:Bool) (v:Value) (T:vT):Prop:=
 PS w B b g T.s/\UE w bt b cu cg keep bM v/\bJ zn w N v T.late/\(∃es cl,Has w bM (.map es cl)/\jY es.toList T.made)/\B<=N/\N<=bt/\N<=bM/\∀x∈b::g.list,x<N
def zo (b:Nat) (g:bQ) (bt bM:Nat) (v:Value):List Nat:=b::(g.list++bt::bM::v.ownBlock.toList)
def pn (w:World) (B b:Nat) (g:bQ) (N bt bM:Nat) (cu cg:Int) (keep:Bool) (v:Value) (T:vT) (E:Int) (e:Ending) (w':World):Prop:=
 e = .returned (.int .i64 E)/\∃v',kA w' B b g N bt bM cu cg keep v' T/\Only (zo b g bt bM v) w w'/\∀x,v'.ownBlock=some x->v.ownBlock=some x\/w.heap.size<=x
attribute [local irreducible] gv
attribute [local go_sem] fh
section
variable {w:World} {B b:Nat} {g:bQ} {N bt bM:Nat} {cu cg:Int} {keep:Bool} {v:Value} {T:vT}
theorem kA.tm (h:kA w B b g N bt bM cu cg keep v T):bt≠bM:=by
 obtain ⟨_,h2,_,⟨es,cl,h4,_⟩,_⟩:=h;exact fJ h2 h4
theorem kA.own (h:kA w B b g N bt bM cu cg keep v T):∀x,v.ownBlock=some x->N<=x/\x<w.heap.size/\x≠bt/\x≠bM:=by
 obtain ⟨_,h2,h3,⟨es,cl,h4,_⟩,_⟩:=h;intro x hx;obtain ⟨a1,a2⟩:=h3.lt hx;exact ⟨a1,a2,fun e=>eH h3 h2 (by decide) (by rw[hx,e]),fun e=>kr h3 h4 (by rw[hx,e])⟩
theorem kA.ext {w':World} (h:kA w B b g N bt bM cu cg keep v T) (k:Ext w w'):kA w' B b g N bt bM cu cg keep v T:=by
 obtain ⟨h1,h2,h3,⟨es,cl,h4,h5⟩,h6⟩:=h;exact ⟨h1.ext k,Has.ext h2 k,h3.ext k,⟨es,cl,Has.ext h4 k,h5⟩,h6⟩
theorem kA.fs {w':World} {s:aA} (h:kA w B b g N bt bM cu cg keep v T) (o:Only (b::g.list) w w') (k:PS w' B b g s):kA w' B b g N bt bM cu cg keep v {T with s:=s}:=by
 have ho:=h.own;obtain ⟨h1,h2,h3,⟨es,cl,h4,h5⟩,h6,h7,h8,h9⟩:=h;have nb:∀x,N<=x->x∉b::g.list:=fun x hx hm=>by have:=h9 x hm;omega
 exact ⟨k,o.has h2 (nb _ h7),h3.only o (fun x hx=>nb _ (ho x hx).1),⟨es,cl,o.has h4 (nb _ h8),h5⟩,h6,h7,h8,h9⟩
theorem tr {w':World} (o:Only (b::g.list) w w'):Only (zo b g bt bM v) w w':=o.mono fun x hx=>by
 unfold zo;rcases List.mem_cons.1 hx with rfl|hx
 ·exact List.mem_cons_self ..
 ·exact List.mem_cons_of_mem _ (List.mem_append_left _ hx)
theorem pn.ext {w':World} {E:Int} (h:kA w B b g N bt bM cu cg keep v T) (k:Ext w w'):pn w B b g N bt bM cu cg keep v T E (.returned (.int .i64 E)) w':=⟨rfl,v,h.ext k,Only.aw k,fun _ hx=>.inl hx⟩
theorem pn.fs {w':World} {s:aA} {E:Int} (h:kA w B b g N bt bM cu cg keep v T) (o:Only (b::g.list) w w') (k:PS w' B b g s):pn w B b g N bt bM cu cg keep v {T with s:=s} E (.returned (.int .i64 E)) w':=⟨rfl,v,h.fs o k,tr o,fun _ hx=>.inl hx⟩
theorem pn.pre {W:World} {E:Int} {e:Ending} {w':World} {T':vT} (k:Ext w W) (h:pn W B b g N bt bM cu cg keep v T' E e w'):pn w B b g N bt bM cu cg keep v T' E e w':=by
 obtain ⟨h1,v',h2,h3,h4⟩:=h;exact ⟨h1,v',h2,Only.pre k h3,fun x hx=>(h4 x hx).imp id fun a=>by have:=k.size;omega⟩
theorem kA.YY {w':World} {es':Array MapEntry} {Ct:Nat} {M':List (Int×Int)} (h:kA w B b g N bt bM cu cg keep v T) (o:Only [bM] w w') (hM:Has w' bM (.map es' Ct)) (hI:jY es'.toList M'):kA w' B b g N bt bM cu cg keep v {T with made:=M'}:=by
 have ho:=h.own;have ht:=h.tm;obtain ⟨h1,h2,h3,⟨es,cl,h4,_⟩,h6,h7,h8,h9⟩:=h;have m1:∀y∈[bM],y=bM:=fun y hy=>by simpa using hy
 refine ⟨h1.only o (fun y hy=>?_) (fun y hy hm=>by have:=m1 _ hm;have:=h9 _ hy;omega),o.has h2 (fun hm=>ht (m1 _ hm)),h3.only o (fun x hx hm=>(ho x hx).2.2.2 (m1 _ hm)),⟨es',Ct,hM,hI⟩,h6,h7,h8,h9⟩;have:=m1 _ hy;subst this;unfold Has at h4;refine ⟨by omega,?_,?_⟩<;>rintro⟨cs,fr,e⟩<;>rw[h4]at e<;>cases e
theorem kA.YZ {w5:World} {m:ai} {A:Option Addr} {cap gg BW:Nat} (h:kA w B b g N bt bM cu cg keep (.slice A T.late.length cap) T) (o5:Only (Value.slice A T.late.length cap).ownBlock.toList w w5)
  (hown:w5.ownsRow N 46 10 (.slice (some ⟨gg,0,none⟩) (T.late.length+1) BW) (T.late.length+1) (zn.cells T.late++ie m)) :
  kA (w5.setCell ⟨bt,5,none⟩ (.slice (some ⟨gg,0,none⟩) (T.late.length+1) BW)) B b g N bt bM cu cg keep (.slice (some ⟨gg,0,none⟩) (T.late.length+1) BW) {T with late:=T.late++[m]} /\
   Only (bt::(Value.slice A T.late.length cap).ownBlock.toList) w (w5.setCell ⟨bt,5,none⟩ (.slice (some ⟨gg,0,none⟩) (T.late.length+1) BW)):=by
 have ho:=h.own;have ht:=h.tm;have hnT:=h.1.UF h.2.1;obtain ⟨h1,h2,h3,⟨es,cl,h4,h5⟩,h6,h7,h8,h9⟩:=h;have mo:∀y∈(Value.slice A T.late.length cap).ownBlock.toList,N<=y/\y<w.heap.size/\y≠bt/\y≠bM:=fun y hy=>ho y (Option.mem_toList.1 hy)
 have T5:=o5.has h2 (fun hm=>(mo _ hm).2.2.1 rfl);have o6:Only (bt::(Value.slice A T.late.length cap).ownBlock.toList) w (w5.setCell ⟨bt,5,none⟩ (.slice (some ⟨gg,0,none⟩) (T.late.length+1) BW)):=(o5.mono (fun y hy=>List.mem_cons_of_mem _ hy)).then ((Only.setCell w5 bt 5 _).mono (fun y hy=>by rw[List.mem_singleton]at hy;subst hy;exact List.mem_cons_self ..));have hgb:gg≠bt:=fun e=>eH hown T5 (by decide) (by rw[e];rfl)
 have hf:=h3.cV h6 (by decide) (by decide);refine ⟨⟨h1.only o6 (fun y hy=>?_) (fun y hy hm=>?_),Has.setCell T5 5 _,?_,⟨es,cl,o6.has h4 (fun hm=>?_),h5⟩,h6,h7,h8,h9⟩,o6⟩
 ·rcases List.mem_cons.1 hy with rfl|hy
  ·unfold UE Has at h2
   refine ⟨by omega,?_,?_⟩<;>rintro⟨cs,fr,e⟩<;>rw[h2]at e<;>cases e
  ·exact hf y hy
 ·rcases List.mem_cons.1 hm with rfl|hm
  ·exact hnT hy
  ·have:=(mo _ hm).1;have:=h9 _ hy;omega
 ·have:=av hown (Only.setCell w5 bt 5 (.slice (some ⟨gg,0,none⟩) (T.late.length+1) BW)) (fun x hx=>by simp[Value.ownBlock]at hx;subst hx;simpa using hgb)
  show World.ownsRow _ _ _ _ _ (T.late++[m]).length (zn.cells (T.late++[m]));rw [List.length_append,zn.gP];have e:zn.cells [m]=ie m:=by unfold RowK.cells;simp;rfl
  rw [e];exact this
 ·rcases List.mem_cons.1 hm with hm|hm
  ·exact ht hm.symm
  ·exact (mo _ hm).2.2.2 rfl
theorem MX {x:aq} {dir:Int} {nm:List UInt8} (h:dR T.s (cK T.s.t x.no)≠0):jA keep cu cg T x dir nm=(T,dR T.s (cK T.s.t x.no)):=by unfold jA;rw[if_pos h]
theorem MY {x:aq} {dir:Int} {nm:List UInt8} (h:dR T.s (cK T.s.t x.no)=0) (h2:ap T.made x.no≠0):jA keep cu cg T x dir nm=({T with s:=jU T.s cu cg (.link (ap T.made x.no) dir nm)},kF T.s cu cg (.link (ap T.made x.no) dir nm)):=by
 unfold jA;rw[if_neg (fun k=>k h),if_pos h2]
theorem MZ {x:aq} {dir:Int} {nm:List UInt8} (h:dR T.s (cK T.s.t x.no)=0) (h2:ap T.made x.no=0) (h3:xS T.s cu cg (aa T.s.t.nodes x.no) x.no≠0):jA keep cu cg T x dir nm=(T,xS T.s cu cg (aa T.s.t.nodes x.no) x.no):=by
 unfold jA;rw[if_neg (fun k=>k h),if_neg (fun k=>k h2),if_pos h3]
theorem Qy {x:aq} {dir:Int} {nm:List UInt8} (h:dR T.s (cK T.s.t x.no)=0) (h2:ap T.made x.no=0) (h3:xS T.s cu cg (aa T.s.t.nodes x.no) x.no=0) (h4:kF T.s cu cg (fx T cu cg x dir nm)≠0) :
  jA keep cu cg T x dir nm=({T with s:=jU T.s cu cg (fx T cu cg x dir nm)},kF T.s cu cg (fx T cu cg x dir nm)):=by
 unfold jA;rw[if_neg (fun k=>k h),if_neg (fun k=>k h2),if_neg (fun k=>k h3),if_pos h4]
theorem Qz {x:aq} {dir:Int} {nm:List UInt8} (h:dR T.s (cK T.s.t x.no)=0) (h2:ap T.made x.no=0) (h3:xS T.s cu cg (aa T.s.t.nodes x.no) x.no=0) (h4:kF T.s cu cg (fx T cu cg x dir nm)=0) (h5:(aa T.s.t.nodes x.no).kind=1) :
  jA keep cu cg T x dir nm=(⟨jU T.s cu cg (fx T cu cg x dir nm),T.made++[(x.no,o_ T.s cu cg (fx T cu cg x dir nm))],T.late++[aa T.s.t.nodes x.no]⟩,0):=by
 unfold jA;rw[if_neg (fun k=>k h),if_neg (fun k=>k h2),if_neg (fun k=>k h3),if_neg (fun k=>k h4),if_pos h5]
theorem M0 {x:aq} {dir:Int} {nm:List UInt8} (h:dR T.s (cK T.s.t x.no)=0) (h2:ap T.made x.no=0) (h3:xS T.s cu cg (aa T.s.t.nodes x.no) x.no=0) (h4:kF T.s cu cg (fx T cu cg x dir nm)=0) (h5:¬(aa T.s.t.nodes x.no).kind=1) :
  jA keep cu cg T x dir nm=(⟨(eV cu cg (jU T.s cu cg (fx T cu cg x dir nm)) (lV keep cu cg (o_ T.s cu cg (fx T cu cg x dir nm)) (aa T.s.t.nodes x.no))).1,T.made++[(x.no,o_ T.s cu cg (fx T cu cg x dir nm))],T.late⟩,
   (eV cu cg (jU T.s cu cg (fx T cu cg x dir nm)) (lV keep cu cg (o_ T.s cu cg (fx T cu cg x dir nm)) (aa T.s.t.nodes x.no))).2):=by
 unfold jA;rw[if_neg (fun k=>k h),if_neg (fun k=>k h2),if_neg (fun k=>k h3),if_neg (fun k=>k h4),if_neg h5]
theorem QA {c:Nat} {S:ac} (h:dI c S) (no:Int):(aa S.nodes no).data.length<=1048576:=by
 cases hi:aQ S.nodes no
 ·rw[(aV hi).1];exact Nat.zero_le _
 ·exact (h.on _ (aj hi).2.2).2
theorem Ca {c:Nat} {s:aA} (h:dI c s.t) (cu cg no k w:Int):(nr s (aS s.t cu cg no k w).data).length<=1000000000:=by
 unfold nr aS;split
 ·exact Nat.zero_le _
 ·split
  ·exact Nat.le_trans (QA h no) (by decide)
  ·exact Nat.zero_le _
def FA (V:World) (B b:Nat) (g:bQ) (s1:aA):Nat->World->Prop:=ph2 (fun w'=>Ext V w') (fun w'=>PS w' B b g s1/\Only (b::g.list) V w') (fun w'=>PS w' B b g s1/\Only (b::g.list) V w')
theorem nZ {V:World} {s1:aA} {x:Nat} {cs:Array Value} {t:TypeId} (h:Has V x (.cells cs t)) (hn:x∉b::g.list):∀u:Hp (FA V B b g s1),Has u.w x (.cells cs t):=
 Pv (T:=fun w'=>Has w' x (.cells cs t)) (fun _ k=>Has.ext h k) (fun _ k=>k.2.has h hn) (fun _ k=>k.2.has h hn)
def Y1 (T:vT) (cu cg:Int) (keep:Bool) (x:aq) (m:ai) (R:vT×Int) (n e:Int) (s1:aA):Prop:=
 (e≠0->R=({T with s:=s1},e))/\(e=0->s1.dead=false/\n≠0/\(m.kind=1->R=(⟨s1,T.made++[(x.no,n)],T.late++[m]⟩,0))/\(¬m.kind=1->R=(⟨(eV cu cg s1 (lV keep cu cg n m)).1,T.made++[(x.no,n)],T.late⟩,(eV cu cg s1 (lV keep cu cg n m)).2)))
theorem Cb {x:aq} {dir:Int} {nm:List UInt8} {n:Int} (h:dR T.s (cK T.s.t x.no)=0) (h2:ap T.made x.no=0) (h3:xS T.s cu cg (aa T.s.t.nodes x.no) x.no≠0) :
  Y1 T cu cg keep x (aa T.s.t.nodes x.no) (jA keep cu cg T x dir nm) n (xS T.s cu cg (aa T.s.t.nodes x.no) x.no) T.s:=⟨fun _=>MZ h h2 h3,fun k=>absurd k h3⟩
theorem vE {c:Nat} (hp:Pl c T.s) {x:aq} {dir:Int} {nm:List UInt8} (h:dR T.s (cK T.s.t x.no)=0) (h2:ap T.made x.no=0) (h3:xS T.s cu cg (aa T.s.t.nodes x.no) x.no=0) :
  Y1 T cu cg keep x (aa T.s.t.nodes x.no) (jA keep cu cg T x dir nm) (o_ T.s cu cg (fx T cu cg x dir nm)) (kF T.s cu cg (fx T cu cg x dir nm)) (jU T.s cu cg (fx T cu cg x dir nm)):=
 ⟨fun k=>Qy h h2 h3 k,fun k=>⟨(iQ k).2,by
  have h1:o_ T.s cu cg (fx T cu cg x dir nm)=T.s.t.last+1:=(zm k).1;have:=hp.dL.eE.last;omega,fun k5=>Qz h h2 h3 k k5,fun k5=>M0 h h2 h3 k k5⟩⟩
theorem kA.Y2 {c:Nat} (h:kA w B b g N bt bM cu cg keep v T) (hp:Pl c T.s) (hc:c+4<=900) (hz:∀p∈T.made,p.2≠0) (hl:T.late.length<=1000) (x:aq) (dir:Int) (nm:List UInt8) :
    Calls Tryz.prog 31 #[.pointer (some ⟨bt,0,none⟩),.agg #[.int .i64 x.dir,bs x.name,x.no,.int .i64 x.depth],.int .i64 dir,bs nm] w (pn w B b g N bt bM cu cg keep v (jA keep cu cg T x dir nm).1 (jA keep cu cg T x dir nm).2):=by
  obtain ⟨W0,bg⟩:∃W,W=w.alloc (.cells #[.int .i64 x.dir,bs x.name,x.no,.int .i64 x.depth] 50):=⟨_,rfl⟩
  obtain ⟨b5,jP⟩:∃b,b=w.heap.size:=⟨_,rfl⟩
  have E0:Ext w W0:=by rw[bg];exact (Ext.refl _).alloc _
  have X0:Has W0 b5 (.cells #[.int .i64 x.dir,bs x.name,x.no,.int .i64 x.depth] 50):=by rw[bg,jP];exact Has.new _ _
  have hwN:N<=w.heap.size:=by have:=Has.lt h.2.1;have:=h.2.2.2.2.2.1;omega
  obtain⟨R,hR⟩:=ar (jA keep cu cg T x dir nm)
  obtain ⟨e0,Lc⟩:∃e,e=dR T.s (cK T.s.t x.no):=⟨_,rfl⟩
  obtain⟨m,hm⟩:=ar (wB T.s (aa T.s.t.nodes x.no))
  have H0:=h.ext E0
  have KS:Hid (∀u,Ext W0 u->Calls Tryz.prog 12 #[.pointer (some ⟨b,0,none⟩),x.no] u (aH u (.tuple #[gD m,.int .i64 e0]))):=by
    show ∀_,_
    intro u hu
    rw [hm,Lc]
    exact (H0.1.ext hu).stat hp.jj x.no
  have N0:Hid (e0≠0->R=(T,e0)):=fun k=>by rw[hR,Lc];exact MX (by rw[<-Lc];exact k)
  have D0:Hid (e0=0->T.s.dead=false/\m=aa T.s.t.nodes x.no):=fun k=>by
    rcases fk T.s x.no with⟨_,h2,_⟩|⟨h2,_⟩
    · exact⟨h2,by rw[hm];unfold wB;rw[if_neg (by rw[h2];decide)]⟩
    · exact absurd (Lc.symm.trans k) h2
  rw [<-hR]
  have HR:=zH hR
  have HE:=zH Lc
  have HH:=zH h
  have HH0:=zH H0
  have se:=zH X0
  have jm:=zH E0
  have HP:=zH hp
  have Qw:Hid (b5∉b::g.list):=fun hm=>by have:=h.1.lt _ hm;omega
  have HN9:Hid (∀y,w.heap.size<=y->y∉b::g.list):=fun y hy hm=>by have:=h.1.lt _ hm;omega
  have u0:∀u:Gr W0,u.w.cell? ⟨bt,0,none⟩=some (.pointer (some ⟨b,0,none⟩)):=Gr.cell (Has.lt H0.2.1) (Has.cell H0.2.1 0)
  have u2:∀u:Gr W0,u.w.cell? ⟨b5,2,none⟩=some (.int .i64 x.no):=Gr.cell X0.lt (X0.cell 2)
  unfold gD at KS
  clear h hp E0 X0 H0 hR Lc hm
  go_enter Tryz.func31,Tryz.ntmps31
  go_upto_region 1 with fail
  rw [<-bg,<-jP]
  clear bg jP
  refine vC W0 10 11 9 23 m _ _ (by kernel_rfl) (by kernel_rfl) rfl rfl rfl rfl (by simp) ((Ext.refl _).drew) ?_
  simp only[List.take_succ_cons,List.take_zero,List.drop_succ_cons,List.drop_zero,List.drop_nil]
  repeat (refine dv (fun K hK=>?_)
          go_simp
          first
            | (refine hK _ ?_;clear hK K)
            | (apply Exists.intro
               refine ⟨fun u=>?_,hK _ ?_⟩
               first
                 | ((with_reducible refine (KS.out _ u.h).mono ?_);rintro e w'' ⟨rfl,hx⟩;exact⟨rfl,hx⟩)
               clear hK K))
  refine bP ?_
  refine bP ⟨rfl,?_⟩
  refine dv (fun K hK=>?_)
  go_simp
  refine hK _ ?_
  clear hK K
  refine bP ?_
  intro W1 b9 E1 tf S1
  simp only[Act.put]
  have H1:=HH0.out.ext E1
  have X1:=se.out.ext E1
  have ru:=zH H1
  have UH:=zH X1
  have VV:=zH S1
  have UI:=zH (jm.out.trans E1)
  clear E1 u0 u2 KS S1
  by_cases k0:e0=0
  case neg =>
    have hk:(e0 != 0)=true:=by simpa using k0
    have HN:=zH (N0.out k0)
    clear k0 N0 D0 H1 X1
    go_wp2_with fail
    go_ret
    rw [HN.out]
    exact pn.ext HH.out UI.out
  have hk:(e0 != 0)=false:=by simpa using k0
  obtain ⟨hd,hmm⟩:=D0.out k0
  have HD:=zH hd
  have oM:=zH hmm
  have R7:Hid (dR T.s (cK T.s.t x.no)=0):=by show _=_;rw[<-HE.out];exact k0
  obtain ⟨_,tu,_,⟨es,cl,hM,M2⟩,_⟩:=id H1
  obtain ⟨k1,gG⟩:∃k,k=ap T.made x.no:=⟨_,rfl⟩
  have q1:∀u:Gr W1,(Instr.lookup 94 (.map (some bM)) (.int .i64 x.no) false).run Tryz.prog u.w=.ok (.int .i64 (ap T.made x.no)) u.w:=fun u=>vB (Has.ext hM u.h) M2 x.no
  rw [<-gG]at q1
  have LB:=zH gG
  have t4:∀u:Gr W1,u.w.cell? ⟨bt,4,none⟩=some (.map (some bM)):=Gr.cell (Has.lt tu) (Has.cell tu 4)
  have x2:∀u:Gr W1,u.w.cell? ⟨b5,2,none⟩=some (.int .i64 x.no):=Gr.cell X1.lt (X1.cell 2)
  clear k0 N0 D0 hd hmm hM M2 tu gG H1 X1
  go_upto_region 4 with fail
  refine eI W1 (by kernel_rfl) (by kernel_rfl) (Ext.refl _).drew ?_
  repeat (quiet_step (fail))
  refine wpQuiet_nil ?_
  rintro W2 ⟨⟨W2,E2⟩,h2⟩
  dsimp only at h2
  subst h2
  have ru:=zH (ru.out.ext E2)
  have UH:=zH (UH.out.ext E2)
  have VV:=zH (VV.out.ext E2)
  have UI:=zH (UI.out.trans E2)
  clear q1 t4 x2 E2
  go_upto_if 36 with fail
  by_cases kk:k1=0
  case neg =>
    have h36:(k1 != 0)=true:=by simpa using kk
    have K:Hid (∀u,Ext W2 u->Calls Tryz.prog 63 #[.pointer (some ⟨b,0,none⟩),.agg #[cu,cg],.int .i64 k1,.int .i64 dir,bs nm] u (Lk u B b g T.s cu cg (.link k1 dir nm))):=by
      show ∀_,_
      intro u hu
      exact (ru.out.1.ext hu).link HP.out.jj (by omega) HD.out cu cg k1 dir nm
    have hR1:R=({T with s:=jU T.s cu cg (.link k1 dir nm)},kF T.s cu cg (.link k1 dir nm)):=by rw[HR.out,LB.out];exact MY R7.out (by rw[<-LB.out];exact kk)
    obtain ⟨e1,qB⟩:∃e,e=kF T.s cu cg (.link k1 dir nm):=⟨_,rfl⟩
    obtain ⟨s1,hs1⟩:∃e,e=jU T.s cu cg (.link k1 dir nm):=⟨_,rfl⟩
    unfold Lk at K
    rw [<-qB,<-hs1]at K hR1
    have HR1:=zH hR1
    have t0:=Has.cell ru.out.2.1 0
    have t1:=Has.cell ru.out.2.1 1
    have t2:=Has.cell ru.out.2.1 2
    have tz:=Has.lt ru.out.2.1
    simp only[gA,gB,gC]at t0 t1 t2
    clear kk qB hs1 hR1
    go_upto_region 6 with fail
    go_still_tail 11,(by kernel_rfl)
    change wpList _ _ _ _ _ W2.drew
    go_wp2_with fail
    have ED:Ext W2 W2.drew:=(Ext.refl _).drew
    refine (K.out _ ED).mono ?_
    rintro e w2 ⟨rfl,P2,O2⟩
    have O2:=(Only.aw (L:=b::g.list) ED).then O2
    clear t0 t1 t2 tz ED K
    go_wp2_with fail
    go_ret
    rw [HR1.out]
    exact pn.pre UI.out (pn.fs ru.out O2 P2)
  have h36:(k1 != 0)=false:=by simpa using kk
  have Oq:Hid (ap T.made x.no=0):=by show _=_;rw[<-LB.out];exact kk
  have s2:=VV.out.cell 2
  have sz:=VV.out.lt
  simp only[ie,gA,gB,gC]at s2
  clear kk
  go_upto_block 0 with fail
  clear s2 sz
  go_cut [12,10] (fun vn ve wc=>∃(n e:Int) (s1:aA),vn=.int .i64 n/\ve=.int .i64 e/\PS wc B b g s1/\Pl (c+1) s1/\Y1 T cu cg keep x m R n e s1/\Only (b::g.list) W2 wc)
  case first =>
    have CC:=zH ru.out.2.1
    unfold UE at CC
    have HSB:=zH (show Has W2 b9 (.cells #[m.no,m.dev,m.kind,m.mode,m.uid,m.gid,m.ah,.int .i64 m.data.length,m.mtime,m.ctime] 46) from VV.out)
    have MW:=zH (ru.out.1.UF ru.out.2.1)
    have HNS:Hid (b9∉b::g.list):=fun hm=>by have:=HH0.out.1.lt _ hm;have:=tf;omega
    by_cases kd:m.kind=1
    · have h78:(m.kind == 1)=true:=by simpa using kd
      have hS:fx T cu cg x dir nm=.bZ dir nm 448:=by unfold fx zl;rw[if_pos (oM.out▸kd)]
      have mG:xS T.s cu cg (aa T.s.t.nodes x.no) x.no=0:=by unfold xS;rw[if_pos (oM.out▸kd)]
      have hQ:=vE (keep:=keep) (dir:=dir) (nm:=nm) HP.out R7.out Oq.out mG
      rw [hS,<-oM.out,<-HR.out]at hQ
      have K:Hid (∀u,Ext W2 u->Calls Tryz.prog 64 #[.pointer (some ⟨b,0,none⟩),.agg #[cu,cg],.int .i64 dir,bs nm,.int .i64 448] u (NU u B b g T.s cu cg (.bZ dir nm 448))):=by
        show ∀_,_
        intro u hu
        exact (ru.out.1.ext hu).bZ HP.out.jj (by omega) HD.out cu cg dir nm 448
      have R_:=HP.out.lP cu cg (.bZ dir nm 448) (fun _ _ _ _ e=>by cases e)
      unfold NU at K
      generalize o_ T.s cu cg (.bZ dir nm 448)=n1 at *
      generalize kF T.s cu cg (.bZ dir nm 448)=e1 at *
      generalize jU T.s cu cg (.bZ dir nm 448)=s1 at *
      have HQ:=zH hQ
      have l6:=zH R_
      clear kd hS mG hQ R_
      obtain⟨Ph,lu⟩:=ar (FA W2 B b g s1)
      have HV:Hid (Ph 0 W2.drew):=by show Ph 0 _;rw[lu];exact (Ext.refl W2).drew
      have hne:Nonempty (Hp Ph):=⟨⟨0,_,HV.out⟩⟩
      have uT:∀u:Hp Ph,Has u.w bt (.cells #[.pointer (some ⟨b,0,none⟩),cu,cg,.bool keep,.map (some bM),v] 97):=by rw[lu];exact nZ CC.out MW.out
      have u0:∀u:Hp Ph,u.w.cell? ⟨bt,0,none⟩=some (.pointer (some ⟨b,0,none⟩)):=fun u=>Has.cell (uT u) 0
      have u1:∀u:Hp Ph,u.w.cell? ⟨bt,1,none⟩=some (.int .i64 cu):=fun u=>Has.cell (uT u) 1
      have u2:∀u:Hp Ph,u.w.cell? ⟨bt,2,none⟩=some (.int .i64 cg):=fun u=>Has.cell (uT u) 2
      have KQ:Hid (∀w',Ph 1 w'->PS w' B b g s1/\Only (b::g.list) W2 w'):=by show ∀w',_;intro w' hw;rw[lu]at hw;exact hw
      have CB:Hid (∀u:Wc (Ph 0),Calls Tryz.prog 64 #[.pointer (some ⟨b,0,none⟩),.agg #[cu,cg],.int .i64 dir,bs nm,.int .i64 448] u.w (fun e w'=>e=.returned (.tuple #[.int .i64 n1,.int .i64 e1])/\Ph 1 w')):=by
        show ∀u:Wc (Ph 0),_
        rintro ⟨u,hu⟩
        dsimp only
        rw [lu]at hu|-
        exact (K.out u hu).mono fun _ _ hh=>⟨hh.1,hh.2.1,(Only.aw hu).then hh.2.2⟩
      clear lu uT K
      go_upto_region 14 with fail
      refine ic Ph [10] (by kernel_rfl) (by kernel_rfl) (by kernel_rfl) HV.out ?_
      repeat (first
        | (refine kv (by kernel_rfl) (fun K hK=>?_)
           go_simp
           refine hK _ ?_
           clear hK K)
        | (refine dQ 0 (by kernel_rfl) rfl (fun K hK=>?_)
           go_simp
           apply Exists.intro
           refine ⟨CB.out,hK _ ?_⟩
           clear hK K))
      refine ml ?_
      intro w5 Ah
      obtain ⟨P5,O5⟩:=KQ.out _ Ah
      have Fx:=zH P5
      have FB:=zH O5
      clear u0 u1 u2 CB HV Ah P5 O5 hne KQ
      go_wp2_with fail
      go_meet
      exact ⟨n1,e1,s1,rfl,rfl,Fx.out,l6.out,HQ.out,FB.out⟩
    have h78:(m.kind == 1)=false:=by simpa using kd
    by_cases kf:m.kind=2
    · have h94:(m.kind == 2)=true:=by simpa using kf
      have hS:fx T cu cg x dir nm=.bB dir nm m.mode (nr T.s (aS T.s.t cu cg x.no 2 4).data):=by unfold fx zl YX;rw[if_neg (oM.out▸kd),if_pos (oM.out▸kf),if_neg (oM.out▸kd),if_pos (oM.out▸kf),oM.out]
      have mG:xS T.s cu cg (aa T.s.t.nodes x.no) x.no=dR T.s (bf T.s.t cu cg x.no 2 4):=by unfold xS;rw[if_neg (oM.out▸kd),if_pos (oM.out▸kf)]
      have KR:Hid (∀u,Ext W2 u->Calls Tryz.prog 65 #[.pointer (some ⟨b,0,none⟩),.agg #[cu,cg],x.no] u (aH u (.tuple #[.string (bs (nr T.s (aS T.s.t cu cg x.no 2 4).data)),.int .i64 (dR T.s (bf T.s.t cu cg x.no 2 4))]))):=by
        show ∀_,_
        intro u hu
        exact (ru.out.1.ext hu).reads HP.out.jj (by omega) cu cg x.no
      have Y3:dR T.s (bf T.s.t cu cg x.no 2 4)≠0->∀n,Y1 T cu cg keep x m R n (dR T.s (bf T.s.t cu cg x.no 2 4)) T.s:=fun k n=>by
        have:=Cb (keep:=keep) (cu:=cu) (cg:=cg) (dir:=dir) (nm:=nm) (n:=n) R7.out Oq.out (by rw[mG];exact k)
        rw [mG,<-oM.out,<-HR.out]at this
        exact this
      have UJ:dR T.s (bf T.s.t cu cg x.no 2 4)=0->_:=fun k=>vE (keep:=keep) (dir:=dir) (nm:=nm) HP.out R7.out Oq.out (mG.trans k)
      have kT:=Ca HP.out.dL.eE cu cg x.no 2 4
      rw [hS,<-oM.out,<-HR.out]at UJ
      generalize nr T.s (aS T.s.t cu cg x.no 2 4).data=D at *
      generalize dR T.s (bf T.s.t cu cg x.no 2 4)=e2 at *
      have K:Hid (∀u,Ext W2 u->Calls Tryz.prog 66 #[.pointer (some ⟨b,0,none⟩),.agg #[cu,cg],.int .i64 dir,bs nm,m.mode,bs D] u (NU u B b g T.s cu cg (.bB dir nm m.mode D))):=by
        show ∀_,_
        intro u hu
        exact (ru.out.1.ext hu).bB HP.out.jj (by omega) HD.out cu cg dir nm m.mode D kT
      have R_:=HP.out.lP cu cg (.bB dir nm m.mode D) (fun _ _ _ _ e=>by cases e)
      unfold NU at K
      generalize o_ T.s cu cg (.bB dir nm m.mode D)=n1 at *
      generalize kF T.s cu cg (.bB dir nm m.mode D)=e1 at *
      generalize jU T.s cu cg (.bB dir nm m.mode D)=s1 at *
      have UK:=zH Y3
      have Sa:=zH UJ
      have l6:=zH R_
      clear kd kf hS mG Y3 UJ R_ kT
      have r0:∀u:Gr W2,u.w.cell? ⟨bt,0,none⟩=some (.pointer (some ⟨b,0,none⟩)):=Gr.cell (Has.lt CC.out) (Has.cell CC.out 0)
      have r1:∀u:Gr W2,u.w.cell? ⟨bt,1,none⟩=some (.int .i64 cu):=Gr.cell (Has.lt CC.out) (Has.cell CC.out 1)
      have r2:∀u:Gr W2,u.w.cell? ⟨bt,2,none⟩=some (.int .i64 cg):=Gr.cell (Has.lt CC.out) (Has.cell CC.out 2)
      have r3:∀u:Gr W2,u.w.cell? ⟨b5,2,none⟩=some (.int .i64 x.no):=Gr.cell (Has.lt UH.out) (Has.cell UH.out 2)
      go_upto_region 17 with fail
      refine eI W2 (by kernel_rfl) (by kernel_rfl) (Ext.refl _).drew ?_
      repeat (quiet_step (((with_reducible refine (KR.out _ (Gr.h _)).mono ?_);rintro e w'' ⟨rfl,Lv⟩;exact⟨rfl,⟨w'',Ext.trans (Gr.h _) Lv⟩,rfl⟩)))
      refine wpQuiet_nil ?_
      rintro w2 ⟨⟨w2,b2⟩,h2⟩
      dsimp only at h2
      subst h2
      have zM:=zH b2
      clear r0 r1 r2 r3 b2 KR
      by_cases k2:e2=0
      case neg =>
        have abw:(e2 == 0)=false:=by simpa using k2
        have HQ:=zH (UK.out k2 0)
        clear k2
        go_wp2_with fail
        go_meet
        exact ⟨0,e2,T.s,rfl,rfl,ru.out.1.ext zM.out,HP.out.mono (by omega),HQ.out,Only.aw zM.out⟩
      have abw:(e2 == 0)=true:=by simpa using k2
      have HQ:=zH (Sa.out k2)
      have UL:=zH (Has.ext CC.out zM.out)
      have Y5:=zH (HSB.out.ext zM.out)
      have K2:=zH (fun (u:World) (hu:Ext w2 u)=>K.out u (zM.out.trans hu))
      clear k2 UK Sa K
      obtain⟨Ph,lu⟩:=ar (FA w2 B b g s1)
      have HV:Hid (Ph 0 w2.drew):=by show Ph 0 _;rw[lu];exact (Ext.refl w2).drew
      have hne:Nonempty (Hp Ph):=⟨⟨0,_,HV.out⟩⟩
      have uT:∀u:Hp Ph,Has u.w bt (.cells #[.pointer (some ⟨b,0,none⟩),cu,cg,.bool keep,.map (some bM),v] 97):=by rw[lu];exact nZ UL.out MW.out
      have u0:∀u:Hp Ph,u.w.cell? ⟨bt,0,none⟩=some (.pointer (some ⟨b,0,none⟩)):=fun u=>Has.cell (uT u) 0
      have u1:∀u:Hp Ph,u.w.cell? ⟨bt,1,none⟩=some (.int .i64 cu):=fun u=>Has.cell (uT u) 1
      have u2:∀u:Hp Ph,u.w.cell? ⟨bt,2,none⟩=some (.int .i64 cg):=fun u=>Has.cell (uT u) 2
      have uS:∀u:Hp Ph,Has u.w b9 (.cells #[m.no,m.dev,m.kind,m.mode,m.uid,m.gid,m.ah,.int .i64 m.data.length,m.mtime,m.ctime] 46):=by rw[lu];exact nZ Y5.out HNS.out
      have u3:∀u:Hp Ph,u.w.cell? ⟨b9,3,none⟩=some (.int .i64 m.mode):=fun u=>Has.cell (uS u) 3
      have KQ:Hid (∀w',Ph 1 w'->PS w' B b g s1/\Only (b::g.list) w2 w'):=by show ∀w',_;intro w' hw;rw[lu]at hw;exact hw
      have CB:Hid (∀u:Wc (Ph 0),Calls Tryz.prog 66 #[.pointer (some ⟨b,0,none⟩),.agg #[cu,cg],.int .i64 dir,bs nm,m.mode,bs D] u.w (fun e w'=>e=.returned (.tuple #[.int .i64 n1,.int .i64 e1])/\Ph 1 w')):=by
        show ∀u:Wc (Ph 0),_
        rintro ⟨u,hu⟩
        dsimp only
        rw [lu]at hu|-
        exact (K2.out u hu).mono fun _ _ hh=>⟨hh.1,hh.2.1,(Only.aw hu).then hh.2.2⟩
      clear lu uT uS K2
      go_upto_region 19 with fail
      refine ic Ph [13] (by kernel_rfl) (by kernel_rfl) (by kernel_rfl) HV.out ?_
      repeat (first
        | (refine kv (by kernel_rfl) (fun K hK=>?_)
           go_simp
           refine hK _ ?_
           clear hK K)
        | (refine dQ 0 (by kernel_rfl) rfl (fun K hK=>?_)
           go_simp
           apply Exists.intro
           refine ⟨CB.out,hK _ ?_⟩
           clear hK K))
      refine ml ?_
      intro w5 Ah
      obtain ⟨P5,O5⟩:=KQ.out _ Ah
      have Fx:=zH P5
      have FB:=zH O5
      clear u0 u1 u2 u3 CB HV Ah P5 O5 hne KQ
      go_wp2_with fail
      go_meet
      exact ⟨n1,e1,s1,rfl,rfl,Fx.out,l6.out,HQ.out,Only.pre zM.out FB.out⟩
    · have h94:(m.kind == 2)=false:=by simpa using kf
      have hS:fx T cu cg x dir nm=.symlink dir nm (nr T.s (aS T.s.t 0 0 x.no 3 0).data):=by unfold fx zl YX;rw[if_neg (oM.out▸kd),if_neg (oM.out▸kf),if_neg (oM.out▸kd),if_neg (oM.out▸kf)]
      have mG:xS T.s cu cg (aa T.s.t.nodes x.no) x.no=dR T.s (bf T.s.t 0 0 x.no 3 0):=by unfold xS;rw[if_neg (oM.out▸kd),if_neg (oM.out▸kf)]
      have KR:Hid (∀u,Ext W2 u->Calls Tryz.prog 67 #[.pointer (some ⟨b,0,none⟩),x.no] u (aH u (.tuple #[.string (bs (nr T.s (aS T.s.t 0 0 x.no 3 0).data)),.int .i64 (dR T.s (bf T.s.t 0 0 x.no 3 0))]))):=by
        show ∀_,_
        intro u hu
        exact (ru.out.1.ext hu).target HP.out.jj (by omega) x.no
      have Y3:dR T.s (bf T.s.t 0 0 x.no 3 0)≠0->∀n,Y1 T cu cg keep x m R n (dR T.s (bf T.s.t 0 0 x.no 3 0)) T.s:=fun k n=>by
        have:=Cb (keep:=keep) (cu:=cu) (cg:=cg) (dir:=dir) (nm:=nm) (n:=n) R7.out Oq.out (by rw[mG];exact k)
        rw [mG,<-oM.out,<-HR.out]at this
        exact this
      have UJ:dR T.s (bf T.s.t 0 0 x.no 3 0)=0->_:=fun k=>vE (keep:=keep) (dir:=dir) (nm:=nm) HP.out R7.out Oq.out (mG.trans k)
      have kT:=Ca HP.out.dL.eE 0 0 x.no 3 0
      rw [hS,<-oM.out,<-HR.out]at UJ
      generalize nr T.s (aS T.s.t 0 0 x.no 3 0).data=D at *
      generalize dR T.s (bf T.s.t 0 0 x.no 3 0)=e2 at *
      have K:Hid (∀u,Ext W2 u->Calls Tryz.prog 68 #[.pointer (some ⟨b,0,none⟩),.agg #[cu,cg],.int .i64 dir,bs nm,bs D] u (NU u B b g T.s cu cg (.symlink dir nm D))):=by
        show ∀_,_
        intro u hu
        exact (ru.out.1.ext hu).symlink HP.out.jj (by omega) HD.out cu cg dir nm D kT
      have R_:=HP.out.lP cu cg (.symlink dir nm D) (fun _ _ _ _ e=>by cases e)
      unfold NU at K
      generalize o_ T.s cu cg (.symlink dir nm D)=n1 at *
      generalize kF T.s cu cg (.symlink dir nm D)=e1 at *
      generalize jU T.s cu cg (.symlink dir nm D)=s1 at *
      have UK:=zH Y3
      have Sa:=zH UJ
      have l6:=zH R_
      clear kd kf hS mG Y3 UJ R_ kT
      have r0:∀u:Gr W2,u.w.cell? ⟨bt,0,none⟩=some (.pointer (some ⟨b,0,none⟩)):=Gr.cell (Has.lt CC.out) (Has.cell CC.out 0)
      have r1:∀u:Gr W2,u.w.cell? ⟨bt,1,none⟩=some (.int .i64 cu):=Gr.cell (Has.lt CC.out) (Has.cell CC.out 1)
      have r2:∀u:Gr W2,u.w.cell? ⟨bt,2,none⟩=some (.int .i64 cg):=Gr.cell (Has.lt CC.out) (Has.cell CC.out 2)
      have r3:∀u:Gr W2,u.w.cell? ⟨b5,2,none⟩=some (.int .i64 x.no):=Gr.cell (Has.lt UH.out) (Has.cell UH.out 2)
      go_upto_region 10 with fail
      refine eI W2 (by kernel_rfl) (by kernel_rfl) (Ext.refl _).drew ?_
      repeat (quiet_step (((with_reducible refine (KR.out _ (Gr.h _)).mono ?_);rintro e w'' ⟨rfl,Lv⟩;exact⟨rfl,⟨w'',Ext.trans (Gr.h _) Lv⟩,rfl⟩)))
      refine wpQuiet_nil ?_
      rintro w2 ⟨⟨w2,b2⟩,h2⟩
      dsimp only at h2
      subst h2
      have zM:=zH b2
      clear r0 r1 r2 r3 b2 KR
      by_cases k2:e2=0
      case neg =>
        have h62:(e2 == 0)=false:=by simpa using k2
        have HQ:=zH (UK.out k2 0)
        clear k2
        go_wp2_with fail
        go_meet
        exact ⟨0,e2,T.s,rfl,rfl,ru.out.1.ext zM.out,HP.out.mono (by omega),HQ.out,Only.aw zM.out⟩
      have h62:(e2 == 0)=true:=by simpa using k2
      have HQ:=zH (Sa.out k2)
      have UL:=zH (Has.ext CC.out zM.out)
      have Y5:=zH (HSB.out.ext zM.out)
      have K2:=zH (fun (u:World) (hu:Ext w2 u)=>K.out u (zM.out.trans hu))
      clear k2 UK Sa K
      obtain⟨Ph,lu⟩:=ar (FA w2 B b g s1)
      have HV:Hid (Ph 0 w2.drew):=by show Ph 0 _;rw[lu];exact (Ext.refl w2).drew
      have hne:Nonempty (Hp Ph):=⟨⟨0,_,HV.out⟩⟩
      have uT:∀u:Hp Ph,Has u.w bt (.cells #[.pointer (some ⟨b,0,none⟩),cu,cg,.bool keep,.map (some bM),v] 97):=by rw[lu];exact nZ UL.out MW.out
      have u0:∀u:Hp Ph,u.w.cell? ⟨bt,0,none⟩=some (.pointer (some ⟨b,0,none⟩)):=fun u=>Has.cell (uT u) 0
      have u1:∀u:Hp Ph,u.w.cell? ⟨bt,1,none⟩=some (.int .i64 cu):=fun u=>Has.cell (uT u) 1
      have u2:∀u:Hp Ph,u.w.cell? ⟨bt,2,none⟩=some (.int .i64 cg):=fun u=>Has.cell (uT u) 2
      have KQ:Hid (∀w',Ph 1 w'->PS w' B b g s1/\Only (b::g.list) w2 w'):=by show ∀w',_;intro w' hw;rw[lu]at hw;exact hw
      have CB:Hid (∀u:Wc (Ph 0),Calls Tryz.prog 68 #[.pointer (some ⟨b,0,none⟩),.agg #[cu,cg],.int .i64 dir,bs nm,bs D] u.w (fun e w'=>e=.returned (.tuple #[.int .i64 n1,.int .i64 e1])/\Ph 1 w')):=by
        show ∀u:Wc (Ph 0),_
        rintro ⟨u,hu⟩
        dsimp only
        rw [lu]at hu|-
        exact (K2.out u hu).mono fun _ _ hh=>⟨hh.1,hh.2.1,(Only.aw hu).then hh.2.2⟩
      clear lu uT K2
      go_upto_region 12 with fail
      refine ic Ph [11] (by kernel_rfl) (by kernel_rfl) (by kernel_rfl) HV.out ?_
      repeat (first
        | (refine kv (by kernel_rfl) (fun K hK=>?_)
           go_simp
           refine hK _ ?_
           clear hK K)
        | (refine dQ 0 (by kernel_rfl) rfl (fun K hK=>?_)
           go_simp
           apply Exists.intro
           refine ⟨CB.out,hK _ ?_⟩
           clear hK K))
      refine ml ?_
      intro w5 Ah
      obtain ⟨P5,O5⟩:=KQ.out _ Ah
      have Fx:=zH P5
      have FB:=zH O5
      clear u0 u1 u2 CB HV Ah P5 O5 hne KQ
      go_wp2_with fail
      go_meet
      exact ⟨n1,e1,s1,rfl,rfl,Fx.out,l6.out,HQ.out,Only.pre zM.out FB.out⟩
  case rest =>
  obtain ⟨n,e,s1,rfl,rfl,P2,p2,Q2,O2⟩:=hcut
  obtain ⟨w3,SH⟩:∃w1,w1=wc:=⟨_,rfl⟩
  rw [<-SH]at P2 O2|-
  have H3:=ru.out.fs O2 P2
  have HH3:=zH H3
  have RL:=zH (O2.has UH.out Qw.out)
  have HS3:=zH (O2.has VV.out (HN9.out _ (by have:=tf;have:=jm.out.size;omega)))
  have v_:=zH O2
  have xO:=zH P2
  have HPl:=zH p2
  have Sa:=zH Q2
  clear SH P2 p2 Q2 O2 H3
  by_cases ke:e=0
  case neg =>
    have abx:(e != 0)=true:=by simpa using ke
    have hr:=Sa.out.1 ke
    have um:=zH hr
    clear ke hr
    go_wp2_with fail
    go_ret
    rw [um.out]
    exact pn.pre UI.out (pn.fs ru.out v_.out xO.out)
  have abx:(e != 0)=false:=by simpa using ke
  obtain ⟨d1,n1,Q3,Q4⟩:=Sa.out.2 ke
  have HD1:=zH d1
  have HQ3:=zH Q3
  have HQ4:=zH Q4
  obtain ⟨_,tu,_,⟨es,cl,hM,M2⟩,_⟩:=id HH3.out
  obtain ⟨es',Ct,Ka,M8⟩:=run_make (Has.ext hM (Ext.refl w3).drew) M2 Oq.out hz n
  have t4:=Has.cell tu 4
  have tz:=Has.lt tu
  have x2:=RL.out.cell 2
  have xz:=RL.out.lt
  simp only[gA,gB,gC]at t4 x2
  obtain ⟨W4,fN⟩:∃W,W=js w3.drew bM (.map es' Ct):=⟨_,rfl⟩
  rw [<-fN]at Ka
  have O4:Only [bM] w3 W4:=(Only.aw (L:=[bM]) (Ext.refl _).drew).then (by rw[fN];exact Only.js _ _ _)
  have M4:Has W4 bM (.map es' Ct):=by rw[fN];exact Has.js _ (by have:=Has.lt (Has.ext hM (Ext.refl w3).drew);exact this)
  have H4:=HH3.out.YY O4 M4 M8
  have Oz:=zH H4
  have HS4:=zH (O4.has HS3.out (fun hm=>by have:=fJ HS3.out hM;rw[List.mem_singleton]at hm;exact this hm))
  have OA:=zH O4
  clear ke d1 n1 Q3 Q4 tu hM M2 M8 fN O4 M4 H4
  go_upto_region 22 with fail
  go_still_tail 7,(by kernel_rfl)
  change wpList _ _ _ _ _ w3.drew
  go_upto_region 23 with fail
  have vF:=zH (show Has W4 b9 (.cells #[m.no,m.dev,m.kind,m.mode,m.uid,m.gid,m.ah,.int .i64 m.data.length,m.mtime,m.ctime] 46) from HS4.out)
  have s0:=vF.out.cell 0
  have s1':=vF.out.cell 1
  have s2:=vF.out.cell 2
  have s3:=vF.out.cell 3
  have s4:=vF.out.cell 4
  have s5:=vF.out.cell 5
  have s6:=vF.out.cell 6
  have s7:=vF.out.cell 7
  have s8:=vF.out.cell 8
  have s9:=vF.out.cell 9
  have sz:=vF.out.lt
  simp only[gA,gB,gC]at s0 s1' s2 s3 s4 s5 s6 s7 s8 s9
  clear t4 tz x2 xz Ka HS4
  by_cases kd:m.kind=1
  case neg =>
    have aby:(m.kind == 1)=false:=by simpa using kd
    have hr:=HQ4.out kd
    have K:=zH (Oz.out.1.Fz HPl.out (by omega) HD1.out Oz.out.2.1 n m)
    have um:=zH hr
    unfold gD at K
    clear kd hr
    go_wp2_with fail
    refine K.out.mono ?_
    rintro e w5 ⟨rfl,P5,O5⟩
    have Fx:=zH P5
    have FB:=zH O5
    clear P5 O5 K s0 s1' s2 s3 s4 s5 s6 s7 s8 s9 sz
    go_wp2_with fail
    go_ret
    rw [um.out]
    refine pn.pre UI.out ⟨rfl,v,Oz.out.fs FB.out Fx.out,?_,fun x hx=>.inl hx⟩
    refine ((tr v_.out).then (OA.out.mono (fun y hy=>?_))).then (tr FB.out)
    rw [List.mem_singleton]at hy
    subst hy
    unfold zo
    simp
  have aby:(m.kind == 1)=true:=by simpa using kd
  have um:=zH (HQ3.out kd)
  obtain ⟨A,cap,hv,hcap,hcm,_,_⟩:=bJ.at_ Oz.out.2.2.1
  subst hv
  have VW:W4.ownsRow N 46 10 (.slice A T.late.length cap) T.late.length (zn.cells T.late):=Oz.out.2.2.1
  obtain ⟨i0,hi,hz0,hz1,hz2⟩:=info_parts zn.info
  have tu:Has W4 bt (.cells #[.pointer (some ⟨b,0,none⟩),cu,cg,.bool keep,.map (some bM),.slice A T.late.length cap] 97):=Oz.out.2.1
  have Y6:=zH tu
  have HOG:=zH VW
  have t5:=tu.cell 5
  have f5:W4.frozen? ⟨bt,5,none⟩=false:=tu.free 5
  have tz:=tu.lt
  simp only[gA,gB,gC]at t5
  have EO:(Value.slice A T.late.length cap).ownBlock≠some bt:=eH VW tu (by decide)
  have HAG:=zH EO
  have hNW:N<=W4.heap.size:=by have:=Oz.out.2.2.2.2.2.1;omega
  clear kd tu EO
  go_upto_region 24 with fail
  go_region_law (first|(refine step_append_lies _ (by rfl) _ _ _ (by rfl) N 46 i0 _ 10 80 Tryz.underlying95 hi hz0 hz1 hz2 rfl (by omega) _ T.late.length (zn.cells T.late) (by rfl) ((VW.alloc _).drew) ⟨W4.heap.size,0,none⟩ 1 1 (ie m) (by rfl) (by rfl) (World.news_of_block (cs:=(ie m).toArray) (t:=46) (fr:=(0,0)) (heap_alloc_new W4 _)) (fun u hu=>zn.one m u hu) (by omega) (by unfold maxLen;omega) (by omega) (by simp;omega) (W4.heap.size+1) (by simp) ?_;intro gg BW w5 wV hgrow hat hlt;have v5:w5.cell? ⟨bt,5,none⟩=some (.slice A T.late.length cap):=((hgrow.cell_far ⟨bt,5,none⟩ (by simp;omega) (Ne.symm HAG.out)).trans ((Y6.out.alloc _).cell 5));have f5':w5.frozen? ⟨bt,5,none⟩=false:=((hgrow.frozen_far ⟨bt,5,none⟩ (by simp;omega) (Ne.symm HAG.out)).trans ((Y6.out.alloc _).free 5))))
  all_goals
    have o5:Only (Value.slice A T.late.length cap).ownBlock.toList W4 w5:=(Only.aw ((Ext.refl _).alloc _ |>.drew)).then (Only.grown hgrow)
    obtain ⟨T6,o6⟩:=kA.YZ (T:=⟨s1,T.made++[(x.no,n)],T.late⟩) (m:=m) Oz.out o5 wV
    have HT6:=zH T6
    have HJ:=zH o6
    have NT:=zH hat
    clear T6 o6 hat wV hgrow v5 f5' o5 t5 f5 tz s0 s1' s2 s3 s4 s5 s6 s7 s8 s9 sz
    go_wp2_with fail
    go_ret
    rw [um.out]
    refine pn.pre UI.out ⟨rfl,_,HT6.out,?_,fun x hx=>?_⟩
    · refine ((tr v_.out).then (OA.out.mono (fun y hy=>?_))).then (HJ.out.mono (fun y hy=>?_))
      · rw [List.mem_singleton]at hy
        subst hy
        unfold zo
        simp
      · unfold zo
        rcases List.mem_cons.1 hy with rfl|hy
        · simp
        · exact List.mem_cons_of_mem _ (List.mem_append_right _ (List.mem_cons_of_mem _ (List.mem_cons_of_mem _ hy)))
    · have hx:gg=x:=Option.some.inj hx
      subst hx
      rcases NT.out with h|h
      · exact .inl h
      · have:=v_.out.size
        have:=OA.out.size
        exact .inr (by omega)
end
end
open Go.ChangeShapes Go.WideShapes Go.ChangeAt Go.RowKit
def vG (S:ac) (cu cg:Int) (eN:Bool):Nat->Int->List (List UInt8)->Nat->Bool->Option (gR×Int)
 | 0,_,_,_,_=>none
 | _+1,at_,[],_,_=>some (⟨0,[],at_,true⟩,0)
 | n + 1,at_,p::l,h,m =>
  if eB S cu cg at_ p≠0 then some (bu,eB S cu cg at_ p)
  else if p=[46,46] then vG S cu cg eN n (aJ S at_) l h m
  else if aQ S.nodes (bp S at_ p)=false then (if l=[] then some (⟨at_,p,0,m⟩,0) else some (bu,5))
  else if (aa S.nodes (bp S at_ p)).kind=3/\(l≠[]\/m=true\/eN=true) then
   (if 8<h+1 then some (bu,12) else if (aa S.nodes (bp S at_ p)).data=[] then some (bu,5)
    else vG S cu cg eN n (if (aa S.nodes (bp S at_ p)).data.head?=some 47 then 1 else at_) (a_ (aa S.nodes (bp S at_ p)).data++l) (h+1) (m || (l.isEmpty&&eU (aa S.nodes (bp S at_ p)).data)))
  else if (aa S.nodes (bp S at_ p)).kind≠1/\(l≠[]\/m=true) then some (bu,9)
  else if l=[] then some (⟨at_,p,bp S at_ p,m⟩,0)
  else vG S cu cg eN n (bp S at_ p) l h m
theorem qw {S:ac} {cu cg:Int} {eN:Bool} {r:gR×Int}:∀(n:Nat) (at_:Int) (l:List (List UInt8)) (h:Nat) (m:Bool),vG S cu cg eN n at_ l h m=some r->cQ S cu cg eN at_ l h m=r
 | 0,_,_,_,_,k=>by cases k
 | n+1,at_,[],h,m,k=>by rw[qa];unfold vG at k;injection k
 | n + 1, at_, p::l,h,m,k=>by
  unfold vG at k;rw [cQ];split at k
  ·rename_i c1;rw[if_pos c1];injection k
  ·rename_i c1
   rw [if_neg c1];split at k
   ·rename_i c2;rw[if_pos c2];exact qw n _ _ _ _ k
   ·rename_i c2
    rw [if_neg c2];split at k
    ·rename_i c3
     rw [if_pos c3];split at k
     ·rename_i c4;rw[if_pos c4];injection k
     ·rename_i c4;rw[if_neg c4];injection k
    ·rename_i c3
     rw [if_neg c3];split at k
     ·rename_i c4
      rw [if_pos c4];split at k
      ·rename_i c5;rw[dif_pos c5];injection k
      ·rename_i c5
       rw [dif_neg c5];split at k
       ·rename_i c6;rw[if_pos c6];injection k
       ·rename_i c6;rw[if_neg c6];exact qw n _ _ _ _ k
     ·rename_i c4
      rw [if_neg c4];split at k
      ·rename_i c5;rw[if_pos c5];injection k
      ·rename_i c5
       rw [if_neg c5];split at k
       ·rename_i c6;rw[if_pos c6];injection k
       ·rename_i c6;rw[if_neg c6];exact qw n _ _ _ _ k
def Y7:rV:=⟨0,[100],1,448,0,0,[],0⟩
def Y8:rV:=⟨0,[108],3,0,0,0,[100,47],0⟩
def Y9:rV:=⟨1,[120],2,0,0,0,[],0⟩
def m_:ac:=Pg (firstT 99 99) [Y7,Y8,Y9]
def Cc (S:ac) (cu cg:Int) (p:List UInt8) (eN:Bool):Option (gR×Int):=if j6 p=0 then vG S cu cg eN 40 1 (a_ p) 0 (eU p) else some (bu,j6 p)
theorem vH {S:ac} {cu cg:Int} {p:List UInt8} {eN:Bool} {r:gR×Int} (h:Cc S cu cg p eN=some r):dP S cu cg p eN=r:=by
 unfold Cc at h;unfold dP;split
 ·rename_i h1;rw[if_pos h1]at h;exact qw _ _ _ _ _ h
 ·rename_i h1;rw[if_neg h1]at h;injection h
def UM (S:ac) (m:eA):Option ac:=
 match Cc S 0 0 m.path false with
 | none=>none
 | some r=>some (if r.2≠0 then S
  else if r.1.no=0 then (if fE S 0 0 0 (.bZ r.1.dir r.1.name 493)=0 then ct (cF S 0 0 0 (.bZ r.1.dir r.1.name 493)) (jT S 0 0 0 (.bZ r.1.dir r.1.name 493)) m.b m.n else cF S 0 0 0 (.bZ r.1.dir r.1.name 493))
  else ct S r.1.no m.b m.n)
theorem QB {S T:ac} {m:eA} (h:UM S m=some T):gF S m=T:=by
 unfold UM at h;split at h
 ·cases h
 ·rename_i r hr
  injection h with h;have hp:mI S m=r:=vH hr;unfold gF rE;rw [hp];exact h
def Cd (S:ac):List eA->Option ac
 | []=>some S
 | m::l=>if mJ m=true then Cd S l else match UM S m with|none=>none|some T=>Cd T l
theorem M9 {S T:ac} {l:List eA} (h:Cd S l=some T):dX S l=T:=by
 induction l generalizing S with
 | nil=>injection h
 | cons m l ih =>
  unfold Cd at h;unfold dX;rw [List.foldl_cons];split at h
  ·rename_i h1;rw[if_pos h1];exact ih h
  ·rename_i h1
   rw [if_neg h1];split at h
   ·cases h
   ·rename_i T1 h2;rw[QB h2];exact ih h
def UN (S:ac) (it:dJ):Option (ac×Int):=
 match Cc S 0 0 it.path false,(if it.kind=4 then Cc S 0 0 it.data false else some (bu,1)) with
 | some r,some y =>
  let c:Option jn:=if r.2≠0 then none else if r.1.no≠0 then none
   else if it.kind=1 then some (.bZ r.1.dir r.1.name 493)
   else if it.kind=2 then some (.bB r.1.dir r.1.name 420 it.data)
   else if it.kind=3 then some (.symlink r.1.dir r.1.name it.data)
   else if it.kind=4 then (if y.2=0 then some (.link y.1.no r.1.dir r.1.name) else none)
   else none
  let T:=match c with|some x=>cF S 0 0 0 x|none=>S
  let n:=match c with|some x=>jT S 0 0 0 x|none=>if r.2=0/\r.1.no≠0/\it.kind=1/\(aa S.nodes r.1.no).kind=1 then r.1.no else 0
  some (fp T n it,n)
 | _,_=>none
theorem QC {S:ac} {it:dJ} {r:ac×Int} (h:UN S it=some r):fp (iY S it) (iq S it) it=r.1/\iq S it=r.2:=by
 unfold UN at h;split at h
 case h_2=>cases h
 rename_i r1 y h1 h2;have hp:eG S it=r1:=vH h1;have hc:gT S it=(if r1.2≠0 then none else if r1.1.no≠0 then none
   else if it.kind=1 then some (.bZ r1.1.dir r1.1.name 493)
   else if it.kind=2 then some (.bB r1.1.dir r1.1.name 420 it.data)
   else if it.kind=3 then some (.symlink r1.1.dir r1.1.name it.data)
   else if it.kind=4 then (if y.2=0 then some (.link y.1.no r1.1.dir r1.1.name) else none)
   else none):=by
  unfold gT;rw [hp]
  by_cases h4:it.kind=4
  ·rw [if_pos h4]at h2
   have hl:uQ S it=y:=vH h2;rw [hl]
  ·rw[if_neg h4,if_neg h4]
 injection h with h;unfold iY iq;rw [hc,hp,<-h];exact ⟨rfl,rfl⟩
def zq (S:ac) (ns:List Int):List dJ->Option (ac×List Int)
 | []=>some (S,ns)
 | it::l=>match UN S it with|none=>none|some r=>zq r.1 (ns++[r.2]) l
theorem IA {S:ac} {ns:List Int} {l:List dJ} {r:ac×List Int} (h:zq S ns l=some r):dD (S,ns) l=r:=by
 induction l generalizing S ns with
 | nil=>injection h
 | cons it l ih =>
  unfold zq at h;unfold dD;rw [List.foldl_cons];split at h
  ·cases h
  ·rename_i r1 h1
   obtain ⟨k1,k2⟩:=QC h1;have:sg (S,ns) it=(r1.1,ns++[r1.2]):=by unfold sg;rw[k1,k2]
   rw [this];exact ih h
def Ek (ms:List eA) (is:List dJ):Option ac:=
 match Cd (fX ms) ms with
 | none=>none
 | some T=>match zq T [] is with|none=>none|some r=>some (dN r.1 (r.2.zip is))
theorem IB {ms:List eA} {is:List dJ} {T:ac} (h:Ek ms is=some T):fD ms is=T:=by
 unfold Ek at h;split at h
 ·cases h
 ·rename_i T1 h1
  split at h
  ·cases h
  ·rename_i r h2
   injection h with h;unfold fD xH;rw [M9 h1,IA h2,h]
def M_ (S:ac) (cu cg:Int):Nat->List aq->Option (List aq×aq×Int)
 | 0,_=>none
 | _+1,[]=>some ([],mB,0)
 | n+1,x::t=>if ez S cu cg x≠0 then some ([],x,ez S cu cg x) else
  match M_ S cu cg n (dB S cu cg x++t) with|none=>none|some r=>some (x::r.1,r.2)
theorem vJ {S:ac} {cu cg:Int}:∀{n:Nat} {t:List aq} {r:List aq×aq×Int},M_ S cu cg n t=some r->jr S cu cg t r.1 r.2.1 r.2.2
 | 0,_,_,h=>by cases h
 | n+1,[],r,h=>by injection h with h;subst h;exact .nil
 | n + 1,x::t,r,h=>by
  unfold M_ at h;split at h
  ·rename_i h1;injection h with h;subst h;exact .bad h1
  ·rename_i h1
   split at h
   ·cases h
   ·rename_i r1 h2;injection h with h;subst h;exact .step (Decidable.not_not.1 h1) (vJ h2)
theorem dC.UO {α:Type} {R:RowK α} {w:World} {b:Nat} {l:List α} (h:Has w b (.cells (R.cells l).toArray R.t)):dC R w (some ⟨b,0,none⟩) l:=.inr ⟨b,0,rfl,h.lt,fun i hi j hj=>by rw[Nat.zero_add,h.cell,gA];exact R.nY l i hi j hj⟩
theorem sm {c:Nat} {S:ac} (h:dI c S) (hn:bi S) (hl:nu S) {r:Int->Nat} (hr:pO S r) {t:List dE} {aC:List Int} {l:List qC} (hd:cC S t aC l):(∀x∈t,jW S r x)->∀y∈l,y.path.length<=300*(S.nodes.length+2):=by
 induction hd with
 | nil=>intro _ y hy;cases hy
 | none _ _ ih=>intro hp y hy;exact ih (fun x hx=>hp x (List.mem_cons_of_mem _ hx)) y hy
 | @step x t aC l _ _ ih =>
  intro hp y hy;rcases List.mem_cons.1 hy with rfl|hy
  ·exact (hp x (List.mem_cons_self ..)).1
  ·refine ih (fun z hz=>?_) y hy
   rcases List.mem_append.1 hz with hz|hz
   ·exact li h hn hl hr (hp x (List.mem_cons_self ..)) z hz
   ·exact hp z (List.mem_cons_of_mem _ hz)
def Sb (S:ac) (w:World) (e:Ending) (w':World):Prop:=∃(dir:Int) (nm:List UInt8) (is:Bool),e=.returned (.tuple #[.int .i64 dir,bs nm,.bool is])/\nm.length<=255/\(is=true->nm≠[]/\∃p,(dP S 0 0 p false).2=0/\(dP S 0 0 p false).1.dir=dir/\(dP S 0 0 p false).1.name=nm)/\Ext w w'
theorem Na {w:World} {B:Nat} {f:cJ} {s:aA} (h:RS w B f s) (k:iM 140 s.t) (a:Int) :
  Calls Tryz.prog 8 #[.pointer (some ⟨f.bF,0,none⟩),.int .i64 a] w (Sb s.t w):=by
 obtain ⟨rows,r,hB,hl,hr,hp⟩:=vq k;have KR:=zH (xR h k rows hB hl hr hp);have hpl:=sm k.dL.eE k.dL.xo k.dL.kids.up hr hB (fun x hx=>by rw[List.mem_singleton]at hx;subst hx;exact hp);have lJ:s.t.nodes.length<=200:=by have:=k.dL.eE.count;have:=k.dL.last;omega
 obtain ⟨Xt,F⟩:=h.PG;have KP:Hid (∀(u:World) (p:List UInt8),Ext w u->p.length<=1000000->Calls Tryz.prog 30 #[.pointer (some ⟨f.bF,0,none⟩),.agg #[.int .i64 0,.int .i64 0],bs p,.bool false] u (gZ u (dP s.t 0 0 p false))):=fun u p hu hp=>nk B f s.t Xt 0 0 p false u (F.ext hu) k.dL.eE (by omega) (by have:=k.dL.last;omega) hp
 have l6:=zH hpl;have HL:=zH hl;clear h F hB hl hr hp hpl;go_enter Tryz.func8,Tryz.ntmps8;go_wp2_with fail;refine KR.out.mono ?_;rintro e w1 ⟨v,rfl,hO,hE⟩;obtain ⟨A,cap,rfl,_,_,hat,_⟩:=hO.at_;obtain⟨n,hn⟩:=ar rows.length;rw [<-hn];have HN:=zH hn;have NT:=zH hat;have HE:=zH hE;clear KR hO hE hn hat
 by_cases h2:(n:Int)<2
 case pos =>
  have t2:decide ((n:Int)<2)=true:=decide_eq_true h2;clear h2;go_wp2_with fail;refine bodyPost_ret (v:=.tuple #[.int .i64 1,.string ⟨#[110,111,110,101]⟩,.bool false]) (by simp[results,Tryz.results8,go_sem]) rfl ?_;exact ⟨1,[110,111,110,101],false,rfl,by decide,(fun h=>by cases h),HE.out⟩
 case neg =>
  have t2:decide ((n:Int)<2)=false:=decide_eq_false h2;obtain ⟨d,hd⟩:∃d,n=d+1:=⟨n-1,by omega⟩;have Wi:1<=d:=by omega
  have kT:d<=200:=by have:=HL.out;have:=HN.out;omega
  subst hd;obtain ⟨q,hq⟩:∃q:Nat,((q:Nat):Int)=a % 18446744073709551616 % (d:Int):=⟨(a % 18446744073709551616 % (d:Int)).toNat,Int.toNat_of_nonneg (Int.emod_nonneg _ (by omega))⟩;have hqd:q<d:=by have:=Int.emod_lt_of_pos (a % 18446744073709551616) (show (0:Int)<d by omega);omega
  have y1:(IntKind.u64.wrap a).tmod (d:Int)=(q:Int):=by
   rw [jd,Int.tmod_eq_emod_of_nonneg (Int.emod_nonneg _ (by decide)),hq]
  have y2:IntKind.u64.wrap (d:Int)=(d:Int):=by rw[jd];omega
  have y3:IntKind.i64.wrap (((d+1:Nat):Int)-1)=(d:Int):=by rw[IntWalk.i64_in _ (by omega)];omega
  have y3':IntKind.i64.wrap ((d:Int)+1-1)=(d:Int):=by rw[IntWalk.i64_in _ (by omega)];omega
  have y4:IntKind.i64.wrap (q:Int)=(q:Int):=IntWalk.i64_in _ (by omega);obtain⟨j,hj⟩:=ar (1+q);have y5:IntKind.i64.wrap (1+(q:Int))=(j:Int):=by rw[IntWalk.i64_in _ (by omega)];omega
  have y6:(0:Int)<=(j:Int):=Int.natCast_nonneg _;have y7:(j:Int)<(d:Int)+1:=by omega
  have y8:((d:Int) == 0)=false:=by simp;omega
  have y9:(d:Int)≠0:=by omega
  have hjl:j<rows.length:=by have:=HN.out;omega
  obtain ⟨g,o,rfl,hg,hc⟩:∃b o,A=some ⟨b,o,none⟩/\b<w1.heap.size/\w1.cell? ⟨b,o+j*10,none⟩=some (.string (bs rows[j].path)):=by
   rcases NT.out with h|⟨b,o,hA,hb,hc⟩
   ·rw[h]at hjl;cases hjl
   ·exact⟨b,o,hA,hb,hc j hjl 0 (by decide)⟩
  have Y_:=l6.out rows[j] (List.getElem_mem hjl);obtain⟨p,hp⟩:=ar (rows[j].path);rw [<-hp]at hc Y_;obtain⟨R,hR⟩:=ar (dP s.t 0 0 p false);have KF:=KP.out w1 p HE.out (by omega);rw [<-hR]at KF;have BM:Hid (Calls Tryz.prog 30 #[.pointer (some ⟨f.bF,0,none⟩),.agg #[.int .i64 0,.int .i64 0],bs p,.bool false] w1 (aH w1 (.tuple #[.agg #[.int .i64 R.1.dir,bs R.1.name,R.1.no,.bool R.1.eS],.int .i64 R.2]))):=KF;have um:=zH hR;have gY:Hid (R.1.name.length<=255):=by show _<=_;rw[hR];exact kI _ _ _ _ _
  clear h2 hq hqd hj hjl hp Y_ KF hR Wi;go_wp2_with fail;refine BM.out.mono ?_;rintro e w2 ⟨rfl,b2⟩;go_upto_region 5 with fail;obtain ⟨W3,du⟩:∃W,W=w2.alloc (.cells #[.int .i64 R.1.dir,bs R.1.name,R.1.no,.bool R.1.eS] 89):=⟨_,rfl⟩;obtain ⟨b8,fZ⟩:∃b,b=w2.heap.size:=⟨_,rfl⟩;have E3:Ext w1 W3:=by rw[du];exact b2.alloc _
  have X3:Has W3 b8 (.cells #[.int .i64 R.1.dir,bs R.1.name,R.1.no,.bool R.1.eS] 89):=by rw[du,fZ];exact Has.new _ _
  rw [<-du,<-fZ];clear du fZ b2 hc y1 y2 y3 y3' y4 y5 y6 y7 y8 y9 hg t2 BM;have x0:=X3.cell 0;have x1:=X3.cell 1;have xz:=X3.lt;simp only[gA,gB,gC]at x0 x1;obtain ⟨t0,_,_,t3⟩:=gM (p:=R.1.name);obtain⟨P,hP⟩:=ar (bs R.1.name);rw [<-hP]at x1 t0 t3;have HPP:=zH hP;clear hP X3;have fin:Hid (∀(is:Bool) (u:World),Ext W3 u->(is=true->R.2=0/\R.1.name≠[])->Sb s.t w (.returned (.tuple #[.int .i64 R.1.dir,.string P,.bool is])) u):=by
   show ∀_ _,_;intro is u hu hi;refine ⟨R.1.dir,R.1.name,is,by rw[HPP.out],gY.out,fun NZ=>?_,HE.out.trans (E3.trans hu)⟩;obtain ⟨h5,h6⟩:=hi NZ;exact ⟨h6,p,by rw[<-um.out];exact h5,by rw[<-um.out],by rw[<-um.out]⟩
  by_cases h5:R.2=0
  case neg =>
   have t5:(R.2 == 0)=false:=by simpa using h5
   clear h5;go_quiet (fail);go_wp2_with fail;go_ret3;exact fin.out false _ ((Ext.refl _).drewN nq) (fun h=>by cases h)
  case pos =>
   have t5:(R.2 == 0)=true:=by simpa using h5
   have H5:=zH h5
   by_cases h6:R.1.name=[]
   ·have t6:(R.1.name == [])=true:=by rw[h6];rfl
    rw [t6]at t0 t3;clear h5 h6 t6;go_quiet (fail);go_wp2_with fail;go_ret3;exact fin.out false _ ((Ext.refl _).drewN nq) (fun h=>by cases h)
   ·have t6:(R.1.name == [])=false:=by simpa using h6
    have H6:=zH h6;rw [t6]at t0 t3;clear h5 h6 t6;go_quiet (fail);go_wp2_with fail;go_ret3;exact fin.out true _ ((Ext.refl _).drewN nq) (fun _=>⟨H5.out,H6.out⟩)
theorem nB.ext {w w':World} {x:nA} {cs:Array Value} (h:nB w x cs) (E:Ext w w'):nB w' x cs:=by
 obtain ⟨Am,cm,Ai,ci,Ap,cp,h0,h1,h2,h3,h4⟩:=h;exact ⟨Am,cm,Ai,ci,Ap,cp,h0,h1.ext E,h2.ext E,h3.ext E,h4⟩
theorem zr {x:nA} (h:Ip x):iM 140 (fD x.ms x.is)/\fT 140 ⟨fD x.ms x.is,0,0,x.plan,false⟩:=by
 have k:=xJ h.1.1.1 h.1.1.2;refine ⟨k,k.dL.eE,k.dL.xo,k.dL.last,Int.le_refl _,by show (0:Int)<=_;omega,?_⟩;have:=h.2.2;show x.plan.length<=1000;omega
def VX (keep:Bool) (cu cg aY:Int) (b2:List UInt8) (s:aA) (l:List aq) (k:Nat) (T:vT):Prop:=
 if k=0 then T=⟨s,[],[]⟩ else vU keep cu cg aY b2 s l=Jd keep cu cg T (l.drop k)/\T.s.dead=false
theorem Nb {keep:Bool} {cu cg aY:Int} {b2:List UInt8} {s:aA} {l:List aq} {k:Nat} {T:vT} (h:VX keep cu cg aY b2 s l k T) (hk:k<l.length) {c:Nat} (hp:Pl c T.s) (hz:∀p∈T.made,p.2≠0) {dir:Int} {nm:List UInt8}
  (hd:dir=if k=0 then aY else ap T.made l[k].dir) (hn:nm=if k=0 then b2 else l[k].name) :
  ((jA keep cu cg T l[k] dir nm).2≠0->vU keep cu cg aY b2 s l=jA keep cu cg T l[k] dir nm)/\((jA keep cu cg T l[k] dir nm).2=0->VX keep cu cg aY b2 s l (k+1) (jA keep cu cg T l[k] dir nm).1):=by
 have pH:l.drop k=l[k]::l.drop (k+1):=List.drop_eq_getElem_cons hk;have hal:=(qv (keep:=keep) (cu:=cu) (cg:=cg) hp hz (x:=l[k]) (dir:=dir) (nm:=nm)).2.2;unfold VX at h|-
 by_cases h0:k=0
 ·subst h0
  rw [if_pos rfl]at h hd hn;subst h hd hn;rw [List.drop_zero]at pH
  generalize hx:l[0]=x at *
  generalize hr:l.drop (0+1)=r at *
  rw [pH]
  constructor
  ·intro h1
   show (if _ then _ else _)=_;rw [if_pos h1]
  ·intro h1
   rw [if_neg (by omega)];exact ⟨by show (if _ then _ else _)=_;rw[if_neg (fun q=>q h1)],hal h1⟩
 ·rw [if_neg h0]at h hd hn
  subst hd hn;rw [pH]at h
  constructor
  ·intro h1
   rw [h.1];show (if _ then _ else _)=_;rw [if_pos h1]
  ·intro h1
   rw [if_neg (by omega)];refine ⟨?_,hal h1⟩;rw [h.1];show (if _ then _ else _)=_;rw [if_neg (fun q=>q h1)]
theorem El (keep:Bool) (cu cg:Int) (M:List (Int×Int)) (s:aA) (m:ai) (l:List ai):lW keep cu cg M s (m::l)=if (eV cu cg s (lV keep cu cg (ap M m.no) m)).2≠0 then eV cu cg s (lV keep cu cg (ap M m.no) m) else lW keep cu cg M (eV cu cg s (lV keep cu cg (ap M m.no) m)).1 l:=rfl
theorem QD {keep:Bool} {cu cg aY:Int} {b2:List UInt8} {s:aA} {l:List aq} {k:Nat} {T:vT} (h:VX keep cu cg aY b2 s l k T) (hk:k=l.length):vU keep cu cg aY b2 s l=(T,0)/\(1<=k->T.s.dead=false):=by
 unfold VX at h
 by_cases h0:k=0
 ·rw [if_pos h0]at h
  have:l=[]:=List.eq_nil_of_length_eq_zero (by omega);subst this h;exact ⟨rfl,fun q=>by omega⟩
 ·rw [if_neg h0]at h
  rw [hk,List.drop_length]at h;exact ⟨h.1,fun _=>h.2⟩
def vK (V:World) (lo hi:Nat) (A:Option Addr) (l:List aq):Prop:=
 l = []\/∃gl cur,A=some ⟨gl,0,none⟩/\lo<=gl/\gl<hi/\Has V gl (.cells cur 50)/\∀k,(h:k<l.length)->∀j,j<4->cur[k*4+j]?=(cR l[k])[j]?
theorem vK.only {V V':World} {lo hi:Nat} {A:Option Addr} {l:List aq} {L:List Nat} (h:vK V lo hi A l) (o:Only L V V') (hL:∀x∈L,x<lo\/hi<=x):vK V' lo hi A l:=by
 rcases h with h|⟨gl,cur,h1,h2,h3,h4,h5⟩
 ·exact .inl h
 ·exact .inr ⟨gl,cur,h1,h2,h3,o.has h4 (fun hm=>by have:=hL _ hm;omega),h5⟩
theorem vK.ext {V V':World} {lo hi:Nat} {A:Option Addr} {l:List aq} (h:vK V lo hi A l) (o:Ext V V'):vK V' lo hi A l:=h.only (Only.aw (L:=[]) o) (fun x hx=>by cases hx)
theorem dZ.abz {w:World} {base:Nat} {v:Value} {l:List aq} (h:dZ w base v l):∃A cap,v=.slice A l.length cap/\vK w base w.heap.size A l/\l.length<=cap:=by
 rcases h.cases with⟨rfl,rfl⟩|⟨gl,cap,cur,rfl,hb,hg,hn,_,hc⟩
 ·exact⟨none,0,rfl,.inl rfl,Nat.le_refl _⟩
 ·exact⟨_,cap,rfl,.inr ⟨gl,cur,rfl,hb,hg.lt,hg,fun k hk j hj=>by rw[<-hc k hk j hj,hg.cell]⟩,hn⟩
theorem vK.at_ {V:World} {lo hi:Nat} {A:Option Addr} {l:List aq} (h:vK V lo hi A l) {k:Nat} (hk:k<l.length):∃gl,A=some ⟨gl,0,none⟩/\gl<V.heap.size/\V.cell? ⟨gl,k*4,none⟩=some (.int .i64 l[k].dir)/\V.cell? ⟨gl,k*4+1,none⟩=some (.string (bs l[k].name))/\V.cell? ⟨gl,k*4+2,none⟩=some (.int .i64 l[k].no)/\V.cell? ⟨gl,k*4+3,none⟩=some (.int .i64 l[k].depth):=by
 rcases h with h|⟨gl,cur,h1,h2,h3,h4,h5⟩
 ·rw[h]at hk;cases hk
 ·refine ⟨gl,h1,h4.lt,?_,?_,?_,?_⟩
  ·have:=h5 k hk 0 (by decide);rw[h4.cell];exact this
  ·have:=h5 k hk 1 (by decide);rw[h4.cell];exact this
  ·have:=h5 k hk 2 (by decide);rw[h4.cell];exact this
  ·have:=h5 k hk 3 (by decide);rw[h4.cell];exact this
theorem Nc {keep:Bool} {cu cg aY:Int} {b2:List UInt8} {s:aA} {l:List aq} {e:Int} (h:e≠0):jM keep cu cg aY b2 s l e=(s,e):=by unfold jM;rw[if_pos h]
theorem Nd {keep:Bool} {cu cg aY:Int} {b2:List UInt8} {s:aA} {l:List aq} (h:(vU keep cu cg aY b2 s l).2≠0):jM keep cu cg aY b2 s l 0=((vU keep cu cg aY b2 s l).1.s,(vU keep cu cg aY b2 s l).2):=by
 unfold jM;rw[if_neg (fun k=>k rfl),if_pos h]
theorem QE {keep:Bool} {cu cg aY:Int} {b2:List UInt8} {s:aA} {l:List aq} (h:(vU keep cu cg aY b2 s l).2=0):jM keep cu cg aY b2 s l 0=lW keep cu cg (vU keep cu cg aY b2 s l).1.made (vU keep cu cg aY b2 s l).1.s (vU keep cu cg aY b2 s l).1.late.reverse:=by
 unfold jM;rw[if_neg (fun k=>k rfl),if_neg (fun k=>k h)]
theorem PS.FC {c:Nat} {w:World} {B b:Nat} {g:bQ} {s:aA} (h:PS w B b g s) (hp:Pl c s) (keep:Bool) (cu cg fr aY:Int) (a b2:List UInt8) (l:List aq) (b0:aq) (e0:Int) (hT:qi s cu cg fr a l b0 e0) (hlen:l.length<=1000) (hc:c+4*l.length<=900) :
  Calls Tryz.prog 10 #[.pointer (some ⟨b,0,none⟩),.agg #[cu,cg],.int .i64 fr,bs a,.int .i64 aY,bs b2,.bool keep] w (Qv w B b g (jM keep cu cg aY b2 s l e0).1 (jM keep cu cg aY b2 s l e0).2):=by
 obtain ⟨W0,bg⟩:∃W,W=w.alloc (.cells #[cu,cg] 27):=⟨_,rfl⟩;obtain ⟨b8,fZ⟩:∃b,b=w.heap.size:=⟨_,rfl⟩;have E0:Ext w W0:=by rw[bg];exact (Ext.refl _).alloc _
 have X0:Has W0 b8 (.cells #[cu,cg] 27):=by rw[bg,fZ];exact Has.new _ _
 have K:=zH ((h.ext E0).all hp.jj (by omega) cu cg fr a l b0 e0 hT hlen);obtain⟨R,hR⟩:=ar (jM keep cu cg aY b2 s l e0);rw [<-hR];have HR:=zH hR;have HH:=zH h;have HP:=zH hp;have se:=zH X0;have jm:=zH E0;have q0:=X0.cell 0;have q1:=X0.cell 1;have qz:=X0.lt;simp only[gA,gB,gC]at q0 q1;clear h hp hT hR X0 E0;go_enter Tryz.func10,Tryz.ntmps10;go_upto_region 1 with fail;rw [<-bg,<-fZ];clear bg fZ;go_wp2_with fail;refine K.out.mono ?_;rintro e w1 ⟨v,rfl,O1,E1⟩;clear K q0 q1 qz
 by_cases k0:e0=0
 case neg =>
  have hk:(e0 != 0)=true:=by simpa using k0
  have hr:R=(s,e0):=by rw[HR.out];exact Nc k0
  have um:=zH hr;have HE:=zH (jm.out.trans E1);clear k0 O1 E1 hr;go_wp2_with fail;go_ret;rw [um.out];exact ⟨rfl,HH.out.ext HE.out,Only.aw HE.out⟩
 have hk:(e0 != 0)=false:=by simpa using k0
 rw [if_pos k0]at O1;have HK:=zH k0;obtain ⟨A,cap,rfl,hA,hcap⟩:=O1.abz;obtain⟨n,hn⟩:=ar l.length;rw [<-hn]at hcap|-;have HN:=zH hn;have HA:=zH hA;have BL:=zH E1;have X1:=se.out.ext E1;have q0:=X1.cell 0;have q1:=X1.cell 1;have qz:=X1.lt;simp only[gA,gB,gC]at q0 q1;have hmm:=@run_makeMap Tryz.prog;clear k0 O1 hn hA E1 X1;go_upto_region 5 with fail;obtain ⟨W4,fN⟩:∃W,W=(w1.alloc (.map #[] 0)).alloc (.cells #[.pointer (some ⟨b,0,none⟩),cu,cg,.bool keep,.map (some w1.heap.size),.slice none 0 0] 97):=⟨_,rfl⟩;have Fl:Ext w1 W4:=by rw[fN];exact ((Ext.refl _).alloc _).alloc _
 have hsz:w.heap.size<=w1.heap.size:=by have:=jm.out.size;have:=BL.out.size;omega
 have acs:w.heap.size<=W0.heap.size:=jm.out.size;have hlt:=HH.out.lt;have hBw:B<=w.heap.size:=by have h1:=(HH.out.cV b (List.mem_cons_self ..)).1;have h2:=hlt b (List.mem_cons_self ..);omega
 have T4:kA W4 B b g w1.heap.size (w1.heap.size+1) w1.heap.size cu cg keep (.slice none 0 0) ⟨s,[],[]⟩:=by
  refine ⟨(HH.out.ext (jm.out.trans BL.out)).ext Fl,?_,bJ.nil _ _ _,⟨#[],0,?_,rfl,fun k h=>by cases h⟩,by omega,by omega,Nat.le_refl _,fun x hx=>by have:=hlt x hx;omega⟩
  ·rw [fN]
   have:=Has.new (w1.alloc (.map #[] 0)) (.cells #[.pointer (some ⟨b,0,none⟩),cu,cg,.bool keep,.map (some w1.heap.size),.slice none 0 0] 97);rw [World.size_alloc]at this;exact this
  ·rw [fN]
   exact (Has.new w1 _).alloc _
 have A4:vK W4 W0.heap.size w1.heap.size A l:=HA.out.ext Fl;have O4:Only (b::g.list) w W4:=Only.aw (jm.out.trans (BL.out.trans Fl));obtain ⟨bM,OT⟩:∃x,x=w1.heap.size:=⟨_,rfl⟩;obtain ⟨bt,hbt⟩:∃x,x=w1.heap.size+1:=⟨_,rfl⟩;rw [<-fN,<-hbt,<-OT];rw [<-hbt,<-OT]at T4;rw [<-OT]at A4;have acu:w.heap.size<=bM:=by omega
 have acv:bM<=bt:=by omega
 have HT4:=zH T4;have HA4:=zH A4;have OA:=zH O4;have HLT:=zH hlt;obtain⟨RA,hRA⟩:=ar (vU keep cu cg aY b2 s l);have Za:=zH hRA;clear fN OT hbt Fl T4 A4 O4 hlt HA q0 q1 qz hmm hRA;have hcl:(n:Int)<=1000:=by have:=HN.out;omega
 go_wp2_with fail;go_loopw [44] (fun vi wr=>∃(k:Nat) (v:Value) (T:vT) (c':Nat),vi=.int .i64 k/\k<=n/\kA wr B b g bM bt bM cu cg keep v T/\VX keep cu cg aY b2 s l k T/\Pl c' T.s/\c'+3*T.late.length<=c+4*k/\T.late.length<=k/\(∀p∈T.made,p.2≠0)/\vK wr W0.heap.size bM A l/\Only (b::g.list) w wr) (fun vi _=>n-(intOf vi).toNat)
 case atStart=>exact⟨0,_,_,c,rfl,Nat.zero_le _,HT4.out,rfl,HP.out,by show c+3*0<=c+4*0;omega,Nat.le_refl _,fun p hp=>(by cases hp),HA4.out,OA.out⟩
 case round =>
  clear HT4 HA4 OA;obtain ⟨k,v,T,c',rfl,hk,hT,hS,hP,hc1,g_,hz1,hA,hO⟩:=hrel;have k0:(0:Int)<=(k:Int):=Int.natCast_nonneg _;have HT:=zH hT;have HS:=zH hS;have HPk:=zH hP;have HZ:=zH hz1;have HA:=zH hA;have HO:=zH hO;have hTs:=Has.lt hT.2.1
  by_cases hlt:(k:Int)<n
  case pos =>
   have dq:k<l.length:=by have:=HN.out;omega
   obtain ⟨gl,rfl,NX,y0,y1,y2,y3⟩:=hA.at_ dq;obtain⟨x,hx⟩:=ar (l[k]);rw [<-hx]at y0 y1 y2 y3;have Du:IntKind.i64.wrap ((k:Int)+1)=(k:Int)+1:=IntWalk.i64_in _ (by omega);obtain ⟨dir,Nf⟩:∃d,d=if k=0 then aY else ap T.made x.dir:=⟨_,rfl⟩
   obtain ⟨nm,gY⟩:∃d,d=if k=0 then b2 else x.name:=⟨_,rfl⟩
   have rS:=Nb hS dq hP hz1 (dir:=dir) (nm:=nm) (by rw[Nf,hx]) (by rw[gY,hx]);rw [<-hx,<-Za.out]at rS;obtain ⟨W7,Iw⟩:∃W,W=wr.alloc (.cells #[.int .i64 x.dir,bs x.name,x.no,.int .i64 x.depth] 50):=⟨_,rfl⟩;obtain ⟨b19,UQ⟩:∃b,b=wr.heap.size:=⟨_,rfl⟩;have E7:Ext wr W7:=by rw[Iw];exact (Ext.refl _).alloc _
   have B7:Has W7 b19 (.cells #[.int .i64 x.dir,bs x.name,x.no,.int .i64 x.depth] 50):=by rw[Iw,UQ];exact Has.new _ _
   have HE7:=zH E7;have TZ:=zH B7;have Zb:=zH rS;have Zc:=zH Nf;have CA:=zH gY;clear hx Nf gY rS hT hS hP hz1 hA hO E7 B7;go_upto_region 8 with fail;rw [<-Iw,<-UQ];clear Iw UQ;have HT7:=zH (HT.out.ext HE7.out);have HA7:=zH (HA.out.ext HE7.out);have H2:=zH (HO.out.ext HE7.out);clear y0 y1 y2 y3 NX;go_upto_if 52 with fail;go_cut [20,21] (fun vd vn wc=>vd=.int .i64 dir/\vn=.string (bs nm)/\Ext W7 wc)
   case first =>
    by_cases Cw:k=0
    ·subst Cw
     have hd:aY=dir:=by rw[Zc.out,if_pos rfl]
     have hn:b2=nm:=by rw[CA.out,if_pos rfl]
     have HD:=zH hd;have NH:=zH hn;have tk:decide (((0:Nat):Int) > 0)=false:=rfl;clear hd hn;go_wp2_with fail;go_meet;exact ⟨by rw[HD.out],by rw[NH.out],Ext.refl _⟩
    ·have acw:0<k:=by omega
     have tk:decide ((k:Int) > 0)=true:=decide_eq_true (by omega);have tk':decide ((0:Int)<(k:Int))=true:=decide_eq_true (by omega);have hd:ap T.made x.dir=dir:=by rw[Zc.out,if_neg Cw]
     have hn:x.name=nm:=by rw[CA.out,if_neg Cw]
     obtain ⟨_,tu,_,⟨es,cl,hM,M2⟩,_⟩:=id HT7.out;have q1:∀u:Gr W7,(Instr.lookup 94 (.map (some bM)) (.int .i64 x.dir) false).run Tryz.prog u.w=.ok (.int .i64 (ap T.made x.dir)) u.w:=fun u=>vB (Has.ext hM u.h) M2 x.dir
     rw [hd]at q1;have t4:∀u:Gr W7,u.w.cell? ⟨bt,4,none⟩=some (.map (some bM)):=Gr.cell (Has.lt tu) (Has.cell tu 4);have x0:∀u:Gr W7,u.w.cell? ⟨b19,0,none⟩=some (.int .i64 x.dir):=Gr.cell TZ.out.lt (TZ.out.cell 0);have x1:∀u:Gr W7,u.w.cell? ⟨b19,1,none⟩=some (.string (bs x.name)):=Gr.cell TZ.out.lt (TZ.out.cell 1);have NH:=zH hn;clear Cw hd hn tu hM M2;go_upto_region 10 with fail;refine eI W7 (by kernel_rfl) (by kernel_rfl) (Ext.refl _).drew ?_
     repeat (quiet_step (fail))
     refine wpQuiet_nil ?_;rintro w8 ⟨⟨w8,E8⟩,h8⟩;dsimp only at h8;subst h8;have zL:=zH E8;clear q1 t4 x0 x1 E8;go_wp2_with fail;go_meet;exact ⟨rfl,by rw[NH.out],zL.out⟩
   case rest =>
   obtain ⟨rfl,rfl,E8⟩:=hcut;obtain ⟨w8,hw8⟩:∃w1,w1=wc:=⟨_,rfl⟩;rw [<-hw8]at E8|-;have HT8:=zH (HT7.out.ext E8);have HA8:=zH (HA7.out.ext E8);have xP:=zH (H2.out.ext E8);have B8:=TZ.out.ext E8;have x0:=B8.cell 0;have x1:=B8.cell 1;have x2:=B8.cell 2;have x3:=B8.cell 3;have xz:=B8.lt;simp only[gA,gB,gC]at x0 x1 x2 x3;have K:=zH (HT8.out.Y2 HPk.out (by have:=HN.out;omega) HZ.out (by have:=HN.out;omega) x dir nm);obtain⟨Q,hQ⟩:=ar (jA keep cu cg T x dir nm);have AO:=qv (keep:=keep) (cu:=cu) (cg:=cg) HPk.out HZ.out (x:=x) (dir:=dir) (nm:=nm);have hpl:=vu (keep:=keep) (cu:=cu) (cg:=cg) HPk.out hc1 x dir nm;rw [<-hQ]at K AO hpl;have hst:=Zb.out;rw [<-hQ]at hst;have ou:=zH hst;have Sc:=zH AO;have l6:=zH hpl;have HIV:=zH (HT8.out.own);clear hw8 E8 B8 hQ AO hpl hst;go_wp2_with fail;refine K.out.mono ?_;rintro e w9 ⟨rfl,v9,T9,O9,_⟩;have hLs:∀y∈zo b g bt bM v,y<w.heap.size\/bM<=y:=fun y hy=>by
    unfold zo at hy;rcases List.mem_cons.1 hy with rfl|hy
    ·exact .inl (HLT.out _ (List.mem_cons_self ..))
    rcases List.mem_append.1 hy with hy|hy
    ·exact .inl (HLT.out _ (List.mem_cons_of_mem _ hy))
    rcases List.mem_cons.1 hy with rfl|hy
    ·exact .inr (by omega)
    rcases List.mem_cons.1 hy with rfl|hy
    ·exact .inr (Nat.le_refl _)
    ·exact .inr (HIV.out y (Option.mem_toList.1 hy)).1
   have HA9:=zH (HA8.out.only O9 (fun y hy=>(hLs y hy).imp (fun h=>by omega) id));have HO9:=zH (xP.out.trans O9 (fun y hy=>by
    unfold zo at hy;rcases List.mem_cons.1 hy with rfl|hy
    ·exact .inl (List.mem_cons_self ..)
    rcases List.mem_append.1 hy with hy|hy
    ·exact .inl (List.mem_cons_of_mem _ hy)
    refine .inr ?_;rcases List.mem_cons.1 hy with rfl|hy
    ·omega
    rcases List.mem_cons.1 hy with rfl|hy
    ·omega
    ·have:=(HIV.out y (Option.mem_toList.1 hy)).1;omega))
   have HT9:=zH T9;clear K x0 x1 x2 x3 xz T9 O9 hLs
   by_cases kq:Q.2=0
   case neg =>
    have h68:(Q.2 != 0)=true:=by simpa using kq
    have FE:=ou.out.1 kq;have VY:R=(Q.1.s,Q.2):=by rw[HR.out,HK.out,Nd (by rw[<-Za.out,FE];exact kq),<-Za.out,FE]
    have um:=zH VY;clear kq FE VY;go_wp2_with fail;go_ret;rw [um.out];exact ⟨rfl,HT9.out.1,HO9.out⟩
   have h68:(Q.2 != 0)=false:=by simpa using kq
   obtain ⟨c2,g1,g2⟩:=l6.out;have hs2:=ou.out.2 kq;have HS2:=zH hs2;have HG1:=zH g1;clear kq hs2 g1;go_wp2_with fail;go_roundw
   case rel=>exact⟨k+1,v9,Q.1,c2,by go_num,by omega,HT9.out,HS2.out,HG1.out,by omega,by have:=Sc.out.2.1;omega,Sc.out.1,HA9.out,HO9.out⟩
   case measure=>simp[intOf];omega
  case neg =>
   have JW:k=n:=by omega
   have dq:k=l.length:=by rw[JW];exact HN.out
   clear hA;obtain ⟨FE,IW⟩:=QD hS dq;have VY:R=lW keep cu cg T.made T.s T.late.reverse:=by
    have e0':(vU keep cu cg aY b2 s l).2=0:=by rw[FE]
    rw [HR.out,HK.out,QE e0',FE]
   obtain⟨M,hM0⟩:=ar T.made;rw [<-hM0]at VY;obtain ⟨lt,UR⟩:∃n,n=T.late.length:=⟨_,rfl⟩;have HM0:=zH hM0;have um:=zH VY;have TK:=zH IW;have HL0:=zH UR;have rO:lt<=n:=by omega
   have EB:c'+3*lt<=900:=by have:=HN.out;omega
   have hlk:lt<=k:=by omega
   have hv:∃A2 c5,v=.slice A2 lt c5:=by
    obtain ⟨A2,c5,e,_⟩:=hT.2.2.1.at_;exact ⟨A2,c5,by rw[UR];exact e⟩
   obtain ⟨A2,c5,rfl⟩:=hv;have t5:=Has.cell hT.2.1 5;have tz:=Has.lt hT.2.1;simp only[gA,gB,gC]at t5;have wl:IntKind.i64.wrap ((lt:Int)-1)=(lt:Int)-1:=IntWalk.i64_in _ (by omega);clear JW dq FE IW VY hM0 UR hS hP hz1 hO hT;go_wp2_with fail;go_loopw [23] (fun vi wq=>∃(j:Nat) (s2:aA) (c2:Nat),vi=.int .i64 ((j:Int)-1)/\j<=lt/\PS wq B b g s2/\Pl c2 s2/\c2+3*j<=900/\(1<=j->s2.dead=false)/\R=lW keep cu cg M s2 (T.late.take j).reverse/\Only (b::g.list) wr wq) (fun vi _=>((intOf vi)+1).toNat)
   case atStart=>exact⟨lt,T.s,c',rfl,Nat.le_refl _,HT.out.1,HPk.out,EB,fun h=>TK.out (by omega),by rw[um.out,HL0.out,List.take_length],Only.aw (Ext.refl _)⟩
   case round =>
    clear t5 tz wl;obtain ⟨j,s2,c2,rfl,hj,zK,Vx,Z5,tI,zx,VL⟩:=hrel;have xO:=zH zK;have Hp2:=zH Vx;have HD2:=zH tI;have qf:=zH zx;have v_:=zH VL;have RZ:=zH (HT.out.fs VL zK);clear zK Vx tI zx VL
    cases j with
    | zero =>
     go_wp2_with fail;go_ret;rw [qf.out];exact ⟨rfl,xO.out,HO.out.then v_.out⟩
    | succ j =>
     have hjl:j<T.late.length:=by have:=HL0.out;omega
     obtain⟨m,hm⟩:=ar (T.late[j]);have lk:(T.late.take (j+1)).reverse=m::(T.late.take j).reverse:=by rw[List.take_succ_eq_append_getElem hjl,List.reverse_append,hm];rfl
     have Dt:R=if (eV cu cg s2 (lV keep cu cg (ap M m.no) m)).2≠0 then eV cu cg s2 (lV keep cu cg (ap M m.no) m) else lW keep cu cg M (eV cu cg s2 (lV keep cu cg (ap M m.no) m)).1 (T.late.take j).reverse:=by rw[qf.out,lk,El]
     have e1:((j+1:Nat):Int)-1=(j:Int):=by omega
     rw [e1];have wj:IntKind.i64.wrap ((j:Int)-1)=(j:Int)-1:=IntWalk.i64_in _ (by omega);have j0:(0:Int)<=(j:Int):=Int.natCast_nonneg _;have acx:(j:Int)<(lt:Int):=by omega
     obtain ⟨_,tu,VW,⟨es,cl,hMp,M2⟩,_⟩:=id RZ.out;obtain ⟨gb,y0,y1,y2,y3,y4,y5,y6,y7,y8,y9,yz,rfl⟩:∃gb,wr.cell? ⟨gb,j*10,none⟩=some (.int .i64 m.no)/\wr.cell? ⟨gb,j*10+1,none⟩=some (.int .i64 m.dev)/\wr.cell? ⟨gb,j*10+2,none⟩=some (.int .i64 m.kind)/\wr.cell? ⟨gb,j*10+3,none⟩=some (.int .i64 m.mode)/\wr.cell? ⟨gb,j*10+4,none⟩=some (.int .i64 m.uid)/\wr.cell? ⟨gb,j*10+5,none⟩=some (.int .i64 m.gid)/\wr.cell? ⟨gb,j*10+6,none⟩=some (.int .i64 m.ah)/\wr.cell? ⟨gb,j*10+7,none⟩=some (.int .i64 m.data.length)/\wr.cell? ⟨gb,j*10+8,none⟩=some (.int .i64 m.mtime)/\wr.cell? ⟨gb,j*10+9,none⟩=some (.int .i64 m.ctime)/\gb<wr.heap.size/\A2=some ⟨gb,0,none⟩:=by
      rcases bJ.cases VW with⟨_,e⟩|⟨gb,cap',cur,e,_,hg,_,_,hc⟩
      ·have e:T.late=[]:=e
       rw [e]at hjl;cases hjl
      ·injection e with e
       have h':=fun i (hi:i<10)=>hc j hjl i hi
       rw [<-hm]at h';exact ⟨gb,h' 0 (by decide),h' 1 (by decide),h' 2 (by decide),h' 3 (by decide),h' 4 (by decide),h' 5 (by decide),h' 6 (by decide),h' 7 (by decide),h' 8 (by decide),h' 9 (by decide),hg.lt,e⟩
     have M8:jY es.toList M:=by rw[HM0.out];exact M2
     have q1:=vB (Has.ext hMp (Ext.refl wr).drew) M8 m.no;have t4:=Has.cell tu 4;have t5:=Has.cell tu 5;have tz:=Has.lt tu;simp only[gA,gB,gC]at t4 t5;have ED:Ext wr wr.drew:=(Ext.refl _).drew;have K:=zH ((xO.out.ext ED).Fz Hp2.out (by omega) (HD2.out (by omega)) (Has.ext tu ED) (ap M m.no) m);unfold gD at K
     generalize ap M m.no=mn at *
     obtain⟨Q,hQ⟩:=ar (eV cu cg s2 (lV keep cu cg mn m));have hpl:=Hp2.out.eV cu cg (lV keep cu cg mn m) vr;have hal:=fun h=>vv (cu:=cu) (cg:=cg) (l:=lV keep cu cg mn m) (s:=s2) MU h
     have IZ:=zj keep cu cg mn m;rw [<-hQ]at K Dt hpl hal;have l6:=zH (hpl.mono (by omega:_<=c2+3));have HAL:=zH hal;have HR3:=zH Dt;have HED:=zH ED;clear hm lk Dt e1 tu VW hMp M2 M8 ED hQ hpl hal IZ hjl hj;go_upto_region 18 with fail;go_still_tail 21,(by kernel_rfl);change wpList _ _ _ _ _ wr.drew;go_wp2_with fail;refine K.out.mono ?_;rintro e w5 ⟨rfl,P5,O5⟩;have Fx:=zH P5;have FB:=zH (v_.out.then ((Only.aw (L:=b::g.list) HED.out).then O5));clear K y0 y1 y2 y3 y4 y5 y6 y7 y8 y9 yz q1 t4 t5 tz P5 O5
     by_cases kq:Q.2=0
     case neg =>
      have abA:(Q.2 != 0)=true:=by simpa using kq
      have Rm:R=Q:=by rw[HR3.out,if_pos kq]
      have HRQ:=zH Rm;clear kq Rm;go_wp2_with fail;go_ret;rw [HRQ.out];exact ⟨rfl,Fx.out,HO.out.then FB.out⟩
     have abA:(Q.2 != 0)=false:=by simpa using kq
     have Rm:=HR3.out;rw [if_neg (fun h=>h kq)]at Rm;have HRQ:=zH Rm;have HAQ:=zH (HAL.out kq);clear kq Rm;go_wp2_with fail;go_roundw
     case rel=>exact⟨j,Q.1,c2+3,by first|rfl|go_num,by omega,Fx.out,l6.out,by omega,fun _=>HAQ.out,HRQ.out,FB.out⟩
     case measure=>simp[intOf]
end Go.Proofs.YtblbohcaphcobaaGreatDoor
