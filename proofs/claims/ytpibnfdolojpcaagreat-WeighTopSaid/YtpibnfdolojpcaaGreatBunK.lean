import Derived.Test.YtpibnfdolojpcaaGreatBunX
import Derived.Test.YtpibnfdolojpcaaGreatBunH
import Derived.Test.YtpibnfdolojpcaaGreatBunJ
import Derived.Test.YtpibnfdolojpcaaGreatBunC
import Derived.Test.YtpibnfdolojpcaaGreatBunI
import Derived.Test.YtpibnfdolojpcaaGreatBunG
import Derived.Lib.AppendZerosOnto
set_option maxHeartbeats 4000000
set_option maxRecDepth 100000
namespace Go.Proofs.YtpibnfdolojpcaaGreat
theorem tre_pre {c:Nat} {S T:TreeD} {p:Int} (h:Tre c S) (hT:p=0→Tre (c+1) T):Tre (c+1) (preT p S T):=by
 unfold preT;split
 ·exact tre_mono h (by omega)
 ·rename_i h0;exact hT (Decidable.not_not.1 h0)
theorem come_last (S:TreeD) (cu cg now dir:Int) (nm:List UInt8) (n:NodeD):(comeT S cu cg now dir nm n).last≤S.last+1:=by
 unfold comeT;split
 ·show (makeT S _).last≤_
  unfold makeT;split
  ·exact Int.le_refl _
  ·omega
 ·omega
theorem pre_last {S T:TreeD} {p:Int} (h:T.last≤S.last+1):(preT p S T).last≤S.last+1:=by
 unfold preT;split
 ·omega
 ·exact h
theorem noEnts_kill {S:TreeD} (h:NoEnts S) (no:Int):NoEnts (killT S no):=by
 unfold killT;split
 ·exact fun m hm=>h m (mem_drop hm).1
 ·exact h
theorem noEnts_set {S:TreeD} (h:NoEnts S) {n:NodeD} (hn:n.kind≠1→n.ents=[]):NoEnts (setT S n):=fun m hm hk=>by
 rcases mem_setT hm with⟨hm,_⟩|rfl
 ·exact h m hm hk
 ·exact hn hk
theorem noEnts_less {S:TreeD} (h:NoEnts S) (now:Int) {n:NodeD} (hn:n.kind≠1→n.ents=[]):NoEnts (lessT S now n):=by
 unfold lessT;split
 ·exact noEnts_kill (noEnts_set (n:=lessN now n) h hn) _
 ·exact noEnts_set (n:=lessN now n) h hn
theorem noEnts_touch {S:TreeD} (h:NoEnts S) {dir now:Int} {l:List EntD} (hk:(getN S.nodes dir).kind=1):NoEnts (touchT S dir now l):=noEnts_set h fun hn=>absurd hk hn
theorem noEnts_getN {S:TreeD} (h:NoEnts S) (no:Int) (hi:isN S.nodes no=true):(getN S.nodes no).kind≠1→(getN S.nodes no).ents=[]:=h _ (isN_true hi).2.2
theorem noEnts_gone {S:TreeD} (h:NoEnts S) {cu cg now dir:Int} {nm:List UInt8} (hl:leaveE S cu cg dir nm=0):NoEnts (goneT S now (leaveD S cu cg dir nm) (leaveN S cu cg dir nm) nm):=by
 obtain ⟨z1,z2,_,z4,z5⟩:=leaveE_zero hl;obtain ⟨hi,hk,_⟩:=placeE_zero z1;unfold goneT;rw [z4,z5,(isN_true hi).2.1];exact noEnts_less (noEnts_touch h hk) now (noEnts_getN h _ z2)
theorem noEnts_hard {c:Nat} {S:TreeD} (_hT:Tre c S) (h:NoEnts S) (cu cg now no dir:Int) (nm:List UInt8):NoEnts (hardT S cu cg now no dir nm):=by
 unfold hardT;split
 ·rename_i h0
  obtain ⟨z1,z2,z3,_⟩:=hardE_zero h0;obtain ⟨hi,hk,_⟩:=placeE_zero z1;have h1:NoEnts (setT S (hardN S now no)):=noEnts_set h (noEnts_getN h no z2);refine noEnts_touch h1 ?_;have hne:dir≠(hardN S now no).no:=by
   intro e;have e2:(hardN S now no).no=no:=(isN_true z2).2.1;rw [e2]at e;rw [e]at hk;exact z3 hk
  rw [(setN_get hne).1];exact hk
 ·exact h
theorem move_last (S:TreeD) (cu cg now fr to_:Int) (a b:List UInt8):(moveT S cu cg now fr to_ a b).last=S.last:=by
 unfold moveT;split
 ·show (overT S now _).last=S.last
  exact (over_devs S now _).1
 ·rfl
open Go.ChangeShapes Go.WideShapes Go.ChangeAt Go.RowKit
structure SysD where
 t : TreeD
 now:Int
 count:Int
 plan:List (Int×Int)
 dead:Bool
def goE (s:SysD):Int:=if s.dead=true then 20 else hitE s.plan (s.count+1)
def goS (s:SysD):SysD:=if s.dead=true then s else {s with count:=s.count+1,dead:=hitD s.plan (s.count+1)}
inductive Chg where
 | mkdir (dir:Int) (nm:List UInt8) (mode:Int)
 | create (dir:Int) (nm:List UInt8) (mode:Int) (data:List UInt8)
 | symlink (dir:Int) (nm:List UInt8) (text:List UInt8)
 | link (no dir:Int) (nm:List UInt8)
 | unlink (dir:Int) (nm:List UInt8)
 | rmdir (dir:Int) (nm:List UInt8)
 | rename (fr:Int) (a:List UInt8) (to_:Int) (b:List UInt8)
 | chmod (no mode:Int)
 | chown (no uid gid:Int)
 | utime (no mt:Int)
 | write (no:Int) (data:List UInt8)
def chgT (S:TreeD) (cu cg now:Int):Chg→TreeD
 | .mkdir dir nm mode=>preT (dirP mode) S (comeT S cu cg now dir nm (dirZ mode dir))
 | .create dir nm mode data=>preT (fileP mode data.length) S (comeT S cu cg now dir nm (fileZ mode data))
 | .symlink dir nm text=>preT (symP text) S (comeT S cu cg now dir nm (symZ text))
 | .link no dir nm=>hardT S cu cg now no dir nm
 | .unlink dir nm=>unlinkT S cu cg now dir nm
 | .rmdir dir nm=>rmdirT S cu cg now dir nm
 | .rename fr a to_ b=>moveT S cu cg now fr to_ a b
 | .chmod no mode=>modeT S cu now no mode
 | .chown no uid gid=>ownrT S cu now no uid gid
 | .utime no mt=>timeT S cu now no mt
 | .write no data=>wriT S cu cg now no data
def chgE (S:TreeD) (cu cg now:Int):Chg→Int
 | .mkdir dir nm mode=>preE (dirP mode) (comeE S cu cg now dir nm (dirZ mode dir))
 | .create dir nm mode data=>preE (fileP mode data.length) (comeE S cu cg now dir nm (fileZ mode data))
 | .symlink dir nm text=>preE (symP text) (comeE S cu cg now dir nm (symZ text))
 | .link no dir nm=>hardE S cu cg no dir nm
 | .unlink dir nm=>unlinkE S cu cg dir nm
 | .rmdir dir nm=>rmdirE S cu cg dir nm
 | .rename fr a to_ b=>moveE S cu cg fr to_ a b
 | .chmod no mode=>modeE S cu no mode
 | .chown no uid gid=>ownrE S cu no uid gid
 | .utime no mt=>timeE S cu no mt
 | .write no data=>wriE S cu cg no data.length
def chgN (S:TreeD) (cu cg now:Int):Chg→Int
 | .mkdir dir nm mode=>preN (dirP mode) (comeN S cu cg now dir nm (dirZ mode dir))
 | .create dir nm mode data=>preN (fileP mode data.length) (comeN S cu cg now dir nm (fileZ mode data))
 | .symlink dir nm text=>preN (symP text) (comeN S cu cg now dir nm (symZ text))
 | _=>0
def chS (s:SysD) (cu cg:Int) (x:Chg):SysD:=if goE s≠0 then goS s else {goS s with t:=chgT s.t cu cg s.now x}
def chE (s:SysD) (cu cg:Int) (x:Chg):Int:=if goE s≠0 then goE s else chgE s.t cu cg s.now x
def chN (s:SysD) (cu cg:Int) (x:Chg):Int:=if goE s≠0 then 0 else chgN s.t cu cg s.now x
theorem hitD_zero {l:List (Int×Int)} {c:Int} (h:hitE l c=0):hitD l c=false:=by
 unfold hitE at h;unfold hitD
 cases hx:hitO l c with
 | none=>rfl
 | some x =>
  rw [hx]at h;have h':x.2=0:=h;show (x.2 == 20)=false;rw [h'];rfl
theorem goS_alive {s:SysD} (h:goE s=0):s.dead=false∧goS s={s with count:=s.count+1}:=by
 unfold goE at h;split at h
 ·cases h
 ·rename_i hd
  have hd':s.dead=false:=by simpa using hd
  refine ⟨hd',?_⟩;unfold goS;rw [if_neg hd,hitD_zero h,←hd']
theorem goE_plan {s:SysD} (h:s.dead=false):goE s=hitE s.plan (s.count+1):=by unfold goE;rw[if_neg (by rw[h];decide)]
theorem goS_plan {s:SysD} (h:s.dead=false):goS s={s with count:=s.count+1,dead:=hitD s.plan (s.count+1)}:=by unfold goS;rw[if_neg (by rw[h];decide)]
structure Sane (c:Nat) (s:SysD):Prop where
 tre:Tre c s.t
 noe:NoEnts s.t
 last:s.t.last≤c+1
 c0:0≤s.count
 c1:s.count≤c
 plan:s.plan.length≤1000
theorem noEnts_pre {S T:TreeD} {p:Int} (h:NoEnts S) (k:NoEnts T):NoEnts (preT p S T):=by unfold preT;split;exact h;exact k
theorem noEnts_make {S:TreeD} (h:NoEnts S) {n:NodeD} (hn:n.kind≠1→n.ents=[]):NoEnts (makeT S n):=by
 unfold makeT;split
 ·intro m hm hk
  rcases List.mem_append.1 hm with hm|hm
  ·exact h m hm hk
  ·rw [List.mem_singleton]at hm
   subst hm;exact hn hk
 ·exact h
theorem noEnts_come {S:TreeD} (hu:NosUp S.nodes S.last) (h:NoEnts S) (cu cg now dir:Int) (nm:List UInt8) (n:NodeD) (hn:n.kind≠1→n.ents=[]):NoEnts (comeT S cu cg now dir nm n):=by
 unfold comeT;split
 ·rename_i h0
  obtain ⟨h1,_,_⟩:=comeE_zero h0;obtain ⟨p1,p2,_⟩:=placeE_zero h1;refine noEnts_touch (noEnts_make (n:=newN S cu cg now dir n) h hn) ?_;rw [(getN_make hu _ p1).1];exact p2
 ·exact h
theorem noEnts_same {S:TreeD} (h:NoEnts S) {no:Int} (hi:isN S.nodes no=true) {n:NodeD} (hk:n.kind=(getN S.nodes no).kind) (he:n.ents=(getN S.nodes no).ents):NoEnts (setT S n):=
 noEnts_set h fun hn=>by rw[he];exact noEnts_getN h no hi (by rw[←hk];exact hn)
theorem ownE_is {S:TreeD} {cu no:Int} (h:ownE S cu no=0):isN S.nodes no=true:=(ownE_zero h).1
theorem noEnts_mode {S:TreeD} (h:NoEnts S) (cu now no m:Int):NoEnts (modeT S cu now no m):=by
 unfold modeT;split
 ·rename_i h0
  unfold modeE at h0;split at h0
  ·rename_i h1;exact absurd h0 h1
  ·rename_i h1;exact noEnts_same h (ownE_is (Decidable.not_not.1 h1)) rfl rfl
 ·exact h
theorem noEnts_ownr {S:TreeD} (h:NoEnts S) (cu now no u g:Int):NoEnts (ownrT S cu now no u g):=by
 unfold ownrT;split
 ·rename_i h0
  unfold ownrE at h0;split at h0
  ·rename_i h1;exact absurd h0 h1
  ·rename_i h1;exact noEnts_same h (ownE_is (Decidable.not_not.1 h1)) rfl rfl
 ·exact h
theorem noEnts_time {S:TreeD} (h:NoEnts S) (cu now no t:Int):NoEnts (timeT S cu now no t):=by
 unfold timeT;split
 ·rename_i h0
  unfold timeE at h0;split at h0
  ·rename_i h1;exact absurd h0 h1
  ·rename_i h1;exact noEnts_same h (ownE_is (Decidable.not_not.1 h1)) rfl rfl
 ·exact h
theorem noEnts_move {c:Nat} {S:TreeD} (h:Tre c S) (hN:NoEnts S) (cu cg now fr to_:Int) (a b:List UInt8):NoEnts (moveT S cu cg now fr to_ a b):=by
 unfold moveT;split
 case isFalse=>exact hN
 rename_i hc;obtain ⟨p1,p2,p3,p4,p5⟩:=moveE_zero hc.1 hc.2;have hns:=hc.2;obtain ⟨z1,z2,z3,z4,z5⟩:=leaveE_zero p1;obtain ⟨if0,kf,_⟩:=placeE_zero z1;obtain ⟨it0,kt,ckb⟩:=placeE_zero p2;have pt:=placeN_zero p2;unfold sameB at hns;unfold oldNo at hns p5⊢;rw [z5,pt]at hns;rw [z5,pt]at p5;rw [z4,z5,pt];clear z4 z5 pt hc p1 p2 p3 p4;obtain ⟨no,hno⟩:∃no,no=findF (getN S.nodes fr).ents a:=⟨_,rfl⟩;obtain ⟨old,hold⟩:∃old,old=findF (getN S.nodes to_).ents b:=⟨_,rfl⟩;rw [←hno]at z2 z3 p5 hns⊢;rw [←hold]at p5 hns⊢;have nfr:=(isN_true if0).2.1;have nto:=(isN_true it0).2.1;have mto:=(isN_true it0).2.2;have mno:=(isN_true z2).2.2;have hpos:=h.nos.2 _ mno;rw [(isN_true z2).2.1]at hpos;obtain ⟨x,hx,hx1,hx2⟩:=findF_in (l:=(getN S.nodes fr).ents) (nm:=a) (by rw[←hno];omega);have hO:isN S.nodes old=true→old≠to_∧old≠fr:=by
  intro hi;have mo:=(isN_true hi).2.2;have eo:=(isN_true hi).2.1;obtain ⟨u1,u2,u3,u4⟩:=putE_zero (p5 hi);have hpo:=(h.nos.2 _ mo).1;rw [eo]at hpo;obtain ⟨y,hy,hy1,hy2⟩:=findF_in (l:=(getN S.nodes to_).ents) (nm:=b) (by rw[←hold];omega);rw [←hold]at hy2;have hKo:=h.kin _ mto y hy;rw [hy2,nto]at hKo;refine ⟨hKo.1,fun e=>?_⟩;rw [e]at u4;rw [u4]at hx;cases hx
 obtain ⟨T,hT⟩:∃T,T=overT S now old:=⟨_,rfl⟩;have h0:NoEnts T:=by
  rw [hT];unfold overT;split
  ·rename_i hi
   exact noEnts_less hN now (noEnts_getN hN _ hi)
  ·exact hN
 have hgT:∀q,(isN S.nodes old=true→old≠q)→getN T.nodes q=getN S.nodes q∧isN T.nodes q=isN S.nodes q:=by
  intro q hq;rw [hT]
  cases hi:isN S.nodes old
  ·unfold overT;rw[if_neg (by rw[hi];decide)];exact⟨rfl,rfl⟩
  ·exact over_get h now (Ne.symm (hq hi))
 have gfr:=hgT fr fun hi=>(hO hi).2
 have gto:=hgT to_ fun hi=>(hO hi).1
 have h1:NoEnts (touchT T fr now (dropF (getN S.nodes fr).ents a)):=noEnts_touch h0 (by rw[gfr.1];exact kf);obtain ⟨T1,hT1⟩:∃T1,T1=touchT T fr now (dropF (getN S.nodes fr).ents a):=⟨_,rfl⟩;rw [←hT1]at h1;unfold laidT;rw [←hT,←hT1];have kt1:(getN T1.nodes to_).kind=1:=by
  rw [hT1]
  by_cases e:to_=(touchN T fr now (dropF (getN S.nodes fr).ents a)).no
  ·have hi:isN T.nodes (touchN T fr now (dropF (getN S.nodes fr).ents a)).no=true:=by rw[←e,gto.2];exact it0
   have g1:=getN_set_eq T.nodes (touchN T fr now (dropF (getN S.nodes fr).ents a)) hi;rw [←e]at g1;rw [show getN (touchT T fr now (dropF (getN S.nodes fr).ents a)).nodes to_=_ from g1];show (getN T.nodes fr).kind=1;rw [gfr.1];exact kf
  ·have:=(setN_get (S:=T) (n:=touchN T fr now (dropF (getN S.nodes fr).ents a)) (no:=to_) e).1
   rw [show getN (touchT T fr now (dropF (getN S.nodes fr).ents a)).nodes to_=_ from this,gto.1];exact kt
 exact noEnts_set (noEnts_touch h1 kt1) fun hk=>noEnts_getN hN _ z2 (by exact hk)
theorem noEnts_wri {S:TreeD} (h:NoEnts S) (cu cg now no:Int) (data:List UInt8):NoEnts (wriT S cu cg now no data):=by
 unfold wriT;split
 ·rename_i h0
  have hi:isN S.nodes no=true:=by
   unfold wriE at h0;split at h0
   ·cases h0
   ·rename_i h1;simpa using h1
  have h1:NoEnts (fillT S no data):=by
   unfold fillT;split
   ·intro m hm hk
    rcases mem_setN hm with hm|rfl
    ·exact h m hm hk
    ·exact noEnts_getN h no hi hk
   ·exact h
  have hi2:isN (fillT S no data).nodes no=true:=by
   unfold fillT;split
   ·show isN (setN S.nodes _) no=true;rw[isN_set];exact hi
   ·exact hi
  exact noEnts_same h1 hi2 rfl rfl
 ·exact h
theorem noEnts_chg {c:Nat} {S:TreeD} (h:Tre c S) (hN:NoEnts S) (cu cg now:Int) (x:Chg):NoEnts (chgT S cu cg now x):=by
 cases x with
 | mkdir dir nm mode=>exact noEnts_pre hN (noEnts_come h.nos hN _ _ _ _ _ _ fun _=>rfl)
 | create dir nm mode data=>exact noEnts_pre hN (noEnts_come h.nos hN _ _ _ _ _ _ fun _=>rfl)
 | symlink dir nm text=>exact noEnts_pre hN (noEnts_come h.nos hN _ _ _ _ _ _ fun _=>rfl)
 | link no dir nm=>exact noEnts_hard h hN _ _ _ _ _ _
 | unlink dir nm =>
  show NoEnts (unlinkT S cu cg now dir nm);unfold unlinkT;split
  ·rename_i h0
   refine noEnts_gone hN ?_;unfold unlinkE at h0;split at h0
   ·rename_i h1;exact absurd h0 h1
   ·rename_i h1;exact Decidable.not_not.1 h1
  ·exact hN
 | rmdir dir nm =>
  show NoEnts (rmdirT S cu cg now dir nm);unfold rmdirT;split
  ·rename_i h0
   refine noEnts_gone hN ?_;unfold rmdirE at h0;split at h0
   ·rename_i h1;exact absurd h0 h1
   ·rename_i h1;exact Decidable.not_not.1 h1
  ·exact hN
 | rename fr a to_ b=>exact noEnts_move h hN _ _ _ _ _ _ _
 | chmod no mode=>exact noEnts_mode hN _ _ _ _
 | chown no uid gid=>exact noEnts_ownr hN _ _ _ _ _
 | utime no mt=>exact noEnts_time hN _ _ _ _
 | write no data=>exact noEnts_wri hN _ _ _ _ _
theorem less_last (S:TreeD) (now:Int) (n:NodeD):(lessT S now n).last=S.last:=by
 unfold lessT;split
 ·rw[killT_last];rfl
 ·rfl
theorem gone_last (S:TreeD) (now:Int) (d n:NodeD) (nm:List UInt8):(goneT S now d n nm).last=S.last:=by unfold goneT;rw[less_last];rfl
theorem chg_last (S:TreeD) (cu cg now:Int) (x:Chg):(chgT S cu cg now x).last≤S.last+1:=by
 cases x with
 | mkdir dir nm mode=>exact pre_last (come_last ..)
 | create dir nm mode data=>exact pre_last (come_last ..)
 | symlink dir nm text=>exact pre_last (come_last ..)
 | link no dir nm=>show (hardT ..).last≤_;unfold hardT;split<;>(show S.last≤_;omega)
 | unlink dir nm=>show (unlinkT ..).last≤_;unfold unlinkT;split<;>(try rw[gone_last])<;>omega
 | rmdir dir nm=>show (rmdirT ..).last≤_;unfold rmdirT;split<;>(try rw[gone_last])<;>omega
 | rename fr a to_ b=>show (moveT ..).last≤_;rw[move_last];omega
 | chmod no mode=>show (modeT ..).last≤_;unfold modeT;split<;>(show S.last≤_;omega)
 | chown no uid gid=>show (ownrT ..).last≤_;unfold ownrT;split<;>(show S.last≤_;omega)
 | utime no mt=>show (timeT ..).last≤_;unfold timeT;split<;>(show S.last≤_;omega)
 | write no data =>
  show (wriT ..).last≤_;unfold wriT;split
  ·show (fillT S no data).last≤_;rw[fillT_last];omega
  ·omega
theorem tre_chg {c:Nat} {S:TreeD} (h:Tre c S) (cu cg now:Int) (x:Chg):Tre (c+1) (chgT S cu cg now x):=by
 cases x with
 | mkdir dir nm mode =>
  refine tre_pre h fun h0=>tre_comeT h rfl (by show ([]:List UInt8).length≤_;simp) (fun _=>rfl) ?_
  unfold dirP at h0;split at h0
  ·cases h0
  ·show 0≤mode∧mode≤1023
   omega
 | create dir nm mode data =>
  have key:fileP mode data.length=0→(0≤mode∧mode≤1023)∧data.length≤1048576:=fun h0=>by
   unfold fileP at h0;split at h0
   ·cases h0
   ·split at h0
    ·cases h0
    ·omega
  exact tre_pre h fun h0=>tre_comeT h rfl (key h0).2 (fun hk=>by cases hk) (key h0).1
 | symlink dir nm text =>
  have key:symP text=0→text.length≤1048576:=fun h0=>by
   unfold symP at h0;split at h0
   ·cases h0
   ·split at h0
    ·cases h0
    ·omega
  exact tre_pre h fun h0=>tre_comeT h rfl (key h0) (fun hk=>by cases hk) ⟨by show (0:Int)≤511;decide,by show (511:Int)≤1023;decide⟩
 | link no dir nm=>exact tre_hard h ..
 | unlink dir nm=>exact tre_mono (tre_unlink h ..) (by omega)
 | rmdir dir nm=>exact tre_mono (tre_rmdir h ..) (by omega)
 | rename fr a to_ b=>exact tre_move h ..
 | chmod no mode=>exact tre_mono (tre_mode h ..) (by omega)
 | chown no uid gid=>exact tre_mono (tre_ownr h ..) (by omega)
 | utime no mt=>exact tre_mono (tre_time h ..) (by omega)
 | write no data=>exact tre_mono (tre_wri h ..) (by omega)
theorem FAt.setX {w:World} {B:Nat} {g:GhF} {S:TreeD} {X:Xtra} (h:FAt w B g S X) (i:Nat) (v:Value) (Y:Xtra)
  (hY:∀cn ce:Nat,(#[.slice (some ⟨g.bN,0,none⟩) S.nodes.length cn,.slice (some ⟨g.bE,0,none⟩) S.devs.length ce,.int .i64 S.last,.int .i64 X.now,X.count,X.plan,X.dead]:Array Value).setIfInBounds i v=#[.slice (some ⟨g.bN,0,none⟩) S.nodes.length cn,.slice (some ⟨g.bE,0,none⟩) S.devs.length ce,.int .i64 S.last,.int .i64 Y.now,Y.count,Y.plan,Y.dead]) :
  FAt (w.setCell ⟨g.bF,i,none⟩ v) B g S Y:=by
 have hne:=h.ne;have ha:=h.apart;obtain ⟨h1,cn,ce,h2,⟨xs,h3,h5⟩,h4⟩:=h;have o:=Only.setCell w g.bF i v;have h2':=Has.setCell h2 i v;rw [hY cn ce]at h2';refine ⟨h1,cn,ce,h2',⟨xs,ownsRow_only h3 o fun b hb=>?_,h5.only o (ha.sub (by simp[GhF.list]))⟩,ownsRow_only h4 o fun b hb=>?_⟩
 ·injection hb with hb;subst hb;simp;exact fun e=>hne.1 e.symm
 ·injection hb with hb;subst hb;simp;exact fun e=>hne.2.1 e.symm
theorem FAt.cells7 {w:World} {B:Nat} {g:GhF} {S:TreeD} {X:Xtra} (h:FAt w B g S X):w.cell? ⟨g.bF,4,none⟩=some X.count∧w.cell? ⟨g.bF,5,none⟩=some X.plan∧w.cell? ⟨g.bF,6,none⟩=some X.dead∧w.frozen? ⟨g.bF,4,none⟩=false∧w.frozen? ⟨g.bF,6,none⟩=false∧g.bF<w.heap.size:=by
 obtain ⟨h1,cn,ce,h2,_,_⟩:=h;exact ⟨h2.cell 4,h2.cell 5,h2.cell 6,by rw[Has.free h2 4];rfl,by rw[Has.free h2 6];rfl,h2.lt⟩
abbrev xtra (now count:Int) (A:Option Addr) (n cap:Nat) (dead:Bool):Xtra:=⟨now,.int .i64 count,.slice A n cap,.bool dead⟩
def planCells (l:List (Int×Int)):List Value:=l.flatMap fun x=>[.int .i64 x.1,.int .i64 x.2]
theorem planCells_len (l:List (Int×Int)):(planCells l).length=l.length*2:=by
 unfold planCells
 induction l with
 | nil=>rfl
 | cons x l ih=>rw[List.flatMap_cons,List.length_append,ih];simp;omega
theorem planCells_get (l:List (Int×Int)):∀k,(h:k<l.length)→(planCells l)[k*2]?=some (.int .i64 l[k].1)∧(planCells l)[k*2+1]?=some (.int .i64 l[k].2):=by
 induction l with
 | nil=>intro k h;simp at h
 | cons x l ih =>
  intro k h;have e:planCells (x::l)=.int .i64 x.1::.int .i64 x.2::planCells l:=rfl;rw [e]
  cases k with
  | zero=>exact⟨rfl,rfl⟩
  | succ k =>
   have:=ih k (by simpa using h);rw [show (k+1)*2=k*2+1+1 by omega];simpa using this
theorem planCells_one (l:List (Int×Int)):∀u∈planCells l,u.oneCell'=true:=by
 intro u hu;unfold planCells at hu;rw [List.mem_flatMap]at hu;obtain ⟨x,_,hx⟩:=hu;simp only[List.mem_cons,List.not_mem_nil,or_false]at hx;rcases hx with rfl|rfl<;>rfl
theorem app_plan (A:Option Addr) (cap:Nat) (l:List (Int×Int)) (wr:World) (h:PlanAt wr A l) (hA:A=none→cap=0) (hl:l.length≤1000000) :
  ∃ v' w2,(Builtin.append_ #[28,28] 28 #[.slice none 0 0,.slice A l.length cap]).run Tryz.prog wr=.ok v' w2∧w2.ownsRow wr.heap.size 216 2 v' l.length (planCells l)∧Ext wr w2:=by
 obtain ⟨i0,hi,hz0,hz1,hz2⟩:=info_parts infoFault
 cases A with
 | none =>
  have hl0:l=[]:=by
   rcases h with h|⟨b',o',h,_⟩
   ·exact h
   ·cases h
  subst hl0;obtain rfl:cap=0:=hA rfl;refine ⟨.slice none 0 0,wr,?_,World.ownsRow_nil _ _ _ _,Ext.refl _⟩;simp [Builtin.append_,run_underlying Tryz.underlying28,sizeOf,typeInfo,hi,Builtin.lenOf,Builtin.firstCells]
 | some ad =>
  have hne2:∀j u,(planCells l)[j]?=some u→wr.cell? (ad.add j)=some u:=by
   intro j u hu;rcases h with h|⟨b',o',hAe,hb,h2⟩
   ·subst h;simp[planCells]at hu
   ·obtain rfl:ad=⟨b',o',none⟩:=Option.some.inj hAe
    rw [Addr.add_lit];have hj:j<l.length*2:=by
     rcases Nat.lt_or_ge j (l.length*2) with h'|h'
     ·exact h'
     ·rw[List.getElem?_eq_none (by rw[planCells_len];exact h')]at hu;cases hu
    have hk:j / 2<l.length:=by omega
    have g:=planCells_get l (j / 2) hk;have c:=h2 (j / 2) hk;rcases Nat.mod_two_eq_zero_or_one j with e|e
    ·have ej:j=j / 2*2:=by omega
     rw [ej]at hu;rw [g.1]at hu;rw [ej,show o'+j / 2*2=o'+(j / 2)*2 from rfl];rw [c.1];exact hu
    ·have ej:j=j / 2*2+1:=by omega
     rw [ej]at hu;rw [g.2]at hu;rw [ej,←Nat.add_assoc];rw [c.2];exact hu
  obtain ⟨v',w2,hr,h2,h3,_⟩:=run_append_own (P:=Tryz.prog) wr wr.heap.size 28 28 216 i0 (.agg #[.int .i64 0,.int .i64 0]) 2 16 Tryz.underlying28 hi hz0 hz1 hz2 rfl (by decide) _ 0 [] (World.ownsRow_nil _ _ _ _) ad l.length cap (planCells l) (planCells_len l) hne2 (planCells_one l) (by unfold maxLen;omega) (by omega) (Nat.le_refl _);refine ⟨v',w2,hr,by rw[Nat.zero_add,List.nil_append]at h2;exact h2,?_⟩;exact (Ext.refl wr).grown h3 (fun g hv=>by simp[Value.ownBlock]at hv)
theorem planAny {b:Nat} {g:GhW} {now count:Int} {A:Option Addr} {len cap:Nat} {dead:Bool} (A0:Option Addr) (l:List (Int×Int)) (cap0:Nat) (w:World) (h:SAt w b g now count A len cap dead) (hp:PlanAt w A0 l) (hA:A0=none→cap0=0) (ho:l≠[]→PlanOff A0 b) (hl:l.length≤1000000) :
  Calls Tryz.prog 38 #[.pointer (some ⟨b,0,none⟩),.slice A0 l.length cap0] w (fun e w'=>(∃v,e=.returned v)∧∃A' cap',SAt w' b g now 0 A' l.length cap' dead∧PlanAt w' A' l∧PlanOff A' b∧(∀x,A'=some x→HasTag w' x.block 216)∧Only [b] w w'):=by
 obtain ⟨n,hn⟩:∃n,n=l.length:=⟨_,rfl⟩;have HN:=zH hn;rw [←hn];clear hn;go_enter Tryz.func38,Tryz.ntmps38;go_wp2_with fail;refine (noneS _ h).mono ?_;rintro e w1 ⟨rfl,b1⟩;have h1:=h.ext b1;have c2:=Has.cell h1 2;have f2:=Has.free h1 2;have z:=Has.lt h1;obtain ⟨W2,hW2⟩:∃W2,W2=w1.setCell ⟨b,2,none⟩ (.int .i64 0):=⟨_,rfl⟩;have h2:SAt W2 b g now 0 A len cap dead:=by rw[hW2];exact Has.setCell h1 2 (.int .i64 0)
 have O2:Only [b] w1 W2:=by rw[hW2];exact Only.setCell _ _ _ _
 have hp2:PlanAt W2 A0 l:=by
  by_cases hl0:l=[]
  ·exact .inl hl0
  ·exact (hp.ext b1).only O2 (fun x hx=>by simp at hx;subst hx;exact ho hl0)
 have hb2:=Has.lt h2;obtain ⟨v3,w3,hr,hown,E3⟩:=app_plan A0 cap0 l W2 hp2 hA hl;rw [←HN.out]at hr;have HR:=zH hr;have h3:=h2.ext E3;have c3:=Has.cell h3 3;have f3:=Has.free h3 3;have z3:=Has.lt h3;have hne:∀g',v3.ownBlock=some g'→g'≠b:=fun g' hv=>by have:=(World.ownsRow.lt hown g' hv).1;omega
 obtain ⟨A3,cp3,rfl⟩:∃A3 cp3,v3=.slice A3 n cp3:=by
  rcases hown.2 with⟨e,h0⟩|⟨g',cap',cur,e,_⟩
  ·exact⟨none,0,by rw[e];congr 1;rw[HN.out];omega⟩
  ·exact⟨_,_,by rw[e,HN.out]⟩
 have c3':=Has.cell h2 3;have z2:=Has.lt h2;clear h h1 hr;go_upto_region 2 with fail;rw [←hW2];clear hW2 c2 f2 z;go_wp2_with (at_builtin;refine Lib.wpList_append_run _ rfl _ _ 28 28 rfl _ _ rfl rfl _ _ HR.out ?_);go_end0;obtain ⟨W5,hW5⟩:∃W5,W5=w3.setCell ⟨b,3,none⟩ (.slice A3 n cp3):=⟨_,rfl⟩;have h5:SAt W5 b g now 0 A3 n cp3 dead:=by rw[hW5];exact Has.setCell h3 3 _
 have O5:Only [b] w3 W5:=by rw[hW5];exact Only.setCell _ _ _ _
 refine ⟨⟨_,rfl⟩,A3,cp3,by rw[←hW5];exact h5,?_,fun x hx=>hne x.block (by rw[hx];rfl),?_,(Only.pre b1 O2).then ((Only.of_ext E3).then (by rw[←hW5];exact O5))⟩
 case refine_2 =>
  intro x hx;subst hx;rw [←hW5];rcases hown.2 with⟨e,_⟩|⟨g',cap',cur,e,_,hg,_⟩
  ·cases e
  ·injection e with e1
   injection e1 with e1;subst e1;exact ⟨cur,_,O5.has hg (by simpa using hne g' rfl)⟩
 rw [←hW5]
 cases A3 with
 | none =>
  rcases hown.2 with⟨_,h0⟩|⟨g',cap',cur,e,_⟩
  ·exact .inl (List.eq_nil_of_length_eq_zero h0)
  ·cases e
 | some ad =>
  rcases hown.2 with⟨e,_⟩|⟨g',cap',cur,e,_⟩
  ·cases e
  ·injection e with e1
   injection e1 with e1;subst e1;have hc:=World.ownsRow.cells hown (g:=g') rfl;have hlt:=(World.ownsRow.lt hown g' rfl).2;have e:W5.heap[g']?=w3.heap[g']?:=O5.block g' hlt (by simpa using hne g' rfl);have ec:∀j,W5.cell? ⟨g',j,none⟩=w3.cell? ⟨g',j,none⟩:=fun j=>by simp[World.cell?,e]
   refine .inr ⟨g',0,rfl,by have:=O5.size;omega,fun k hk=>?_⟩;rw [ec,ec,Nat.zero_add];have g1:=planCells_get l k hk;have y1:=hc (k*2) _ g1.1;have y2:=hc (k*2+1) _ g1.2;simp only[Addr.add_lit,Nat.zero_add]at y1 y2;exact ⟨y1,y2⟩
def PlanT (w:World) (B:Nat) (A:Option Addr) (l:List (Int×Int)):Prop:=
 l = []∨∃b o,A=some ⟨b,o,none⟩∧b<w.heap.size∧(b<B∨HasTag w b 216)∧∀k,(h:k<l.length)→w.cell? ⟨b,o+k*2,none⟩=some (.int .i64 l[k].1)∧w.cell? ⟨b,o+k*2+1,none⟩=some (.int .i64 l[k].2)
theorem PlanT.plan {w:World} {B:Nat} {A:Option Addr} {l:List (Int×Int)} (h:PlanT w B A l):PlanAt w A l:=by
 rcases h with h|⟨b,o,hA,hb,_,hc⟩
 ·exact .inl h
 ·exact .inr ⟨b,o,hA,hb,hc⟩
def Free2 (w:World) (B:Nat) (L:List Nat):Prop:=∀b∈L,B≤b∧¬HasTag w b 153∧¬HasTag w b 216
theorem Free2.apart {w:World} {B:Nat} {L:List Nat} (h:Free2 w B L):Apart w B L:=fun b hb=>⟨(h b hb).1,(h b hb).2.1⟩
theorem Free2.nil (w:World) (B:Nat):Free2 w B []:=fun b hb=>by cases hb
theorem Free2.cons {w:World} {B b:Nat} {L:List Nat} {cs:Array Value} {t:TypeId} {fr:Nat×Nat} (h:Free2 w B L) (hb:B≤b) (k:w.heap[b]?=some (.cells cs t fr)) (h1:t≠153) (h2:t≠216):Free2 w B (b::L):=fun x hx=>by
 rcases List.mem_cons.1 hx with rfl|hx
 ·refine ⟨hb,?_,?_⟩
  ·rintro⟨c,f,e⟩;rw[k]at e;injection e with e;injection e with _ e;exact h1 e
  ·rintro⟨c,f,e⟩;rw[k]at e;injection e with e;injection e with _ e;exact h2 e
 ·exact h x hx
theorem PlanT.only {w w':World} {B:Nat} {A:Option Addr} {l:List (Int×Int)} {L:List Nat} (h:PlanT w B A l) (o:Only L w w') (ha:Free2 w B L):PlanT w' B A l:=by
 rcases h with h|⟨b,f,hA,hb,ht,hc⟩
 ·exact .inl h
 ·have hn:b∉L:=fun hx=>by
   rcases ht with ht|ht
   ·have:=(ha b hx).1;omega
   ·exact (ha b hx).2.2 ht
  have hk:=o.block b hb hn;have hcell:∀i,w'.cell? ⟨b,i,none⟩=w.cell? ⟨b,i,none⟩:=fun i=>by simp only[World.cell?,hk]
  refine .inr ⟨b,f,hA,by have:=o.size;omega,?_,fun k hkl=>by rw[hcell,hcell];exact hc k hkl⟩;rcases ht with ht|⟨cur,fr,ht⟩
  ·exact .inl ht
  ·exact .inr ⟨cur,fr,hk.trans ht⟩
theorem WAt.free2 {w:World} {B:Nat} {g:GhW} {S:TreeD} (h:WAt w B g S):Free2 w B g.list:=by
 have ha:=h.apart;obtain ⟨_,⟨_,_,k2,es,cl,k3,_⟩,cd,k4,k5⟩:=h;obtain ⟨_,cur,k6⟩:=k5.has;intro b hb;refine ⟨(ha b hb).1,(ha b hb).2,?_⟩;rintro ⟨c,f,e⟩;simp only[GhW.list,List.mem_cons,List.not_mem_nil,or_false]at hb;unfold Has at *;rcases hb with rfl|rfl|rfl|rfl
 ·rw[k4]at e;injection e with e;injection e with _ e;exact absurd e (by decide)
 ·rw[k2]at e;injection e with e;injection e with _ e;exact absurd e (by decide)
 ·rw[k3]at e;injection e with e;cases e
 ·rw[k6]at e;injection e with e;injection e with _ e;exact absurd e (by decide)
theorem FAt.free2 {w:World} {B:Nat} {g:GhF} {S:TreeD} {X:Xtra} (h:FAt w B g S X):Free2 w B g.list:=by
 have ha:=h.apart;obtain ⟨_,cn,ce,k2,⟨xs,k3,_⟩,k4⟩:=h;obtain ⟨_,cur1,k5⟩:=ownsRow_has k3;obtain ⟨_,cur2,k6⟩:=ownsRow_has k4;intro b hb;refine ⟨(ha b hb).1,(ha b hb).2,?_⟩;rintro ⟨c,f,e⟩;simp only[GhF.list,List.mem_cons,List.not_mem_nil,or_false]at hb;unfold Has at *;rcases hb with rfl|rfl|rfl
 ·rw[k2]at e;injection e with e;injection e with _ e;exact absurd e (by decide)
 ·rw[k5]at e;injection e with e;injection e with _ e;exact absurd e (by decide)
 ·rw[k6]at e;injection e with e;injection e with _ e;exact absurd e (by decide)
def PSA (w:World) (B b:Nat) (g:GhW) (s:SysD) (A:Option Addr) (cap:Nat):Prop:=
 WAt w B g s.t∧SAt w b g s.now s.count A s.plan.length cap s.dead∧PlanT w B A s.plan∧PlanOff A b∧B≤b
def PS (w:World) (B b:Nat) (g:GhW) (s:SysD):Prop:=∃A cap,PSA w B b g s A cap
theorem PSA.notin {w:World} {B b:Nat} {g:GhW} {s:SysD} {A:Option Addr} {cap:Nat} (h:PSA w B b g s A cap):b∉g.list:=h.1.notin h.2.1 (by decide) (by decide) (by decide)
theorem PSA.free2 {w:World} {B b:Nat} {g:GhW} {s:SysD} {A:Option Addr} {cap:Nat} (h:PSA w B b g s A cap):Free2 w B (b::g.list):=
 Free2.cons h.1.free2 h.2.2.2.2 h.2.1 (by decide) (by decide)
theorem PSA.only {w w':World} {B b:Nat} {g:GhW} {s:SysD} {A:Option Addr} {cap:Nat} {L:List Nat} (h:PSA w B b g s A cap) (o:Only L w w') (ha:Free2 w B L) (hn:∀x∈b::g.list,x∉L):PSA w' B b g s A cap:=
 ⟨h.1.only o ha.apart fun x hx=>hn x (List.mem_cons_of_mem _ hx),SAt.only h.2.1 o (hn b (List.mem_cons_self ..)),h.2.2.1.only o ha,h.2.2.2.1,h.2.2.2.2⟩
theorem PSA.ext {w w':World} {B b:Nat} {g:GhW} {s:SysD} {A:Option Addr} {cap:Nat} (h:PSA w B b g s A cap) (o:Ext w w'):PSA w' B b g s A cap:=h.only (Only.of_ext (L:=[]) o) (Free2.nil _ _) (by simp)
theorem PS.notin {w:World} {B b:Nat} {g:GhW} {s:SysD} (h:PS w B b g s):b∉g.list:=by obtain⟨A,c,h⟩:=h;exact h.notin
theorem PS.free2 {w:World} {B b:Nat} {g:GhW} {s:SysD} (h:PS w B b g s):Free2 w B (b::g.list):=by obtain⟨A,c,h⟩:=h;exact h.free2
theorem PS.only {w w':World} {B b:Nat} {g:GhW} {s:SysD} {L:List Nat} (h:PS w B b g s) (o:Only L w w') (ha:Free2 w B L) (hn:∀x∈b::g.list,x∉L):PS w' B b g s:=by
 obtain ⟨A,c,h⟩:=h;exact⟨A,c,h.only o ha hn⟩
theorem PS.ext {w w':World} {B b:Nat} {g:GhW} {s:SysD} (h:PS w B b g s) (o:Ext w w'):PS w' B b g s:=by
 obtain ⟨A,c,h⟩:=h;exact⟨A,c,h.ext o⟩
theorem PS.lt {w:World} {B b:Nat} {g:GhW} {s:SysD} (h:PS w B b g s):∀x∈b::g.list,x<w.heap.size:=by
 obtain ⟨A,c,h⟩:=h;have h1:=h.1.lt;have h2:=Has.lt h.2.1;intro x hx;simp only[GhW.list,List.mem_cons,List.not_mem_nil,or_false]at hx;omega
theorem PSA.chg1 {w:World} {B b:Nat} {g:GhW} {s:SysD} {A:Option Addr} {cap:Nat} (h:PSA w B b g s A cap) (hd:s.dead=false) {P:Program} {fn:FuncId} {args:Array Value} {cu cg:Int} {x:Chg}
  (F:goE s≠0→Calls P fn args w (fun e w'=>e=.returned (.int .i64 (goE s))∧SAt w' b g s.now (s.count+1) A s.plan.length cap (hitD s.plan (s.count+1))∧Only [b] w w'))
  (G:hitE s.plan (s.count+1)=0∧hitD s.plan (s.count+1)=false→Calls P fn args w (fun e w'=>e=.returned (.int .i64 (chgE s.t cu cg s.now x))∧WAt w' B g (chgT s.t cu cg s.now x)∧SAt w' b g s.now (s.count+1) A s.plan.length cap false∧Only (b::g.list) w w')) :
  Calls P fn args w (fun e w'=>e=.returned (.int .i64 (chE s cu cg x))∧PS w' B b g (chS s cu cg x)∧Only (b::g.list) w w'):=by
 have hn:=h.notin;have hF:=h.free2
 by_cases h0:goE s=0
 ·have h1:hitE s.plan (s.count+1)=0:=by rw[←goE_plan hd];exact h0
  refine (G ⟨h1,hitD_zero h1⟩).mono ?_;rintro e w' ⟨rfl,K,S1,O⟩;refine ⟨by unfold chE;rw[if_neg (by rw[h0];decide)],⟨A,cap,?_⟩,O⟩;unfold chS;rw [if_neg (by rw[h0];decide),(goS_alive h0).2,hd];exact ⟨K,S1,h.2.2.1.only O hF,h.2.2.2.1,h.2.2.2.2⟩
 ·refine (F h0).mono ?_
  rintro e w' ⟨rfl,S1,O⟩;have hb1:Free2 w B [b]:=fun x hx=>hF x (by simp at hx;subst hx;simp)
  refine ⟨by unfold chE;rw[if_pos h0],⟨A,cap,?_⟩,O.mono (by simp)⟩;unfold chS;rw [if_pos h0,goS_plan hd];exact ⟨h.1.offS h.2.1 h.2.2.2.2 hn O,S1,h.2.2.1.only O hb1,h.2.2.2.1,h.2.2.2.2⟩
theorem PSA.chg2 {w:World} {B b:Nat} {g:GhW} {s:SysD} {A:Option Addr} {cap:Nat} (h:PSA w B b g s A cap) (hd:s.dead=false) {P:Program} {fn:FuncId} {args:Array Value} {cu cg:Int} {x:Chg}
  (F:goE s≠0→Calls P fn args w (fun e w'=>e=.returned (.tuple #[.int .i64 0,.int .i64 (goE s)])∧SAt w' b g s.now (s.count+1) A s.plan.length cap (hitD s.plan (s.count+1))∧Only [b] w w'))
  (G:hitE s.plan (s.count+1)=0∧hitD s.plan (s.count+1)=false→Calls P fn args w (fun e w'=>e=.returned (.tuple #[.int .i64 (chgN s.t cu cg s.now x),.int .i64 (chgE s.t cu cg s.now x)])∧WAt w' B g (chgT s.t cu cg s.now x)∧SAt w' b g s.now (s.count+1) A s.plan.length cap false∧Only (b::g.list) w w')) :
  Calls P fn args w (fun e w'=>e=.returned (.tuple #[.int .i64 (chN s cu cg x),.int .i64 (chE s cu cg x)])∧PS w' B b g (chS s cu cg x)∧Only (b::g.list) w w'):=by
 have hn:=h.notin;have hF:=h.free2
 by_cases h0:goE s=0
 ·have h1:hitE s.plan (s.count+1)=0:=by rw[←goE_plan hd];exact h0
  refine (G ⟨h1,hitD_zero h1⟩).mono ?_;rintro e w' ⟨rfl,K,S1,O⟩;refine ⟨by unfold chE chN;rw[if_neg (by rw[h0];decide),if_neg (by rw[h0];decide)],⟨A,cap,?_⟩,O⟩;unfold chS;rw [if_neg (by rw[h0];decide),(goS_alive h0).2,hd];exact ⟨K,S1,h.2.2.1.only O hF,h.2.2.2.1,h.2.2.2.2⟩
 ·refine (F h0).mono ?_
  rintro e w' ⟨rfl,S1,O⟩;have hb1:Free2 w B [b]:=fun x hx=>hF x (by simp at hx;subst hx;simp)
  refine ⟨by unfold chE chN;rw[if_pos h0,if_pos h0],⟨A,cap,?_⟩,O.mono (by simp)⟩;unfold chS;rw [if_pos h0,goS_plan hd];exact ⟨h.1.offS h.2.1 h.2.2.2.2 hn O,S1,h.2.2.1.only O hb1,h.2.2.2.1,h.2.2.2.2⟩
def Ch1 (w:World) (B b:Nat) (g:GhW) (s:SysD) (cu cg:Int) (x:Chg) (e:Ending) (w':World):Prop:=e=.returned (.int .i64 (chE s cu cg x))∧PS w' B b g (chS s cu cg x)∧Only (b::g.list) w w'
def Ch2 (w:World) (B b:Nat) (g:GhW) (s:SysD) (cu cg:Int) (x:Chg) (e:Ending) (w':World):Prop:=e=.returned (.tuple #[.int .i64 (chN s cu cg x),.int .i64 (chE s cu cg x)])∧PS w' B b g (chS s cu cg x)∧Only (b::g.list) w w'
section
variable {c:Nat} {w:World} {B b:Nat} {g:GhW} {s:SysD}
theorem Sane.len (h:Sane c s):s.plan.length≤1000000:=by have:=h.plan;omega
theorem Sane.hi (h:Sane c s) (hc:c≤900):s.count≤1000000:=by have:=h.c1;omega
theorem Sane.lastP (h:Sane c s) (hc:c≤900):s.t.last≤901:=by have:=h.last;omega
theorem Sane.ok (h:Sane c s) (hc:c≤900):Ok s.t:=h.tre.ok (by omega)
theorem PS.mkdir (h:PS w B b g s) (hs:Sane c s) (hc:c≤900) (hd:s.dead=false) (cu cg:Int) (dir:Int) (nm:List UInt8) (mode:Int) :
  Calls Tryz.prog 111 #[.pointer (some ⟨b,0,none⟩),.agg #[.int .i64 cu,.int .i64 cg],.int .i64 dir,.string (bs nm),.int .i64 mode] w (Ch2 w B b g s cu cg (.mkdir dir nm mode)):=by
 obtain ⟨A,cap,h⟩:=h;obtain ⟨h1,h2,h3,h4,h5⟩:=id h;have h2':=h2;rw [hd]at h2';refine h.chg2 hd (fun h0=>?_) (fun h0=>?_)
 ·exact mkdirF s.plan w cu cg dir (bs nm) mode h2' h3.plan h4 hs.len hs.c0 (hs.hi hc) (goE_plan hd).symm h0
 ·exact mkdirG s.plan w cu cg dir (bs nm) mode h2' h3.plan h4 hs.len hs.c0 (hs.hi hc) B s.t h1 h.notin h5 h0 fun u hu=>pdir_any B g s.t cu cg s.now dir nm mode u hu (hs.ok hc) (by have:=hs.lastP hc;omega)
theorem PS.create (h:PS w B b g s) (hs:Sane c s) (hc:c≤900) (hd:s.dead=false) (cu cg:Int) (dir:Int) (nm:List UInt8) (mode:Int) (data:List UInt8) (hdl:data.length≤1000000000) :
  Calls Tryz.prog 113 #[.pointer (some ⟨b,0,none⟩),.agg #[.int .i64 cu,.int .i64 cg],.int .i64 dir,.string (bs nm),.int .i64 mode,.string (bs data)] w (Ch2 w B b g s cu cg (.create dir nm mode data)):=by
 obtain ⟨A,cap,h⟩:=h;obtain ⟨h1,h2,h3,h4,h5⟩:=id h;have h2':=h2;rw [hd]at h2';refine h.chg2 hd (fun h0=>?_) (fun h0=>?_)
 ·exact createF s.plan w cu cg dir (bs nm) mode (bs data) h2' h3.plan h4 hs.len hs.c0 (hs.hi hc) (goE_plan hd).symm h0
 ·exact createG s.plan w cu cg dir (bs nm) mode (bs data) h2' h3.plan h4 hs.len hs.c0 (hs.hi hc) B s.t h1 h.notin h5 h0 fun u hu=>pfile_any B g s.t cu cg s.now dir nm mode data u hu (hs.ok hc) (by have:=hs.lastP hc;omega) hdl
theorem PS.symlink (h:PS w B b g s) (hs:Sane c s) (hc:c≤900) (hd:s.dead=false) (cu cg:Int) (dir:Int) (nm text:List UInt8) (hdl:text.length≤1000000000) :
  Calls Tryz.prog 114 #[.pointer (some ⟨b,0,none⟩),.agg #[.int .i64 cu,.int .i64 cg],.int .i64 dir,.string (bs nm),.string (bs text)] w (Ch2 w B b g s cu cg (.symlink dir nm text)):=by
 obtain ⟨A,cap,h⟩:=h;obtain ⟨h1,h2,h3,h4,h5⟩:=id h;have h2':=h2;rw [hd]at h2';refine h.chg2 hd (fun h0=>?_) (fun h0=>?_)
 ·exact symlinkF s.plan w cu cg dir (bs nm) (bs text) h2' h3.plan h4 hs.len hs.c0 (hs.hi hc) (goE_plan hd).symm h0
 ·exact symlinkG s.plan w cu cg dir (bs nm) (bs text) h2' h3.plan h4 hs.len hs.c0 (hs.hi hc) B s.t h1 h.notin h5 h0 fun u hu=>psym_any B g s.t cu cg s.now dir nm text u hu (hs.ok hc) (by have:=hs.lastP hc;omega) hdl
theorem PS.link (h:PS w B b g s) (hs:Sane c s) (hc:c≤900) (hd:s.dead=false) (cu cg:Int) (no dir:Int) (nm:List UInt8) :
  Calls Tryz.prog 115 #[.pointer (some ⟨b,0,none⟩),.agg #[.int .i64 cu,.int .i64 cg],.int .i64 no,.int .i64 dir,.string (bs nm)] w (Ch1 w B b g s cu cg (.link no dir nm)):=by
 obtain ⟨A,cap,h⟩:=h;obtain ⟨h1,h2,h3,h4,h5⟩:=id h;have h2':=h2;rw [hd]at h2';refine h.chg1 hd (fun h0=>?_) (fun h0=>?_)
 ·exact linkF s.plan w cu cg no dir (bs nm) h2' h3.plan h4 hs.len hs.c0 (hs.hi hc) (goE_plan hd).symm h0
 ·exact linkG s.plan w cu cg no dir (bs nm) h2' h3.plan h4 hs.len hs.c0 (hs.hi hc) B s.t h1 h.notin h5 h0 fun u hu=>phard_any B g s.t cu cg s.now no dir nm u hu (hs.ok hc)
theorem PS.chmod (h:PS w B b g s) (hs:Sane c s) (hc:c≤900) (hd:s.dead=false) (cu cg:Int) (no mode:Int) :
  Calls Tryz.prog 68 #[.pointer (some ⟨b,0,none⟩),.agg #[.int .i64 cu,.int .i64 cg],.int .i64 no,.int .i64 mode] w (Ch1 w B b g s cu cg (.chmod no mode)):=by
 obtain ⟨A,cap,h⟩:=h;obtain ⟨h1,h2,h3,h4,h5⟩:=id h;have h2':=h2;rw [hd]at h2';refine h.chg1 hd (fun h0=>?_) (fun h0=>?_)
 ·exact chmodF s.plan w cu cg no mode h2' h3.plan h4 hs.len hs.c0 (hs.hi hc) (goE_plan hd).symm h0
 ·exact chmodG s.plan w cu cg no mode h2' h3.plan h4 hs.len hs.c0 (hs.hi hc) B s.t h1 h.notin h5 h0 fun u hu=>pmode_any B g s.t cu cg s.now no mode u hu hs.tre.devs hs.tre.nos
theorem PS.chown (h:PS w B b g s) (hs:Sane c s) (hc:c≤900) (hd:s.dead=false) (cu cg:Int) (no uid gid:Int) :
  Calls Tryz.prog 67 #[.pointer (some ⟨b,0,none⟩),.agg #[.int .i64 cu,.int .i64 cg],.int .i64 no,.int .i64 uid,.int .i64 gid] w (Ch1 w B b g s cu cg (.chown no uid gid)):=by
 obtain ⟨A,cap,h⟩:=h;obtain ⟨h1,h2,h3,h4,h5⟩:=id h;have h2':=h2;rw [hd]at h2';refine h.chg1 hd (fun h0=>?_) (fun h0=>?_)
 ·exact chownF s.plan w cu cg no uid gid h2' h3.plan h4 hs.len hs.c0 (hs.hi hc) (goE_plan hd).symm h0
 ·exact chownG s.plan w cu cg no uid gid h2' h3.plan h4 hs.len hs.c0 (hs.hi hc) B s.t h1 h.notin h5 h0 fun u hu=>powner_any B g s.t cu cg s.now no uid gid u hu hs.tre.devs hs.tre.nos
theorem PS.utime (h:PS w B b g s) (hs:Sane c s) (hc:c≤900) (hd:s.dead=false) (cu cg:Int) (no mt:Int) :
  Calls Tryz.prog 69 #[.pointer (some ⟨b,0,none⟩),.agg #[.int .i64 cu,.int .i64 cg],.int .i64 no,.int .i64 mt] w (Ch1 w B b g s cu cg (.utime no mt)):=by
 obtain ⟨A,cap,h⟩:=h;obtain ⟨h1,h2,h3,h4,h5⟩:=id h;have h2':=h2;rw [hd]at h2';refine h.chg1 hd (fun h0=>?_) (fun h0=>?_)
 ·exact utimeF s.plan w cu cg no mt h2' h3.plan h4 hs.len hs.c0 (hs.hi hc) (goE_plan hd).symm h0
 ·exact utimeG s.plan w cu cg no mt h2' h3.plan h4 hs.len hs.c0 (hs.hi hc) B s.t h1 h.notin h5 h0 fun u hu=>ptime_any B g s.t cu cg s.now no mt u hu hs.tre.devs hs.tre.nos
end
end Go.Proofs.YtpibnfdolojpcaaGreat
namespace Go.Proofs.YtpibnfdolojpcaaGreat
open Go.ChangeShapes Go.WideShapes Go.ChangeAt Go.RowKit
def RSA (w:World) (B:Nat) (f:GhF) (s:SysD) (A:Option Addr) (cap:Nat):Prop:=FAt w B f s.t (xtra s.now s.count A s.plan.length cap s.dead)∧PlanT w B A s.plan
def RS (w:World) (B:Nat) (f:GhF) (s:SysD):Prop:=∃A cap,RSA w B f s A cap
theorem RS.free2 {w:World} {B:Nat} {f:GhF} {s:SysD} (h:RS w B f s):Free2 w B f.list:=by obtain⟨A,c,h⟩:=h;exact h.1.free2
theorem RSA.only {w w':World} {B:Nat} {f:GhF} {s:SysD} {A:Option Addr} {cap:Nat} {L:List Nat} (h:RSA w B f s A cap) (o:Only L w w') (ha:Free2 w B L) (hn:∀x∈f.list,x∉L):RSA w' B f s A cap:=⟨h.1.only o ha.apart hn,h.2.only o ha⟩
theorem RS.only {w w':World} {B:Nat} {f:GhF} {s:SysD} {L:List Nat} (h:RS w B f s) (o:Only L w w') (ha:Free2 w B L) (hn:∀x∈f.list,x∉L):RS w' B f s:=by
 obtain ⟨A,c,h⟩:=h;exact⟨A,c,h.only o ha hn⟩
theorem RS.ext {w w':World} {B:Nat} {f:GhF} {s:SysD} (h:RS w B f s) (o:Ext w w'):RS w' B f s:=h.only (Only.of_ext (L:=[]) o) (Free2.nil _ _) (by simp)
theorem RS.lt {w:World} {B:Nat} {f:GhF} {s:SysD} (h:RS w B f s):∀x∈f.list,x<w.heap.size:=by
 obtain ⟨A,c,h⟩:=h;have h1:=h.1.lt;intro x hx;simp only[GhF.list,List.mem_cons,List.not_mem_nil,or_false]at hx;omega
theorem RS.fat {w:World} {B:Nat} {f:GhF} {s:SysD} (h:RS w B f s):∃X,FAt w B f s.t X:=by obtain⟨A,c,h⟩:=h;exact⟨_,h.1⟩
def RTo (w:World) (B:Nat) (f:GhF) (s':SysD) (w':World):Prop:=∃f',RS w' B f' s'∧Only f.list w w'∧GhF.on f' f w
theorem RSA.chg {w w':World} {B:Nat} {f f':GhF} {s:SysD} {A:Option Addr} {cap:Nat} {T:TreeD} (h:RSA w B f s A cap) (k:FAt w' B f' T (xtra s.now s.count A s.plan.length cap s.dead)) (o:Only f.list w w') (ho:GhF.on f' f w):RTo w B f {s with t:=T} w':=
 ⟨f',⟨A,cap,k,h.2.only o h.1.free2⟩,o,ho⟩
section
variable {c:Nat} {w:World} {B:Nat} {f:GhF} {s:SysD}
theorem RS.mkdir (h:RS w B f s) (hs:Sane c s) (hc:c≤900) (cu cg:Int) (dir:Int) (nm:List UInt8) (mode:Int) (hnm:nm.length≤1000000) :
  Calls Tryz.prog 122 #[.pointer (some ⟨f.bF,0,none⟩),.agg #[.int .i64 cu,.int .i64 cg],.int .i64 dir,.string (bs nm),.int .i64 mode] w (fun e w'=>e=.returned (.tuple #[.int .i64 (chgN s.t cu cg s.now (.mkdir dir nm mode)),.int .i64 (chgE s.t cu cg s.now (.mkdir dir nm mode))])∧RTo w B f {s with t:=chgT s.t cu cg s.now (.mkdir dir nm mode)} w'):=by
 obtain ⟨A,cap,h⟩:=h;refine (rdir_any B f s.t _ cu cg dir nm mode w h.1 (hs.ok hc) (by have:=hs.lastP hc;omega) hnm).mono ?_;rintro e w' ⟨rfl,f2,k,o,ho⟩;exact ⟨rfl,h.chg k o ho⟩
theorem RS.create (h:RS w B f s) (hs:Sane c s) (hc:c≤900) (cu cg:Int) (dir:Int) (nm:List UInt8) (mode:Int) (data:List UInt8) (hnm:nm.length≤1000000) (hdl:data.length≤1000000000) :
  Calls Tryz.prog 124 #[.pointer (some ⟨f.bF,0,none⟩),.agg #[.int .i64 cu,.int .i64 cg],.int .i64 dir,.string (bs nm),.int .i64 mode,.string (bs data)] w (fun e w'=>e=.returned (.tuple #[.int .i64 (chgN s.t cu cg s.now (.create dir nm mode data)),.int .i64 (chgE s.t cu cg s.now (.create dir nm mode data))])∧RTo w B f {s with t:=chgT s.t cu cg s.now (.create dir nm mode data)} w'):=by
 obtain ⟨A,cap,h⟩:=h;refine (rfile_any B f s.t _ cu cg dir nm mode data w h.1 (hs.ok hc) (by have:=hs.lastP hc;omega) hnm hdl).mono ?_;rintro e w' ⟨rfl,f2,k,o,ho⟩;exact ⟨rfl,h.chg k o ho⟩
theorem RS.symlink (h:RS w B f s) (hs:Sane c s) (hc:c≤900) (cu cg:Int) (dir:Int) (nm text:List UInt8) (hnm:nm.length≤1000000) (hdl:text.length≤1000000) :
  Calls Tryz.prog 125 #[.pointer (some ⟨f.bF,0,none⟩),.agg #[.int .i64 cu,.int .i64 cg],.int .i64 dir,.string (bs nm),.string (bs text)] w (fun e w'=>e=.returned (.tuple #[.int .i64 (chgN s.t cu cg s.now (.symlink dir nm text)),.int .i64 (chgE s.t cu cg s.now (.symlink dir nm text))])∧RTo w B f {s with t:=chgT s.t cu cg s.now (.symlink dir nm text)} w'):=by
 obtain ⟨A,cap,h⟩:=h;refine (rsym_any B f s.t _ cu cg dir nm text w h.1 (hs.ok hc) (by have:=hs.lastP hc;omega) hnm hdl).mono ?_;rintro e w' ⟨rfl,f2,k,o,ho⟩;exact ⟨rfl,h.chg k o ho⟩
theorem RS.link (h:RS w B f s) (hs:Sane c s) (hc:c≤900) (cu cg:Int) (no dir:Int) (nm:List UInt8) (hnm:nm.length≤1000000) :
  Calls Tryz.prog 126 #[.pointer (some ⟨f.bF,0,none⟩),.agg #[.int .i64 cu,.int .i64 cg],.int .i64 no,.int .i64 dir,.string (bs nm)] w (fun e w'=>e=.returned (.int .i64 (chgE s.t cu cg s.now (.link no dir nm)))∧RTo w B f {s with t:=chgT s.t cu cg s.now (.link no dir nm)} w'):=by
 obtain ⟨A,cap,h⟩:=h;refine (rhard_any B f s.t _ cu cg no dir nm w h.1 (hs.ok hc) (by have:=hs.lastP hc;omega) hnm).mono ?_;rintro e w' ⟨rfl,f2,k,o,ho⟩;exact ⟨rfl,h.chg k o ho⟩
theorem RS.chmod (h:RS w B f s) (hs:Sane c s) (hc:c≤900) (cu cg:Int) (no mode:Int) :
  Calls Tryz.prog 76 #[.pointer (some ⟨f.bF,0,none⟩),.agg #[.int .i64 cu,.int .i64 cg],.int .i64 no,.int .i64 mode] w (fun e w'=>e=.returned (.int .i64 (chgE s.t cu cg s.now (.chmod no mode)))∧RTo w B f {s with t:=chgT s.t cu cg s.now (.chmod no mode)} w'):=by
 obtain ⟨A,cap,h⟩:=h;refine (rmode_any B f s.t _ cu cg no mode w h.1 (by have:=hs.tre.count;have:=hs.lastP hc;omega) hs.tre.nos).mono ?_;rintro e w' ⟨rfl,k,o⟩;exact ⟨rfl,h.chg k o (GhF.on_refl _ _)⟩
theorem RS.chown (h:RS w B f s) (hs:Sane c s) (hc:c≤900) (cu cg:Int) (no uid gid:Int) :
  Calls Tryz.prog 75 #[.pointer (some ⟨f.bF,0,none⟩),.agg #[.int .i64 cu,.int .i64 cg],.int .i64 no,.int .i64 uid,.int .i64 gid] w (fun e w'=>e=.returned (.int .i64 (chgE s.t cu cg s.now (.chown no uid gid)))∧RTo w B f {s with t:=chgT s.t cu cg s.now (.chown no uid gid)} w'):=by
 obtain ⟨A,cap,h⟩:=h;refine (rowner_any B f s.t _ cu cg no uid gid w h.1 (by have:=hs.tre.count;have:=hs.lastP hc;omega) hs.tre.nos).mono ?_;rintro e w' ⟨rfl,k,o⟩;exact ⟨rfl,h.chg k o (GhF.on_refl _ _)⟩
theorem RS.utime (h:RS w B f s) (hs:Sane c s) (hc:c≤900) (cu cg:Int) (no mt:Int) :
  Calls Tryz.prog 77 #[.pointer (some ⟨f.bF,0,none⟩),.agg #[.int .i64 cu,.int .i64 cg],.int .i64 no,.int .i64 mt] w (fun e w'=>e=.returned (.int .i64 (chgE s.t cu cg s.now (.utime no mt)))∧RTo w B f {s with t:=chgT s.t cu cg s.now (.utime no mt)} w'):=by
 obtain ⟨A,cap,h⟩:=h;refine (rtime_any B f s.t _ cu cg no mt w h.1 (by have:=hs.tre.count;have:=hs.lastP hc;omega) hs.tre.nos).mono ?_;rintro e w' ⟨rfl,k,o⟩;exact ⟨rfl,h.chg k o (GhF.on_refl _ _)⟩
end
end Go.Proofs.YtpibnfdolojpcaaGreat
namespace Go.Proofs.YtpibnfdolojpcaaGreat
open Go.ChangeShapes Go.WideShapes Go.ChangeAt Go.RowKit
def Duo (w0:World) (B b:Nat) (g:GhW) (f:GhF) (s r:SysD) (w:World):Prop:=
 ∃ g' f',GhW.on g' g w0∧GhF.on f' f w0∧PS w B b g' s∧RS w B f' r∧Only (b::(g.list++f.list)) w0 w
theorem PS.apartR {w:World} {B b:Nat} {g:GhW} {f:GhF} {s r:SysD} (h:PS w B b g s) (k:RS w B f r):∀x∈b::g.list,x∉f.list:=by
 obtain ⟨A,cap,h⟩:=h;obtain ⟨A2,cap2,k⟩:=k;intro x hx;rcases List.mem_cons.1 hx with rfl|hx
 ·exact k.1.notin h.2.1 (by decide) (by decide) (by decide)
 ·exact WAt.apartF h.1 k.1 x hx
theorem Duo.start {w0:World} {B b:Nat} {g:GhW} {f:GhF} {s r:SysD} (h:PS w0 B b g s) (k:RS w0 B f r):Duo w0 B b g f s r w0:=⟨g,f,GhW.on_refl _ _,GhF.on_refl _ _,h,k,Only.refl _ _⟩
theorem Duo.only {w0 w:World} {B b:Nat} {g:GhW} {f:GhF} {s r:SysD} (h:Duo w0 B b g f s r w):Only (b::(g.list++f.list)) w0 w:=by obtain⟨_,_,_,_,_,_,h5⟩:=h;exact h5
theorem Duo.has {w0 w:World} {B b x:Nat} {g:GhW} {f:GhF} {s r:SysD} {o:Obj} (h:Duo w0 B b g f s r w) (k:Has w0 x o) (hx:x∉b::(g.list++f.list)):Has w x o:=h.only.has k hx
theorem Duo.prog {w0 w w':World} {B b:Nat} {g g1:GhW} {f f1:GhF} {s s' r:SysD} (h1:GhW.on g1 g w0) (h2:GhF.on f1 f w0) (hP:PS w B b g1 s) (hR:RS w B f1 r) (hO:Only (b::(g.list++f.list)) w0 w)
  (k:PS w' B b g1 s') (o:Only (b::g1.list) w w'):Duo w0 B b g f s' r w':=
 ⟨g1, f1,h1,h2,k,hR.only o hP.free2 (fun x hx hx2=>hP.apartR hR x hx2 hx),hO.trans o (fun x hx=>by
  rcases List.mem_cons.1 hx with rfl|hx
  ·exact .inl (List.mem_cons_self ..)
  ·rcases h1.2 x hx with e|e
   ·exact .inl (List.mem_cons_of_mem _ (List.mem_append_left _ e))
   ·exact .inr e)⟩
theorem Duo.refc {w0 w w':World} {B b:Nat} {g g1:GhW} {f f1:GhF} {s r r':SysD} (h1:GhW.on g1 g w0) (h2:GhF.on f1 f w0) (hP:PS w B b g1 s) (hR:RS w B f1 r) (hO:Only (b::(g.list++f.list)) w0 w)
  (k:RTo w B f1 r' w'):Duo w0 B b g f s r' w':=by
 obtain ⟨f2,k1,o,k2⟩:=k;exact ⟨g1,f2,h1,GhF.on_trans h2 k2 hO.size,hP.only o hR.free2 (fun x hx=>hP.apartR hR x hx),k1,hO.trans o (fun x hx=>by
  rcases h2.2 x hx with e|e
  ·exact .inl (List.mem_cons_of_mem _ (List.mem_append_right _ e))
  ·exact .inr e)⟩
theorem Duo.fs {w0 w:World} {B b:Nat} {g:GhW} {f:GhF} {s r:SysD} (h:Duo w0 B b g f s r w):∃vN vD A cap,Has w f.bF (.cells #[vN,vD,.int .i64 r.t.last,.int .i64 r.now,.int .i64 r.count,.slice A r.plan.length cap,.bool r.dead] 78):=by
 obtain ⟨g1,f1,_,h2,_,⟨A,cap,⟨_,cn,ce,k,_⟩,_⟩,_⟩:=h;rw [h2.1]at k;exact ⟨_,_,A,cap,k⟩
theorem Duo.after {w1 w0 w:World} {B b:Nat} {g:GhW} {f:GhF} {s r s' r':SysD} (h:Duo w0 B b g f s r w) (hE:Ext w1 w0) (hB:w1.heap.size≤B) (K:PS w0 B b g s') (F:RS w0 B f r'):Ext w1 w:=by
 refine h.only.after hE fun x hx=>?_
 rcases List.mem_cons.1 hx with rfl|hx
 ·have:=(K.free2 x (List.mem_cons_self ..)).1;omega
 ·rcases List.mem_append.1 hx with hx|hx
  ·have:=(K.free2 x (List.mem_cons_of_mem _ hx)).1;omega
  ·have:=(F.free2 x hx).1;omega
attribute [local irreducible] wpQuiet
end Go.Proofs.YtpibnfdolojpcaaGreat
