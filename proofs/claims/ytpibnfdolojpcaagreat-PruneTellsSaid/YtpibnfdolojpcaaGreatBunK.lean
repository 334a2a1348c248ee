import Derived.Test.YtpibnfdolojpcaaGreatBunX
import Derived.Test.YtpibnfdolojpcaaGreatBunH
import Derived.Test.YtpibnfdolojpcaaGreatBunJ
import Derived.Test.YtpibnfdolojpcaaGreatBunC
import Derived.Test.YtpibnfdolojpcaaGreatBunI
import Derived.Test.YtpibnfdolojpcaaGreatBunG
import Derived.Lib.AppendZerosOnto
set_option maxHeartbeats 4000000
set_option maxRecDepth 100000
namespace Go.Proofs.YtpibnfdolojpcaaGreat
open Go.Proofs.Tryz
open Go.ChangeShapes Go.WideShapes Go.ChangeAt Go.RowKit
variable {B b c cap:Nat} {S T:ag} {w w0 w':World} {g:dL} {f:cI} {A:Option Addr} {now cu p cg count:Int} {n:ak} {L:List Nat} {l:List (Int×Int)} {X:cY}
section
theorem Fi (h:eB c S) (hT:p=0->eB (c+1) T):eB (c+1) (gI p S T):=by
 unfold gI;split
 ·exact iz h (by omega)
 ·rename_i h0;exact hT (bR.1 h0)
theorem xg (S:ag) (cu cg now dir:Int) (nm:List UInt8) (n:ak):(cM S cu cg now dir nm n).last<=S.last+1:=by
 unfold cM;split
 ·show (cC S _).last<=_
  unfold cC;split
  ·exact gE _
  ·omega
 ·omega
theorem AW (h:T.last<=S.last+1):(gI p S T).last<=S.last+1:=by
 unfold gI;split
 ·omega
 ·exact h
theorem Hh (h:bZ S) (no:Int):bZ (gS S no):=by
 unfold gS;split
 ·exact fun m hm=>h m (eR hm).1
 ·exact h
theorem nP (h:bZ S) (hn:n.kind≠1->n.ah=[]):bZ (aV S n):=fun m hm hk=>by
 rcases bq hm with⟨hm,_⟩|rfl
 ·exact h m hm hk
 ·exact hn hk
theorem Hi (h:bZ S) (now:Int) (hn:n.kind≠1->n.ah=[]):bZ (jm S now n):=by
 unfold jm;split
 ·exact Hh (nP (n:=gT now n) h hn) _
 ·exact nP (n:=gT now n) h hn
theorem qy (h:bZ S) {dir:Int} {l:List aK} (hk:(aa S.nodes dir).kind=1):bZ (dC S dir now l):=nP h fun hn=>absurd hk hn
theorem oA (h:bZ S) (no:Int) (hi:aW S.nodes no=true):(aa S.nodes no).kind≠1->(aa S.nodes no).ah=[]:=h _ (ap hi).2.2
theorem xV (h:bZ S) {dir:Int} {nm:List UInt8} (hl:bJ S cu cg dir nm=0):bZ (gU S now (cL S cu cg dir nm) (bQ S cu cg dir nm) nm):=by
 obtain⟨z1,z2,_,z4,z5⟩:=eu hl;obtain⟨hi,hk,_⟩:=a_ z1;unfold gU;rw[z4,z5,(ap hi).2.1];exact Hi (qy h hk) now (oA h _ z2)
theorem Hj (_hT:eB c S) (h:bZ S) (cu cg now no dir:Int) (nm:List UInt8):bZ (jl S cu cg now no dir nm):=by
 unfold jl;split
 ·rename_i h0
  obtain ⟨z1,z2,z3,_⟩:=nN h0;obtain⟨hi,hk,_⟩:=a_ z1;have h1:bZ (aV S (eH S now no)):=nP h (oA h no z2);refine qy h1 ?_;have hne:dir≠(eH S now no).no:=by
   intro e;have e2:(eH S now no).no=no:=(ap z2).2.1;rw[e2]at e;rw[e]at hk;exact z3 hk
  rw[(nO hne).1];exact hk
 ·exact h
theorem PA (S:ag) (cu cg now fr iN:Int) (a b:List UInt8):(MX S cu cg now fr iN a b).last=S.last:=by
 unfold MX;split
 ·show (G9 S now _).last=S.last
  exact (Po S now _).1
 ·rfl
structure aH where
 t : ag
 now:Int
 count:Int
 plan:List (Int×Int)
 dead:Bool
def vU (s:aH):Int:=if s.dead=true then 20 else jA s.plan (s.count+1)
def yP (s:aH):aH:=if s.dead=true then s else {s with count:=s.count+1,dead:=gK s.plan (s.count+1)}
inductive pZ where
 | dS (dir:Int) (nm:List UInt8) (mode:Int)
 | dH (dir:Int) (nm:List UInt8) (mode:Int) (data:List UInt8)
 | symlink (dir:Int) (nm:List UInt8) (text:List UInt8)
 | link (no dir:Int) (nm:List UInt8)
 | unlink (dir:Int) (nm:List UInt8)
 | j8 (dir:Int) (nm:List UInt8)
 | rename (fr:Int) (a:List UInt8) (iN:Int) (b:List UInt8)
 | ee (no mode:Int)
 | fF (no uid gid:Int)
 | iD (no mt:Int)
 | write (no:Int) (data:List UInt8)
def di (S:ag) (cu cg now:Int):pZ->ag
 | .dS dir nm mode=>gI (qv mode) S (cM S cu cg now dir nm (fx mode dir))
 | .dH dir nm mode data=>gI (jI mode data.length) S (cM S cu cg now dir nm (dy mode data))
 | .symlink dir nm text=>gI (n_ text) S (cM S cu cg now dir nm (fL text))
 | .link no dir nm=>jl S cu cg now no dir nm
 | .unlink dir nm=>eQ S cu cg now dir nm
 | .j8 dir nm=>gJ S cu cg now dir nm
 | .rename fr a iN b=>MX S cu cg now fr iN a b
 | .ee no mode=>gx S cu now no mode
 | .fF no uid gid=>iA S cu now no uid gid
 | .iD no mt=>iB S cu now no mt
 | .write no data=>ET S cu cg now no data
def gL (S:ag) (cu cg now:Int):pZ->Int
 | .dS dir nm mode=>jS (qv mode) (dq S cu cg now dir nm (fx mode dir))
 | .dH dir nm mode data=>jS (jI mode data.length) (dq S cu cg now dir nm (dy mode data))
 | .symlink dir nm text=>jS (n_ text) (dq S cu cg now dir nm (fL text))
 | .link no dir nm=>h_ S cu cg no dir nm
 | .unlink dir nm=>ey S cu cg dir nm
 | .j8 dir nm=>fc S cu cg dir nm
 | .rename fr a iN b=>ZA S cu cg fr iN a b
 | .ee no mode=>g_ S cu no mode
 | .fF no uid gid=>iT S cu no uid gid
 | .iD no mt=>jk S cu no mt
 | .write no data=>OP S cu cg no data.length
def mT (S:ag) (cu cg now:Int):pZ->Int
 | .dS dir nm mode=>lg (qv mode) (eG S cu cg now dir nm (fx mode dir))
 | .dH dir nm mode data=>lg (jI mode data.length) (eG S cu cg now dir nm (dy mode data))
 | .symlink dir nm text=>lg (n_ text) (eG S cu cg now dir nm (fL text))
 | _=>0
def ul (s:aH) (cu cg:Int) (x:pZ):aH:=if vU s≠0 then yP s else {yP s with t:=di s.t cu cg s.now x}
def yw (s:aH) (cu cg:Int) (x:pZ):Int:=if vU s≠0 then vU s else gL s.t cu cg s.now x
def Wi (s:aH) (cu cg:Int) (x:pZ):Int:=if vU s≠0 then 0 else mT s.t cu cg s.now x
theorem xh {c:Int} (h:jA l c=0):gK l c=false:=by
 unfold jA at h;unfold gK
 cases hx:xe l c with
 | none=>rfl
 | some x =>
  rw[hx]at h;have h':x.2=0:=h;show (x.2 == 20)=false;rw[h'];rfl
theorem nc {s:aH} (h:vU s=0):s.dead=false/\yP s={s with count:=s.count+1}:=by
 unfold vU at h;split at h
 ·cases h
 ·rename_i hd
  have hd':s.dead=false:=by simpa using hd
  refine⟨hd',?_⟩;unfold yP;rw[ac hd,xh h,<-hd']
theorem iV {s:aH} (h:s.dead=false):vU s=jA s.plan (s.count+1):=by unfold vU;rw[ac (by rw[h];decide)]
theorem vp {s:aH} (h:s.dead=false):yP s={s with count:=s.count+1,dead:=gK s.plan (s.count+1)}:=by unfold yP;rw[ac (by rw[h];decide)]
structure d_ (c:Nat) (s:aH):Prop where
 fN:eB c s.t
 Na:bZ s.t
 last:s.t.last<=c+1
 c0:0<=s.count
 c1:s.count<=c
 plan:s.plan.length<=1000
theorem d_.mono {d:Nat} {s:aH} (h:d_ c s) (M0:c<=d):d_ d s:=⟨iz h.fN M0,h.Na,by have:=h.last;omega,h.c0,by have:=h.c1;omega,h.plan⟩
theorem tU (h:bZ S) (k:bZ T):bZ (gI p S T):=by unfold gI;split;exact h;exact k
theorem Hk (h:bZ S) (hn:n.kind≠1->n.ah=[]):bZ (cC S n):=by
 unfold cC;split
 ·intro m hm hk
  rcases dn.1 hm with hm|hm
  ·exact h m hm hk
  ·rw [ax]at hm
   subst hm;exact hn hk
 ·exact h
theorem rU (hu:aQ S.nodes S.last) (h:bZ S) (cu cg now dir:Int) (nm:List UInt8) (n:ak) (hn:n.kind≠1->n.ah=[]):bZ (cM S cu cg now dir nm n):=by
 unfold cM;split
 ·rename_i h0
  obtain⟨h1,_,_⟩:=lM h0;obtain⟨p1,p2,_⟩:=a_ h1;refine qy (Hk (n:=cV S cu cg now dir n) h hn) ?_;rw[(na hu _ p1).1];exact p2
 ·exact h
theorem oB (h:bZ S) {no:Int} (hi:aW S.nodes no=true) (hk:n.kind=(aa S.nodes no).kind) (he:n.ah=(aa S.nodes no).ah):bZ (aV S n):=
 nP h fun hn=>by rw[he];exact oA h no hi (by rw[<-hk];exact hn)
theorem jB {no:Int} (h:fD S cu no=0):aW S.nodes no=true:=(jy h).1
theorem Hl (h:bZ S) (cu now no m:Int):bZ (gx S cu now no m):=by
 unfold gx;split
 ·rename_i h0
  unfold g_ at h0;split at h0
  ·rename_i h1;exact absurd h0 h1
  ·rename_i h1;exact oB h (jB (bR.1 h1)) rfl rfl
 ·exact h
theorem Hm (h:bZ S) (cu now no u g:Int):bZ (iA S cu now no u g):=by
 unfold iA;split
 ·rename_i h0
  unfold iT at h0;split at h0
  ·rename_i h1;exact absurd h0 h1
  ·rename_i h1;exact oB h (jB (bR.1 h1)) rfl rfl
 ·exact h
theorem Ho (h:bZ S) (cu now no t:Int):bZ (iB S cu now no t):=by
 unfold iB;split
 ·rename_i h0
  unfold jk at h0;split at h0
  ·rename_i h1;exact absurd h0 h1
  ·rename_i h1;exact oB h (jB (bR.1 h1)) rfl rfl
 ·exact h
theorem KH (h:bZ S) (cu cg now no:Int) (data:List UInt8):bZ (ET S cu cg now no data):=by
 unfold ET;split
 ·rename_i h0
  have hi:aW S.nodes no=true:=by
   unfold OP at h0;split at h0
   ·cases h0
   ·rename_i h1;simpa using h1
  have h1:bZ (lD S no data):=by
   unfold lD;split
   ·intro m hm hk
    rcases uP hm with hm|rfl
    ·exact h m hm hk
    ·exact oA h no hi hk
   ·exact h
  have tm:aW (lD S no data).nodes no=true:=by
   unfold lD;split
   ·show aW (cP S.nodes _) no=true;rw[kf];exact hi
   ·exact hi
  exact oB h1 tm rfl rfl
 ·exact h
theorem KJ (h:eB c S) (hN:bZ S) (cu cg now:Int) (x:pZ) (hx:∀fr a iN b,x≠.rename fr a iN b):bZ (di S cu cg now x):=by
 cases x with
 | dS dir nm mode=>exact tU hN (rU h.bL hN _ _ _ _ _ _ fun _=>rfl)
 | dH dir nm mode data=>exact tU hN (rU h.bL hN _ _ _ _ _ _ fun _=>rfl)
 | symlink dir nm text=>exact tU hN (rU h.bL hN _ _ _ _ _ _ fun _=>rfl)
 | link no dir nm=>exact Hj h hN _ _ _ _ _ _
 | unlink dir nm =>
  show bZ (eQ S cu cg now dir nm);unfold eQ;split
  ·rename_i h0
   refine xV hN ?_;unfold ey at h0;split at h0
   ·rename_i h1;exact absurd h0 h1
   ·rename_i h1;exact bR.1 h1
  ·exact hN
 | j8 dir nm =>
  show bZ (gJ S cu cg now dir nm);unfold gJ;split
  ·rename_i h0
   refine xV hN ?_;unfold fc at h0;split at h0
   ·rename_i h1;exact absurd h0 h1
   ·rename_i h1;exact bR.1 h1
  ·exact hN
 | rename fr a iN b=>exact absurd rfl (hx fr a iN b)
 | ee no mode=>exact Hl hN _ _ _ _
 | fF no uid gid=>exact Hm hN _ _ _ _ _
 | iD no mt=>exact Ho hN _ _ _ _
 | write no data=>exact KH hN _ _ _ _ _
theorem PB (S:ag) (now:Int) (n:ak):(jm S now n).last=S.last:=by
 unfold jm;split
 ·rw[Kf];rfl
 ·rfl
theorem Dj (S:ag) (now:Int) (d n:ak) (nm:List UInt8):(gU S now d n nm).last=S.last:=by unfold gU;rw[PB];rfl
theorem TS (S:ag) (cu cg now:Int) (x:pZ):(di S cu cg now x).last<=S.last+1:=by
 cases x with
 | dS dir nm mode=>exact AW (xg ..)
 | dH dir nm mode data=>exact AW (xg ..)
 | symlink dir nm text=>exact AW (xg ..)
 | link no dir nm=>show (jl ..).last<=_;unfold jl;split<;>(show S.last<=_;omega)
 | unlink dir nm=>show (eQ ..).last<=_;unfold eQ;split<;>(try rw[Dj])<;>omega
 | j8 dir nm=>show (gJ ..).last<=_;unfold gJ;split<;>(try rw[Dj])<;>omega
 | rename fr a iN b=>show (MX ..).last<=_;rw[PA];omega
 | ee no mode=>show (gx ..).last<=_;unfold gx;split<;>(show S.last<=_;omega)
 | fF no uid gid=>show (iA ..).last<=_;unfold iA;split<;>(show S.last<=_;omega)
 | iD no mt=>show (iB ..).last<=_;unfold iB;split<;>(show S.last<=_;omega)
 | write no data =>
  show (ET ..).last<=_;unfold ET;split
  ·show (lD S no data).last<=_;rw[Kg];omega
  ·omega
theorem XJ (h:eB c S) (cu cg now:Int) (x:pZ) (hx:∀fr a iN b,x≠.rename fr a iN b):eB (c+1) (di S cu cg now x):=by
 cases x with
 | dS dir nm mode =>
  refine Fi h fun h0=>wZ h rfl (by show ([]:List UInt8).length<=_;simp) (fun _=>rfl) ?_
  unfold qv at h0;split at h0
  ·cases h0
  ·show 0<=mode/\mode<=1023
   omega
 | dH dir nm mode data =>
  have key:jI mode data.length=0->(0<=mode/\mode<=1023)/\data.length<=1048576:=fun h0=>by
   unfold jI at h0;split at h0
   ·cases h0
   ·split at h0
    ·cases h0
    ·omega
  exact Fi h fun h0=>wZ h rfl (key h0).2 (fun hk=>by cases hk) (key h0).1
 | symlink dir nm text =>
  have key:n_ text=0->text.length<=1048576:=fun h0=>by
   unfold n_ at h0;split at h0
   ·cases h0
   ·split at h0
    ·cases h0
    ·omega
  exact Fi h fun h0=>wZ h rfl (key h0) (fun hk=>by cases hk) ⟨by show (0:Int)<=511;decide,by show (511:Int)<=1023;decide⟩
 | link no dir nm=>exact Tk h ..
 | unlink dir nm=>exact iz (Kw h ..) (by omega)
 | j8 dir nm=>exact iz (Pm h ..) (by omega)
 | rename fr a iN b=>exact absurd rfl (hx fr a iN b)
 | ee no mode=>exact iz (Tg h ..) (by omega)
 | fF no uid gid=>exact iz (Th h ..) (by omega)
 | iD no mt=>exact iz (Ti h ..) (by omega)
 | write no data=>exact iz (Xu h ..) (by omega)
theorem gv.aaS {g:cI} (h:gv w B g S X) (i:Nat) (v:Value) (Y:cY)
  (hY:∀cn ce:Nat,(#[.slice (some g.bN) S.nodes.length cn,.slice (some g.bE) S.ae.length ce,S.last,X.now,X.count,X.plan,X.dead]:Array Value).setIfInBounds i v=#[.slice (some g.bN) S.nodes.length cn,.slice (some g.bE) S.ae.length ce,.int .i64 S.last,.int .i64 Y.now,Y.count,Y.plan,Y.dead]) :
  gv (w.setCell (g.bF,i) v) B g S Y:=by
 have hne:=h.ne;have ha:=h.apart;obtain⟨h1,cn,ce,h2,⟨xs,h3,h5⟩,h4⟩:=h;have o:=Only.setCell w g.bF i v;have mS:=Has.setCell h2 i v;rw[hY cn ce]at mS;refine⟨h1,cn,ce,mS,⟨xs,av h3 o fun b hb=>?_,h5.only o (ha.sub (by simp[cI.list]))⟩,av h4 o fun b hb=>?_⟩
 ·injection hb with hb;subst hb;simp;exact fun e=>hne.1 e.symm
 ·injection hb with hb;subst hb;simp;exact fun e=>hne.2.1 e.symm
theorem gv.AX {g:cI} (h:gv w B g S X):w.cell? (g.bF,4)=some X.count/\w.cell? (g.bF,5)=some X.plan/\w.cell? (g.bF,6)=some X.dead/\w.frozen? (g.bF,4)=false/\w.frozen? (g.bF,6)=false/\g.bF<w.heap.size:=by
 obtain⟨h1,cn,ce,h2,_,_⟩:=h;exact⟨h2.cell 4,h2.cell 5,h2.cell 6,by rw[Has.free h2 4];rfl,by rw[Has.free h2 6];rfl,h2.lt⟩
abbrev Cf (now count:Int) (A:Option Addr) (n cap:Nat) (dead:Bool):cY:=⟨now,.int .i64 count,.slice A n cap,.bool dead⟩
theorem acx {g:cI} (l:List (Int×Int)) (w:World) (h:gv w B g S (Cf now count A l.length cap false)) (hp:dd w A l) (ho:l≠[]->dK A g.bF) (hl:l.length<=1000000) (hc0:0<=count) (hc1:count<=1000000) :
  Calls prog 151 #[((),g.bF)] w (fun e w'=>e=.returned (.int .i64 (jA l (count+1)))/\gv w' B g S (Cf now (count+1) A l.length cap (gK l (count+1)))/\Only [g.bF] w w'):=by
 obtain⟨n,hn⟩:=ai l.length;rw[<-hn]at h hl|-;have HN:=zH hn;obtain⟨c,hc⟩:=ai (count+1);have BS:IntKind.i64.wrap (count+1)=c:=by rw[hc];exact cB _ (by omega)
 rw[<-hc];obtain⟨c4,c5,c6,f4,f6,z⟩:=h.AX;obtain⟨W2,dp⟩:=ai (w.setCell (g.bF,4) (.int .i64 c));have h2:gv W2 B g S (Cf now c A n cap false):=by rw[dp];exact h.aaS 4 (.int .i64 c) (Cf now c A n cap false) (fun _ _=>rfl)
 have O2:Only [g.bF] w W2:=by rw[dp];exact Only.setCell _ _ _ _
 have hp2:dd W2 A l:=by
  by_cases l8:l=[]
  ·exact .inl l8
  ·exact hp.only O2 (fun x hx=>by simp at hx;subst hx;exact ho l8)
 have HW2:=zH dp;clear dp h hp hn hc;go_in;go_upto_region 4 with fail;rw[<-HW2.o];clear c4 c5 c6 f4 f6 z HW2;go_wp2_with fail;go_loopw [3] (fun i wr=>∃k:Nat,i=.int .i64 k/\k<=n/\xe (l.take k) c=none/\gv wr B g S (Cf now c A n cap false)/\dd wr A l/\Only [g.bF] w wr) (fun i _=>n-(intOf i).toNat)
 case atStart=>exact⟨0,rfl,bC _,rfl,h2,hp2,O2⟩
 case round =>
  obtain⟨k,rfl,hk,h0,hS,hP,hO⟩:=hrel;obtain⟨c4,c5,c6,f4,f6,z⟩:=hS.AX
  by_cases hlt:(k:Int)<n
  ·have dN:k<l.length:=by have:=HN.o;omega
   have hP':=hP;obtain⟨bl,o,rfl,oV,hcs⟩:=hP'.resolve_left (by rintro rfl;simp at dN);obtain⟨e0,e1⟩:=hcs k dN;have y1:(0:Int)<=(k:Int):=cO _;have w3w:IntKind.i64.wrap ((k:Int)+1)=(k:Int)+1:=cB _ (by omega);have hat:=TM (c:=c) dN h0;have Jb:=Hg (c:=c) dN h0;obtain⟨x,hx⟩:=ai (l[k]);rw[<-hx]at e0 e1 hat Jb;obtain⟨x1,x2⟩:=x;clear hcs hx
   by_cases hq:x1=c
   ·have t1:(x1 == c)=true:=by simpa using hq
    have Fg:=zH (hat hq);clear hq hat Jb;go_upto_region 7 with fail;go_quiet (fail)
    by_cases q20:x2=20
    ·have t2:(x2 == 20)=true:=by simpa using q20
     have G5:bl≠g.bF:=ho (by rintro rfl;simp at dN) _ rfl;have ww:g.bF≠bl:=dA G5;have HD:Hid (gK l c=true):=by show _=_;rw[Fg.o.2,q20];rfl
     clear q20;go_wp2;go_ret;rw[Fg.o.1,HD.o];exact⟨rfl,(hS.ext ((Ext.refl _).drewN _)).aaS 6 (.bool true) (Cf now c (some ⟨bl,o,none⟩) n cap true) (fun _ _=>rfl),(hO.ext ((Ext.refl _).drewN _)).then (Only.setCell _ _ _ _)⟩
    ·have t2:(x2 == 20)=false:=by simpa using q20
     have HD:Hid (gK l c=false):=by show _=_;rw[Fg.o.2];simpa using q20
     clear q20;go_wp2;go_ret;rw[Fg.o.1,HD.o];exact⟨rfl,hS.ext ((Ext.refl _).drewN _),hO.ext ((Ext.refl _).drewN _)⟩
   ·have t1:(x1 == c)=false:=by simpa using hq
    have HNX:=zH (Jb hq);clear hq hat Jb;go_upto_region 7 with fail;go_quiet (fail);go_wp2_with fail;go_roundw
    case rel=>exact⟨k+1,by go_num,by omega,HNX.o,hS.ext ((Ext.refl _).drewN _),hP.ext ((Ext.refl _).drewN _),hO.ext ((Ext.refl _).drewN _)⟩
    case measure=>simp[intOf];omega
  ·have ut:k=n:=by omega
   have hf:xe l c=none:=by rw[ut,HN.o,od]at h0;exact h0
   have he:jA l c=0/\gK l c=false:=by unfold jA gK;rw[hf];exact⟨rfl,rfl⟩
   have HE:=zH he;clear hf he h0 ut;go_wp2;go_ret;exact⟨by rw[HE.o.1];rfl,by rw[HE.o.2];exact hS,hO⟩
theorem acy {g:cI} {n:Nat} (w:World) (h:gv w B g S (Cf now count A n cap true)) :
  Calls prog 151 #[((),g.bF)] w (aO w (.int .i64 20)):=by
 obtain⟨c4,c5,c6,f4,f6,z⟩:=h.AX;go_in;go_wp2;go_ret;exact aO.mk rfl (Ext.refl _)
def gN (l:List (Int×Int)):List Value:=l.flatMap fun x=>[.int .i64 x.1,.int .i64 x.2]
theorem tw (l:List (Int×Int)):(gN l).length=l.length*2:=by
 unfold gN
 induction l with
 | nil=>rfl
 | cons x l ih=>rw[yZ,aZ,ih];simp;omega
theorem tA (l:List (Int×Int)):∀k,(h:k<l.length)->(gN l)[k*2]?=some (.int .i64 l[k].1)/\(gN l)[k*2+1]?=some (.int .i64 l[k].2):=by
 induction l with
 | nil=>intro k h;simp at h
 | cons x l ih =>
  intro k h;have e:gN (x::l)=.int .i64 x.1::.int .i64 x.2::gN l:=rfl;rw[e]
  cases k with
  | zero=>exact⟨rfl,rfl⟩
  | succ k =>
   have:=ih k (by simpa using h);rw[show (k+1)*2=k*2+1+1 by omega];simpa using this
theorem Cg (l:List (Int×Int)):∀u∈gN l,u.oneCell'=true:=by
 intro u hu;unfold gN at hu;rw[FX]at hu;obtain⟨x,_,hx⟩:=hu;simp only[aR,bg,bh]at hx;rcases hx with rfl|rfl<;>rfl
theorem TT (A:Option Addr) (cap:Nat) (l:List (Int×Int)) (wr:World) (h:dd wr A l) (hA:A=none->cap=0) (hl:l.length<=1000000) :
  ∃ v' w2,(Builtin.append_ #[28,28] 28 #[.slice none 0 0,.slice A l.length cap]).run prog wr=.ok v' w2/\w2.ownsRow wr.heap.size 216 2 v' l.length (gN l)/\Ext wr w2:=by
 obtain⟨i0,hi,hz0,hz1,hz2⟩:=jj Pz
 cases A with
 | none =>
  have l8:l=[]:=by
   rcases h with h|⟨b',o',h,_⟩
   ·exact h
   ·cases h
  subst l8;obtain rfl:cap=0:=hA rfl;refine⟨.slice none 0 0,wr,?_,oG _ _ _ _,Ext.refl _⟩;simp[Builtin.append_,mD underlying28,sizeOf,typeInfo,hi,Builtin.lenOf,Builtin.firstCells]
 | some ad =>
  have ww:∀j u,(gN l)[j]?=some u->wr.cell? (ad.add j)=some u:=by
   intro j u hu;rcases h with h|⟨b',o',hAe,hb,h2⟩
   ·subst h;simp[gN]at hu
   ·obtain rfl:ad=⟨b',o',none⟩:=nt hAe
    rw [kU];have hj:j<l.length*2:=by
     rcases lq j (l.length*2) with h'|h'
     ·exact h'
     ·rw[ze (by rw[tw];exact h')]at hu;cases hu
    have hk:j / 2<l.length:=by omega
    have g:=tA l (j / 2) hk;have c:=h2 (j / 2) hk;rcases Y2 j with e|e
    ·have ej:j=j / 2*2:=by omega
     rw[ej]at hu;rw[g.1]at hu;rw[ej,show o'+j / 2*2=o'+(j / 2)*2 from rfl];rw[c.1];exact hu
    ·have ej:j=j / 2*2+1:=by omega
     rw[ej]at hu;rw[g.2]at hu;rw[ej,<-un];rw[c.2];exact hu
  obtain⟨v',w2,hr,h2,h3,_⟩:=run_append_own (P:=prog) wr wr.heap.size 28 28 216 i0 (.agg #[(),()]) 2 16 underlying28 hi hz0 hz1 hz2 rfl (by decide) _ 0 [] (oG _ _ _ _) ad l.length cap (gN l) (tw l) ww (Cg l) (by unfold maxLen;omega) (by omega) (aE _);refine⟨v',w2,hr,by rw[eY,jG]at h2;exact h2,?_⟩;exact (Ext.refl wr).grown h3 (fun g hv=>by simp[Value.ownBlock]at hv)
theorem XK {len:Nat} {dead:Bool} (A0:Option Addr) (l:List (Int×Int)) (qR:Nat) (w:World) (h:eW w b g now count A len cap dead) (hp:dd w A0 l) (hA:A0=none->qR=0) (ho:l≠[]->dK A0 b) (hl:l.length<=1000000) :
  Calls prog 38 #[((),b),.slice A0 l.length qR] w (fun e w'=>(∃v,e=.returned v)/\∃A' cap',eW w' b g now 0 A' l.length cap' dead/\dd w' A' l/\dK A' b/\(∀x,A'=some x->e7 w' x.block 216)/\Only [b] w w'):=by
 obtain⟨n,hn⟩:=ai l.length;have HN:=zH hn;rw[<-hn];clear hn;go_in;go_wp2_with fail;refine (Di _ h).mono ?_;rintro e w1 ⟨rfl,b1⟩;have h1:=h.ext b1;have c2:=Has.cell h1 2;have f2:=Has.free h1 2;have z:=Has.lt h1;obtain⟨W2,dp⟩:=ai (w1.setCell (b,2) (.int .i64 0));have h2:eW W2 b g now 0 A len cap dead:=by rw[dp];exact Has.setCell h1 2 (.int .i64 0)
 have O2:Only [b] w1 W2:=by rw[dp];exact Only.setCell _ _ _ _
 have hp2:dd W2 A0 l:=by
  by_cases l8:l=[]
  ·exact .inl l8
  ·exact (hp.ext b1).only O2 (fun x hx=>by simp at hx;subst hx;exact ho l8)
 have hb2:=Has.lt h2;obtain⟨v3,w3,hr,hown,E3⟩:=TT A0 qR l W2 hp2 hA hl;rw[<-HN.o]at hr;have HR:=zH hr;have h3:=h2.ext E3;have c3:=Has.cell h3 3;have f3:=Has.free h3 3;have z3:=Has.lt h3;have hne:∀g',v3.ownBlock=some g'->g'≠b:=fun g' hv=>by have:=(ry hown g' hv).1;omega
 obtain ⟨A3,cp3,rfl⟩:∃A3 cp3,v3=.slice A3 n cp3:=by
  rcases hown.2 with⟨e,h0⟩|⟨g',cap',cur,e,_⟩
  ·exact⟨none,0,by rw[e];congr 1;rw[HN.o];omega⟩
  ·exact⟨_,_,by rw[e,HN.o]⟩
 have c3':=Has.cell h2 3;have z2:=Has.lt h2;clear h h1 hr;go_upto_region 2 with fail;rw[<-dp];clear dp c2 f2 z;go_wp2_with (at_builtin;refine nj _ rfl _ _ 28 28 rfl _ _ rfl rfl _ _ HR.o ?_);go_end0;obtain⟨W5,kT⟩:=ai (w3.setCell (b,3) (.slice A3 n cp3));have h5:eW W5 b g now 0 A3 n cp3 dead:=by rw[kT];exact Has.setCell h3 3 _
 have O5:Only [b] w3 W5:=by rw[kT];exact Only.setCell _ _ _ _
 refine⟨⟨_,rfl⟩,A3,cp3,by rw[<-kT];exact h5,?_,fun x hx=>hne x.block (by rw[hx];rfl),?_,(Only.pre b1 O2).then ((Only.az E3).then (by rw[<-kT];exact O5))⟩
 case refine_2 =>
  intro x hx;subst hx;rw[<-kT];rcases hown.2 with⟨e,_⟩|⟨g',cap',cur,e,_,hg,_⟩
  ·cases e
  ·injection e with e1
   injection e1 with e1;subst e1;exact⟨cur,_,O5.has hg (by simpa using hne g' rfl)⟩
 rw[<-kT]
 cases A3 with
 | none =>
  rcases hown.2 with⟨_,h0⟩|⟨g',cap',cur,e,_⟩
  ·exact .inl (qD h0)
  ·cases e
 | some ad =>
  rcases hown.2 with⟨e,_⟩|⟨g',cap',cur,e,_⟩
  ·cases e
  ·injection e with e1
   injection e1 with e1;subst e1;have hc:=World.ownsRow.cells hown (g:=g') rfl;have hlt:=(ry hown g' rfl).2;have e:W5.heap[g']?=w3.heap[g']?:=O5.block g' hlt (by simpa using hne g' rfl);have ec:∀j,W5.cell? ⟨g',j,none⟩=w3.cell? ⟨g',j,none⟩:=fun j=>by simp[World.cell?,e]
   refine .inr ⟨g',0,rfl,by have:=O5.size;omega,fun k hk=>?_⟩;rw[ec,ec,eY];have g1:=tA l k hk;have y1:=hc (k*2) _ g1.1;have y2:=hc (k*2+1) _ g1.2;simp only[kU,eY]at y1 y2;exact⟨y1,y2⟩
def tB (w:World) (B:Nat) (A:Option Addr) (l:List (Int×Int)):Prop:=
 l = []\/∃b o,A=some ⟨b,o,none⟩/\b<w.heap.size/\(b<B\/e7 w b 216)/\∀k,(h:k<l.length)->w.cell? ⟨b,o+k*2,none⟩=some (.int .i64 l[k].1)/\w.cell? ⟨b,o+k*2+1,none⟩=some (.int .i64 l[k].2)
theorem tB.plan (h:tB w B A l):dd w A l:=by
 rcases h with h|⟨b,o,hA,hb,_,hc⟩
 ·exact .inl h
 ·exact .inr ⟨b,o,hA,hb,hc⟩
def dX (w:World) (B:Nat) (L:List Nat):Prop:=∀b∈L,B<=b/\¬e7 w b 153/\¬e7 w b 216
theorem dX.apart (h:dX w B L):dE w B L:=fun b hb=>⟨(h b hb).1,(h b hb).2.1⟩
theorem dX.nil (w:World) (B:Nat):dX w B []:=fun b hb=>by cases hb
theorem dX.append {M:List Nat} (h:dX w B L) (k:dX w B M):dX w B (L++M):=fun b hb=>by
 rcases dn.1 hb with hb|hb
 ·exact h b hb
 ·exact k b hb
theorem dX.cons {cs:Array Value} {t:TypeId} {fr:Nat×Nat} (h:dX w B L) (hb:B<=b) (k:w.heap[b]?=some (.cells cs t fr)) (h1:t≠153) (h2:t≠216):dX w B (b::L):=fun x hx=>by
 rcases aR.1 hx with rfl|hx
 ·refine ⟨hb,?_,?_⟩
  ·rintro⟨c,f,e⟩;rw[k]at e;injection e with e;injection e with _ e;exact h1 e
  ·rintro⟨c,f,e⟩;rw[k]at e;injection e with e;injection e with _ e;exact h2 e
 ·exact h x hx
theorem tB.only (h:tB w B A l) (o:Only L w w') (ha:dX w B L):tB w' B A l:=by
 rcases h with h|⟨b,f,hA,hb,ht,hc⟩
 ·exact .inl h
 ·have hn:b∉L:=fun hx=>by
   rcases ht with ht|ht
   ·have:=(ha b hx).1;omega
   ·exact (ha b hx).2.2 ht
  have hk:=o.block b hb hn;have hcell:∀i,w'.cell? ⟨b,i,none⟩=w.cell? ⟨b,i,none⟩:=fun i=>by simp only[World.cell?,hk]
  refine .inr ⟨b,f,hA,by have:=o.size;omega,?_,fun k dN=>by rw[hcell,hcell];exact hc k dN⟩;rcases ht with ht|⟨cur,fr,ht⟩
  ·exact .inl ht
  ·exact .inr ⟨cur,fr,hk.trans ht⟩
theorem eL.dJ (h:eL w B g S):dX w B g.list:=by
 have ha:=h.apart;obtain⟨_,⟨_,_,k2,es,cl,k3,_⟩,cd,k4,k5⟩:=h;obtain⟨_,cur,k6⟩:=k5.has;intro b hb;refine⟨(ha b hb).1,(ha b hb).2,?_⟩;rintro ⟨c,f,e⟩;simp only[dL.list,aR,bg,bh]at hb;unfold Has at *;rcases hb with rfl|rfl|rfl|rfl
 ·rw[k4]at e;injection e with e;injection e with _ e;exact absurd e (by decide)
 ·rw[k2]at e;injection e with e;injection e with _ e;exact absurd e (by decide)
 ·rw[k3]at e;injection e with e;cases e
 ·rw[k6]at e;injection e with e;injection e with _ e;exact absurd e (by decide)
theorem gv.dJ {g:cI} (h:gv w B g S X):dX w B g.list:=by
 have ha:=h.apart;obtain⟨_,cn,ce,k2,⟨xs,k3,_⟩,k4⟩:=h;obtain⟨_,EB,k5⟩:=cQ k3;obtain⟨_,NW,k6⟩:=cQ k4;intro b hb;refine⟨(ha b hb).1,(ha b hb).2,?_⟩;rintro ⟨c,f,e⟩;simp only[cI.list,aR,bg,bh]at hb;unfold Has at *;rcases hb with rfl|rfl|rfl
 ·rw[k2]at e;injection e with e;injection e with _ e;exact absurd e (by decide)
 ·rw[k5]at e;injection e with e;injection e with _ e;exact absurd e (by decide)
 ·rw[k6]at e;injection e with e;injection e with _ e;exact absurd e (by decide)
def KX (w:World) (B b:Nat) (g:dL) (s:aH) (A:Option Addr) (cap:Nat):Prop:=
 eL w B g s.t/\eW w b g s.now s.count A s.plan.length cap s.dead/\tB w B A s.plan/\dK A b/\B<=b
def PS (w:World) (B b:Nat) (g:dL) (s:aH):Prop:=∃A cap,KX w B b g s A cap
theorem KX.j7 {w:World} {B b:Nat} {g:dL} {s:aH} {A:Option Addr} {cap:Nat} (h:KX w B b g s A cap):b∉g.list:=h.1.j7 h.2.1 (by decide) (by decide) (by decide)
theorem KX.dJ {w:World} {B b:Nat} {g:dL} {s:aH} {A:Option Addr} {cap:Nat} (h:KX w B b g s A cap):dX w B (b::g.list):=
 dX.cons h.1.dJ h.2.2.2.2 h.2.1 (by decide) (by decide)
theorem KX.only {w w':World} {B b:Nat} {g:dL} {s:aH} {A:Option Addr} {cap:Nat} {L:List Nat} (h:KX w B b g s A cap) (o:Only L w w') (ha:dX w B L) (hn:∀x∈b::g.list,x∉L):KX w' B b g s A cap:=
 ⟨h.1.only o ha.apart fun x hx=>hn x (cf _ hx),eW.only h.2.1 o (hn b (bY ..)),h.2.2.1.only o ha,h.2.2.2.1,h.2.2.2.2⟩
theorem KX.ext {s:aH} (h:KX w B b g s A cap) (o:Ext w w'):KX w' B b g s A cap:=h.only (Only.az (L:=[]) o) (dX.nil _ _) (by simp)
theorem PS.j7 {s:aH} (h:PS w B b g s):b∉g.list:=by obtain⟨A,c,h⟩:=h;exact h.j7
theorem PS.dJ {s:aH} (h:PS w B b g s):dX w B (b::g.list):=by obtain⟨A,c,h⟩:=h;exact h.dJ
theorem PS.only {w w':World} {B b:Nat} {g:dL} {s:aH} {L:List Nat} (h:PS w B b g s) (o:Only L w w') (ha:dX w B L) (hn:∀x∈b::g.list,x∉L):PS w' B b g s:=by
 obtain⟨A,c,h⟩:=h;exact⟨A,c,h.only o ha hn⟩
theorem PS.ext {w w':World} {B b:Nat} {g:dL} {s:aH} (h:PS w B b g s) (o:Ext w w'):PS w' B b g s:=by
 obtain⟨A,c,h⟩:=h;exact⟨A,c,h.ext o⟩
theorem PS.lt {w:World} {B b:Nat} {g:dL} {s:aH} (h:PS w B b g s):∀x∈b::g.list,x<w.heap.size:=by
 obtain⟨A,c,h⟩:=h;have h1:=h.1.lt;have h2:=Has.lt h.2.1;intro x hx;simp only[dL.list,aR,bg,bh]at hx;omega
theorem PS.wat {s:aH} (h:PS w B b g s):eL w B g s.t:=by obtain⟨A,c,h⟩:=h;exact h.1
theorem KX.PC {w:World} {B b:Nat} {g:dL} {s:aH} {A:Option Addr} {cap:Nat} (h:KX w B b g s A cap) (hd:s.dead=false) {P:Program} {fn:FuncId} {args:Array Value} {cu cg:Int} {x:pZ}
  (F:vU s≠0->Calls P fn args w (fun e w'=>e=.returned (.int .i64 (vU s))/\eW w' b g s.now (s.count+1) A s.plan.length cap (gK s.plan (s.count+1))/\Only [b] w w'))
  (G:jA s.plan (s.count+1)=0/\gK s.plan (s.count+1)=false->Calls P fn args w (fun e w'=>e=.returned (.int .i64 (gL s.t cu cg s.now x))/\eL w' B g (di s.t cu cg s.now x)/\eW w' b g s.now (s.count+1) A s.plan.length cap false/\Only (b::g.list) w w')) :
  Calls P fn args w (fun e w'=>e=.returned (.int .i64 (yw s cu cg x))/\PS w' B b g (ul s cu cg x)/\Only (b::g.list) w w'):=by
 have hn:=h.j7;have hF:=h.dJ
 by_cases h0:vU s=0
 ·have h1:jA s.plan (s.count+1)=0:=by rw[<-iV hd];exact h0
  refine (G ⟨h1,xh h1⟩).mono ?_;rintro e w' ⟨rfl,K,S1,O⟩;refine⟨by unfold yw;rw[ac (by rw[h0];decide)],⟨A,cap,?_⟩,O⟩;unfold ul;rw[ac (by rw[h0];decide),(nc h0).2,hd];exact⟨K,S1,h.2.2.1.only O hF,h.2.2.2.1,h.2.2.2.2⟩
 ·refine (F h0).mono ?_
  rintro e w' ⟨rfl,S1,O⟩;have j_:dX w B [b]:=fun x hx=>hF x (by simp at hx;subst hx;simp)
  refine⟨by unfold yw;rw[af h0],⟨A,cap,?_⟩,O.mono (by simp)⟩;unfold ul;rw[af h0,vp hd];exact⟨h.1.xf h.2.1 h.2.2.2.2 hn O,S1,h.2.2.1.only O j_,h.2.2.2.1,h.2.2.2.2⟩
theorem KX.aaT {w:World} {B b:Nat} {g:dL} {s:aH} {A:Option Addr} {cap:Nat} (h:KX w B b g s A cap) (hd:s.dead=false) {P:Program} {fn:FuncId} {args:Array Value} {cu cg:Int} {x:pZ}
  (F:vU s≠0->Calls P fn args w (fun e w'=>e=.returned (.tuple #[(),.int .i64 (vU s)])/\eW w' b g s.now (s.count+1) A s.plan.length cap (gK s.plan (s.count+1))/\Only [b] w w'))
  (G:jA s.plan (s.count+1)=0/\gK s.plan (s.count+1)=false->Calls P fn args w (fun e w'=>e=.returned (.tuple #[.int .i64 (mT s.t cu cg s.now x),.int .i64 (gL s.t cu cg s.now x)])/\eL w' B g (di s.t cu cg s.now x)/\eW w' b g s.now (s.count+1) A s.plan.length cap false/\Only (b::g.list) w w')) :
  Calls P fn args w (fun e w'=>e=.returned (.tuple #[.int .i64 (Wi s cu cg x),.int .i64 (yw s cu cg x)])/\PS w' B b g (ul s cu cg x)/\Only (b::g.list) w w'):=by
 have hn:=h.j7;have hF:=h.dJ
 by_cases h0:vU s=0
 ·have h1:jA s.plan (s.count+1)=0:=by rw[<-iV hd];exact h0
  refine (G ⟨h1,xh h1⟩).mono ?_;rintro e w' ⟨rfl,K,S1,O⟩;refine⟨by unfold yw Wi;rw[ac (by rw[h0];decide),ac (by rw[h0];decide)],⟨A,cap,?_⟩,O⟩;unfold ul;rw[ac (by rw[h0];decide),(nc h0).2,hd];exact⟨K,S1,h.2.2.1.only O hF,h.2.2.2.1,h.2.2.2.2⟩
 ·refine (F h0).mono ?_
  rintro e w' ⟨rfl,S1,O⟩;have j_:dX w B [b]:=fun x hx=>hF x (by simp at hx;subst hx;simp)
  refine⟨by unfold yw Wi;rw[af h0,af h0],⟨A,cap,?_⟩,O.mono (by simp)⟩;unfold ul;rw[af h0,vp hd];exact⟨h.1.xf h.2.1 h.2.2.2.2 hn O,S1,h.2.2.1.only O j_,h.2.2.2.1,h.2.2.2.2⟩
def Ch1 (w:World) (B b:Nat) (g:dL) (s:aH) (cu cg:Int) (x:pZ) (e:Ending) (w':World):Prop:=e=.returned (.int .i64 (yw s cu cg x))/\PS w' B b g (ul s cu cg x)/\Only (b::g.list) w w'
def Ch2 (w:World) (B b:Nat) (g:dL) (s:aH) (cu cg:Int) (x:pZ) (e:Ending) (w':World):Prop:=e=.returned (.tuple #[.int .i64 (Wi s cu cg x),.int .i64 (yw s cu cg x)])/\PS w' B b g (ul s cu cg x)/\Only (b::g.list) w w'
section
variable {c:Nat} {w:World} {B b:Nat} {g:dL} {s:aH}
theorem d_.len (h:d_ c s):s.plan.length<=1000000:=by have:=h.plan;omega
theorem d_.hi (h:d_ c s) (hc:c<=900):s.count<=1000000:=by have:=h.c1;omega
theorem d_.dU (h:d_ c s) (hc:c<=900):s.t.last<=901:=by have:=h.last;omega
theorem d_.ok (h:d_ c s) (hc:c<=900):Ok s.t:=h.fN.ok (by omega)
theorem PS.dS (h:PS w B b g s) (hs:d_ c s) (hc:c<=900) (hd:s.dead=false) (cu cg:Int) (dir:Int) (nm:List UInt8) (mode:Int) :
  Calls prog 111 #[((),b),.agg #[cu,cg],dir,bs nm,mode] w (Ch2 w B b g s cu cg (.dS dir nm mode)):=by
 obtain⟨A,cap,h⟩:=h;obtain⟨h1,h2,h3,h4,h5⟩:=id h;have mS:=h2;rw[hd]at mS;refine h.aaT hd (fun h0=>?_) (fun h0=>?_)
 ·exact aaI s.plan w cu cg dir (bs nm) mode mS h3.plan h4 hs.len hs.c0 (hs.hi hc) (iV hd).symm h0
 ·exact aaJ s.plan w cu cg dir (bs nm) mode mS h3.plan h4 hs.len hs.c0 (hs.hi hc) B s.t h1 h.j7 h5 h0 fun u hu=>Tu B g s.t cu cg s.now dir nm mode u hu (hs.ok hc) (by have:=hs.dU hc;omega)
theorem PS.dH (h:PS w B b g s) (hs:d_ c s) (hc:c<=900) (hd:s.dead=false) (cu cg:Int) (dir:Int) (nm:List UInt8) (mode:Int) (data:List UInt8) (mP:data.length<=1000000000) :
  Calls prog 113 #[((),b),.agg #[cu,cg],dir,bs nm,mode,bs data] w (Ch2 w B b g s cu cg (.dH dir nm mode data)):=by
 obtain⟨A,cap,h⟩:=h;obtain⟨h1,h2,h3,h4,h5⟩:=id h;have mS:=h2;rw[hd]at mS;refine h.aaT hd (fun h0=>?_) (fun h0=>?_)
 ·exact XF s.plan w cu cg dir (bs nm) mode (bs data) mS h3.plan h4 hs.len hs.c0 (hs.hi hc) (iV hd).symm h0
 ·exact XG s.plan w cu cg dir (bs nm) mode (bs data) mS h3.plan h4 hs.len hs.c0 (hs.hi hc) B s.t h1 h.j7 h5 h0 fun u hu=>Pc B g s.t cu cg s.now dir nm mode data u hu (hs.ok hc) (by have:=hs.dU hc;omega) mP
theorem PS.symlink (h:PS w B b g s) (hs:d_ c s) (hc:c<=900) (hd:s.dead=false) (cu cg:Int) (dir:Int) (nm text:List UInt8) (mP:text.length<=1000000000) :
  Calls prog 114 #[((),b),.agg #[cu,cg],dir,bs nm,bs text] w (Ch2 w B b g s cu cg (.symlink dir nm text)):=by
 obtain⟨A,cap,h⟩:=h;obtain⟨h1,h2,h3,h4,h5⟩:=id h;have mS:=h2;rw[hd]at mS;refine h.aaT hd (fun h0=>?_) (fun h0=>?_)
 ·exact TQ s.plan w cu cg dir (bs nm) (bs text) mS h3.plan h4 hs.len hs.c0 (hs.hi hc) (iV hd).symm h0
 ·exact TR s.plan w cu cg dir (bs nm) (bs text) mS h3.plan h4 hs.len hs.c0 (hs.hi hc) B s.t h1 h.j7 h5 h0 fun u hu=>Tv B g s.t cu cg s.now dir nm text u hu (hs.ok hc) (by have:=hs.dU hc;omega) mP
theorem PS.link (h:PS w B b g s) (hs:d_ c s) (hc:c<=900) (hd:s.dead=false) (cu cg:Int) (no dir:Int) (nm:List UInt8) :
  Calls prog 115 #[((),b),.agg #[cu,cg],no,dir,bs nm] w (Ch1 w B b g s cu cg (.link no dir nm)):=by
 obtain⟨A,cap,h⟩:=h;obtain⟨h1,h2,h3,h4,h5⟩:=id h;have mS:=h2;rw[hd]at mS;refine h.PC hd (fun h0=>?_) (fun h0=>?_)
 ·exact acv s.plan w cu cg no dir (bs nm) mS h3.plan h4 hs.len hs.c0 (hs.hi hc) (iV hd).symm h0
 ·exact acw s.plan w cu cg no dir (bs nm) mS h3.plan h4 hs.len hs.c0 (hs.hi hc) B s.t h1 h.j7 h5 h0 fun u hu=>OW B g s.t cu cg s.now no dir nm u hu (hs.ok hc)
theorem PS.unlink (h:PS w B b g s) (hs:d_ c s) (hc:c<=900) (hd:s.dead=false) (cu cg:Int) (dir:Int) (nm:List UInt8) :
  Calls prog 98 #[((),b),.agg #[cu,cg],dir,bs nm] w (Ch1 w B b g s cu cg (.unlink dir nm)):=by
 obtain⟨A,cap,h⟩:=h;obtain⟨h1,h2,h3,h4,h5⟩:=id h;have mS:=h2;rw[hd]at mS;refine h.PC hd (fun h0=>?_) (fun h0=>?_)
 ·exact XH s.plan w cu cg dir (bs nm) mS h3.plan h4 hs.len hs.c0 (hs.hi hc) (iV hd).symm h0
 ·exact XI s.plan w cu cg dir (bs nm) mS h3.plan h4 hs.len hs.c0 (hs.hi hc) B s.t h1 h.j7 h5 h0 fun u hu=>G7 B g s.t cu cg s.now dir nm u hu (hs.ok hc)
theorem PS.j8 (h:PS w B b g s) (hs:d_ c s) (hc:c<=900) (hd:s.dead=false) (cu cg:Int) (dir:Int) (nm:List UInt8) :
  Calls prog 97 #[((),b),.agg #[cu,cg],dir,bs nm] w (Ch1 w B b g s cu cg (.j8 dir nm)):=by
 obtain⟨A,cap,h⟩:=h;obtain⟨h1,h2,h3,h4,h5⟩:=id h;have mS:=h2;rw[hd]at mS;refine h.PC hd (fun h0=>?_) (fun h0=>?_)
 ·exact aaK s.plan w cu cg dir (bs nm) mS h3.plan h4 hs.len hs.c0 (hs.hi hc) (iV hd).symm h0
 ·exact aaL s.plan w cu cg dir (bs nm) mS h3.plan h4 hs.len hs.c0 (hs.hi hc) B s.t h1 h.j7 h5 h0 fun u hu=>Kt B g s.t cu cg s.now dir nm u hu (hs.ok hc)
theorem PS.ee (h:PS w B b g s) (hs:d_ c s) (hc:c<=900) (hd:s.dead=false) (cu cg:Int) (no mode:Int) :
  Calls prog 68 #[((),b),.agg #[cu,cg],no,mode] w (Ch1 w B b g s cu cg (.ee no mode)):=by
 obtain⟨A,cap,h⟩:=h;obtain⟨h1,h2,h3,h4,h5⟩:=id h;have mS:=h2;rw[hd]at mS;refine h.PC hd (fun h0=>?_) (fun h0=>?_)
 ·exact aaM s.plan w cu cg no mode mS h3.plan h4 hs.len hs.c0 (hs.hi hc) (iV hd).symm h0
 ·exact aaN s.plan w cu cg no mode mS h3.plan h4 hs.len hs.c0 (hs.hi hc) B s.t h1 h.j7 h5 h0 fun u hu=>Ot B g s.t cu cg s.now no mode u hu hs.fN.ae hs.fN.bL
theorem PS.fF (h:PS w B b g s) (hs:d_ c s) (hc:c<=900) (hd:s.dead=false) (cu cg:Int) (no uid gid:Int) :
  Calls prog 67 #[((),b),.agg #[cu,cg],no,uid,gid] w (Ch1 w B b g s cu cg (.fF no uid gid)):=by
 obtain⟨A,cap,h⟩:=h;obtain⟨h1,h2,h3,h4,h5⟩:=id h;have mS:=h2;rw[hd]at mS;refine h.PC hd (fun h0=>?_) (fun h0=>?_)
 ·exact aaO s.plan w cu cg no uid gid mS h3.plan h4 hs.len hs.c0 (hs.hi hc) (iV hd).symm h0
 ·exact aaP s.plan w cu cg no uid gid mS h3.plan h4 hs.len hs.c0 (hs.hi hc) B s.t h1 h.j7 h5 h0 fun u hu=>Ki B g s.t cu cg s.now no uid gid u hu hs.fN.ae hs.fN.bL
theorem PS.iD (h:PS w B b g s) (hs:d_ c s) (hc:c<=900) (hd:s.dead=false) (cu cg:Int) (no mt:Int) :
  Calls prog 69 #[((),b),.agg #[cu,cg],no,mt] w (Ch1 w B b g s cu cg (.iD no mt)):=by
 obtain⟨A,cap,h⟩:=h;obtain⟨h1,h2,h3,h4,h5⟩:=id h;have mS:=h2;rw[hd]at mS;refine h.PC hd (fun h0=>?_) (fun h0=>?_)
 ·exact aaQ s.plan w cu cg no mt mS h3.plan h4 hs.len hs.c0 (hs.hi hc) (iV hd).symm h0
 ·exact aaR s.plan w cu cg no mt mS h3.plan h4 hs.len hs.c0 (hs.hi hc) B s.t h1 h.j7 h5 h0 fun u hu=>OK B g s.t cu cg s.now no mt u hu hs.fN.ae hs.fN.bL
end
end
section
def RSA (w:World) (B:Nat) (f:cI) (s:aH) (A:Option Addr) (cap:Nat):Prop:=gv w B f s.t (Cf s.now s.count A s.plan.length cap s.dead)/\tB w B A s.plan
def RS (w:World) (B:Nat) (f:cI) (s:aH):Prop:=∃A cap,RSA w B f s A cap
theorem RS.dJ {s:aH} (h:RS w B f s):dX w B f.list:=by obtain⟨A,c,h⟩:=h;exact h.1.dJ
theorem RSA.only {w w':World} {B:Nat} {f:cI} {s:aH} {A:Option Addr} {cap:Nat} {L:List Nat} (h:RSA w B f s A cap) (o:Only L w w') (ha:dX w B L) (hn:∀x∈f.list,x∉L):RSA w' B f s A cap:=⟨h.1.only o ha.apart hn,h.2.only o ha⟩
theorem RS.only {w w':World} {B:Nat} {f:cI} {s:aH} {L:List Nat} (h:RS w B f s) (o:Only L w w') (ha:dX w B L) (hn:∀x∈f.list,x∉L):RS w' B f s:=by
 obtain⟨A,c,h⟩:=h;exact⟨A,c,h.only o ha hn⟩
theorem RS.ext {s:aH} (h:RS w B f s) (o:Ext w w'):RS w' B f s:=h.only (Only.az (L:=[]) o) (dX.nil _ _) (by simp)
theorem RS.lt {s:aH} (h:RS w B f s):∀x∈f.list,x<w.heap.size:=by
 obtain⟨A,c,h⟩:=h;have h1:=h.1.lt;intro x hx;simp only[cI.list,aR,bg,bh]at hx;omega
theorem RS.Wj {s:aH} (h:RS w B f s):∃X,gv w B f s.t X:=by obtain⟨A,c,h⟩:=h;exact⟨_,h.1⟩
def iQ (w:World) (B:Nat) (f:cI) (s':aH) (w':World):Prop:=∃f',RS w' B f' s'/\Only f.list w w'/\cI.on f' f w
theorem RSA.qT {f':cI} {s:aH} (h:RSA w B f s A cap) (k:gv w' B f' T (Cf s.now s.count A s.plan.length cap s.dead)) (o:Only f.list w w') (ho:cI.on f' f w):iQ w B f {s with t:=T} w':=
 ⟨f',⟨A,cap,k,h.2.only o h.1.dJ⟩,o,ho⟩
section
variable {c:Nat} {w:World} {B:Nat} {f:cI} {s:aH}
theorem RS.goes (h:RS w B f s) (hs:d_ c s) (hc:c<=900) :
  Calls prog 151 #[((),f.bF)] w (fun e w'=>e=.returned (.int .i64 (vU s))/\RS w' B f (yP s)/\Only f.list w w'):=by
 obtain⟨A,cap,h⟩:=h
 cases hd:s.dead
 ·have h1:=h.1
  rw[hd]at h1;have hF:=h1.dJ;refine (acx s.plan w h1 h.2.plan ?_ hs.len hs.c0 (hs.hi hc)).mono ?_
  ·intro hl x hx
   rcases h.2 with h2|⟨b,o,hA,hb,ht,_⟩
   ·exact absurd h2 hl
   ·rw [hA]at hx
    injection hx with hx;subst hx;have hb2:=hF f.bF (by simp);rintro rfl;rcases ht with ht|ht
    ·have:=hb2.1;omega
    ·exact hb2.2.2 ht
  ·rintro e w' ⟨rfl,k,o⟩
   have j_:dX w B [f.bF]:=fun x hx=>hF x (by simp at hx;subst hx;simp)
   refine⟨by rw[iV hd],⟨A,cap,?_,?_⟩,o.mono (by simp)⟩
   ·rw[vp hd];exact k
   ·rw[vp hd];exact h.2.only o j_
 ·have h1:=h.1
  rw[hd]at h1;refine (acy w h1).mono ?_;rintro e w' ⟨rfl,b1⟩;have e1:vU s=20:=by unfold vU;rw[af hd]
  have e2:yP s=s:=by unfold yP;rw[af hd]
  exact⟨by rw[e1],by rw[e2];exact RS.ext ⟨A,cap,h⟩ b1,Only.az b1⟩
theorem RS.dS (h:RS w B f s) (hs:d_ c s) (hc:c<=900) (cu cg:Int) (dir:Int) (nm:List UInt8) (mode:Int) (ie:nm.length<=1000000) :
  Calls prog 122 #[((),f.bF),.agg #[cu,cg],dir,bs nm,mode] w (fun e w'=>e=.returned (.tuple #[.int .i64 (mT s.t cu cg s.now (.dS dir nm mode)),.int .i64 (gL s.t cu cg s.now (.dS dir nm mode))])/\iQ w B f {s with t:=di s.t cu cg s.now (.dS dir nm mode)} w'):=by
 obtain⟨A,cap,h⟩:=h;refine (TG B f s.t _ cu cg dir nm mode w h.1 (hs.ok hc) (by have:=hs.dU hc;omega) ie).mono ?_;rintro e w' ⟨rfl,f2,k,o,ho⟩;exact⟨rfl,h.qT k o ho⟩
theorem RS.dH (h:RS w B f s) (hs:d_ c s) (hc:c<=900) (cu cg:Int) (dir:Int) (nm:List UInt8) (mode:Int) (data:List UInt8) (ie:nm.length<=1000000) (mP:data.length<=1000000000) :
  Calls prog 124 #[((),f.bF),.agg #[cu,cg],dir,bs nm,mode,bs data] w (fun e w'=>e=.returned (.tuple #[.int .i64 (mT s.t cu cg s.now (.dH dir nm mode data)),.int .i64 (gL s.t cu cg s.now (.dH dir nm mode data))])/\iQ w B f {s with t:=di s.t cu cg s.now (.dH dir nm mode data)} w'):=by
 obtain⟨A,cap,h⟩:=h;refine (Pr B f s.t _ cu cg dir nm mode data w h.1 (hs.ok hc) (by have:=hs.dU hc;omega) ie mP).mono ?_;rintro e w' ⟨rfl,f2,k,o,ho⟩;exact⟨rfl,h.qT k o ho⟩
theorem RS.symlink (h:RS w B f s) (hs:d_ c s) (hc:c<=900) (cu cg:Int) (dir:Int) (nm text:List UInt8) (ie:nm.length<=1000000) (mP:text.length<=1000000) :
  Calls prog 125 #[((),f.bF),.agg #[cu,cg],dir,bs nm,bs text] w (fun e w'=>e=.returned (.tuple #[.int .i64 (mT s.t cu cg s.now (.symlink dir nm text)),.int .i64 (gL s.t cu cg s.now (.symlink dir nm text))])/\iQ w B f {s with t:=di s.t cu cg s.now (.symlink dir nm text)} w'):=by
 obtain⟨A,cap,h⟩:=h;refine (TH B f s.t _ cu cg dir nm text w h.1 (hs.ok hc) (by have:=hs.dU hc;omega) ie mP).mono ?_;rintro e w' ⟨rfl,f2,k,o,ho⟩;exact⟨rfl,h.qT k o ho⟩
theorem RS.link (h:RS w B f s) (hs:d_ c s) (hc:c<=900) (cu cg:Int) (no dir:Int) (nm:List UInt8) (ie:nm.length<=1000000) :
  Calls prog 126 #[((),f.bF),.agg #[cu,cg],no,dir,bs nm] w (fun e w'=>e=.returned (.int .i64 (gL s.t cu cg s.now (.link no dir nm)))/\iQ w B f {s with t:=di s.t cu cg s.now (.link no dir nm)} w'):=by
 obtain⟨A,cap,h⟩:=h;refine (Ps B f s.t _ cu cg no dir nm w h.1 (hs.ok hc) (by have:=hs.dU hc;omega) ie).mono ?_;rintro e w' ⟨rfl,f2,k,o,ho⟩;exact⟨rfl,h.qT k o ho⟩
theorem RS.unlink (h:RS w B f s) (hs:d_ c s) (hc:c<=900) (cu cg:Int) (dir:Int) (nm:List UInt8) (ie:nm.length<=1000000) :
  Calls prog 152 #[((),f.bF),.agg #[cu,cg],dir,bs nm,.bool false] w (fun e w'=>e=.returned (.int .i64 (gL s.t cu cg s.now (.unlink dir nm)))/\iQ w B f {s with t:=di s.t cu cg s.now (.unlink dir nm)} w'):=by
 obtain⟨A,cap,h⟩:=h;refine (Fc B f s.t _ cu cg dir nm w h.1 (hs.ok hc) (by have:=hs.dU hc;omega) ie hs.Na).mono ?_;rintro e w' ⟨rfl,f2,k,o,ho⟩;exact⟨rfl,h.qT k o ho⟩
theorem RS.j8 (h:RS w B f s) (hs:d_ c s) (hc:c<=900) (cu cg:Int) (dir:Int) (nm:List UInt8) (ie:nm.length<=1000000) :
  Calls prog 152 #[((),f.bF),.agg #[cu,cg],dir,bs nm,.bool true] w (fun e w'=>e=.returned (.int .i64 (gL s.t cu cg s.now (.j8 dir nm)))/\iQ w B f {s with t:=di s.t cu cg s.now (.j8 dir nm)} w'):=by
 obtain⟨A,cap,h⟩:=h;refine (Hd B f s.t _ cu cg dir nm w h.1 (hs.ok hc) (by have:=hs.dU hc;omega) ie).mono ?_;rintro e w' ⟨rfl,f2,k,o,ho⟩;exact⟨rfl,h.qT k o ho⟩
theorem RS.ee (h:RS w B f s) (hs:d_ c s) (hc:c<=900) (cu cg:Int) (no mode:Int) :
  Calls prog 76 #[((),f.bF),.agg #[cu,cg],no,mode] w (fun e w'=>e=.returned (.int .i64 (gL s.t cu cg s.now (.ee no mode)))/\iQ w B f {s with t:=di s.t cu cg s.now (.ee no mode)} w'):=by
 obtain⟨A,cap,h⟩:=h;refine (OX B f s.t _ cu cg no mode w h.1 (by have:=hs.fN.count;have:=hs.dU hc;omega) hs.fN.bL).mono ?_;rintro e w' ⟨rfl,k,o⟩;exact⟨rfl,h.qT k o (cI.ew _ _)⟩
theorem RS.fF (h:RS w B f s) (hs:d_ c s) (hc:c<=900) (cu cg:Int) (no uid gid:Int) :
  Calls prog 75 #[((),f.bF),.agg #[cu,cg],no,uid,gid] w (fun e w'=>e=.returned (.int .i64 (gL s.t cu cg s.now (.fF no uid gid)))/\iQ w B f {s with t:=di s.t cu cg s.now (.fF no uid gid)} w'):=by
 obtain⟨A,cap,h⟩:=h;refine (Ko B f s.t _ cu cg no uid gid w h.1 (by have:=hs.fN.count;have:=hs.dU hc;omega) hs.fN.bL).mono ?_;rintro e w' ⟨rfl,k,o⟩;exact⟨rfl,h.qT k o (cI.ew _ _)⟩
theorem RS.iD (h:RS w B f s) (hs:d_ c s) (hc:c<=900) (cu cg:Int) (no mt:Int) :
  Calls prog 77 #[((),f.bF),.agg #[cu,cg],no,mt] w (fun e w'=>e=.returned (.int .i64 (gL s.t cu cg s.now (.iD no mt)))/\iQ w B f {s with t:=di s.t cu cg s.now (.iD no mt)} w'):=by
 obtain⟨A,cap,h⟩:=h;refine (OY B f s.t _ cu cg no mt w h.1 (by have:=hs.fN.count;have:=hs.dU hc;omega) hs.fN.bL).mono ?_;rintro e w' ⟨rfl,k,o⟩;exact⟨rfl,h.qT k o (cI.ew _ _)⟩
end
end
section
def mi (w0:World) (B b:Nat) (g:dL) (f:cI) (s r:aH) (w:World):Prop:=
 ∃ g' f',dL.on g' g w0/\cI.on f' f w0/\PS w B b g' s/\RS w B f' r/\Only (b::(g.list++f.list)) w0 w
theorem PS.TU {s r:aH} (h:PS w B b g s) (k:RS w B f r):∀x∈b::g.list,x∉f.list:=by
 obtain⟨A,cap,h⟩:=h;obtain⟨A2,PD,k⟩:=k;intro x hx;rcases aR.1 hx with rfl|hx
 ·exact k.1.j7 h.2.1 (by decide) (by decide) (by decide)
 ·exact eL.aaf h.1 k.1 x hx
theorem mi.start {s r:aH} (h:PS w0 B b g s) (k:RS w0 B f r):mi w0 B b g f s r w0:=⟨g,f,dL.ew _ _,cI.ew _ _,h,k,Only.refl _ _⟩
theorem mi.ext {w0 w w':World} {B b:Nat} {g:dL} {f:cI} {s r:aH} (h:mi w0 B b g f s r w) (k:Ext w w'):mi w0 B b g f s r w':=by
 obtain⟨g',f',h1,h2,h3,h4,h5⟩:=h;exact⟨g',f',h1,h2,h3.ext k,h4.ext k,h5.ext k⟩
theorem mi.only {s r:aH} (h:mi w0 B b g f s r w):Only (b::(g.list++f.list)) w0 w:=by obtain⟨_,_,_,_,_,_,h5⟩:=h;exact h5
theorem mi.has {w0 w:World} {B b x:Nat} {g:dL} {f:cI} {s r:aH} {o:Obj} (h:mi w0 B b g f s r w) (k:Has w0 x o) (hx:x∉b::(g.list++f.list)):Has w x o:=h.only.has k hx
theorem mi.prg {g1:dL} {f1:cI} {s s' r:aH} (h1:dL.on g1 g w0) (h2:cI.on f1 f w0) (hP:PS w B b g1 s) (hR:RS w B f1 r) (hO:Only (b::(g.list++f.list)) w0 w)
  (k:PS w' B b g1 s') (o:Only (b::g1.list) w w'):mi w0 B b g f s' r w':=
 ⟨g1, f1,h1,h2,k,hR.only o hP.dJ (fun x hx xK=>hP.TU hR x xK hx),hO.trans o (fun x hx=>by
  rcases aR.1 hx with rfl|hx
  ·exact .inl (bY ..)
  ·rcases h1.2 x hx with e|e
   ·exact .inl (cf _ (kj _ e))
   ·exact .inr e)⟩
theorem mi.acz {g1:dL} {f1:cI} {s r r':aH} (h1:dL.on g1 g w0) (h2:cI.on f1 f w0) (hP:PS w B b g1 s) (hR:RS w B f1 r) (hO:Only (b::(g.list++f.list)) w0 w)
  (k:iQ w B f1 r' w'):mi w0 B b g f s r' w':=by
 obtain ⟨f2,k1,o,k2⟩:=k;exact⟨g1,f2,h1,cI.pE h2 k2 hO.size,hP.only o hR.dJ (fun x hx=>hP.TU hR x hx),k1,hO.trans o (fun x hx=>by
  rcases h2.2 x hx with e|e
  ·exact .inl (cf _ (jO _ e))
  ·exact .inr e)⟩
theorem mi.ZB {s s' r:aH} {v:Value} {P:Program} {fn:FuncId} {args:Array Value} (h:mi w0 B b g f s r w)
  (c:∀g1:dL,g1.bW=g.bW->PS w B b g1 s->Calls P fn args w (fun e w'=>e=.returned v/\PS w' B b g1 s'/\Only (b::g1.list) w w')):Calls P fn args w (fun e w'=>e=.returned v/\mi w0 B b g f s' r w'):=by
 obtain⟨g1,f1,h1,h2,h3,h4,h5⟩:=h;refine (c g1 h1.1 h3).mono ?_;rintro e w' ⟨he,k1,k2⟩;exact⟨he,mi.prg h1 h2 h3 h4 h5 k1 k2⟩
theorem mi.ZC {s r r':aH} {v:Value} {P:Program} {fn:FuncId} {args:Array Value} (h:mi w0 B b g f s r w)
  (c:∀f1:cI,f1.bF=f.bF->RS w B f1 r->Calls P fn args w (fun e w'=>e=.returned v/\iQ w B f1 r' w')):Calls P fn args w (fun e w'=>e=.returned v/\mi w0 B b g f s r' w'):=by
 obtain⟨g1,f1,h1,h2,h3,h4,h5⟩:=h;refine (c f1 h2.1 h4).mono ?_;rintro e w' ⟨he,k⟩;exact⟨he,mi.acz h1 h2 h3 h4 h5 k⟩
theorem mi.fs {s r:aH} (h:mi w0 B b g f s r w):∃vN vD A cap,Has w f.bF (.cells #[vN,vD,r.t.last,r.now,r.count,.slice A r.plan.length cap,.bool r.dead] 78):=by
 obtain⟨g1,f1,_,h2,_,⟨A,cap,⟨_,cn,ce,k,_⟩,_⟩,_⟩:=h;rw[h2.1]at k;exact⟨_,_,A,cap,k⟩
theorem mi.after {w1 w0 w:World} {B b:Nat} {g:dL} {f:cI} {s r s' r':aH} (h:mi w0 B b g f s r w) (hE:Ext w1 w0) (hB:w1.heap.size<=B) (K:PS w0 B b g s') (F:RS w0 B f r'):Ext w1 w:=by
 refine h.only.after hE fun x hx=>?_
 rcases aR.1 hx with rfl|hx
 ·have:=(K.dJ x (bY ..)).1;omega
 ·rcases dn.1 hx with hx|hx
  ·have:=(K.dJ x (cf _ hx)).1;omega
  ·have:=(F.dJ x hx).1;omega
attribute [local irreducible] wpQuiet
theorem d_.go {s:aH} (h:d_ c s):d_ (c+1) (yP s):=by
 have h0:=h.last;have h1:=h.c0;have h2:=h.c1;unfold yP;split
 ·exact h.mono (by omega)
 ·exact⟨iz h.fN (by omega),h.Na,by show s.t.last<=_;omega,by show 0<=s.count+1;omega,by show s.count+1<=_;omega,h.plan⟩
theorem KY {s:aH} {cu cg:Int} {x:pZ} (h:vU s=0):{yP s with t:=di (yP s).t cu cg (yP s).now x}=ul s cu cg x/\(yP s).t=s.t/\(yP s).now=s.now/\yw s cu cg x=gL s.t cu cg s.now x/\Wi s cu cg x=mT s.t cu cg s.now x:=by
 have e:=(nc h).2;unfold ul yw Wi;rw[ac (by rw[h];decide),ac (by rw[h];decide),ac (by rw[h];decide),e];exact⟨rfl,rfl,rfl,rfl,rfl⟩
theorem KZ {s:aH} {x:pZ} (h:vU s≠0):ul s cu cg x=yP s/\yw s cu cg x=vU s/\Wi s cu cg x=0:=by
 unfold ul yw Wi;rw[af h,af h,af h];exact⟨rfl,rfl,rfl⟩
end
end Go.Proofs.YtpibnfdolojpcaaGreat
