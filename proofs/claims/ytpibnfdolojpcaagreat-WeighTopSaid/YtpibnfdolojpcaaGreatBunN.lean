import Derived.Test.YtpibnfdolojpcaaGreatBunE
import Derived.Test.YtpibnfdolojpcaaGreatBunD
import Derived.Test.YtpibnfdolojpcaaGreatBunL
import Derived.Test.YtpibnfdolojpcaaGreatBunX
import Derived.Test.YtpibnfdolojpcaaGreatBunJ
import Derived.Test.YtpibnfdolojpcaaGreatBunB
import Derived.Test.YtpibnfdolojpcaaGreatBunM
import Derived.Test.YtpibnfdolojpcaaGreatBunK
import Derived.RangeFuncNested
import Derived.RangeFuncBound
import Derived.RangeFuncCalls
import Derived.RangeFuncLeaves
import Derived.RangeFuncBox
import Derived.Maps.AppendAt
import Derived.OwnWalkIn
import Derived.TacticsInMore
import Derived.LoopNIn
import Derived.LoopIn
import Derived.Sort.LoopGhostIn
set_option maxHeartbeats 16000000
set_option maxRecDepth 100000
namespace Go.Proofs.YtpibnfdolojpcaaGreat
open Go.ChangeShapes Go.WideShapes Go.ChangeAt Go.RowKit
structure Mounts (S:TreeD):Prop where
 over0:∀h:0<S.devs.length,S.devs[0].over=0
 roots:∀k,(h:k<S.devs.length)→∃m∈S.nodes,m.no=S.devs[k].root∧m.kind=1∧m.dev=(k:Int)+1
 free:∀k,(h:k+1<S.devs.length)→∃m∈S.nodes,m.no=S.devs[k+1].over∧rootF S.devs m.dev≠S.devs[k+1].over
theorem overF_cases {S:TreeD} (m:Mounts S) {no:Int} (hn:0<no):overF S.devs no=no∨∃k,∃hk:k+1<S.devs.length,S.devs[k+1].over=no∧overF S.devs no=S.devs[k+1].root:=by
 unfold overF;rw [if_pos hn]
 cases hf:S.devs.find? (fun d=>d.over == no) with
 | none=>exact .inl rfl
 | some d =>
  right
  have hm:=List.mem_of_find?_eq_some hf;have ho:d.over=no:=by simpa using List.find?_some hf
  obtain ⟨k,hk,e⟩:=List.getElem_of_mem hm
  match k,hk,e with
  | 0,hk,e =>
   have:=m.over0 hk;rw [e]at this;omega
  | k+1,hk,e=>exact⟨k,hk,by rw[e];exact ho,by rw[e]⟩
theorem Tre.mounts {c:Nat} {S:TreeD} (h:Tre c S):Mounts S:=⟨h.over0,h.rootsIn,fun k hk=>by
 obtain ⟨m,hm,a,_,_,b⟩:=h.overs k hk;exact ⟨m,hm,a,by rw[←a];exact b⟩⟩
theorem split_rise {l:List EntD} {nm:List UInt8} (hr:Rise l) (hx:∀x∈l,x.1≠nm):lessF l nm++moreF l nm=l:=by
 induction l with
 | nil=>rfl
 | cons x l ih =>
  obtain ⟨h1,h2⟩:=rise_cons.1 hr;have hi:=ih h2 fun y hy=>hx y (List.mem_cons_of_mem _ hy)
  unfold lessF moreF at hi⊢;rcases bl_tri x.1 nm with g|g|g
  ·have g2:=bl_asymm g
   rw [List.filter_cons_of_pos (by simpa using g),List.filter_cons_of_neg (by rw[g2];decide),List.cons_append,hi]
  ·exact absurd g (hx x (List.mem_cons_self ..))
  ·have g2:=bl_asymm g
   have e1:(l.filter fun x=>bl x.1 nm)=[]:=filter_none fun y hy=>bl_asymm (bl_trans g (h1 y hy))
   have e2:(l.filter fun x=>bl nm x.1)=l:=filter_all fun y hy=>bl_trans g (h1 y hy)
   rw [List.filter_cons_of_neg (by rw[g2];decide),List.filter_cons_of_pos (by simpa using g),e1,e2];rfl
theorem drop_put {l:List EntD} {nm:List UInt8} (no:Int) (hr:Rise l) (hx:∀x∈l,x.1≠nm):dropF (putF l (nm,no)) nm=l:=by
 have e0:=split_rise hr hx;unfold dropF putF;rw [List.filter_append,List.filter_append];have e1:(lessF l nm).filter (fun x=>!(x.1 == nm))=lessF l nm:=filter_all fun x h=>by
  have:=hx x (List.mem_filter.1 h).1;simpa using this
 have e2:(moreF l nm).filter (fun x=>!(x.1 == nm))=moreF l nm:=filter_all fun x h=>by
  have:=hx x (List.mem_filter.1 h).1;simpa using this
 have e3:[((nm,no):EntD)].filter (fun x=>!(x.1 == nm))=[]:=by simp
 show (lessF l nm).filter _++_++(moreF l nm).filter _=l;rw [e1,e2,e3,List.append_nil,e0]
theorem setN_setN {ns:List NodeD} {a b:NodeD} (h:a.no=b.no):setN (setN ns a) b=setN ns b:=by
 unfold setN;rw [List.map_map];apply List.map_congr_left;intro m _;simp only[Function.comp]
 by_cases e:m.no=b.no
 ·have e1:(m.no == a.no)=true:=by rw[h];simpa using e
  have e2:(m.no == b.no)=true:=by simpa using e
  have e3:(a.no == b.no)=true:=by simpa using h
  rw [if_pos e1,if_pos e2,if_pos e3]
 ·have e1:¬(m.no == a.no)=true:=by rw[h];simpa using e
  have e2:¬(m.no == b.no)=true:=by simpa using e
  rw [if_neg e1,if_neg e2]
theorem setN_snoc {ns:List NodeD} {n b:NodeD} (h:n.no≠b.no):setN (ns++[n]) b=setN ns b++[n]:=by
 unfold setN;rw [List.map_append,List.map_cons,List.map_nil,if_neg (by simpa using h)]
theorem dropN_snoc {ns : List NodeD} {n : NodeD} {last : Int} (hu : NosUp ns last) (h:last<n.no):dropN (ns++[n]) n.no=ns:=by
  unfold dropN
  rw [List.filter_append, List.filter_eq_self.2 (fun m hm => by have:=(hu.2 m hm).2;have:m.no≠n.no:=by omega
                                                                simpa using this)]
  simp
theorem dev_setQ {ds:List DevD} {d:Int} (q:SpaceD) (hd:hasD ds d=true):(devN (setQ ds d q) d).q=q:=by
 unfold hasD at hd;rw [Bool.and_eq_true,decide_eq_true_eq,decide_eq_true_eq]at hd;have hk:(d-1).toNat<ds.length:=by omega
 unfold devN setQ;rw [List.getD_eq_getElem?_getD,List.getElem?_modify,List.getElem?_eq_getElem hk];simp
theorem take_back {q:SpaceD} {b:Int} (h:takeE q b 1=0):takeQ (takeQ q b 1) (-b) (-1)=q:=by
 unfold takeQ;rw [if_pos h];have h2 : takeE (moreQ q b 1) (-b) (-1)=0:=by
  unfold takeE at h⊢;split at h
  ·rename_i h1
   obtain ⟨h1,h3⟩:=h1;rw [fineF_iff]at h1;split at h
   ·cases h
   ·split at h
    ·cases h
    ·split at h
     ·cases h
     ·have f2:fineF (moreQ q b 1)=true:=by
       rw [fineF_iff];unfold Fine moreQ at *;simp only;omega
      unfold inR at h3;unfold Fine at h1;rw [if_pos ⟨f2,by unfold inR;omega⟩];unfold moreQ;simp only;rw [if_neg (by omega),if_neg (by omega),if_neg (by omega)]
  ·cases h
 rw [if_pos h2];unfold moreQ;simp only
 cases q
 simp only[SpaceD.mk.injEq,and_true]
 constructor<;>omega
theorem over_new {c:Nat} {S:TreeD} (h:Tre c S) {ds:List DevD} (hds:ds.map (·.over)=S.devs.map (·.over)):overF ds (S.last+1)=S.last+1:=by
 unfold overF;split
 ·rename_i h1
  have : ds.find? (fun d=>d.over == S.last+1)=none:=by
   rw [List.find?_eq_none];intro d hd he;have hm:d.over∈S.devs.map (·.over):=by rw[←hds];exact List.mem_map_of_mem hd
   rw [List.mem_map]at hm;obtain ⟨d',hd',e'⟩:=hm;have he':d'.over=S.last+1:=by rw[e'];simpa using he
   obtain ⟨k,hk,rfl⟩:=List.getElem_of_mem hd';have hl:=h.last
   cases k with
   | zero=>rw[h.over0 hk]at he';omega
   | succ k =>
    obtain ⟨m,hm,e,_⟩:=h.overs k hk;have:=(h.nos.2 m hm).2;omega
  rw [this]
 ·rfl
theorem overs_setQ (ds:List DevD) (d:Int) (q:SpaceD):(setQ ds d q).map (·.over)=ds.map (·.over):=by
 unfold setQ;apply List.ext_getElem?;intro i;rw [List.getElem?_map,List.getElem?_map,List.getElem?_modify]
 cases ds[i]? with
 | none=>rfl
 | some x =>
  show some _=some _;split<;>rfl
theorem back {c:Nat} {S:TreeD} (h:Tre c S) {cu cg dir:Int} {nm:List UInt8} {n:NodeD} (h0:comeE S cu cg 3 dir nm n=0) (he:n.ents=[]) :
  leaveE (comeT S cu cg 3 dir nm n) cu cg dir nm=0∧(leaveN (comeT S cu cg 3 dir nm n) cu cg dir nm).kind=n.kind∧(leaveN (comeT S cu cg 3 dir nm n) cu cg dir nm).ents=[] ∧
  (goneT (comeT S cu cg 3 dir nm n) 4 (leaveD (comeT S cu cg 3 dir nm n) cu cg dir nm) (leaveN (comeT S cu cg 3 dir nm n) cu cg dir nm) nm).nodes=setN S.nodes {getN S.nodes dir with mtime:=4,ctime:=4} ∧
  useF (goneT (comeT S cu cg 3 dir nm n) 4 (leaveD (comeT S cu cg 3 dir nm n) cu cg dir nm) (leaveN (comeT S cu cg 3 dir nm n) cu cg dir nm) nm).devs (getN S.nodes dir).dev=useF S.devs (getN S.nodes dir).dev:=by
 obtain ⟨hp,hf,hmk⟩:=comeE_zero h0;obtain ⟨hi,hkd,hc⟩:=placeE_zero hp;obtain ⟨_,hno,hmem⟩:=isN_true hi;have hon:=(h.on _ hmem).1;have hlt:=(h.nos.2 _ hmem).2;rw [hno]at hlt;have hx:=putF_find (fun x hx=>(h.pos _ hmem x hx).1) hf;obtain ⟨N,hN⟩:∃N:NodeD,N={newN S cu cg 3 dir n with no:=S.last+1}:=⟨_,rfl⟩;obtain ⟨b,hb⟩:∃b,b=blocksF n.kind n.data.length:=⟨_,rfl⟩;obtain ⟨d,hd⟩:∃d,d=(getN S.nodes dir).dev:=⟨_,rfl⟩;obtain ⟨D1,hD1⟩:∃D1:NodeD,D1={getN S.nodes dir with ents:=putF (getN S.nodes dir).ents (nm,S.last+1),mtime:=3,ctime:=3}:=⟨_,rfl⟩;obtain ⟨D2,hD2⟩:∃D2:NodeD,D2={getN S.nodes dir with mtime:=4,ctime:=4}:=⟨_,rfl⟩;have hNno:N.no=S.last+1:=by rw[hN]
 have hD1no:D1.no=dir:=by rw[hD1];exact hno
 have hD2no:D2.no=dir:=by rw[hD2];exact hno
 have hte:takeE (devN S.devs d).q b 1=0:=by
  unfold makeE at hmk;split at hmk
  ·cases hmk
  ·rw[hd,hb];exact hmk
 have hM:makeT S (newN S cu cg 3 dir n)=⟨S.nodes++[N],setQ S.devs d (takeQ (devN S.devs d).q b 1),S.last+1⟩:=by
  unfold makeT;rw [if_pos hmk,hN,hd,hb];rfl
 have hT:comeT S cu cg 3 dir nm n=⟨setN S.nodes D1++[N],setQ S.devs d (takeQ (devN S.devs d).q b 1),S.last+1⟩:=by
  unfold comeT;rw [if_pos h0];have e1:=(getN_make h.nos (newN S cu cg 3 dir n) hi).1;unfold touchT touchN;rw [e1,hM];unfold setT;rw [←hD1,setN_snoc (by rw[hNno,hD1no];omega)]
 rw [hT];obtain ⟨T1,hT1⟩:∃T1:TreeD,T1=⟨setN S.nodes D1++[N],setQ S.devs d (takeQ (devN S.devs d).q b 1),S.last+1⟩:=⟨_,rfl⟩;rw [←hT1];have hu1:NosUp T1.nodes T1.last:=by rw[hT1];exact (h.nos.set D1).add N hNno (by have:=h.last;omega)
 have gN:getN T1.nodes (S.last+1)=N∧isN T1.nodes (S.last+1)=true:=by
  have:=mem_getN hu1 (n:=N) (by rw[hT1];exact List.mem_append_right _ (List.mem_singleton.2 rfl));rw [hNno]at this;exact this
 have gD:getN T1.nodes dir=D1∧isN T1.nodes dir=true:=by
  have hm:=set_has (n:=D1) hmem;rw [if_pos (by rw[hno,hD1no])]at hm;have:=mem_getN hu1 (n:=D1) (by rw[hT1];exact List.mem_append_left _ hm);rw [hD1no]at this;exact this
 have hfd:findF D1.ents nm=S.last+1:=by rw[hD1];exact findF_put _ _ _
 have hpl:placeE T1 cu cg dir nm=0:=by
  have e:placeE T1 cu cg dir nm=placeE S cu cg dir nm:=by
   unfold placeE;rw [gD.2,gD.1,hi,hD1]
  rw [e];exact hp
 have hov:overF T1.devs (S.last+1)=S.last+1:=over_new h (by rw[hT1];exact overs_setQ _ _ _);have hNu:N.uid=cu:=by rw[hN];rfl
 have hlv:leaveE T1 cu cg dir nm=0:=by
  unfold leaveE;rw [hpl,gD.1,hfd,gN.2,hov,gN.1,hNu];have:freeB cu D1.mode D1.uid cu=true:=by
   unfold freeB ownsB;simp
  rw [this];simp
 have eN:leaveN T1 cu cg dir nm=N:=by unfold leaveN;rw[if_pos hlv,gD.1,hfd,gN.1]
 have eD:leaveD T1 cu cg dir nm=D1:=by unfold leaveD;rw[if_pos hlv,gD.1]
 rw [eN,eD];refine ⟨hlv,by rw[hN];rfl,by rw[hN];exact he,?_⟩;have hto:touchT T1 D1.no 4 (dropF D1.ents nm)=⟨setN S.nodes D2++[N],setQ S.devs d (takeQ (devN S.devs d).q b 1),S.last+1⟩:=by
  rw [hD1no];unfold touchT touchN;rw [gD.1];have e:dropF D1.ents nm=(getN S.nodes dir).ents:=by rw[hD1];exact drop_put _ (h.rise _ hmem) hx
  rw [e];have e2:({D1 with ents:=(getN S.nodes dir).ents,mtime:=4,ctime:=4}:NodeD)=D2:=by rw[hD1,hD2]
  rw [e2,hT1];unfold setT;rw [setN_snoc (by rw[hNno,hD2no];omega),setN_setN (by rw[hD1no,hD2no])]
 obtain ⟨T2,hT2⟩:∃T2:TreeD,T2=⟨setN S.nodes D2++[N],setQ S.devs d (takeQ (devN S.devs d).q b 1),S.last+1⟩:=⟨_,rfl⟩;have hu2:NosUp T2.nodes T2.last:=by rw[hT2];exact (h.nos.set D2).add N hNno (by have:=h.last;omega)
 have gN2:getN T2.nodes (S.last+1)=N∧isN T2.nodes (S.last+1)=true:=by
  have:=mem_getN hu2 (n:=N) (by rw[hT2];exact List.mem_append_right _ (List.mem_singleton.2 rfl));rw [hNno]at this;exact this
 have hNd:N.dev=d:=by rw[hN,hd];rfl
 have hrt:rootF T2.devs N.dev≠S.last+1:=by
  rw [hT2,hNd];show rootF (setQ S.devs d _) d≠_;rw [rootQ];have : rootF S.devs d≤S.last:=by
   rcases rootF_zero h.roots d with⟨e1,_⟩|⟨k,hk,_,_,_,e4,_⟩
   ·rw[e1];have:=h.last;omega
   ·rw [e4]
    obtain ⟨m,hm,e,_⟩:=h.rootsIn k hk;rw [←e];exact (h.nos.2 m hm).2
  omega
 have hkb:killB T2 (S.last+1)=true:=by
  unfold killB;rw [gN2.2,gN2.1];simpa using hrt
 have hle:goneT T1 4 D1 N nm=killT T2 (S.last+1):=by
  unfold goneT;rw [hto,←hT2];unfold lessT;have hl1:N.links=1:=by rw[hN];rfl
  rw [if_pos (by omega)];have:=kill_set hu2 (n:=lessN 4 N) (by show killB T2 N.no=true;rw[hNno];exact hkb) (by show isN T2.nodes N.no=true;rw[hNno];exact gN2.2) (by show N.dev=(getN T2.nodes N.no).dev;rw[hNno,gN2.1]) (by show N.kind=(getN T2.nodes N.no).kind;rw[hNno,gN2.1]) (by show N.data=(getN T2.nodes N.no).data;rw[hNno,gN2.1]);have e2:(lessN 4 N).no=S.last+1:=hNno;rw [e2]at this;rw [hNno];exact this
 rw [hle];unfold killT;rw [if_pos hkb];refine ⟨?_,?_⟩
 ·have:=dropN_snoc (n:=N) (h.nos.set D2) (by rw[hNno];omega)
  rw [hNno]at this;show dropN T2.nodes (S.last+1)=_;rw [hT2,←hD2];exact this
 ·show useF (killQ T2 (getN T2.nodes (S.last+1))) (getN S.nodes dir).dev=_
  rw [gN2.1,←hd];unfold killQ useF;have hh:∀q,hasD (setQ T2.devs N.dev q) d=true:=fun q=>by
   rw [hasD_len (setQ_len _ _ _),hT2,hasD_len (setQ_len _ _ _),hd];exact hon
  rw [←hd]at hon;rw [if_pos (hh _),if_pos hon,hNd];have hh2:hasD T2.devs d=true:=by rw[hT2,hasD_len (setQ_len _ _ _)];exact hon
  rw [dev_setQ _ hh2];have e5:(devN T2.devs d).q=takeQ (devN S.devs d).q b 1:=by rw[hT2];exact dev_setQ _ hon
  have e6:blocksF N.kind N.data.length=b:=by rw[hN,hb];rfl
  rw [e5,e6];exact take_back hte
def ListUp (S:TreeD):Prop:=∀m∈S.nodes,∀x∈m.ents,∀q∈S.nodes,q.no=x.2→q.kind=1→q.up=m.no
structure SpotD where
 dir:Int
 name:List UInt8
 no:Int
 depth:Int
def spotZ:SpotD:=⟨0,[],0,0⟩
def intoE (S:TreeD) (cu cg:Int) (x:SpotD):Int:=
 if isN S.nodes x.no=false then 5 else if isN S.nodes x.dir=false then 5
 else if (getN S.nodes x.no).dev≠(getN S.nodes x.dir).dev then 16
 else if (getN S.nodes x.no).kind≠1 then 0 else openE S cu cg x.no 1 4
def spotOf (x:SpotD) (y:EntD):SpotD:=⟨x.no,y.1,y.2,x.depth+1⟩
def intoL (S:TreeD) (cu cg:Int) (x:SpotD):List SpotD:=
 if intoE S cu cg x=0∧(getN S.nodes x.no).kind=1 then (listF S (getN S.nodes x.no).ents).map (spotOf x) else []
inductive DownR (S:TreeD) (cu cg:Int):List SpotD→List SpotD→SpotD→Int→Prop
 | nil:DownR S cu cg [] [] spotZ 0
 | bad {x:SpotD} {t:List SpotD}:intoE S cu cg x≠0→DownR S cu cg (x::t) [] x (intoE S cu cg x)
 | step {x:SpotD} {t l:List SpotD} {b:SpotD} {e:Int}:intoE S cu cg x=0→DownR S cu cg (intoL S cu cg x++t) l b e→DownR S cu cg (x::t) (x::l) b e
theorem DownR.det {S:TreeD} {cu cg:Int} {t l l':List SpotD} {b b':SpotD} {e e':Int} (h:DownR S cu cg t l b e) (k:DownR S cu cg t l' b' e'):l=l'∧b=b'∧e=e':=by
 induction h generalizing l' b' e' with
 | nil=>cases k;exact⟨rfl,rfl,rfl⟩
 | bad h=>cases k with
  | bad _=>exact⟨rfl,rfl,rfl⟩
  | step h2 _=>exact absurd h2 h
 | step h _ ih=>cases k with
  | bad h2=>exact absurd h h2
  | step _ k2=>obtain⟨rfl,rfl,rfl⟩:=ih k2;exact⟨rfl,rfl,rfl⟩
theorem DownR.err {S:TreeD} {cu cg:Int} {t l:List SpotD} {b:SpotD} {e:Int} (h:DownR S cu cg t l b e):e=0→b=spotZ:=by
 induction h with
 | nil=>intro _;rfl
 | bad h=>intro k;exact absurd k h
 | step _ _ ih=>exact ih
theorem list_above {c:Nat} {S:TreeD} (h:Tre c S) (hl:ListUp S) {m:NodeD} (hm:m∈S.nodes) {x:EntD} (hx:x∈m.ents) (hk:(getN S.nodes (overF S.devs x.2)).kind=1) :
  aboveF S (overF S.devs x.2)=m.no∧overF S.devs x.2≠m.no:=by
 obtain ⟨k1,k2,k3⟩:=h.kin m hm x hx;have hp:=h.pos m hm x hx;rcases overF_cases h.mounts (show 0<x.2 by omega) with e|⟨k,hk2,e1,e2⟩
 ·rw [e]at hk⊢
  obtain ⟨i1,i2,i3⟩:=getN_node hk;refine ⟨?_,k1⟩;unfold aboveF;rw [if_pos hk,if_neg]
  ·exact hl m hm x hx _ i3 i2 hk
  ·rintro ⟨r,_⟩
   rcases rootF_zero h.roots (getN S.nodes x.2).dev with⟨e1,_⟩|⟨j,hj,_,_,_,e4,_⟩
   ·rw[e1]at r;omega
   ·exact k2 _ (List.getElem_mem hj) (by rw[←e4,r])
 ·rw [e2]at hk⊢
  obtain ⟨q,hq,q1,q2,q3,q4⟩:=h.overs k hk2;obtain ⟨y,hy,y1,y2,y3⟩:=h.rootsIn (k+1) hk2;have gq:=(mem_getN h.nos hq).1;have gy:=(mem_getN h.nos hy).1;rw [q1]at gq;rw [y1]at gy;have hup:=hl m hm x hx q hq (by rw[q1,e1]) q2;have hrf:rootF S.devs y.dev=S.devs[k+1].root∧(devN S.devs y.dev).over=S.devs[k+1].over:=by
   rcases rootF_zero h.roots y.dev with⟨_,e2⟩|⟨j,hj,e1,e2,e3,e4,_⟩
   ·have:=(h.on y hy).1;rw[e2]at this;cases this
   ·have hjk:j=k+1:=by omega
    subst hjk;exact ⟨e4,by rw[e3]⟩
  refine ⟨?_,?_⟩
  ·unfold aboveF
   rw [gy,if_pos y2,if_pos ⟨hrf.1,by rw[y3];omega⟩,hrf.2,gq];exact hup
  ·intro e
   have hyd:y=m:=node_eq h.nos hy hm (by rw[y1,e]);have hd:=k3 q hq (by rw[q1,e1]);rw [←hyd,y3]at hd;omega
def wtN (S:TreeD) (r:Int→Nat) (c:Nat) (no:Int):Nat:=if (getN S.nodes no).kind=1 then (c+2) ^ (S.nodes.length+1-r no) else 1
def wtL (S:TreeD) (r:Int→Nat) (c:Nat) (l:List SpotD):Nat:=(l.map fun x=>wtN S r c x.no).sum
theorem wt_pos (S:TreeD) (r:Int→Nat) (c:Nat) (no:Int):0<wtN S r c no:=by
 unfold wtN;split
 ·exact Nat.pow_pos (by omega)
 ·decide
theorem sum_le {α:Type} (f:α→Nat) (b:Nat) (l:List α) (h:∀x∈l,f x≤b):(l.map f).sum≤l.length*b:=by
 induction l with
 | nil=>simp
 | cons x l ih =>
  have h1:=ih fun y hy=>h y (List.mem_cons_of_mem _ hy)
  have h2:=h x (List.mem_cons_self ..);rw [List.map_cons,List.sum_cons,List.length_cons,Nat.add_mul];omega
theorem wt_into {c:Nat} {S:TreeD} (h:Tre c S) (hl:ListUp S) {r:Int→Nat} (hr:Rank S r) (cu cg:Int) (x:SpotD):wtL S r c (intoL S cu cg x)<wtN S r c x.no:=by
 unfold intoL;split
 ·rename_i hx
  obtain ⟨_,hk⟩:=hx;obtain ⟨i1,i2,i3⟩:=getN_node hk;have hrx:=hr.top x.no;have hs:=h.small _ i3;unfold wtL;rw [List.map_map];have hle:∀y∈listF S (getN S.nodes x.no).ents,((fun x=>wtN S r c x.no)∘spotOf x) y≤(c+2) ^ (S.nodes.length-r x.no):=by
   intro y hy;unfold listF at hy;rw [List.mem_map]at hy;obtain ⟨z,hz,rfl⟩:=hy;show wtN S r c (overF S.devs z.2)≤_;unfold wtN;split
   ·rename_i hk2
    obtain ⟨a1,a2⟩:=list_above h hl i3 hz hk2;rw [i2]at a1 a2;have hx1:=(h.nos.2 _ i3).1;rw [i2]at hx1;have h0:overF S.devs z.2≠0:=by
     intro e;rw[e]at hk2;have:=(getN_node hk2).1;rw [h.nos.zero (.inl (by decide))]at this;cases this
    have:=hr.step (overF S.devs z.2) h0 (by rw[a1];omega) (by rw[a1];exact Ne.symm a2);rw [a1]at this;exact Nat.pow_le_pow_right (by omega) (by omega)
   ·exact Nat.pow_pos (by omega)
  have h1:=sum_le _ _ _ hle;rw [listF_len]at h1;have h2:wtN S r c x.no=(c+2) ^ (S.nodes.length-r x.no)*(c+2):=by
   unfold wtN;rw [if_pos hk,show S.nodes.length+1-r x.no=(S.nodes.length-r x.no)+1 by omega,Nat.pow_succ]
  rw [h2];have h3:0<(c+2) ^ (S.nodes.length-r x.no):=Nat.pow_pos (by omega)
  generalize (c+2) ^ (S.nodes.length-r x.no)=P at *
  have h4:(getN S.nodes x.no).ents.length*P≤c*P:=Nat.mul_le_mul_right P hs;have h5:P*(c+2)=c*P+2*P:=by rw[Nat.mul_add,Nat.mul_comm P c,Nat.mul_comm P 2]
  refine Nat.lt_of_le_of_lt h1 ?_;omega
 ·exact wt_pos S r c x.no
theorem down_ends {c:Nat} {S:TreeD} (h:Tre c S) (hl:ListUp S) (cu cg:Int) (t:List SpotD):∃l b e,DownR S cu cg t l b e:=by
 obtain ⟨r,hr⟩:=h.rank;have key : ∀n t,wtL S r c t≤n→∃l b e,DownR S cu cg t l b e:=by
  intro n
  induction n with
  | zero =>
   intro t ht
   cases t with
   | nil=>exact⟨_,_,_,.nil⟩
   | cons x t =>
    have:=wt_pos S r c x.no;unfold wtL at ht;rw [List.map_cons,List.sum_cons]at ht;omega
  | succ n ih =>
   intro t ht
   cases t with
   | nil=>exact⟨_,_,_,.nil⟩
   | cons x t =>
    by_cases he:intoE S cu cg x=0
    ·have hw:=wt_into h hl hr cu cg x
     obtain ⟨l,b,e,hd⟩:=ih (intoL S cu cg x++t) (by
      unfold wtL at ht hw⊢;rw [List.map_cons,List.sum_cons]at ht;rw [List.map_append,List.sum_append];omega)
     exact ⟨_,_,_,.step he hd⟩
    ·exact⟨_,_,_,.bad he⟩
 exact key _ t (Nat.le_refl _)
open Go Go.RowKit
def NonC (B:Nat) (R:List Nat) (W:World):Prop:=∀r∈R,B≤r∧∃o:Obj,W.heap[r]?=some o∧o.isCells=false
def OwnB (W:World) (x:Nat):Prop:=∃t,HasTag W x t∧t≠153∧t≠216
theorem OwnB.lt {W:World} {x:Nat} (h:OwnB W x):x<W.heap.size:=by obtain⟨t,⟨c,f,h⟩,_⟩:=h;exact (Array.getElem?_eq_some_iff.1 h).1
theorem OwnB.keep {W W':World} {x:Nat} (h:OwnB W x) (e:W'.heap[x]?=W.heap[x]?):OwnB W' x:=by obtain⟨t,⟨c,f,h⟩,h2⟩:=h;exact⟨t,⟨c,f,e.trans h⟩,h2⟩
theorem OwnB.only {W W':World} {x:Nat} {L:List Nat} (h:OwnB W x) (o:Only L W W') (hL:∀y∈L,OwnB W' y):OwnB W' x:=by
 by_cases hx:x∈L
 ·exact hL x hx
 ·exact h.keep (o.block x h.lt hx)
theorem OwnB.ext {W W':World} {x:Nat} (h:OwnB W x) (o:Ext W W'):OwnB W' x:=h.keep (Below.block o x h.lt)
theorem OwnB.of {W:World} {x:Nat} {cs:Array Value} {t:TypeId} {fr:Nat×Nat} (h:W.heap[x]?=some (.cells cs t fr)) (h1:t≠153) (h2:t≠216):OwnB W x:=⟨t,⟨cs,fr,h⟩,h1,h2⟩
def Bears {α:Type} (B:Nat) (I:List Nat→List α→World→Prop):Prop:=
 ∀ O pre W O' R W',I O pre W→Only (O++R) W W'→NonC B R W→(∀x∈O',x∈O∨W.heap.size≤x)→(∀x∈O',OwnB W' x)→I O' pre W'
def BearsX {α:Type} (B:Nat) (I:List α→World→Prop):Prop:=∀pre W R W',I pre W→Only R W W'→NonC B R W→I pre W'
def KeepO (O:List Nat) (W W':World):Prop:=∀b∈O,W'.heap[b]?=W.heap[b]?
theorem KeepO.trans {O:List Nat} {A B C:World} (h:KeepO O A B) (k:KeepO O B C):KeepO O A C:=fun b hb=>(k b hb).trans (h b hb)
theorem Only.keepO {L O:List Nat} {W W':World} (o:Only L W W') (h1:∀b∈O,b<W.heap.size) (h2:∀b∈O,b∉L):KeepO O W W':=fun b hb=>o.block b (h1 b hb) (h2 b hb)
theorem Only.putObj (W:World) (l:Nat) (o:Obj):Only [l] W (W.putObj l o):=
 ⟨rfl,rfl,rfl,by simp,fun k _ hk=>World.putObj_heap_other (fun e=>hk (by simp[e]))⟩
theorem Only.allocN (L:List Nat) (W:World) (o:Obj):Only L W (W.alloc o):=Only.of_ext ((Ext.refl W).alloc o)
theorem Only.keepsFrom {L:List Nat} {B:Nat} {W W':World} (o:Only L W W') (h:∀b∈L,b<B∨∃x:Obj,W.heap[b]?=some x∧x.isCells=true):KeepsFrom B W W':=
 ⟨o.size,fun k x hB hk hx=>by
  refine (o.block k (Array.getElem?_eq_some_iff.1 hk).1 fun hm=>?_).trans hk;rcases h k hm with e|⟨y,hy,hc⟩
  ·omega
  ·rw[hk]at hy;cases hy;rw[hx]at hc;cases hc⟩
section
variable {F:Fence} {n:Nat} {P:Program}
def SeqO {α:Type} (F:Fence) (n:Nat) (P:Program) (g:Nat) (lb:Array Value) (encs:α→Array Value) (S Sp:List α→Prop) (G:List α→α→Prop) (Ex:List α→World→Prop) (w0:World):Prop:=
 ∀ (l : Nat) (J:List Nat→List α→World→Prop) (Jx:List α→World→Prop) (W:World),w0.heap.size≤W.heap.size →
  (∀O pre V,J O pre V→Ex pre V∧W.heap.size≤V.heap.size∧∀b∈O,W.heap.size≤b∧OwnB V b) →
  (∀O pre V O' V',J O pre V→Only O V V'→(∀x∈O',x∈O∨V.heap.size≤x)→(∀x∈O',OwnB V' x)→J O' pre V') →
  (∀pre V V',Jx pre V→Ext V V'→Jx pre V') →
  (∀ O pre x V,J O pre V→G pre x→YieldAt F (n-1) P l (encs x) V fun e V' =>
   (e=.returned (.bool true)∧J O (pre++[x]) V'∧KeepO O V V')∨(e=.returned (.bool false)∧Jx (pre++[x]) V')) →
  J [] [] W →
  CallsIn F n P g (#[.func (.yield l) #[] #[]]++lb) W fun e W'=>(∃v,e=.returned v)∧((∃O xs,S xs∧J O xs W')∨(∃pre,Sp pre∧Jx pre W'))
def postO {α:Type} (B:Nat) (I:List Nat→List α→World→Prop) (Ix:Code→List α→World→Prop) (O:List Nat) (xs:List α) (W:World):Exit→Act→World→Prop
 | .normal,_,W'=>KeepsFrom B W W'∧KeepO O W W'∧I O xs W'
 | .ret,_,W'=>KeepsFrom B W W'∧Ix .ret xs W'
 | .exit id,_,W'=>KeepsFrom B W W'∧Ix (.exit id) xs W'
 | .goto t,_,W'=>KeepsFrom B W W'∧Ix (.goto t) xs W'
 | .panic _,_,_=>False
 | .outgrown,_,_=>False
theorem wpIn_range_o {α:Type} {g:Operand} {ps:Array Tmp} {assign body:Code} {Q:Exit→Act→World→Prop} {a:Act} {w:World}
  (hro:F.round=none) (h1:1≤n) {gf:Nat} {lb:Array Value} (hg:a.eval g=.func (.func gf) #[] lb) (hFg:F.fn gf) (eg:∀args w,(callFunc gf args).run P w=.ok (.enter gf args) w)
  {encs:α→Array Value} {S Sp:List α→Prop} {G:List α→α→Prop} {Ex:List α→World→Prop} {w0:World} (hseq:SeqO F (n-1) P gf lb encs S Sp G Ex w0) (hb0:w0.heap.size≤w.heap.size) (hps:∀x,(encs x).size=ps.size)
  (I:List Nat→List α→World→Prop) (Ix:Code→List α→World→Prop) (hI:Bears w.heap.size I) (hIx:∀c,BearsX w.heap.size (Ix c)) (hEx:∀O pre V,I O pre V→Ex pre V) (h0:I [] [] w)
  (Ax:α→Act→World→Prop) (hAx:∀x a' V l o o',Ax x a' V→w.heap.size≤l→V.heap[l]?=some o→o.isCells=false→Ax x a' (V.putObj l o'))
  (hassign:∀(l:Nat) (O:List Nat) (pre:List α) (x:α) (V:World) (K:Act→World→Prop),I O pre V→G pre x→(∀b∈O,OwnB V b)→(∀a' V',KeepsFrom w.heap.size V V'→KeepO O V V'→I O pre V'→Ax x a' V'→K a' V') →
   assign.wpIn (F.inRound l) (n-1-1) P (Exit.then K (fun _ _ _=>False)) {tmps:=(ps.zip (encs x)).foldl (fun t (p,v)=>t.setIfInBounds p v) a.tmps,defers:=[]} V)
  (hbody:∀(l:Nat) (O:List Nat) (pre:List α) (x:α) (a':Act) (V:World),I O pre V→Ax x a' V→G pre x→(∀b∈O,OwnB V b)→body.wpIn (F.inRound l) (n-1-1) P (postO w.heap.size I Ix O (pre++[x]) V) a' V)
  (hdone:∀(D:Nat) (O:List Nat) (xs:List α) (V:World),w.heap.size≤D→S xs→I O xs V→V.heap[D]?=some (.deferred (some []))→Q .normal {a with defers:={target:=.collected D,args:=#[]}::a.defers} V)
  (hstop:∀(D:Nat) (c:Code) (pre:List α) (V:World),w.heap.size≤D→Sp pre→Ix c pre V→V.heap[D]?=some (.deferred (some []))→c.wpIn F n P Q {a with defers:={target:=.collected D,args:=#[]}::a.defers} V) :
  (Code.rangeFunc g ps assign body).wpIn F n P Q a w:=by
 refine wpIn_rangeFunc (fun fn hfn=>?_);rw [hro];obtain ⟨D,hD⟩:∃D,D=w.heap.size:=⟨_,rfl⟩;obtain ⟨R,hR⟩:∃R:LoopState→Option Code→Loop,R=fun st pe=>{state:=st,pending:=pe,fn,tmps:=a.tmps,params:=ps,assign,body,defers:=w.heap.size}:=⟨_,rfl⟩
 obtain ⟨V,hV⟩:∃V,(w.alloc (.deferred (some []))).alloc (.loop (R .ready none))=V:=⟨_,rfl⟩;have vl:V.heap[D+1]?=some (.loop (R .ready none)):=by
  rw [←hV,hD];have:=World.alloc_heap_new (w.alloc (.deferred (some []))) (.loop (R .ready none))
  rwa [World.size_alloc]at this
 have vd:V.heap[D]?=some (.deferred (some [])):=by
  rw [←hV,hD];exact (Below.heap_alloc _ _ _ (by simp)).trans (World.alloc_heap_new w _)
 have vI:I [] [] V:=by
  rw [←hV];exact hI [] [] w [] [] _ h0 ((Only.allocN _ _ _).then (Only.allocN _ _ _)) (fun r hr=>by cases hr) (fun x hx=>by cases hx) (fun x hx=>by cases hx)
 have vs:V.heap.size=D+2:=by rw[←hV,hD];simp
 refine ⟨D+1,[{target:=.collected D,args:=#[]}],V,{target:=.fn (.func gf) lb,args:=#[.func (.yield (D+1)) #[] #[]]},V,gf,#[.func (.yield (D+1)) #[] #[]]++lb,V,?_,?_,?_,?_,fun _=>h1,?_⟩
 ·rw[←hV,hR,hD];exact run_enterLoop_outer _ _ _ _ _
 ·simp only[resolve,hg]
  simp [go_sem]
 ·intro f' hf';simp[Target.leads]at hf';subst hf';exact hFg
 ·simp[invoke,go_sem,eg]
 ·refine (hseq (D+1)
   (fun O pre W=>I O pre W∧W.heap[D+1]?=some (.loop (R .ready none))∧W.heap[D]?=some (.deferred (some []))∧V.heap.size≤W.heap.size∧∀b∈O,V.heap.size≤b∧OwnB W b)
   (fun pre W=>∃c,Ix c pre W∧W.heap[D+1]?=some (.loop (R .done (some c)))∧W.heap[D]?=some (.deferred (some []))) V (by omega)
   (fun O pre W h=>⟨hEx O pre W h.1,h.2.2.2.1,h.2.2.2.2⟩)
   (fun O pre X O' Y h o hO hO'=>by
    obtain ⟨h1,h2,h3,h4,h5⟩:=h;have nD:∀k,k<V.heap.size→k∉O:=fun k hk hm=>by have:=(h5 k hm).1;omega
    refine ⟨hI O pre X O' [] Y h1 (by rw[List.append_nil];exact o) (fun r hr=>by cases hr) hO hO',?_,?_,Nat.le_trans h4 o.size,fun b hb=>⟨?_,hO' b hb⟩⟩
    ·exact (o.block _ (by omega) (nD _ (by omega))).trans h2
    ·exact (o.block _ (by omega) (nD _ (by omega))).trans h3
    ·rcases hO b hb with e|e
     ·exact (h5 b e).1
     ·omega)
   (fun pre X Y ⟨c,hc,hl,hk⟩ e=>⟨c,hIx c pre X [] Y hc (Only.of_ext e) (fun r hr=>by cases hr),(Below.block e _ (Array.getElem?_eq_some_iff.1 hl).1).trans hl,(Below.block e _ (Array.getElem?_eq_some_iff.1 hk).1).trans hk⟩)
   ?_ ⟨vI,vl,vd,Nat.le_refl _,fun b hb=>by cases hb⟩).mono ?_
  ·rintro O pre x W ⟨hi,hl,hk,hs,hO⟩ hG
   have hlt:D+1<W.heap.size:=(Array.getElem?_eq_some_iff.1 hl).1;have hy:=run_yield (P:=P) (args:=encs x) hl (by rw[hR];exact hps x);rw [hR]at hy;refine ⟨fn,_,assign,body,hy,roundIn_of_wpIn hfn (hassign _ O pre x W _ hi hG (fun b hb=>(hO b hb).2) ?_)⟩;clear hy;intro a' Wa hkfa hkpa hia hax;have hla:=hkfa.same _ _ (by omega) hl rfl;have hka:=hkfa.same _ _ (by omega) hk rfl;have hlta:D+1<Wa.heap.size:=(Array.getElem?_eq_some_iff.1 hla).1;have hOa:∀b∈O,OwnB Wa b:=fun b hb=>(hO b hb).2.keep (hkpa b hb)
   refine ⟨_,run_beginRound hla (by rw[hR]),?_⟩;obtain ⟨W2,hW2⟩:∃W2,W2=Wa.putObj (D+1) (.loop {R .ready none with state:=.busy}):=⟨_,rfl⟩;have hl2:W2.heap[D+1]?=some (.loop {R .ready none with state:=.busy}):=by rw[hW2];exact World.putObj_heap_same hlta
   have hk2:W2.heap[D]?=some (.deferred (some [])):=by rw[hW2];exact (World.putObj_heap_other (by omega)).trans hka
   have hs2:W2.heap.size=Wa.heap.size:=by rw[hW2];simp
   have put:∀(O:List Nat) (pre:List α) (X:World) (o o':Obj),I O pre X→X.heap[D+1]?=some o→o.isCells=false→(∀b∈O,V.heap.size≤b∧OwnB X b)→I O pre (X.putObj (D+1) o'):=fun O pre X o o' h1 h2 h3 h4 =>
    hI O pre X O [D+1] _ h1 ((Only.putObj X _ o').mono (fun y hy=>List.mem_append_right _ hy)) (fun r hr=>by rw[List.mem_singleton]at hr;subst hr;exact⟨by omega,o,h2,h3⟩) (fun y hy=>.inl hy) (fun y hy=>(h4 y hy).2.keep (World.putObj_heap_other (by have:=(h4 y hy).1;omega)))
   have hi2:I O pre W2:=by rw[hW2];exact put O pre Wa _ _ hia hla rfl (fun b hb=>⟨(hO b hb).1,hOa b hb⟩)
   have keep2:∀X o',KeepO O X (X.putObj (D+1) o'):=fun X o' b hb=>by have:=(hO b hb).1;exact World.putObj_heap_other (by omega)
   rw [←hW2];refine wpIn_mono (hbody _ O pre x a' W2 hi2 (by rw[hW2];exact hAx _ _ _ _ _ _ hax (by omega) hla rfl) hG (fun b hb=>by rw[hW2];exact (hOa b hb).keep (keep2 _ _ b hb))) ?_;have fin:∀(jump:Option Code) (W3:World),KeepsFrom w.heap.size W2 W3→∃W4,W4=W3.putObj (D+1) (.loop (R (if jump.isNone then .ready else .done) jump)) ∧
     (Instr.endRound (D+1) jump).run P W3=.ok (.bool jump.isNone) W4∧W3.heap[D+1]?=some (.loop {R .ready none with state:=.busy}) ∧
     W4.heap[D+1]?=some (.loop (R (if jump.isNone then .ready else .done) jump))∧W4.heap[D]?=some (.deferred (some []))∧W2.heap.size≤W3.heap.size∧W4.heap.size=W3.heap.size:=fun jump W3 hk3=>by
    have hl3:=hk3.same _ _ (by omega) hl2 rfl;have hd3:=hk3.same _ _ (by omega) hk2 rfl;have hr3:=run_endRound (P:=P) jump hl3;rw [hR]at hr3;refine ⟨_,rfl,?_,hl3,World.putObj_heap_same (Array.getElem?_eq_some_iff.1 hl3).1,(World.putObj_heap_other (by omega)).trans hd3,hk3.size,by simp⟩;rw [hR];exact hr3
   rintro e a3 W3 hp;have leave:∀c,KeepsFrom w.heap.size W2 W3→Ix c (pre++[x]) W3→∃v W4,(Instr.endRound (D+1) (some c)).run P W3=.ok v W4∧v=.bool false∧∃c,Ix c (pre++[x]) W4∧W4.heap[D+1]?=some (.loop (R .done (some c)))∧W4.heap[D]?=some (.deferred (some [])):=fun c hk3 hi3=>by
    obtain ⟨W4,hW4,hr,hl3,hl4,hk4,_,_⟩:=fin (some c) W3 hk3;exact ⟨_,W4,hr,rfl,c,by rw[hW4];exact hIx _ _ W3 [D+1] _ hi3 (Only.putObj _ _ _) (fun r hr=>by rw[List.mem_singleton]at hr;subst hr;exact⟨by omega,_,hl3,rfl⟩),hl4,hk4⟩
   cases e with
   | normal =>
    obtain ⟨hk3,hkp3,hi3⟩:=hp;obtain ⟨W4,hW4,hr,hl3,hl4,hk4,hs3,hs4⟩:=fin none W3 hk3;have q1:KeepO O Wa W2:=by rw[hW2];exact keep2 _ _
    have hO3:∀b∈O,V.heap.size≤b∧OwnB W3 b:=fun b hb=>⟨(hO b hb).1,((hOa b hb).keep (q1 b hb)).keep (hkp3 b hb)⟩
    have q2:KeepO O W3 W4:=by rw[hW4];exact keep2 _ _
    refine ⟨_,W4,hr,.inl ⟨rfl,⟨by rw[hW4];exact put O _ W3 _ _ hi3 hl3 rfl hO3,hl4,hk4,by have:=hkfa.size;omega,fun b hb=>⟨(hO b hb).1,(hO3 b hb).2.keep (q2 b hb)⟩⟩,?_⟩⟩;exact ((hkpa.trans q1).trans hkp3).trans q2
   | ret =>
    obtain ⟨v,W4,hr,hv,hc⟩:=leave .ret hp.1 hp.2;exact ⟨v,W4,hr,.inr ⟨by rw[hv],hc⟩⟩
   | exit id =>
    obtain ⟨v,W4,hr,hv,hc⟩:=leave (.exit id) hp.1 hp.2;exact ⟨v,W4,hr,.inr ⟨by rw[hv],hc⟩⟩
   | goto t =>
    obtain ⟨v,W4,hr,hv,hc⟩:=leave (.goto t) hp.1 hp.2;exact ⟨v,W4,hr,.inr ⟨by rw[hv],hc⟩⟩
   | panic ch=>exact hp.elim
   | outgrown=>exact hp.elim
  ·rintro e W2 ⟨⟨v,rfl⟩,(⟨O,xs,hS,hi,hl,hk,hs,hO⟩|⟨pre,hSp,c,hi,hl,hk⟩)⟩
   ·have hr:=run_endLoop (P:=P) hl (by rw[hR];simp)
    refine ⟨none,_,by rw[hR]at hr;exact hr,?_⟩;rw [hD]at hk⊢;refine hdone _ O xs _ (Nat.le_refl _) hS (hI O xs W2 O [D+1] _ hi ((Only.putObj W2 _ _).mono (fun y hy=>List.mem_append_right _ (by rw[hD];exact hy))) (fun r hr=>by rw[List.mem_singleton]at hr;subst hr;exact⟨by omega,_,hl,rfl⟩) (fun y hy=>.inl hy) (fun y hy=>(hO y hy).2.keep (World.putObj_heap_other (by have:=(hO y hy).1;omega)))) ((World.putObj_heap_other (by omega)).trans hk)
   ·have hr:=run_endLoop (P:=P) hl (by rw[hR];simp)
    refine ⟨some c,_,by rw[hR]at hr;exact hr,?_⟩;rw [hD]at hk⊢;exact hstop _ c pre _ (Nat.le_refl _) hSp (hIx c _ W2 [D+1] _ hi ((Only.putObj W2 _ _).mono (fun y hy=>by rw[hD];exact hy)) (fun r hr=>by rw[List.mem_singleton]at hr;subst hr;exact⟨by omega,_,hl,rfl⟩)) ((World.putObj_heap_other (by omega)).trans hk)
end
end Go.Proofs.YtpibnfdolojpcaaGreat
namespace Go.Proofs.YtpibnfdolojpcaaGreat
open Go.ChangeShapes Go.WideShapes Go.ChangeAt Go.RowKit
abbrev spotC (x:SpotD):List Value:=[.int .i64 x.dir,.string (bs x.name),.int .i64 x.no,.int .i64 x.depth]
def spotCells (l:List SpotD):List Value:=l.flatMap spotC
theorem spotCells_len (l:List SpotD):(spotCells l).length=l.length*4:=by
 unfold spotCells
 induction l with
 | nil=>rfl
 | cons x l ih=>rw[List.flatMap_cons,List.length_append,ih];simp;omega
theorem spotCells_append (a b:List SpotD):spotCells (a++b)=spotCells a++spotCells b:=by unfold spotCells;rw[List.flatMap_append]
theorem spotCells_get (l:List SpotD):∀k,(h:k<l.length)→∀j,j<4→(spotCells l)[k*4+j]?=(spotC l[k])[j]?:=by
 induction l with
 | nil=>intro k h;cases h
 | cons x l ih =>
  intro k h j hj;have e:spotCells (x::l)=spotC x++spotCells l:=rfl;rw [e]
  cases k with
  | zero =>
   simp only[Nat.zero_mul,Nat.zero_add,List.getElem_cons_zero];rw [List.getElem?_append_left (by simpa using hj)]
  | succ k =>
   have:=ih k (by simpa using h) j hj;rw [List.getElem?_append_right (by simp;omega)];simp only[List.length_cons,List.length_nil,List.getElem_cons_succ];rw [show (k+1)*4+j-(0+1+1+1+1)=k*4+j by omega];exact this
theorem spotC_one (x:SpotD):∀u∈spotC x,u.oneCell'=true:=by
 intro u hu;simp only[List.mem_cons,List.not_mem_nil,or_false]at hu;rcases hu with rfl|rfl|rfl|rfl<;>rfl
theorem spotCells_one (l:List SpotD):∀u∈spotCells l,u.oneCell'=true:=by
 intro u hu;unfold spotCells at hu;rw [List.mem_flatMap]at hu;obtain ⟨x,_,hx⟩:=hu;exact spotC_one x u hx
theorem infoSpot:(Tryz.prog.info? 41).map (fun i=>(i.zero,i.size,i.bytes))=some (some (.agg #[.int .i64 0,.string ⟨#[]⟩,.int .i64 0,.int .i64 0]),4,40):=by kernel_rfl
theorem infoSpot4:(Tryz.prog.info? 41).map (·.size)=some 4:=by kernel_rfl
def OwnP (w:World) (base:Nat) (v:Value) (l:List SpotD):Prop:=w.ownsRow base 41 4 v l.length (spotCells l)
theorem OwnP.nil (w:World) (base:Nat):OwnP w base (.slice none 0 0) []:=World.ownsRow_nil _ _ _ _
def SpotsAt (w:World) (A:Option Addr) (l:List SpotD):Prop:=
 l = []∨∃b o,A=some ⟨b,o,none⟩∧b<w.heap.size∧∀k,(h:k<l.length)→∀j,j<4→w.cell? ⟨b,o+k*4+j,none⟩=(spotC l[k])[j]?
theorem SpotsAt.ext {w w':World} {A:Option Addr} {l:List SpotD} (h:SpotsAt w A l) (k:Ext w w'):SpotsAt w' A l:=by
 rcases h with h|⟨b,o,hA,hb,hc⟩
 ·exact .inl h
 ·exact .inr ⟨b,o,hA,by have:=k.size;omega,fun i hi j hj=>(k.cell hb).trans (hc i hi j hj)⟩
theorem OwnP.cases {w:World} {base:Nat} {v:Value} {l:List SpotD} (h:OwnP w base v l) :
  (v=.slice none 0 0∧l=[])∨∃g cap cur,v=.slice (some ⟨g,0,none⟩) l.length cap∧base≤g∧Has w g (.cells cur 41)∧l.length≤cap∧cap≤maxLen∧∀k,(h:k<l.length)→∀j,j<4→w.cell? ⟨g,k*4+j,none⟩=(spotC l[k])[j]?:=by
 rcases h.2 with⟨e,h0⟩|⟨g,cap,cur,rfl,hb,hg,hn,hm,hs,ht⟩
 ·exact .inl ⟨e,List.eq_nil_of_length_eq_zero h0⟩
 ·refine .inr ⟨g,cap,cur,rfl,hb,hg,hn,hm,fun k hk j hj=>?_⟩
  have:=World.ownsRow.cellAt h (k*4+j) (by omega);rw [this];exact spotCells_get l k hk j hj
theorem OwnP.at_ {w:World} {base:Nat} {v:Value} {l:List SpotD} (h:OwnP w base v l):∃A cap,v=.slice A l.length cap∧l.length≤cap∧cap≤maxLen∧SpotsAt w A l∧(A=none→cap=0):=by
 rcases h.cases with⟨rfl,rfl⟩|⟨g,cap,cur,rfl,hb,hg,hn,hm,hc⟩
 ·exact⟨none,0,rfl,Nat.le_refl _,by decide,.inl rfl,fun _=>rfl⟩
 ·exact⟨_,cap,rfl,hn,hm,.inr ⟨g,0,rfl,hg.lt,fun k hk j hj=>by rw[Nat.zero_add];exact hc k hk j hj⟩,fun e=>by cases e⟩
theorem OwnP.ext {w w':World} {base:Nat} {v:Value} {l:List SpotD} (h:OwnP w base v l) (k:Ext w w'):OwnP w' base v l:=World.ownsRow.kept h k.grownBy (by cases v.ownBlock<;>simp)
theorem OwnP.only {w w':World} {base:Nat} {v:Value} {l:List SpotD} {L:List Nat} (h:OwnP w base v l) (o:Only L w w') (hn:∀g,v.ownBlock=some g→g∉L):OwnP w' base v l:=ownsRow_only h o hn
theorem OwnP.base {w:World} {base base':Nat} {v:Value} {l:List SpotD} (h:OwnP w base v l) (hb:base'≤base):OwnP w base' v l:=by
 refine ⟨h.1,?_⟩;rcases h.2 with e|⟨g,cap,cur,hv,hg,rest⟩
 ·exact .inl e
 ·exact .inr ⟨g,cap,cur,hv,by omega,rest⟩
theorem OwnP.pop {w:World} {base:Nat} {g cap:Nat} {l:List SpotD} {x:SpotD} (h:OwnP w base (.slice (some ⟨g,0,none⟩) (l++[x]).length cap) (l++[x])):OwnP w base (.slice (some ⟨g,0,none⟩) l.length cap) l:=by
 refine ⟨by rw[spotCells_len],?_⟩;rcases h.2 with⟨e,_⟩|⟨g',cap',cur,hv,hb,hg,hn,hm,hs,ht⟩
 ·cases e
 ·injection hv with h1 h2 h3
  injection h1 with h1;injection h1 with h1;subst h1;subst h3;refine .inr ⟨g,cap,cur,rfl,hb,hg,by rw[List.length_append]at hn;omega,hm,hs,?_⟩;have e:cur.toList.take (l.length*4)=(cur.toList.take ((l++[x]).length*4)).take (l.length*4):=by rw[List.take_take];congr 1;rw[List.length_append];omega
  rw [e,ht,spotCells_append,List.take_left' (spotCells_len l)]
theorem OwnP.lt {w:World} {base:Nat} {v:Value} {l:List SpotD} (h:OwnP w base v l) {g:Nat} (hv:v.ownBlock=some g):base≤g∧g<w.heap.size:=World.ownsRow.lt h g hv
theorem app_spots (w:World) {base:Nat} {v:Value} {l:List SpotD} (h:OwnP w base v l) (hb:base≤w.heap.size) (l2:List SpotD) (bb o c2:Nat) (h2:∀k,(h:k<l2.length)→∀j,j<4→w.cell? ⟨bb,o+k*4+j,none⟩=(spotC l2[k])[j]?)
  (hl:l.length≤2000000) (hl2:l2.length≤1000000) :
  ∃ v' w',(Builtin.append_ #[39,39] 39 #[v,.slice (some ⟨bb,o,none⟩) l2.length c2]).run Tryz.prog w=.ok v' w'∧OwnP w' base v' (l++l2)∧w.grownBy w' v.ownBlock∧(v'.ownBlock=v.ownBlock∨v'.ownBlock=some w.heap.size):=by
 obtain ⟨i0,hi,hz0,hz1,hz2⟩:=info_parts infoSpot;obtain ⟨v',w',hr,h3,h4,_,h5⟩:=run_append_own_at (P:=Tryz.prog) (w:=w) base 39 39 41 i0 (.agg #[.int .i64 0,.string ⟨#[]⟩,.int .i64 0,.int .i64 0]) 4 40 Tryz.underlying39 hi hz0 hz1 hz2 rfl (by decide) v l.length _ h ⟨bb,o,none⟩ l2.length c2 (spotCells l2) (spotCells_len l2)
  (by
   intro j u hu;rw [Addr.add_lit];have hj:j<l2.length*4:=by
    rcases Nat.lt_or_ge j (l2.length*4) with h'|h'
    ·exact h'
    ·rw[List.getElem?_eq_none (by rw[spotCells_len];exact h')]at hu;cases hu
   have hk:j / 4<l2.length:=by omega
   have e:j=j / 4*4+j % 4:=by omega
   have a:=spotCells_get l2 (j / 4) hk (j % 4) (by omega);rw [←e,hu]at a;have b:=h2 (j / 4) hk (j % 4) (by omega);rw [Nat.add_assoc,←e]at b;rw [b,←a])
  (spotCells_one l2) (by unfold maxLen;omega) (by omega) hb
 refine ⟨v',w',hr,?_,h4,h5⟩;unfold OwnP;rw [spotCells_append,List.length_append];exact h3
theorem app_spot (w:World) {base:Nat} {v:Value} {l:List SpotD} (h:OwnP w base v l) (hb:base≤w.heap.size) (x:SpotD) (hl:l.length≤2000000) :
  ∃ v' w',(Builtin.append_ #[39,39] 39 #[v,.slice (some ⟨w.heap.size,0,none⟩) 1 1]).run Tryz.prog (w.alloc (.cells (spotC x).toArray 41))=.ok v' w'∧OwnP w' base v' (l++[x])∧(w.alloc (.cells (spotC x).toArray 41)).grownBy w' v.ownBlock∧(v'.ownBlock=v.ownBlock∨v'.ownBlock=some (w.heap.size+1)):=by
 have hN:=Has.new w (.cells (spotC x).toArray 41);have E:Ext w (w.alloc (.cells (spotC x).toArray 41)):=(Ext.refl _).alloc _;obtain ⟨v',w',hr,h3,h4,h5⟩:=app_spots (w.alloc (.cells (spotC x).toArray 41)) (h.ext E) (by simp;omega) [x] w.heap.size 0 1
  (fun k hk j hj=>by
   have:k=0:=by simpa using hk
   subst this;rw [show 0+0*4+j=j by omega];have:=hN.cell j;rw [this];simp) hl (by simp)
 exact ⟨v',w',hr,h3,h4,by rw[World.size_alloc]at h5;exact h5⟩
theorem Only.of_grownBy {w w':World} {v:Value} {L:List Nat} (h:w.grownBy w' v.ownBlock) (hL:∀g,v.ownBlock=some g→g∈L):Only L w w':=
 ⟨h.os,h.tape,h.output,h.size,fun k hk hn=>h.block k hk fun e=>hn (hL k e.symm)⟩
theorem Has.putSpot {w:World} {b:Nat} {t:TypeId} {x:SpotD} (y:SpotD) (h:Has w b (.cells (spotC x).toArray t)):Has (w.setCells b 0 (spotC y)) b (.cells (spotC y).toArray t):=by
 have h0:=Has.setCell h 0 (.int .i64 y.dir);have h1:=Has.setCell h0 1 (.string (bs y.name));have h2:=Has.setCell h1 2 (.int .i64 y.no);have h3:=Has.setCell h2 3 (.int .i64 y.depth);exact h3
theorem wpList_store_spot {ops:Array Oper} {rest:List Oper} {op:Oper} {a:Act} {w:World} {Q:Exit→Act→World→Prop} (hgd:op.guard=none) (x y:Operand) (ho:op.op=.store 41 x y)
  (b:Nat) (d d':SpotD) (hx:a.eval x=.pointer (some ⟨b,0,none⟩)) (hy:a.eval y=.agg (spotC d').toArray) (hb:Has w b (.cells (spotC d).toArray 41))
  (h:∀w',Has w' b (.cells (spotC d').toArray 41)→Only [b] w w'→wpList Tryz.prog ops Q rest (a.put op.dst undef) w'):wpList Tryz.prog ops Q (op::rest) a w:=by
 refine wpList_store_mid hgd 41 x y ho b 0 (spotC d').toArray hx hy hb.there infoSpot4 (all_oneCell_toArray (cs:=spotC d') (spotC_one d')) ?_;exact h _ (hb.putSpot d') (only_setCells (spotC d') 0 w)
theorem res_spot {fn:Func} {p t:Tmp} (h:fn.results=#[.cell p 41,.tmp t]) (tmps:Array Value) (w:World) (g:Nat) (d:SpotD) (v:Value)
  (hp:tmps.getD p undef=.pointer (some ⟨g,0,none⟩)) (hv:tmps.getD t undef=v) (hg:Has w g (.cells (spotC d).toArray 41)) :
  (results fn tmps).run Tryz.prog w=.ok (.tuple #[.agg (spotC d).toArray,v]) w:=
 res_cell_tmp h tmps w g 41 _ _ v hp hv hg Tryz.underlying41 rfl infoSpot4
def inE (s:SysD) (cu cg:Int) (x:SpotD):Int:=rdE s (intoE s.t cu cg x)
def inL (s:SysD) (cu cg:Int) (x:SpotD):List SpotD:=rdL s (intoL s.t cu cg x)
def IntoR (w:World) (L:List SpotD) (x:Int) (e:Ending) (w':World):Prop:=∃v,e=.returned (.tuple #[v,.int .i64 x])∧OwnP w' w.heap.size v L∧Ext w w'
theorem intoL_err {S:TreeD} {cu cg:Int} {x:SpotD} (h:intoE S cu cg x≠0):intoL S cu cg x=[]:=by
 unfold intoL;rw[if_neg (fun k=>h k.1)]
theorem intoL_file {S:TreeD} {cu cg:Int} {x:SpotD} (h:(getN S.nodes x.no).kind≠1):intoL S cu cg x=[]:=by
 unfold intoL;rw[if_neg (fun k=>h k.2)]
theorem inL_err {s:SysD} {cu cg:Int} {x:SpotD} (h:inE s cu cg x≠0):inL s cu cg x=[]:=by
 unfold inE rdE at h;unfold inL rdL;split
 ·rfl
 ·rename_i hd;rw[if_neg hd]at h;exact intoL_err h
def firstX (s:SysD) (cu cg dir:Int) (nm:List UInt8):SpotD:=⟨dir,nm,rdN s (lookN s.t cu cg dir nm),0⟩
def firstE (s:SysD) (cu cg dir:Int) (nm:List UInt8):Int:=rdE s (lookE s.t cu cg dir nm)
section
variable {s:SysD} {cu cg:Int} {x:SpotD}
theorem stat_cases (s:SysD) (no:Int):(rdE s (statE s.t no)=0∧s.dead=false∧isN s.t.nodes no=true)∨(rdE s (statE s.t no)≠0∧(s.dead=true∨(s.dead=false∧isN s.t.nodes no=false))):=by
 unfold rdE statE
 cases hd:s.dead
 ·rw [if_neg (by decide)]
  cases hi:isN s.t.nodes no
  ·exact .inr ⟨by decide,.inr ⟨rfl,rfl⟩⟩
  ·exact .inl ⟨rfl,rfl,rfl⟩
 ·rw[if_pos rfl];exact .inr ⟨by decide,.inl rfl⟩
theorem in_no1 (h:rdE s (statE s.t x.no)≠0):inE s cu cg x=rdE s (statE s.t x.no):=by
 rcases stat_cases s x.no with⟨h1,_⟩|⟨_,hd|⟨hd,hi⟩⟩
 ·exact absurd h1 h
 ·unfold inE rdE;rw[if_pos hd,if_pos hd]
 ·unfold inE rdE intoE statE;rw[hi,if_pos rfl];rfl
theorem in_no2 (h1:rdE s (statE s.t x.no)=0) (h:rdE s (statE s.t x.dir)≠0):inE s cu cg x=rdE s (statE s.t x.dir):=by
 rcases stat_cases s x.no with⟨_,hd,hi⟩|⟨h2,_⟩
 case inr=>exact absurd h1 h2
 rcases stat_cases s x.dir with⟨h2,_⟩|⟨_,hd2|⟨_,hi2⟩⟩
 ·exact absurd h2 h
 ·rw[hd]at hd2;cases hd2
 ·unfold inE rdE intoE statE;rw[hi,hi2,if_neg (show ¬true=false by decide),if_pos rfl];rfl
theorem in_dev (h1:rdE s (statE s.t x.no)=0) (h2:rdE s (statE s.t x.dir)=0) (h:(rdM s (getN s.t.nodes x.no)).dev≠(rdM s (getN s.t.nodes x.dir)).dev):inE s cu cg x=16:=by
 rcases stat_cases s x.no with⟨_,hd,hi⟩|⟨k,_⟩
 case inr=>exact absurd h1 k
 rcases stat_cases s x.dir with⟨_,_,hi2⟩|⟨k,_⟩
 case inr=>exact absurd h2 k
 unfold rdM at h;rw [if_neg (by rw[hd];decide),if_neg (by rw[hd];decide)]at h;unfold inE rdE intoE;rw [hi,hi2,if_neg (by rw[hd];decide),if_neg (by decide),if_neg (by decide),if_pos h]
theorem in_kind (h1:rdE s (statE s.t x.no)=0) (h2:rdE s (statE s.t x.dir)=0) (h:(rdM s (getN s.t.nodes x.no)).dev=(rdM s (getN s.t.nodes x.dir)).dev) (hk:(rdM s (getN s.t.nodes x.no)).kind≠1):inE s cu cg x=0∧inL s cu cg x=[]:=by
 rcases stat_cases s x.no with⟨_,hd,hi⟩|⟨k,_⟩
 case inr=>exact absurd h1 k
 rcases stat_cases s x.dir with⟨_,_,hi2⟩|⟨k,_⟩
 case inr=>exact absurd h2 k
 unfold rdM at h hk;rw [if_neg (by rw[hd];decide)]at h hk;rw [if_neg (by rw[hd];decide)]at h;unfold inE inL rdE rdL;rw [if_neg (by rw[hd];decide),if_neg (by rw[hd];decide)];refine ⟨?_,intoL_file hk⟩;unfold intoE;rw [hi,hi2,if_neg (by decide),if_neg (by decide),if_neg (fun k=>k h),if_pos hk]
theorem in_list (h1:rdE s (statE s.t x.no)=0) (h2:rdE s (statE s.t x.dir)=0) (h:(rdM s (getN s.t.nodes x.no)).dev=(rdM s (getN s.t.nodes x.dir)).dev) (hk:¬(rdM s (getN s.t.nodes x.no)).kind≠1) :
  inE s cu cg x=rdE s (openE s.t cu cg x.no 1 4)∧(rdE s (openE s.t cu cg x.no 1 4)=0→inL s cu cg x=(rdL s (listF s.t (openN s.t cu cg x.no 1 4).ents)).map (spotOf x)):=by
 rcases stat_cases s x.no with⟨_,hd,hi⟩|⟨k,_⟩
 case inr=>exact absurd h1 k
 rcases stat_cases s x.dir with⟨_,_,hi2⟩|⟨k,_⟩
 case inr=>exact absurd h2 k
 unfold rdM at h hk;rw [if_neg (by rw[hd];decide)]at h hk;rw [if_neg (by rw[hd];decide)]at h;have hE:intoE s.t cu cg x=openE s.t cu cg x.no 1 4:=by
  unfold intoE;rw [hi,hi2,if_neg (by decide),if_neg (by decide),if_neg (fun k=>k h),if_neg hk]
 unfold inE inL rdE rdL;rw [if_neg (by rw[hd];decide),if_neg (by rw[hd];decide),if_neg (by rw[hd];decide),if_neg (by rw[hd];decide)];refine ⟨hE,fun h0=>?_⟩;unfold intoL;rw [if_pos ⟨hE.trans h0,Decidable.not_not.1 hk⟩];unfold openN;rw [if_pos h0]
end
section
variable {c:Nat} {w:World} {B b:Nat} {g:GhW} {s:SysD}
theorem PS.first (h:PS w B b g s) (hs:Sane c s) (hc:c≤900) (cu cg dir:Int) (nm:List UInt8) :
  Calls Tryz.prog 87 #[.pointer (some ⟨b,0,none⟩),.agg #[.int .i64 cu,.int .i64 cg],.int .i64 dir,.string (bs nm)] w (Ret w (.tuple #[.agg (spotC (firstX s cu cg dir nm)).toArray,.int .i64 (firstE s cu cg dir nm)])):=by
 obtain ⟨W0,hW0⟩:∃W,W=(w.alloc (.cells #[.int .i64 cu,.int .i64 cg] 27)).alloc (.cells #[.int .i64 0,.string ⟨#[]⟩,.int .i64 0,.int .i64 0] 41):=⟨_,rfl⟩;obtain ⟨b5,hb5⟩:∃b,b=w.heap.size:=⟨_,rfl⟩;obtain ⟨b8,hb8⟩:∃b,b=w.heap.size+1:=⟨_,rfl⟩;have E0:Ext w W0:=by rw[hW0];exact ((Ext.refl _).alloc _).alloc _
 have R0:Has W0 b8 (.cells (spotC spotZ).toArray 41):=by rw[hW0,hb8];have:=Has.new (w.alloc (.cells #[.int .i64 cu,.int .i64 cg] 27)) (.cells #[.int .i64 0,.string ⟨#[]⟩,.int .i64 0,.int .i64 0] 41);rw[World.size_alloc]at this;exact this
 have C0:Has W0 b5 (.cells #[.int .i64 cu,.int .i64 cg] 27):=by rw[hW0,hb5];exact (Has.new w _).alloc _
 have hbw:w.heap.size≤b8:=by omega
 have KL:=zH ((h.ext E0).look hs hc cu cg dir nm);obtain ⟨y,hy⟩:∃y,y=rdN s (lookN s.t cu cg dir nm):=⟨_,rfl⟩;obtain ⟨z,hz⟩:∃z,z=rdE s (lookE s.t cu cg dir nm):=⟨_,rfl⟩;unfold firstX firstE;rw [←hy,←hz]at KL⊢;have c0:=C0.cell 0;have c1:=C0.cell 1;have cz:=C0.lt;clear h hs hy hz;go_enter Tryz.func87,Tryz.ntmps87;go_upto_region 1 with fail;rw [show (w.alloc _).alloc _=W0 from hW0.symm,←hb8,←hb5];clear hW0 hb5 hb8;go_wp2_with fail;refine KL.out.mono ?_;rintro e w1 ⟨rfl,b1⟩;have R1:=R0.ext b1;have E1:=E0.trans b1;clear c0 c1 cz KL;go_upto_region 3 with fail;obtain ⟨W2,hW2⟩:∃W,W=w1.alloc (.cells #[.int .i64 dir,.string (bs nm),.int .i64 y,.int .i64 0] 41):=⟨_,rfl⟩;obtain ⟨b2,hb2⟩:∃b,b=w1.heap.size:=⟨_,rfl⟩;have N2:Has W2 b2 (.cells #[.int .i64 dir,.string (bs nm),.int .i64 y,.int .i64 0] 41):=by rw[hW2,hb2];exact Has.new _ _
 have R2:Has W2 b8 (.cells (spotC spotZ).toArray 41):=by rw[hW2];exact R1.alloc _
 have E2:Ext w W2:=by rw[hW2];exact E1.alloc _
 rw [←hW2,←hb2];have n0:=N2.cell 0;have n1:=N2.cell 1;have n2:=N2.cell 2;have n3:=N2.cell 3;have nz:=N2.lt;clear hW2 hb2 R1 E1;go_wp2_with (refine wpList_store_spot rfl _ _ rfl b8 spotZ ⟨dir,nm,y,0⟩ rfl rfl R2 ?_;intro w9 R9 O9);refine bodyPost_ret (v:=.tuple #[.agg (spotC ⟨dir,nm,y,0⟩).toArray,.int .i64 z]) (res_spot Tryz.results87 _ _ b8 ⟨dir,nm,y,0⟩ _ rfl rfl R9) rfl ?_;exact ⟨rfl,O9.after E2 (by simpa using hbw)⟩
theorem PS.into (h:PS w B b g s) (hs:Sane c s) (hc:c≤900) (cu cg:Int) (x:SpotD) (hx0:0≤x.depth) (hx1:x.depth≤1000000) :
  Calls Tryz.prog 88 #[.pointer (some ⟨b,0,none⟩),.agg #[.int .i64 cu,.int .i64 cg],.agg #[.int .i64 x.dir,.string (bs x.name),.int .i64 x.no,.int .i64 x.depth]] w (IntoR w (inL s cu cg x) (inE s cu cg x)):=by
 obtain ⟨W0,hW0⟩:∃W,W=(w.alloc (.cells #[.int .i64 cu,.int .i64 cg] 27)).alloc (.cells #[.int .i64 x.dir,.string (bs x.name),.int .i64 x.no,.int .i64 x.depth] 41):=⟨_,rfl⟩;obtain ⟨b4,hb4⟩:∃b,b=w.heap.size:=⟨_,rfl⟩;obtain ⟨b5,hb5⟩:∃b,b=w.heap.size+1:=⟨_,rfl⟩;have E0:Ext w W0:=by rw[hW0];exact ((Ext.refl _).alloc _).alloc _
 have X0:Has W0 b5 (.cells #[.int .i64 x.dir,.string (bs x.name),.int .i64 x.no,.int .i64 x.depth] 41):=by rw[hW0,hb5];have:=Has.new (w.alloc (.cells #[.int .i64 cu,.int .i64 cg] 27)) (.cells #[.int .i64 x.dir,.string (bs x.name),.int .i64 x.no,.int .i64 x.depth] 41);rw[World.size_alloc]at this;exact this
 have C0:Has W0 b4 (.cells #[.int .i64 cu,.int .i64 cg] 27):=by rw[hW0,hb4];exact (Has.new w _).alloc _
 have h0:=h.ext E0;obtain ⟨e1,he1⟩:∃e,e=rdE s (statE s.t x.no):=⟨_,rfl⟩;obtain ⟨e2,he2⟩:∃e,e=rdE s (statE s.t x.dir):=⟨_,rfl⟩;obtain ⟨e3,he3⟩:∃e,e=rdE s (openE s.t cu cg x.no 1 4):=⟨_,rfl⟩;obtain ⟨m1,hm1⟩:∃m,m=rdM s (getN s.t.nodes x.no):=⟨_,rfl⟩;obtain ⟨m2,hm2⟩:∃m,m=rdM s (getN s.t.nodes x.dir):=⟨_,rfl⟩;obtain ⟨L,hL⟩:∃L,L=rdL s (listF s.t (openN s.t cu cg x.no 1 4).ents):=⟨_,rfl⟩;have hLl:L.length≤1000000:=by
  rw [hL];unfold rdL;split
  ·simp
  ·rw[listF_len];have:=(hs.tre.openN cu cg x.no 1 4).2;omega
 have K1:Hid (∀u,Ext W0 u→Calls Tryz.prog 45 #[.pointer (some ⟨b,0,none⟩),.int .i64 x.no] u (Ret u (.tuple #[statV m1,.int .i64 e1]))):=by
  show ∀u,_;intro u hu;rw [hm1,he1];exact (h0.ext hu).stat hs x.no
 have K2:Hid (∀u,Ext W0 u→Calls Tryz.prog 45 #[.pointer (some ⟨b,0,none⟩),.int .i64 x.dir] u (Ret u (.tuple #[statV m2,.int .i64 e2]))):=by
  show ∀u,_;intro u hu;rw [hm2,he2];exact (h0.ext hu).stat hs x.dir
 have K3:Hid (∀u,Ext W0 u→Calls Tryz.prog 102 #[.pointer (some ⟨b,0,none⟩),.agg #[.int .i64 cu,.int .i64 cg],.int .i64 x.no] u (ListQ u L e3)):=by
  show ∀u,_;intro u hu;rw [hL,he3];exact (h0.ext hu).list hs hc cu cg x.no
 have N1:Hid (e1≠0→inE s cu cg x=e1):=fun k=>by rw[he1]at k⊢;exact in_no1 k
 have N2:Hid (e1=0→e2≠0→inE s cu cg x=e2):=fun k1 k2=>by rw[he1]at k1;rw[he2]at k2⊢;exact in_no2 k1 k2
 have N3:Hid (e1=0→e2=0→m1.dev≠m2.dev→inE s cu cg x=16):=fun k1 k2 k3=>by rw[he1]at k1;rw[he2]at k2;rw[hm1,hm2]at k3;exact in_dev k1 k2 k3
 have N4:Hid (e1=0→e2=0→m1.dev=m2.dev→m1.kind≠1→inE s cu cg x=0∧inL s cu cg x=[]):=fun k1 k2 k3 k4=>by rw[he1]at k1;rw[he2]at k2;rw[hm1,hm2]at k3;rw[hm1]at k4;exact in_kind k1 k2 k3 k4
 have N5:Hid (e1=0→e2=0→m1.dev=m2.dev→¬m1.kind≠1→inE s cu cg x=e3∧(e3=0→inL s cu cg x=L.map (spotOf x))):=fun k1 k2 k3 k4=>by rw[he1]at k1;rw[he2]at k2;rw[hm1,hm2]at k3;rw[hm1]at k4;rw[he3,hL];exact in_list k1 k2 k3 k4
 have NE:Hid (inE s cu cg x≠0→inL s cu cg x=[]):=fun k=>inL_err k
 obtain ⟨IE,hIE⟩:∃e,e=inE s cu cg x:=⟨_,rfl⟩;obtain ⟨IL,hIL⟩:∃e,e=inL s cu cg x:=⟨_,rfl⟩;rw [←hIE]at N1 N2 N3 N4 N5 NE⊢;rw [←hIL]at N4 N5 NE⊢;have c0:=C0.cell 0;have c1:=C0.cell 1;have cz:=C0.lt;have x0:=X0.cell 0;have x1:=X0.cell 1;have x2:=X0.cell 2;have x3:=X0.cell 3;have xz:=X0.lt;simp only[gA,gB,gC]at x0 x1 x2 x3;clear h h0 hs he1 he2 he3 hm1 hm2 hL hIE hIL;go_enter Tryz.func88,Tryz.ntmps88;go_upto_region 1 with fail;rw [show (w.alloc _).alloc _=W0 from hW0.symm,←hb5,←hb4];clear hW0 hb4 hb5;unfold statV at K1 K2;go_wp2_with fail;refine (K1.out _ (Ext.refl _)).mono ?_;rintro e w1 ⟨rfl,b1⟩;clear c0 c1 cz x0 x1 x2 x3 xz K1;go_upto_region 2 with fail;obtain ⟨W1,hW1⟩:∃W,W=w1.alloc (.cells #[.int .i64 m1.no,.int .i64 m1.dev,.int .i64 m1.kind,.int .i64 m1.mode,.int .i64 m1.uid,.int .i64 m1.gid,.int .i64 m1.links,.int .i64 m1.data.length,.int .i64 m1.mtime,.int .i64 m1.ctime] 95):=⟨_,rfl⟩;obtain ⟨b8,hb8⟩:∃b,b=w1.heap.size:=⟨_,rfl⟩;have S1:Has W1 b8 (.cells #[.int .i64 m1.no,.int .i64 m1.dev,.int .i64 m1.kind,.int .i64 m1.mode,.int .i64 m1.uid,.int .i64 m1.gid,.int .i64 m1.links,.int .i64 m1.data.length,.int .i64 m1.mtime,.int .i64 m1.ctime] 95):=by rw[hW1,hb8];exact Has.new _ _
 have E1:Ext W0 W1:=by rw[hW1];exact b1.alloc _
 rw [←hW1,←hb8];clear hW1 hb8 b1;have x0:=(X0.ext E1).cell 0;have xz:=(X0.ext E1).lt;simp only[gA,gB]at x0;go_wp2_with fail;refine (K2.out _ E1).mono ?_;rintro e w2 ⟨rfl,b2⟩;clear x0 xz K2;go_upto_region 3 with fail;obtain ⟨W2,hW2⟩:∃W,W=w2.alloc (.cells #[.int .i64 m2.no,.int .i64 m2.dev,.int .i64 m2.kind,.int .i64 m2.mode,.int .i64 m2.uid,.int .i64 m2.gid,.int .i64 m2.links,.int .i64 m2.data.length,.int .i64 m2.mtime,.int .i64 m2.ctime] 95):=⟨_,rfl⟩;obtain ⟨b10,hb10⟩:∃b,b=w2.heap.size:=⟨_,rfl⟩;have S2:Has W2 b10 (.cells #[.int .i64 m2.no,.int .i64 m2.dev,.int .i64 m2.kind,.int .i64 m2.mode,.int .i64 m2.uid,.int .i64 m2.gid,.int .i64 m2.links,.int .i64 m2.data.length,.int .i64 m2.mtime,.int .i64 m2.ctime] 95):=by rw[hW2,hb10];exact Has.new _ _
 have S1':Has W2 b8 (.cells #[.int .i64 m1.no,.int .i64 m1.dev,.int .i64 m1.kind,.int .i64 m1.mode,.int .i64 m1.uid,.int .i64 m1.gid,.int .i64 m1.links,.int .i64 m1.data.length,.int .i64 m1.mtime,.int .i64 m1.ctime] 95):=by rw[hW2];exact (S1.ext b2).alloc _
 have E2:Ext W0 W2:=by rw[hW2];exact (E1.trans b2).alloc _
 rw [←hW2,←hb10];clear hW2 hb10 b2 S1 E1
 by_cases k1:e1=0
 case neg =>
  have t1:(e1 != 0)=true:=by simpa using k1
  have HK:=zH k1;have H1:=zH (N1.out k1);clear k1;go_wp2_with fail;go_ret2;have hz:IL=[]:=NE.out (by rw[H1.out];exact HK.out);exact ⟨.slice none 0 0,by rw[H1.out];rfl,by rw[hz];exact OwnP.nil _ _,E0.trans E2⟩
 have HK1:=zH k1
 by_cases k2:e2=0
 case neg =>
  have t1:(e1 != 0)=false:=by simpa using k1
  have t2:(e2 != 0)=true:=by simpa using k2
  have HK:=zH k2;have H1:=zH (N2.out k1 k2);clear k1 k2;go_wp2_with fail;go_ret2;have hz:IL=[]:=NE.out (by rw[H1.out];exact HK.out);exact ⟨.slice none 0 0,by rw[H1.out];rfl,by rw[hz];exact OwnP.nil _ _,E0.trans E2⟩
 have HK2:=zH k2;have t1:(e1 != 0)=false:=by simpa using k1
 have t2:(e2 != 0)=false:=by simpa using k2
 clear k1 k2;have y1:=S1'.cell 1;have y2:=S1'.cell 2;have yz:=S1'.lt;have z1:=S2.cell 1;have zz:=S2.lt
 by_cases k3:m1.dev=m2.dev
 case neg =>
  have t3:(m1.dev != m2.dev)=true:=by simpa using k3
  have H1:=zH (N3.out HK1.out HK2.out k3);clear k3;go_wp2_with fail;go_ret2;have hz:IL=[]:=NE.out (by rw[H1.out];decide);exact ⟨.slice none 0 0,by rw[H1.out];rfl,by rw[hz];exact OwnP.nil _ _,E0.trans E2⟩
 have t3:(m1.dev != m2.dev)=false:=by simpa using k3
 have HK3:=zH k3;clear k3
 by_cases k4:m1.kind=1
 case neg =>
  have t4:(m1.kind != 1)=true:=by simpa using k4
  have H1:=zH (N4.out HK1.out HK2.out HK3.out k4);clear k4;go_wp2_with fail;go_ret2;exact ⟨.slice none 0 0,by rw[H1.out.1];rfl,by rw[H1.out.2];exact OwnP.nil _ _,E0.trans E2⟩
 have t4:(m1.kind != 1)=false:=by simpa using k4
 have H5:=zH (N5.out HK1.out HK2.out HK3.out (fun k=>k k4));clear k4;have c0:=(C0.ext E2).cell 0;have c1:=(C0.ext E2).cell 1;have cz:=(C0.ext E2).lt;have x2:=(X0.ext E2).cell 2;have xz:=(X0.ext E2).lt;simp only[gA,gB,gC]at x2;go_wp2_with fail;refine (K3.out _ E2).mono ?_;rintro e w3 ⟨A,cap,rfl,hat,b3⟩;clear c0 c1 cz x2 xz K3 t1 t2 t3 t4 y1 y2 yz z1 zz
 by_cases k5:e3=0
 case neg =>
  have t5:(e3 != 0)=true:=by simpa using k5
  have HK:=zH k5;clear k5;go_wp2_with fail;go_ret2;have hz:IL=[]:=NE.out (by rw[H5.out.1];exact HK.out);exact ⟨.slice none 0 0,by rw[H5.out.1];rfl,by rw[hz];exact OwnP.nil _ _,E0.trans (E2.trans b3)⟩
 have t5:(e3 != 0)=false:=by simpa using k5
 have HZ:=zH k5;have HIL:=zH (H5.out.2 k5);clear k5;obtain ⟨n,hn⟩:∃n,n=L.length:=⟨_,rfl⟩;rw [←hn]at hLl⊢;have HN:=zH hn;have HE3:=zH (E0.trans (E2.trans b3));have X3:=X0.ext (E2.trans b3);have HX3:=zH X3;have hsz:w.heap.size≤w3.heap.size:=HE3.out.size;have HAT:=zH hat;clear hn hat X3;go_wp2_with fail;go_loopw [13,61] (fun vo vi wr=>∃k:Nat,vi=.int .i64 k∧k≤n∧OwnP wr w3.heap.size vo ((L.take k).map (spotOf x))∧Ext w3 wr) (fun _ vi _=>n-(intOf vi).toNat)
 case atStart=>exact⟨0,rfl,Nat.zero_le _,OwnP.nil _ _,Ext.refl _⟩
 case round =>
  obtain ⟨k,rfl,hk,hO,hE⟩:=hrel
  by_cases hlt:(k:Int)<n
  ·have hkl:k<L.length:=by have:=HN.out;omega
   obtain ⟨ba,o,rfl,hba,ea,eb⟩:=(HAT.out.ext hE).lt0 hkl;have htk:Hid ((L.take (k+1)).map (spotOf x)=(L.take k).map (spotOf x)++[spotOf x L[k]]):=by
    show _=_;rw [List.take_succ_eq_append_getElem hkl,List.map_append];rfl
   have hlk:((L.take k).map (spotOf x)).length≤1000000:=by rw[List.length_map,List.length_take];omega
   obtain ⟨y,hy⟩:∃y,y=L[k]:=⟨_,rfl⟩;rw [←hy]at ea eb htk;obtain ⟨yn,yo⟩:=y;have q0:(0:Int)≤(k:Int):=Int.natCast_nonneg _;have w3w:IntKind.i64.wrap ((k:Int)+1)=(k:Int)+1:=IntWalk.i64_in _ (by omega);have wdw:IntKind.i64.wrap (x.depth+1)=x.depth+1:=IntWalk.i64_in _ (by omega);obtain ⟨W5,hW5⟩:∃W,W=wr.alloc (.cells #[.string (bs yn),.int .i64 yo] 153):=⟨_,rfl⟩;obtain ⟨b15,hb15⟩:∃b,b=wr.heap.size:=⟨_,rfl⟩;have N5':Has W5 b15 (.cells #[.string (bs yn),.int .i64 yo] 153):=by rw[hW5,hb15];exact Has.new _ _
   have E5:Ext wr W5:=by rw[hW5];exact (Ext.refl _).alloc _
   clear hy;go_upto_region 18 with fail;rw [←hW5,←hb15];clear hW5 hb15 ea eb hba;have hsz5:w3.heap.size≤W5.heap.size:=by have:=hE.size;have:=E5.size;omega
   obtain ⟨v',w',hr,hO',hg,_⟩:=app_spot W5 (hO.ext E5) hsz5 ⟨x.no,yn,yo,x.depth+1⟩ (by omega);have HR:=zH hr;have X5:=HX3.out.ext (hE.trans E5);have x2:=X5.cell 2;have x3:=X5.cell 3;have xz:=X5.lt;simp only[gA,gB,gC]at x2 x3;have n0:=N5'.cell 0;have n1:=N5'.cell 1;have nz:=N5'.lt;have HO:=zH hO';have HG:=zH hg;have HOW:=zH hO;have HEE:=zH hE;clear hr hO' hg X5 N5' hO hE;go_wp2_with (at_builtin;refine Lib.wpList_append_run _ rfl _ _ 39 39 rfl _ _ rfl rfl _ _ HR.out ?_);go_roundw
   case rel=>exact⟨k+1,by go_num,by omega,by rw[htk.out];exact HO.out,((HEE.out.trans E5).alloc _).grown HG.out (fun g hv=>(HOW.out.lt hv).1)⟩
   case measure=>simp[intOf];omega
  ·have hkn:k=L.length:=by have:=HN.out;omega
   have HOW:=zH hO;have HEE:=zH hE;have hf:Hid ((L.take k).map (spotOf x)=L.map (spotOf x)):=by show _=_;rw[hkn,List.take_length]
   clear hO hE hkn;go_wp2_with fail;go_ret2;exact ⟨_,by rw[H5.out.1,HZ.out];rfl,by rw[HIL.out,←hf.out];exact HOW.out.base hsz,HE3.out.trans HEE.out⟩
end
end Go.Proofs.YtpibnfdolojpcaaGreat
namespace Go.Proofs.YtpibnfdolojpcaaGreat
structure Kids (S:TreeD):Prop where
 up:∀m∈S.nodes,∀x∈m.ents,∀q∈S.nodes,q.no=x.2→q.kind=1→q.up=m.no
 once:∀m∈S.nodes,∀x∈m.ents,∀y∈m.ents,∀q∈S.nodes,q.no=x.2→q.kind=1→x.2=y.2→x=y
theorem kids_step {S T:TreeD} (h:Kids S) {D N:Int} {nm:List UInt8}
  (hq:∀q∈T.nodes,q.kind=1→(∃q'∈S.nodes,q'.no=q.no∧q'.kind=1∧q'.up=q.up)∨(q.no=N∧q.up=D∧∀m∈S.nodes,∀y∈m.ents,y.2≠N))
  (hm:∀m∈T.nodes,∀x∈m.ents,(∃m'∈S.nodes,m'.no=m.no∧x∈m'.ents)∨(m.no=D∧x=(nm,N)))
  (hN:∀q∈T.nodes,q.no=N→q.kind=1→q.up=D∧∀m∈S.nodes,∀y∈m.ents,y.2≠N)
  (hu:NosUp S.nodes S.last):Kids T:=by
 have old:∀m'∈S.nodes,∀x∈m'.ents,∀q∈T.nodes,q.no=x.2→q.kind=1→∃q'∈S.nodes,q'.no=x.2∧q'.kind=1∧q'.up=q.up:=by
  intro m' hm' x hx q hq1 e hk;rcases hq q hq1 hk with⟨q',h1,h2,h3,h4⟩|⟨h1,_,h3⟩
  ·exact⟨q',h1,h2.trans e,h3,h4⟩
  ·exact absurd (e.symm.trans h1) (h3 m' hm' x hx)
 refine ⟨fun m hm1 x hx q hq1 e hk=>?_,fun m hm1 x hx y hy q hq1 e hk exy=>?_⟩
 ·rcases hm m hm1 x hx with⟨m',h1,h2,h3⟩|⟨h1,h2⟩
  ·obtain ⟨q',k1,k2,k3,k4⟩:=old m' h1 x h3 q hq1 e hk
   rw [←k4,←h2];exact h.up m' h1 x h3 q' k1 k2 k3
  ·rw [h1]
   exact (hN q hq1 (by rw[e,h2]) hk).1
 ·rcases hm m hm1 x hx with⟨m',h1,h2,h3⟩|⟨h1,h2⟩
  ·rcases hm m hm1 y hy with⟨m2,k1,k2,k3⟩|⟨k1,k2⟩
   ·have:m'=m2:=node_eq hu h1 k1 (h2.trans k2.symm)
    subst this;obtain ⟨q',j1,j2,j3,j4⟩:=old m' h1 x h3 q hq1 e hk;exact h.once m' h1 x h3 y k3 q' j1 j2 j3 exy
   ·have:=(hN q hq1 (by rw[e,exy,k2]) hk).2 m' h1 x h3
    rw [exy,k2]at this;exact absurd rfl this
  ·rcases hm m hm1 y hy with⟨m2,k1,k2,k3⟩|⟨k1,k2⟩
   ·have:=(hN q hq1 (by rw[e,h2]) hk).2 m2 k1 y k3
    rw [←exy,h2]at this;exact absurd rfl this
   ·rw[h2,k2]
theorem kids_less {S T:TreeD} (h:Kids S) (hu:NosUp S.nodes S.last)
  (hm:∀m∈T.nodes,∃m'∈S.nodes,m'.no=m.no∧(m.kind=1→m'.kind=1∧m'.up=m.up)∧∀x∈m.ents,x∈m'.ents):Kids T:=by
 refine kids_step (D:=0) (N:=-1) (nm:=[]) h (fun q hq hk=>?_) (fun m hm1 x hx=>?_) (fun q hq e hk=>?_) hu
 ·obtain ⟨m',h1,h2,h3,_⟩:=hm q hq
  exact .inl ⟨m',h1,h2,(h3 hk).1,(h3 hk).2⟩
 ·obtain ⟨m',h1,h2,_,h4⟩:=hm m hm1
  exact .inl ⟨m',h1,h2,h4 x hx⟩
 ·obtain ⟨m',h1,h2,_⟩:=hm q hq
  have:=(hu.2 m' h1).1;omega
theorem kids_same {S:TreeD} (h:Kids S) (hu:NosUp S.nodes S.last) {no:Int} (hi:isN S.nodes no=true) {n:NodeD} (hno:n.no=no) (hk:n.kind=(getN S.nodes no).kind) (hup:n.up=(getN S.nodes no).up) (he:∀x∈n.ents,x∈(getN S.nodes no).ents):Kids (setT S n):=by
 refine kids_less h hu fun m hm=>?_
 rcases mem_setT hm with⟨hm,_⟩|rfl
 ·exact⟨m,hm,rfl,fun hk=>⟨hk,rfl⟩,fun x hx=>hx⟩
 ·exact⟨_,(isN_true hi).2.2,(isN_true hi).2.1.trans hno.symm,fun hk1=>⟨hk▸hk1,hup.symm⟩,he⟩
theorem kids_come {S:TreeD} {c:Nat} (hT:Tre c S) (h:Kids S) (cu cg now dir:Int) (nm:List UInt8) (n:NodeD) (hn:n.ents=[]) (hk:n.kind=1→n.up=dir):Kids (comeT S cu cg now dir nm n):=by
 unfold comeT;split
 case isFalse=>exact h
 rename_i h0;obtain ⟨h1,_,h3⟩:=comeE_zero h0;obtain ⟨p1,p2,_⟩:=placeE_zero h1;obtain ⟨_,hno,hmem⟩:=isN_true p1;have hmk:(makeT S (newN S cu cg now dir n)).nodes=S.nodes++[{newN S cu cg now dir n with no:=S.last+1}]:=by unfold makeT;rw[if_pos h3]
 have hg:=getN_make hT.nos (newN S cu cg now dir n) p1;obtain ⟨N,hN⟩:∃N:NodeD,N={newN S cu cg now dir n with no:=S.last+1}:=⟨_,rfl⟩;have hNno:N.no=S.last+1:=by rw[hN]
 have hNe:N.ents=[]:=by rw[hN];exact hn
 have hNk:N.kind=1→N.up=dir:=by rw[hN];exact hk
 rw [←hN]at hmk;obtain ⟨M,hM⟩:∃M:NodeD,M=touchN (makeT S (newN S cu cg now dir n)) dir now (putF (getN S.nodes dir).ents (nm,S.last+1)):=⟨_,rfl⟩;have hMno:M.no=dir:=by rw[hM];show (getN (makeT S _).nodes dir).no=dir;rw[hg.1];exact hno
 have hMup:M.up=(getN S.nodes dir).up:=by rw[hM];show (getN (makeT S _).nodes dir).up=_;rw[hg.1]
 have hMe:M.ents=putF (getN S.nodes dir).ents (nm,S.last+1):=by rw[hM];rfl
 show Kids (setT _ _);rw [←hM];have mem:∀m∈(setT (makeT S (newN S cu cg now dir n)) M).nodes,m∈S.nodes∨m=N∨m=M:=fun m hm=>by
  rcases mem_setT hm with⟨hm,_⟩|rfl
  ·rw [hmk]at hm
   rcases List.mem_append.1 hm with hm|hm
   ·exact .inl hm
   ·exact .inr (.inl (List.mem_singleton.1 hm))
  ·exact .inr (.inr rfl)
 have fresh:∀m∈S.nodes,∀y∈m.ents,y.2≠S.last+1:=fun m hm y hy=>by have:=(hT.pos m hm y hy).2;omega
 have hle:∀m∈S.nodes,m.no≠S.last+1:=fun m hm=>by have:=(hT.nos.2 m hm).2;omega
 refine kids_step (D:=dir) (N:=S.last+1) (nm:=nm) h (fun q hq hk1=>?_) (fun m hm x hx=>?_) (fun q hq e hk1=>?_) hT.nos
 ·rcases mem q hq with hq|rfl|rfl
  ·exact .inl ⟨q,hq,rfl,hk1,rfl⟩
  ·exact .inr ⟨hNno,hNk hk1,fresh⟩
  ·exact .inl ⟨_,hmem,hno.trans hMno.symm,p2,hMup.symm⟩
 ·rcases mem m hm with hm|rfl|rfl
  ·exact .inl ⟨m,hm,rfl,hx⟩
  ·rw[hNe]at hx;cases hx
  ·rw [hMe]at hx
   rcases mem_putF hx with hx|rfl
   ·exact .inl ⟨_,hmem,hno.trans hMno.symm,hx⟩
   ·exact .inr ⟨hMno,rfl⟩
 ·rcases mem q hq with hq|rfl|rfl
  ·exact absurd e (hle q hq)
  ·exact⟨hNk hk1,fresh⟩
  ·exact absurd (e▸hMno▸hno:(getN S.nodes dir).no=S.last+1) (hle _ hmem)
theorem kids_pre {S T:TreeD} {p:Int} (h:Kids S) (k:Kids T):Kids (preT p S T):=by unfold preT;split;exact h;exact k
theorem kids_hard {S:TreeD} {c:Nat} (hT:Tre c S) (h:Kids S) (cu cg now no dir:Int) (nm:List UInt8):Kids (hardT S cu cg now no dir nm):=by
 unfold hardT;split
 case isFalse=>exact h
 rename_i h0;obtain ⟨hp,hi,hk,hf,hv,hl⟩:=hardE_zero h0;obtain ⟨hid,hkd,hc⟩:=placeE_zero hp;obtain ⟨_,hno,hmem⟩:=isN_true hi;obtain ⟨_,hnod,hmemd⟩:=isN_true hid;have hne:dir≠no:=fun e=>by subst e;exact hk hkd
 have e0:(hardN S now no).no=no:=hno;obtain ⟨g1,g2⟩:=setN_get (S:=S) (n:=hardN S now no) (no:=dir) (by rw[e0];exact hne);obtain ⟨M,hM⟩:∃M:NodeD,M=touchN (setT S (hardN S now no)) dir now (putF (getN S.nodes dir).ents (nm,no)):=⟨_,rfl⟩;have hMno:M.no=dir:=by rw[hM];show (getN (setT S _).nodes dir).no=dir;rw[g1];exact hnod
 have hMup:M.up=(getN S.nodes dir).up:=by rw[hM];show (getN (setT S _).nodes dir).up=_;rw[g1]
 have hMe:M.ents=putF (getN S.nodes dir).ents (nm,no):=by rw[hM];rfl
 show Kids (setT _ _);rw [←hM];have mem:∀m∈(setT (setT S (hardN S now no)) M).nodes,m∈S.nodes∨m=hardN S now no∨m=M:=fun m hm=>by
  rcases mem_setT hm with⟨hm,_⟩|rfl
  ·rcases mem_setT hm with⟨hm,_⟩|rfl
   ·exact .inl hm
   ·exact .inr (.inl rfl)
  ·exact .inr (.inr rfl)
 refine kids_step (D:=dir) (N:=no) (nm:=nm) h (fun q hq hk1=>?_) (fun m hm x hx=>?_) (fun q hq e hk1=>?_) hT.nos
 ·rcases mem q hq with hq|rfl|rfl
  ·exact .inl ⟨q,hq,rfl,hk1,rfl⟩
  ·exact absurd hk1 hk
  ·exact .inl ⟨_,hmemd,hnod.trans hMno.symm,hkd,hMup.symm⟩
 ·rcases mem m hm with hm|rfl|rfl
  ·exact .inl ⟨m,hm,rfl,hx⟩
  ·exact .inl ⟨_,hmem,rfl,hx⟩
  ·rw [hMe]at hx
   rcases mem_putF hx with hx|rfl
   ·exact .inl ⟨_,hmemd,hnod.trans hMno.symm,hx⟩
   ·exact .inr ⟨hMno,rfl⟩
 ·rcases mem q hq with hq|rfl|rfl
  ·have:=node_eq hT.nos hq hmem (by rw[hno];exact e)
   subst this;exact absurd hk1 hk
  ·exact absurd hk1 hk
  ·exact absurd (hMno.symm.trans e) hne
theorem kids_gone {S:TreeD} (h:Kids S) (hu:NosUp S.nodes S.last) {now dir no:Int} {nm:List UInt8} (hi:isN S.nodes dir=true) (hin:isN S.nodes no=true):Kids (goneT S now (getN S.nodes dir) (getN S.nodes no) nm):=by
 obtain ⟨_,hnod,hmemd⟩:=isN_true hi;obtain ⟨_,hno,hmem⟩:=isN_true hin;obtain ⟨M,hM⟩:∃M:NodeD,M=touchN S (getN S.nodes dir).no now (dropF (getN S.nodes dir).ents nm):=⟨_,rfl⟩;have hMno:M.no=dir:=by rw[hM,hnod];exact hnod
 have hMk:M.kind=(getN S.nodes dir).kind:=by rw[hM,hnod];rfl
 have hMup:M.up=(getN S.nodes dir).up:=by rw[hM,hnod];rfl
 have hMe:M.ents=dropF (getN S.nodes dir).ents nm:=by rw[hM];rfl
 have mem:∀m∈(setT (setT S M) (lessN now (getN S.nodes no))).nodes,m∈S.nodes∨m=lessN now (getN S.nodes no)∨m=M:=fun m hm=>by
  rcases mem_setT hm with⟨hm,_⟩|rfl
  ·rcases mem_setT hm with⟨hm,_⟩|rfl
   ·exact .inl hm
   ·exact .inr (.inr rfl)
  ·exact .inr (.inl rfl)
 have key:∀m∈(setT (setT S M) (lessN now (getN S.nodes no))).nodes,∃m'∈S.nodes,m'.no=m.no∧(m.kind=1→m'.kind=1∧m'.up=m.up)∧∀x∈m.ents,x∈m'.ents:=fun m hm=>by
  rcases mem m hm with hm|rfl|rfl
  ·exact⟨m,hm,rfl,fun hk=>⟨hk,rfl⟩,fun x hx=>hx⟩
  ·exact⟨_,hmem,rfl,fun hk=>⟨hk,rfl⟩,fun x hx=>hx⟩
  ·exact⟨_,hmemd,hnod.trans hMno.symm,fun hk=>⟨hMk▸hk,hMup.symm⟩,fun x hx=>by rw[hMe]at hx;exact (mem_dropF hx).1⟩
 have k2:Kids (setT (setT S M) (lessN now (getN S.nodes no))):=kids_less h hu key;unfold goneT touchT;rw [←hM];unfold lessT;split
 ·unfold killT
  split
  ·exact kids_less h hu fun m hm=>key m (mem_drop hm).1
  ·exact k2
 ·exact k2
theorem kids_chg {S:TreeD} {c:Nat} (hT:Tre c S) (h:Kids S) (cu cg now:Int) (x:Chg) (hx:∀fr a to_ b,x≠.rename fr a to_ b):Kids (chgT S cu cg now x):=by
 cases x with
 | mkdir dir nm mode=>exact kids_pre h (kids_come hT h _ _ _ _ _ _ rfl fun _=>rfl)
 | create dir nm mode data=>exact kids_pre h (kids_come hT h _ _ _ _ _ _ rfl fun hk=>by cases hk)
 | symlink dir nm text=>exact kids_pre h (kids_come hT h _ _ _ _ _ _ rfl fun hk=>by cases hk)
 | link no dir nm=>exact kids_hard hT h _ _ _ _ _ _
 | unlink dir nm =>
  show Kids (unlinkT S cu cg now dir nm);unfold unlinkT;split
  ·rename_i h0
   unfold unlinkE at h0;split at h0
   ·rename_i h1;exact absurd h0 h1
   ·rename_i h1
    obtain ⟨z1,z2,_,z4,z5⟩:=leaveE_zero (Decidable.not_not.1 h1);rw [z4,z5];exact kids_gone h hT.nos (placeE_zero z1).1 z2
  ·exact h
 | rmdir dir nm =>
  show Kids (rmdirT S cu cg now dir nm);unfold rmdirT;split
  ·rename_i h0
   unfold rmdirE at h0;split at h0
   ·rename_i h1;exact absurd h0 h1
   ·rename_i h1
    obtain ⟨z1,z2,_,z4,z5⟩:=leaveE_zero (Decidable.not_not.1 h1);rw [z4,z5];exact kids_gone h hT.nos (placeE_zero z1).1 z2
  ·exact h
 | rename fr a to_ b=>exact absurd rfl (hx fr a to_ b)
 | chmod no mode =>
  show Kids (modeT S cu now no mode);unfold modeT;split
  ·rename_i h0
   unfold modeE at h0;split at h0
   ·rename_i h1;exact absurd h0 h1
   ·rename_i h1
    have hi:=ownE_is (Decidable.not_not.1 h1);exact kids_same h hT.nos hi (isN_true hi).2.1 rfl rfl fun x hx=>hx
  ·exact h
 | chown no uid gid =>
  show Kids (ownrT S cu now no uid gid);unfold ownrT;split
  ·rename_i h0
   unfold ownrE at h0;split at h0
   ·rename_i h1;exact absurd h0 h1
   ·rename_i h1
    have hi:=ownE_is (Decidable.not_not.1 h1);exact kids_same h hT.nos hi (isN_true hi).2.1 rfl rfl fun x hx=>hx
  ·exact h
 | utime no mt =>
  show Kids (timeT S cu now no mt);unfold timeT;split
  ·rename_i h0
   unfold timeE at h0;split at h0
   ·rename_i h1;exact absurd h0 h1
   ·rename_i h1
    have hi:=ownE_is (Decidable.not_not.1 h1);exact kids_same h hT.nos hi (isN_true hi).2.1 rfl rfl fun x hx=>hx
  ·exact h
 | write no data =>
  show Kids (wriT S cu cg now no data);unfold wriT;split
  ·rename_i h0
   have hi:isN S.nodes no=true:=by
    unfold wriE at h0;split at h0
    ·cases h0
    ·rename_i h1;simpa using h1
   have hf:∀m∈(fillT S no data).nodes,∃m'∈S.nodes,m'.no=m.no∧(m.kind=1→m'.kind=1∧m'.up=m.up)∧∀x∈m.ents,x∈m'.ents:=fun m hm=>by
    unfold fillT at hm;split at hm
    ·rcases mem_setN hm with hm|rfl
     ·exact⟨m,hm,rfl,fun hk=>⟨hk,rfl⟩,fun x hx=>hx⟩
     ·exact⟨_,(isN_true hi).2.2,rfl,fun hk=>⟨hk,rfl⟩,fun x hx=>hx⟩
    ·exact⟨m,hm,rfl,fun hk=>⟨hk,rfl⟩,fun x hx=>hx⟩
   have hi2:isN (fillT S no data).nodes no=true:=by
    unfold fillT;split
    ·show isN (setN S.nodes _) no=true;rw[isN_set];exact hi
    ·exact hi
   refine kids_less h hT.nos fun m hm=>?_
   rcases mem_setT hm with⟨hm,_⟩|rfl
   ·exact hf m hm
   ·obtain ⟨m',h1,h2,h3,h4⟩:=hf _ (isN_true hi2).2.2
    exact ⟨m',h1,h2,h3,h4⟩
  ·exact h
theorem kids_root {S:TreeD} {c:Nat} (hT:Tre c S) (h:Kids S) (over b n:Int):Kids (rootT S over b n):=by
 have mem:∀m∈(rootT S over b n).nodes,m∈S.nodes∨(m.no=S.last+1∧m.ents=[]):=fun m hm=>by
  rcases List.mem_append.1 hm with hm|hm
  ·exact .inl hm
  ·rw [List.mem_singleton]at hm
   subst hm;exact .inr ⟨rfl,rfl⟩
 refine ⟨fun m hm x hx q hq e hk=>?_,fun m hm x hx y hy q hq e hk exy=>?_⟩
 ·rcases mem m hm with hm|⟨_,h2⟩
  ·have hp:=(hT.pos m hm x hx).2
   rcases mem q hq with hq|⟨h1,_⟩
   ·exact h.up m hm x hx q hq e hk
   ·omega
  ·rw[h2]at hx;cases hx
 ·rcases mem m hm with hm|⟨_,h2⟩
  ·have hp:=(hT.pos m hm x hx).2
   rcases mem q hq with hq|⟨h1,_⟩
   ·exact h.once m hm x hx y hy q hq e hk exy
   ·omega
  ·rw[h2]at hx;cases hx
theorem kids_mount {S:TreeD} {c:Nat} (hT:Tre c S) (h:Kids S) (a b n:Int):Kids (mountT S a b n):=by
 unfold mountT;split
 ·exact kids_root hT h _ _ _
 ·exact h
theorem kids_first (b n:Int):Kids (rootT emptyT 0 b n):=by
 have mem:∀m∈(rootT emptyT 0 b n).nodes,m.ents=[]:=fun m hm=>by
  have hm':m∈[rootNode emptyT]:=hm;rw [List.mem_singleton]at hm';subst hm';rfl
 exact ⟨fun m hm x hx=>(by rw[mem m hm]at hx;cases hx),fun m hm x hx=>(by rw[mem m hm]at hx;cases hx)⟩
def entsN (S:TreeD):Nat:=(S.nodes.map fun n=>n.ents.length).sum
def Live24 (S:TreeD) (cu cg:Int) (x:SpotD):Prop:=intoE S cu cg x=0∧(getN S.nodes x.no).kind=1
theorem into_zero {S:TreeD} {cu cg:Int} {x:SpotD} (h:intoE S cu cg x=0):isN S.nodes x.no=true∧isN S.nodes x.dir=true∧(getN S.nodes x.no).dev=(getN S.nodes x.dir).dev∧((getN S.nodes x.no).kind=1→openE S cu cg x.no 1 4=0):=by
 unfold intoE at h;split at h
 ·cases h
 rename_i h1;split at h
 ·cases h
 rename_i h2;split at h
 ·cases h
 rename_i h3;refine ⟨by simpa using h1,by simpa using h2,Decidable.not_not.1 h3,fun hk=>?_⟩;rw [if_neg (fun k=>k hk)]at h;exact h
theorem into_live {S:TreeD} {cu cg:Int} {x:SpotD} (h:Live24 S cu cg x):intoL S cu cg x=(listF S (getN S.nodes x.no).ents).map (spotOf x):=by unfold Live24 at h;unfold intoL;rw[if_pos h]
theorem into_dead {S:TreeD} {cu cg:Int} {x:SpotD} (h:¬Live24 S cu cg x):intoL S cu cg x=[]:=by unfold Live24 at h;unfold intoL;rw[if_neg h]
theorem child_up {c:Nat} {S:TreeD} (h:Tre c S) (k:Kids S) {cu cg:Int} {x y:SpotD} (hx:Live24 S cu cg x) (hy:y∈intoL S cu cg x) (ly:Live24 S cu cg y) :
  (y.name,y.no)∈(getN S.nodes x.no).ents∧(getN S.nodes y.no).up=x.no∧y.no≠x.no∧y.dir=x.no:=by
 rw [into_live hx]at hy;rw [List.mem_map]at hy;obtain ⟨z',hz',rfl⟩:=hy;unfold listF at hz';rw [List.mem_map]at hz';obtain ⟨z,hz,rfl⟩:=hz';obtain ⟨ix,nx,mx⟩:=getN_node hx.2;obtain ⟨i1,i2,i3,_⟩:=into_zero ly.1;have i3':(getN S.nodes (overF S.devs z.2)).dev=(getN S.nodes x.no).dev:=i3;have hk:(getN S.nodes (overF S.devs z.2)).kind=1:=ly.2;obtain ⟨k1,k2,k3⟩:=h.kin _ mx z hz;have hp:=h.pos _ mx z hz;rcases overF_cases h.mounts (show 0<z.2 by omega) with e|⟨j,hj,e1,e2⟩
 ·show (z.1,overF S.devs z.2)∈_∧(getN S.nodes (overF S.devs z.2)).up=_∧overF S.devs z.2≠_∧x.no=x.no
  rw [e]at hk⊢;obtain ⟨j1,j2,j3⟩:=getN_node hk;refine ⟨hz,?_,by rw[←nx];exact k1,rfl⟩;rw [←nx];exact k.up _ mx z hz _ j3 j2 hk
 ·exfalso
  obtain ⟨q,hq,q1,q2,q3,q4⟩:=h.overs j hj;obtain ⟨r,hr,r1,r2,r3⟩:=h.rootsIn (j+1) hj;have gr:=(mem_getN h.nos hr).1;rw [r1]at gr;rw [e2,gr,r3]at i3';have:=k3 q hq (by rw[q1,e1]);rw [nx]at *;omega
theorem sum_nodup (ns:List NodeD) (f:NodeD→Nat):∀(E:List Int),E.Nodup→(∀e∈E,∃n∈ns,n.no=e)→ns.Pairwise (fun a b=>a.no<b.no)→(E.map fun e=>f (getN ns e)).sum≤(ns.map f).sum:=by
 induction ns with
 | nil =>
  intro E _ h2 _
  cases E with
  | nil=>simp
  | cons e E=>obtain⟨n,hn,_⟩:=h2 e (List.mem_cons_self ..);cases hn
 | cons a ns ih =>
  intro E h1 h2 h3;rw [List.pairwise_cons]at h3;have hg:∀e,e≠a.no→getN (a::ns) e=getN ns e:=fun e he=>by
   unfold getN getO;rw [List.find?_cons];have:(a.no == e)=false:=by simpa using Ne.symm he
   rw [this]
  have ha:getN (a::ns) a.no=a:=by unfold getN getO;rw[List.find?_cons];simp
  have key:∀E:List Int,E.Nodup→(∀e∈E,∃n∈a::ns,n.no=e)→(E.map fun e=>f (getN (a::ns) e)).sum≤(if a.no∈E then f a else 0)+((E.filter fun e=>decide (e≠a.no)).map fun e=>f (getN ns e)).sum:=by
   intro E
   induction E with
   | nil=>intro _ _;simp
   | cons e E ihE =>
    intro hd hm;rw [List.nodup_cons]at hd;have:=ihE hd.2 fun x hx=>hm x (List.mem_cons_of_mem _ hx)
    rw [List.map_cons,List.sum_cons]
    by_cases he:e=a.no
    ·subst he
     rw [if_neg hd.1]at this;rw [if_pos (List.mem_cons_self ..),List.filter_cons_of_neg (by simp),ha];omega
    ·rw [List.filter_cons_of_pos (by simpa using he),List.map_cons,List.sum_cons,hg e he]
     have hmem:(a.no∈e::E)↔a.no∈E:=by rw[List.mem_cons];exact⟨fun h=>h.resolve_left (Ne.symm he),.inr⟩
     by_cases h4:a.no∈E
     ·rw[if_pos h4]at this;rw[if_pos (hmem.2 h4)];omega
     ·rw[if_neg h4]at this;rw[if_neg (fun k=>h4 (hmem.1 k))];omega
  have k1:=key E h1 h2;have k2:=ih (E.filter fun e=>decide (e≠a.no)) (h1.filter _) (fun e he=>by
   rw [List.mem_filter]at he;obtain ⟨n,hn,e1⟩:=h2 e he.1;rcases List.mem_cons.1 hn with rfl|hn
   ·have:=he.2;simp[e1]at this
   ·exact⟨n,hn,e1⟩) h3.2
  rw [List.map_cons,List.sum_cons];split at k1<;>omega
theorem down_count {c:Nat} {S:TreeD} (h:Tre c S) (k:Kids S) (cu cg:Int) (x0:Int) {t l:List SpotD} {b:SpotD} {e:Int} (hd:DownR S cu cg t l b e) :
  ∀ (E:List Int) (d:Int→Nat),(∀n∈S.nodes,n.kind=1→n.up≠n.no→d n.up<d n.no)→E.Nodup→(∀y∈E,(getN S.nodes y).kind=1∧d x0≤d y∧(y=x0∨(getN S.nodes y).up∈E)) →
   (∀y∈t,Live24 S cu cg y→y.no∉E∧d x0≤d y.no∧(y.no=x0∨(getN S.nodes y.no).up∈E))→t.Pairwise (fun a b=>Live24 S cu cg a→Live24 S cu cg b→a.no≠b.no) →
   l.length+(E.map fun y=>(getN S.nodes y).ents.length).sum≤t.length+entsN S:=by
 induction hd with
 | nil =>
  intro E d _ h1 h2 _ _;have:=sum_nodup S.nodes (fun n=>n.ents.length) E h1 (fun y hy=>⟨_,(getN_node (h2 y hy).1).2.2,(getN_node (h2 y hy).1).2.1⟩) h.nos.1;unfold entsN;simp only[List.length_nil];omega
 | bad hx =>
  intro E d _ h1 h2 _ _;have:=sum_nodup S.nodes (fun n=>n.ents.length) E h1 (fun y hy=>⟨_,(getN_node (h2 y hy).1).2.2,(getN_node (h2 y hy).1).2.1⟩) h.nos.1;unfold entsN;simp only[List.length_nil];omega
 | @step x t l b e h0 hd ih =>
  intro E d hdp h1 h2 h3 h4;rw [List.pairwise_cons]at h4
  by_cases hx:Live24 S cu cg x
  ·obtain ⟨x1,x2,x3⟩:=h3 x (List.mem_cons_self ..) hx
   have hlen:(intoL S cu cg x).length=(getN S.nodes x.no).ents.length:=by rw[into_live hx,List.length_map,listF_len]
   have hch:∀y∈intoL S cu cg x,Live24 S cu cg y→y.no∉x.no::E∧d x0≤d y.no∧(y.no=x0∨(getN S.nodes y.no).up∈x.no::E)∧y.no≠x0∧(getN S.nodes y.no).up=x.no:=by
    intro y hy ly;obtain ⟨c1,c2,c3,_⟩:=child_up h k hx hy ly;obtain ⟨j1,j2,j3⟩:=getN_node ly.2;have hlt:=hdp _ j3 ly.2 (by rw[c2,j2];exact Ne.symm c3);rw [c2,j2]at hlt;have hne:y.no≠x0:=fun e=>by rw[e]at hlt;omega
    refine ⟨fun hm=>?_,by omega,.inr (by rw[c2];exact List.mem_cons_self ..),hne,c2⟩;rcases List.mem_cons.1 hm with e|hm
    ·exact c3 e
    ·rcases (h2 y.no hm).2.2 with e|e
     ·exact hne e
     ·rw[c2]at e;exact x1 e
   have := ih (x.no::E) d hdp (List.nodup_cons.2 ⟨x1,h1⟩)
    (fun y hy=>by
     rcases List.mem_cons.1 hy with rfl|hy
     ·exact⟨hx.2,x2,x3.imp id (List.mem_cons_of_mem _)⟩
     ·obtain ⟨a1,a2,a3⟩:=h2 y hy
      exact ⟨a1,a2,a3.imp id (List.mem_cons_of_mem _)⟩)
    (fun y hy ly=>by
     rcases List.mem_append.1 hy with hy|hy
     ·obtain ⟨a1,a2,a3,_⟩:=hch y hy ly
      exact ⟨a1,a2,a3⟩
     ·obtain ⟨a1,a2,a3⟩:=h3 y (List.mem_cons_of_mem _ hy) ly
      refine ⟨fun hm=>?_,a2,a3.imp id (List.mem_cons_of_mem _)⟩;rcases List.mem_cons.1 hm with e|hm
      ·exact h4.1 y hy hx ly e.symm
      ·exact a1 hm)
    (List.pairwise_append.2 ⟨?_,h4.2,fun a ha b hb la lb e=>?_⟩)
   ·rw [List.map_cons,List.sum_cons,List.length_append,hlen]at this
    simp only[List.length_cons];omega
   ·rw [into_live hx,List.pairwise_map]
    have hr:=h.rise _ (getN_node hx.2).2.2;unfold listF;rw [List.pairwise_map];refine List.Pairwise.imp_of_mem ?_ hr;intro a b ha hb hab la lb e;have ca:=child_up h k hx (y:=spotOf x (a.1,overF S.devs a.2)) (by rw[into_live hx];exact List.mem_map_of_mem (by unfold listF;exact List.mem_map_of_mem ha)) la;have cb:=child_up h k hx (y:=spotOf x (b.1,overF S.devs b.2)) (by rw[into_live hx];exact List.mem_map_of_mem (by unfold listF;exact List.mem_map_of_mem hb)) lb;obtain ⟨j1,j2,j3⟩:=getN_node la.2;have:=k.once _ (getN_node hx.2).2.2 _ ca.1 _ cb.1 _ j3 j2 la.2 e;have e1:a.1=b.1:=by have:=congrArg Prod.fst this;exact this
    rw [e1,bl_irrefl]at hab;cases hab
   ·obtain ⟨a1,a2,a3,a4,a5⟩:=hch a ha la
    rcases (h3 b (List.mem_cons_of_mem _ hb) lb).2.2 with e1|e1
    ·exact a4 (e.trans e1)
    ·rw[←e,a5]at e1;exact x1 e1
  ·have:=ih E d hdp h1 h2 (fun y hy ly=>h3 y (List.mem_cons_of_mem _ (by rw[into_dead hx]at hy;exact hy)) ly) (by rw[into_dead hx];exact h4.2)
   rw [into_dead hx]at this;simp only[List.nil_append]at this;simp only[List.length_cons];omega
theorem down_len {c:Nat} {S:TreeD} (h:Tre c S) (k:Kids S) (cu cg:Int) (x:SpotD) {l:List SpotD} {b:SpotD} {e:Int} (hd:DownR S cu cg [x] l b e):l.length≤1+entsN S:=by
 obtain ⟨d,hdp⟩:=h.deep;have:=down_count h k cu cg x.no hd [] d hdp List.nodup_nil (fun y hy=>by cases hy) (fun y hy _=>by rw[List.mem_singleton]at hy;subst hy;exact⟨by simp,Nat.le_refl _,.inl rfl⟩) (List.pairwise_singleton _ _);simpa using this
open Go.ChangeShapes Go.WideShapes Go.ChangeAt Go.RowKit
theorem wpListIn_append_run0 {F:Fence} {n:Nat} {P:Program} (w:World) {ops:Array Oper} {rest:List Oper} {o:Oper} {a:Act} {Q:Exit→Act→World→Prop} (hg:o.guard=none) (s x:Operand) (t tn:TypeId)
  (hop:o.op=.call {callee:=.builtin .append,args:=#[s,x],argTypes:=#[t,tn]}) (vs vx:Value) (hs:a.eval s=vs) (hx:a.eval x=vx)
  (v':Value) (w':World) (hr:(Builtin.append_ #[t,tn] o.type #[vs,vx]).run P w=.ok v' w') (h:wpListIn F n P ops Q rest (a.put o.dst v') w'):wpListIn F n P ops Q (o::rest) a w:=by
 refine wpListIn_plain hg fun K hK'=>?_
 unfold Oper.wpIn;refine ⟨?_,?_⟩
 ·simp[Oper.about,hop,resolve,Target.leads,Sem.run_pure]
 ·rw [Oper.semAt_plain F _ _ (by rw[hop];intro c hc';cases hc')]
  simp [execOp,hop,resolve,invoke,builtin,hs,hx,hr,Result.andThen];exact hK' _ _ h
theorem wpListIn_store_spot {F:Fence} {n:Nat} {ops:Array Oper} {rest:List Oper} {op:Oper} {a:Act} {w:World} {Q:Exit→Act→World→Prop} (hgd:op.guard=none) (x y:Operand) (ho:op.op=.store 41 x y)
  (b:Nat) (d d':SpotD) (hx:a.eval x=.pointer (some ⟨b,0,none⟩)) (hy:a.eval y=.agg (spotC d').toArray) (hb:Has w b (.cells (spotC d).toArray 41))
  (h:∀w',Has w' b (.cells (spotC d').toArray 41)→Only [b] w w'→wpListIn F n Tryz.prog ops Q rest (a.put op.dst undef) w'):wpListIn F n Tryz.prog ops Q (op::rest) a w:=by
 refine wpListIn_plain hgd fun K hK'=>?_
 unfold Oper.wpIn;refine ⟨?_,?_⟩
 ·simp[Oper.about,ho]
 ·rw [Oper.semAt_plain F _ _ (by rw[ho];intro c hc';cases hc')]
  simp only[execOp,ho,hx,hy,run_storeAt_mid w b 0 41 (spotC d').toArray hb.there infoSpot4 (all_oneCell_toArray (cs:=spotC d') (spotC_one d')),Sem.run_bind,Sem.run_pure,Result.andThen_ok];exact hK' _ _ (h _ (hb.putSpot d') (only_setCells (spotC d') 0 w))
def told (l:List SpotD) (b:SpotD) (e:Int):List (SpotD×Int):=l.map (fun x=>(x,0))++(if e=0 then [] else [(b,e)])
theorem told_nil:told [] spotZ 0=[]:=rfl
theorem told_bad {b:SpotD} {e:Int} (h:e≠0):told [] b e=[(b,e)]:=by unfold told;rw[if_neg h];rfl
theorem told_cons (x:SpotD) (l:List SpotD) (b:SpotD) (e:Int):told (x::l) b e=(x,0)::told l b e:=rfl
theorem told_len (l:List SpotD) (b:SpotD) (e:Int):(told l b e).length≤l.length+1:=by
 unfold told;rw [List.length_append,List.length_map];split<;>simp
def DownT (s:SysD) (cu cg dir:Int) (nm:List UInt8) (l:List SpotD) (b:SpotD) (e:Int):Prop:=
 (firstE s cu cg dir nm≠0∧l=[]∧b=firstX s cu cg dir nm∧e=firstE s cu cg dir nm)∨(firstE s cu cg dir nm=0∧s.dead=false∧DownR s.t cu cg [firstX s cu cg dir nm] l b e)
theorem down_is {c:Nat} {s:SysD} (h:Tre c s.t) (k:Kids s.t) (cu cg dir:Int) (nm:List UInt8):∃l b e,DownT s cu cg dir nm l b e∧l.length≤1+entsN s.t:=by
 by_cases h0:firstE s cu cg dir nm=0
 ·have hd:s.dead=false:=by
   unfold firstE rdE at h0
   cases hd:s.dead
   ·rfl
   ·rw[if_pos hd]at h0;cases h0
  obtain ⟨l,b,e,hr⟩:=down_ends h k.up cu cg [firstX s cu cg dir nm];exact ⟨l,b,e,.inr ⟨h0,hd,hr⟩,down_len h k cu cg _ hr⟩
 ·exact⟨[],_,_,.inl ⟨h0,rfl,rfl,rfl⟩,Nat.zero_le _⟩
theorem in_alive {s:SysD} (hd:s.dead=false) (cu cg:Int) (x:SpotD):inE s cu cg x=intoE s.t cu cg x∧inL s cu cg x=intoL s.t cu cg x:=by
 unfold inE inL rdE rdL;rw [if_neg (by rw[hd];decide),if_neg (by rw[hd];decide)];exact ⟨rfl,rfl⟩
theorem intoL_len {c:Nat} {S:TreeD} (h:Tre c S) (cu cg:Int) (x:SpotD):(intoL S cu cg x).length≤c:=by
 unfold intoL;split
 ·rw[List.length_map,listF_len];exact (h.getN x.no).2
 ·exact Nat.zero_le _
theorem intoL_depth {S:TreeD} {cu cg:Int} {x y:SpotD} (h:y∈intoL S cu cg x):y.depth=x.depth+1:=by
 unfold intoL at h;split at h
 ·rw [List.mem_map]at h
  obtain ⟨z,_,rfl⟩:=h;rfl
 ·cases h
attribute [local go_sem] Oper.semAt_some
def CapD (W:World) (k b:Nat) (cu cg dir:Int) (nm:List UInt8):Prop:=
 Has W k (.cells #[.pointer (some ⟨b,0,none⟩)] 33)∧Has W (k+1) (.cells #[.int .i64 cu,.int .i64 cg] 27)∧Has W (k+2) (.cells #[.int .i64 dir] 3)∧Has W (k+3) (.cells #[.string (bs nm)] 9)
abbrev encD (x:SpotD×Int):Array Value:=#[.agg #[.int .i64 x.1.dir,.string (bs x.1.name),.int .i64 x.1.no,.int .i64 x.1.depth],.int .i64 x.2]
theorem OwnP.keep {w w':World} {base:Nat} {v:Value} {l:List SpotD} (h:OwnP w base v l) (hk:∀g,v.ownBlock=some g→w'.heap[g]?=w.heap[g]?):OwnP w' base v l:=by
 refine ⟨h.1,?_⟩;rcases h.2 with e|⟨g,cap,cur,rfl,hb,hg,h1,h2,h3,h4⟩
 ·exact .inl e
 ·exact .inr ⟨g,cap,cur,rfl,hb,(hk g rfl).trans hg,h1,h2,h3,h4⟩
theorem OwnP.ownB {w:World} {base g:Nat} {v:Value} {l:List SpotD} (h:OwnP w base v l) (hv:v.ownBlock=some g):OwnB w g:=by
 rcases h.2 with⟨rfl,_⟩|⟨g',cap,cur,rfl,hb,hg,_⟩
 ·cases hv
 ·injection hv with hv
  subst hv;exact OwnB.of hg (by decide) (by decide)
theorem down_seq {c : Nat} (F:Fence) (hF:F=Fence.wide) (n:Nat) (hn:1≤n) (B b:Nat) (g:GhW) (s:SysD) (hs:Sane c s) (hc:c≤900) (k:Nat) (cu cg dir:Int) (nm:List UInt8) (l:List SpotD) (b0:SpotD) (e0:Int)
  (hT:DownT s cu cg dir nm l b0 e0) (hlen:l.length≤1000) (w0:World) :
  SeqO F n Tryz.prog 86 #[.pointer (some ⟨k,0,none⟩),.pointer (some ⟨k+1,0,none⟩),.pointer (some ⟨k+2,0,none⟩),.pointer (some ⟨k+3,0,none⟩)] encD (fun xs=>xs=told l b0 e0) (fun pre=>pre <+: told l b0 e0)
   (fun pre x=>pre++[x] <+: told l b0 e0) (fun _ V=>PS V B b g s∧CapD V k b cu cg dir nm) w0:=by
 intro lp J Jx W _ hJ1 hJ2 hJx hY h0;have hro:F.round=none:=by rw[hF];rfl
 have hfn:F.fn 86:=by rw[hF];trivial
 have hf1:F.fn 87:=by rw[hF];trivial
 have hf2:F.fn 88:=by rw[hF];trivial
 have CF:∀(j:Nat) (u:World),PS u B b g s→CallsIn F j Tryz.prog 87 #[.pointer (some ⟨b,0,none⟩),.agg #[.int .i64 cu,.int .i64 cg],.int .i64 dir,.string (bs nm)] u (Ret u (.tuple #[.agg #[.int .i64 (firstX s cu cg dir nm).dir,.string (bs (firstX s cu cg dir nm).name),.int .i64 (firstX s cu cg dir nm).no,.int .i64 (firstX s cu cg dir nm).depth],.int .i64 (firstE s cu cg dir nm)])):=by
  rw [hF];exact fun j u hu=>callsIn_wide.2 (hu.first hs hc cu cg dir nm)
 have CI:Hid (∀(j:Nat) (u:World) (x:SpotD),0≤x.depth→x.depth≤1000000→PS u B b g s→CallsIn F j Tryz.prog 88 #[.pointer (some ⟨b,0,none⟩),.agg #[.int .i64 cu,.int .i64 cg],.agg #[.int .i64 x.dir,.string (bs x.name),.int .i64 x.no,.int .i64 x.depth]] u (IntoR u (inL s cu cg x) (inE s cu cg x))):=by
  show ∀_ _ _,_;rw [hF];exact fun j u x h1 h2 hu=>callsIn_wide.2 (hu.into hs hc cu cg x h1 h2)
 obtain ⟨L,hL⟩:∃L,L=told l b0 e0:=⟨_,rfl⟩;rw [←hL]at hY⊢;have hLl:L.length≤1001:=by rw[hL];have:=told_len l b0 e0;omega
 obtain ⟨X,hX⟩:∃X,X=firstX s cu cg dir nm:=⟨_,rfl⟩;obtain ⟨e1,he1⟩:∃e1,e1=firstE s cu cg dir nm:=⟨_,rfl⟩;have hXd:X.depth=0:=by rw[hX];rfl
 have hT':(e1≠0∧L=[(X,e1)])∨(e1=0∧s.dead=false∧DownR s.t cu cg [X] l b0 e0∧L=told l b0 e0):=by
  rw [hX,he1];rcases hT with⟨h1,h2,h3,h4⟩|⟨h1,h2,h3⟩
  ·exact .inl ⟨h1,by rw[hL,h2,h3,h4,told_bad h1]⟩
  ·exact .inr ⟨h1,h2,h3,hL⟩
 rw [←hX,←he1]at CF;have HS:=zH hs;have HT:=zH hT';have HXD:=zH hXd;have HJ1:=zH hJ1;have HJ2:=zH hJ2;have HJX:=zH hJx;have HY:=zH hY;clear hF hT hlen hX he1 hs hL hT' hXd;obtain ⟨⟨hP0,hC0⟩,_,_⟩:=hJ1 _ _ _ h0;have k0:=hC0.1.cell 0;have k1:=hC0.2.1.cell 0;have k2:=hC0.2.1.cell 1;have k3:=hC0.2.2.1.cell 0;have k4:=hC0.2.2.2.cell 0;have z0:=hC0.1.lt;have z1:=hC0.2.1.lt;have z2:=hC0.2.2.1.lt;have z3:=hC0.2.2.2.lt;have CF0:=zH (CF (n-1) W hP0);have H0:=zH h0;clear hJ1 hJ2 hJx hY h0 CF hP0 hC0;refine callsIn_of_wp Tryz.func86 rfl hfn ?_ hro;simp only[Tryz.ntmps86,List.size_toArray,List.length_cons,List.length_nil,Nat.reduceAdd,Nat.reduceSub,Array.replicate_succ,Array.replicate_zero,List.push_toArray,List.append_toArray,List.nil_append,List.cons_append];gi_wp2_with (gi_at_call 87;refine CF0.out.mono ?_;rintro e w1 ⟨rfl,b1⟩);obtain ⟨W2,hW2⟩:∃V,V=(w1.alloc (.cells #[.int .i64 X.dir,.string (bs X.name),.int .i64 X.no,.int .i64 X.depth] 41)).alloc (.cells #[.int .i64 X.dir,.string (bs X.name),.int .i64 X.no,.int .i64 X.depth] 41):=⟨_,rfl⟩;obtain ⟨bx,hbx⟩:∃b,b=w1.heap.size:=⟨_,rfl⟩;obtain ⟨br,hbr⟩:∃b,b=w1.heap.size+1:=⟨_,rfl⟩;have HX2:Has W2 bx (.cells (spotC X).toArray 41):=by rw[hW2,hbx];exact (Has.new w1 _).alloc _
 have HR2:Has W2 br (.cells (spotC X).toArray 41):=by rw[hW2,hbr];have:=Has.new (w1.alloc (.cells #[.int .i64 X.dir,.string (bs X.name),.int .i64 X.no,.int .i64 X.depth] 41)) (.cells #[.int .i64 X.dir,.string (bs X.name),.int .i64 X.no,.int .i64 X.depth] 41);rw[World.size_alloc]at this;exact this
 have E2:Ext W W2:=by rw[hW2];exact (b1.alloc _).alloc _
 have hbxw:W.heap.size≤bx:=by have:=b1.size;omega
 have hbrw:W.heap.size≤br:=by omega
 have hxr:bx≠br:=by omega
 have hJ2:J [bx,br] [] W2:=HJ2.out [] [] W [bx,br] W2 H0.out (Only.of_ext E2) (fun x hx=>by
   simp only[List.mem_cons,List.not_mem_nil,or_false]at hx;rcases hx with rfl|rfl
   ·exact .inr hbxw
   ·exact .inr hbrw) (fun x hx=>by
   simp only[List.mem_cons,List.not_mem_nil,or_false]at hx;rcases hx with rfl|rfl
   ·exact OwnB.of HX2 (by decide) (by decide)
   ·exact OwnB.of HR2 (by decide) (by decide))
 have hO2:OwnP W2 W.heap.size (.slice (some ⟨br,0,none⟩) 1 1) [X]:=⟨rfl,.inr ⟨br,1,_,rfl,hbrw,HR2,Nat.le_refl _,by decide,rfl,rfl⟩⟩;rw [←hW2,←hbr,←hbx];clear hW2 hbx hbr k0 k1 k2 k3 k4 z0 z1 z2 z3 b1 CF0 H0 E2;gi_loopg [7,8] (l.length+1) (fun m ve vt wr=>∃(e2:Int) (t:List SpotD) (x:SpotD) (O:List Nat) (pre:List (SpotD×Int)),ve=.int .i64 e2∧J O pre wr∧bx∈O∧Has wr bx (.cells (spotC x).toArray 41)∧OwnP wr W.heap.size vt t.reverse∧(∀g,vt.ownBlock=some g→g∈O∧g≠bx)∧t.length≤1+pre.length*1000∧(∀y∈t,0≤y.depth∧y.depth≤pre.length) ∧
  ((e2=0∧s.dead=false∧∃l1,DownR s.t cu cg t l1 b0 e0∧L=pre++told l1 b0 e0∧m=l1.length+1)∨(e2≠0∧L=pre++[(x,e2)])))
 case atStart =>
  refine ⟨e1,[X],X,_,[],rfl,hJ2,by simp,HX2,hO2,fun g hg=>?_,by simp,fun y hy=>?_,?_⟩
  ·injection hg with hg;subst hg;exact⟨by simp,Ne.symm hxr⟩
  ·rw[List.mem_singleton]at hy;subst hy;rw[HXD.out];simp
  ·rcases HT.out with⟨h1,h2⟩|⟨h1,h2,h3,h4⟩
   ·exact .inr ⟨h1,h2⟩
   ·exact .inl ⟨h1,h2,l,h3,h4,rfl⟩
 case round =>
  obtain ⟨e2,t,x,O,pre,rfl,hJ,hbO,hX,hO,hown,htl,hdep,hrest⟩:=hrel;clear hJ2 HX2 HR2 hO2 HT HXD;obtain ⟨A,cap,rfl,hcap1,hcap2,hat,hA0⟩:=hO.at_;rw [List.length_reverse]at hO hcap1⊢;have x0:=hX.cell 0;have x1:=hX.cell 1;have x2:=hX.cell 2;have x3:=hX.cell 3;have xz:=hX.lt;simp only[gA,gB,gC]at x0 x1 x2 x3
  by_cases he:e2=0
  case neg =>
   have t2:(e2 == 0)=false:=by simpa using he
   have t3:(e2 != 0)=true:=by simpa using he
   have hL:L=pre++[(x,e2)]:=by
    rcases hrest with⟨h1,_⟩|⟨_,h2⟩
    ·exact absurd h1 he
    ·exact h2
   have HL:=zH hL;obtain ⟨fn,tmps,assign,body,hy,hR⟩:=HY.out O pre (x,e2) wr hJ (by rw[hL];exact List.prefix_refl _)
   try dsimp only[encD]at hy
   clear he hrest hL hdep htl hown hO hat;gi_wp2;refine hR.mono ?_;rintro e W3 (⟨rfl,hJ3,hk3⟩|⟨rfl,hJx3⟩)
   ·gi_wp2
    go_end0;exact ⟨⟨_,rfl⟩,.inl ⟨_,_,HL.out.symm,hJ3⟩⟩
   ·gi_wp2
    go_end0;exact ⟨⟨_,rfl⟩,.inr ⟨_,by rw[HL.out];exact List.prefix_refl _,hJx3⟩⟩
  obtain ⟨_,hd,l1,hD,hL,hm⟩:e2=0∧s.dead=false∧∃l1,DownR s.t cu cg t l1 b0 e0∧L=pre++told l1 b0 e0∧gk=l1.length+1:=by
   rcases hrest with h1|⟨h1,_⟩
   ·exact h1
   ·exact absurd he h1
  subst he;clear hrest;obtain ⟨T,hTn⟩:∃T,T=t.length:=⟨_,rfl⟩;rw [←hTn]at hO hcap1 htl⊢
  cases t with
  | nil =>
   obtain rfl:T=0:=hTn;have hLp:L=pre:=by cases hD;rw[hL,told_nil,List.append_nil]
   have HL:=zH hLp;clear hD hL hLp hdep htl hown hO hat hm x0 x1 x2 x3 xz;gi_wp2;go_end0;exact ⟨⟨_,rfl⟩,.inl ⟨_,by rw[HL.out];exact hJ⟩⟩
  | cons x' t' =>
   obtain ⟨T',hT'⟩:∃T',T'=t'.length:=⟨_,rfl⟩;obtain rfl:T=T'+1:=by rw[hTn,hT'];rfl
   clear hTn hat x0 x1 x2 x3 xz;rw [List.reverse_cons]at hO;have hlr:(t'.reverse++[x']).length=T'+1:=by rw[List.length_append,List.length_reverse,hT'];rfl
   rw [←hlr]at hO;have hO0:=hO;obtain ⟨gr,rfl⟩:∃gr,A=some ⟨gr,0,none⟩:=by
    rcases hO.cases with⟨_,h2⟩|⟨gr,_,_,h2,_⟩
    ·simp at h2
    ·injection h2 with h2;exact⟨gr,h2⟩
   have hgrO:=hown gr rfl;have hpl:pre.length≤1000:=by
    have:=congrArg List.length hL;rw [List.length_append]at this;have h1:1≤(told l1 b0 e0).length:=by
     cases hD with
     | bad h=>rw[told_bad h];simp
     | step _ _=>rw[told_cons];simp
    omega
   have hdx:=hdep x' (List.mem_cons_self ..);obtain ⟨_,_,cur,hv,hgr0,hgr1,_,_,hcell⟩:∃g cap' cur,Value.slice (some ⟨gr,0,none⟩) (t'.reverse++[x']).length cap=.slice (some ⟨g,0,none⟩) (t'.reverse++[x']).length cap'∧W.heap.size≤g∧Has wr g (.cells cur 41)∧(t'.reverse++[x']).length≤cap'∧cap'≤maxLen∧∀k,(h:k<(t'.reverse++[x']).length)→∀j,j<4→wr.cell? ⟨g,k*4+j,none⟩=(spotC (t'.reverse++[x'])[k])[j]?:=by
    rcases hO.cases with⟨h1,_⟩|h2
    ·cases h1
    ·exact h2
   injection hv with hv1 _ hv3;injection hv1 with hv1;injection hv1 with hv1;subst hv1;subst hv3;have hlast:∀h,(t'.reverse++[x'])[T']'h=x':=fun h=>by
    rw [List.getElem_append_right (by rw[List.length_reverse,hT'];exact Nat.le_refl _)];simp [hT']
   have hq:∀j,j<4→wr.cell? ⟨gr,T'*4+j,none⟩=(spotC x')[j]?:=fun j hj=>(hcell T' (by rw[hlr];omega) j hj).trans (by rw[hlast])
   have q0:wr.cell? ⟨gr,T'*4,none⟩=some (.int .i64 x'.dir):=hq 0 (by decide);have q1:wr.cell? ⟨gr,T'*4+1,none⟩=some (.string (bs x'.name)):=hq 1 (by decide);have q2:wr.cell? ⟨gr,T'*4+2,none⟩=some (.int .i64 x'.no):=hq 2 (by decide);have q3:wr.cell? ⟨gr,T'*4+3,none⟩=some (.int .i64 x'.depth):=hq 3 (by decide);have qz:=hgr1.lt;have hTc:T'+1≤cap:=hcap1;have w1w:IntKind.i64.wrap (T':Int)=(T':Int):=IntWalk.i64_in _ (by omega);have w2w:IntKind.i64.wrap ((T':Int)+1-1)=(T':Int):=by rw[IntWalk.i64_in _ (by omega)];omega
   have p0:(0:Int)≤(T':Int):=Int.natCast_nonneg _;have hbx':bx<wr.heap.size:=hX.lt;have hOB:∀y∈O,OwnB wr y:=fun y hy=>((HJ1.out _ _ _ hJ).2.2 y hy).2
   have KS:Hid (∀w9,Has w9 bx (.cells (spotC x').toArray 41)→Only [bx] wr w9→(J O pre w9∧PS w9 B b g s∧w9.cell? ⟨k,0,none⟩=some (.pointer (some ⟨b,0,none⟩))∧w9.cell? ⟨k+1,0,none⟩=some (.int .i64 cu)∧w9.cell? ⟨k+1,1,none⟩=some (.int .i64 cg)∧k<w9.heap.size∧k+1<w9.heap.size ∧
     w9.cell? ⟨bx,0,none⟩=some (.int .i64 x'.dir)∧w9.cell? ⟨bx,1,none⟩=some (.string (bs x'.name))∧w9.cell? ⟨bx,2,none⟩=some (.int .i64 x'.no)∧w9.cell? ⟨bx,3,none⟩=some (.int .i64 x'.depth)∧bx<w9.heap.size)):=by
    show ∀w9,_;intro w9 R9 O9;have hJ9:=HJ2.out O pre wr O w9 hJ (O9.mono (by intro y hy;rw[List.mem_singleton]at hy;subst hy;exact hbO)) (fun y hy=>.inl hy) (fun y hy=>(hOB y hy).only O9 (fun z hz=>by rw[List.mem_singleton]at hz;subst hz;exact OwnB.of R9 (by decide) (by decide)));obtain ⟨⟨P9,C9⟩,_⟩:=HJ1.out _ _ _ hJ9;exact ⟨hJ9,P9,C9.1.cell 0,C9.2.1.cell 0,C9.2.1.cell 1,C9.1.lt,C9.2.1.lt,R9.cell 0,R9.cell 1,R9.cell 2,R9.cell 3,R9.lt⟩
   have CIx:=zH (fun (j:Nat) (u:World) (hu:PS u B b g s)=>CI.out j u x' hdx.1 (by omega) hu);have hin:=in_alive hd cu cg x';obtain ⟨e3,he3⟩:∃e,e=inE s cu cg x':=⟨_,rfl⟩;obtain ⟨l4,hl4⟩:∃e,e=inL s cu cg x':=⟨_,rfl⟩;rw [←he3,←hl4]at CIx hin;have HIN:=zH hin;have HD:=zH hD;have HL:=zH hL;have HM:=zH hm;have HDEP:=zH hdep;have HO0:=zH hO0;have HOWN:=zH hown;have HT':=zH hT';have HXX:=zH hX;clear hin he3 hl4 hD hL hm hdep hO hO0 hq hcell hlast hlr hcap1 hown hT' CI
   by_cases h3:e3=0
   case neg =>
    have t3:(e3 != 0)=true:=by simpa using h3
    have hLb:Hid (L=pre++[(x',e3)]):=by
     show _=_;have hne:intoE s.t cu cg x'≠0:=by rw[←HIN.out.1];exact h3
     have hd2:=HD.out
     cases hd2 with
     | bad h=>rw[HL.out,told_bad h,HIN.out.1]
     | step h _=>exact absurd h hne
    clear h3;gi_wp2_with (first|(refine wpListIn_store_spot rfl _ _ rfl bx x x' rfl rfl HXX.out ?_;intro w9 R9 O9;obtain⟨hJ9,P9,k0,k1,k2,z0,z1,y0,y1,y2,y3,yz⟩:=KS.out w9 R9 O9)|(gi_at_call 88;refine (CIx.out _ w9 P9).mono ?_;rintro e w4 ⟨v4,rfl,hO4,b4⟩;have u0:w4.cell? ⟨bx,0,none⟩=some (.int .i64 x'.dir):=(b4.cell yz).trans y0;have u1:w4.cell? ⟨bx,1,none⟩=some (.string (bs x'.name)):=(b4.cell yz).trans y1;have u2:w4.cell? ⟨bx,2,none⟩=some (.int .i64 x'.no):=(b4.cell yz).trans y2;have u3:w4.cell? ⟨bx,3,none⟩=some (.int .i64 x'.depth):=(b4.cell yz).trans y3;have uz:bx<w4.heap.size:=(by have:=b4.size;omega);have hJ4:=HJ2.out O pre w9 O w4 hJ9 (Only.of_ext b4) (fun y hy=>.inl hy) (fun y hy=>((HJ1.out _ _ _ hJ9).2.2 y hy).2.ext b4);obtain⟨fn,tmps,assign,body,hy,hR⟩:=HY.out O pre (x',e3) w4 hJ4 (by rw[hLb.out];exact List.prefix_refl _);try dsimp only[encD]at hy));refine hR.mono ?_;rintro e W3 (⟨rfl,hJ3,hk3⟩|⟨rfl,hJx3⟩)
    ·gi_wp2
     go_end0;exact ⟨⟨_,rfl⟩,.inl ⟨_,_,hLb.out.symm,hJ3⟩⟩
    ·gi_wp2
     go_end0;exact ⟨⟨_,rfl⟩,.inr ⟨_,by rw[hLb.out];exact List.prefix_refl _,hJx3⟩⟩
   have t3:(e3 != 0)=false:=by simpa using h3
   obtain ⟨l2,hL2⟩:∃l2,l1=x'::l2∧DownR s.t cu cg (l4++t') l2 b0 e0:=by
    have h0:intoE s.t cu cg x'=0:=by rw[←HIN.out.1];exact h3
    have hd2:=HD.out;rw [HIN.out.2]
    cases hd2 with
    | bad h=>exact absurd h0 h
    | step _ hd3=>exact⟨_,rfl,hd3⟩
   have HL2:=zH hL2;have HLb:Hid (L=(pre++[(x',0)])++told l2 b0 e0):=by show _=_;rw[HL.out,hL2.1,told_cons,List.append_assoc];rfl
   have hl4:Hid (l4.length≤900∧∀y∈l4,y.depth=x'.depth+1):=by
    show _∧_;rw [HIN.out.2];exact ⟨Nat.le_trans (intoL_len HS.out.tre cu cg x') hc,fun y hy=>intoL_depth hy⟩
   have hE3:=zH h3;clear h3 hL2;gi_wp2_with (first|(refine wpListIn_store_spot rfl _ _ rfl bx x x' rfl rfl HXX.out ?_;intro w9 R9 O9;obtain⟨hJ9,P9,k0,k1,k2,z0,z1,y0,y1,y2,y3,yz⟩:=KS.out w9 R9 O9)|(gi_at_call 88;refine (CIx.out _ w9 P9).mono ?_;rintro e w4 ⟨v4,rfl,hO4,b4⟩;have u0:w4.cell? ⟨bx,0,none⟩=some (.int .i64 x'.dir):=(b4.cell yz).trans y0;have u1:w4.cell? ⟨bx,1,none⟩=some (.string (bs x'.name)):=(b4.cell yz).trans y1;have u2:w4.cell? ⟨bx,2,none⟩=some (.int .i64 x'.no):=(b4.cell yz).trans y2;have u3:w4.cell? ⟨bx,3,none⟩=some (.int .i64 x'.depth):=(b4.cell yz).trans y3;have uz:bx<w4.heap.size:=(by have:=b4.size;omega);have hJ4:=HJ2.out O pre w9 (O++v4.ownBlock.toList) w4 hJ9 (Only.of_ext b4) (fun y hy=>(List.mem_append.1 hy).imp id (fun hm=>(hO4.lt (Option.mem_toList.1 hm)).1)) (fun y hy=>(List.mem_append.1 hy).elim (fun hm=>((HJ1.out _ _ _ hJ9).2.2 y hm).2.ext b4) (fun hm=>hO4.ownB (Option.mem_toList.1 hm)));obtain⟨fn,tmps,assign,body,hy,hR⟩:=HY.out (O++v4.ownBlock.toList) pre (x',0) w4 hJ4 (by rw[HLb.out];exact List.prefix_append _ _);try dsimp only[encD]at hy));refine hR.mono ?_;rintro e W5 (⟨rfl,hJ5,hk5⟩|⟨rfl,hJx5⟩)
   ·have X4 := R9.ext b4
    have X5:Has W5 bx (.cells (spotC x').toArray 41):=(hk5 bx (List.mem_append_left _ hbO)).trans X4;have T5:OwnP W5 W.heap.size (.slice (some ⟨gr,0,none⟩) t'.reverse.length cap) t'.reverse:=
     ((HO0.out.pop.only O9 (fun g hg=>by injection hg with hg;subst hg;simpa using hgrO.2)).ext b4).keep (fun g hg=>by injection hg with hg;subst hg;exact hk5 _ (List.mem_append_left _ hgrO.1))
    have L5:=hO4.keep (fun g hg=>hk5 g (List.mem_append_right _ (Option.mem_toList.2 hg)));have hv4g:∀g,v4.ownBlock=some g→w9.heap.size≤g:=fun g hg=>(hO4.lt hg).1
    have hgr9:gr<w9.heap.size:=Nat.lt_of_lt_of_le hgr1.lt O9.size;obtain ⟨O4,hO4d⟩:∃O4,O4=O++v4.ownBlock.toList:=⟨_,rfl⟩;have hbO4:bx∈O4:=by rw[hO4d];exact List.mem_append_left _ hbO
    have hgO4:gr∈O4:=by rw[hO4d];exact List.mem_append_left _ hgrO.1
    have hvO4:∀g,v4.ownBlock=some g→g∈O4:=fun g hg=>by rw[hO4d];exact List.mem_append_right _ (Option.mem_toList.2 hg)
    rw [←hO4d]at hJ5;obtain ⟨A4,c4,hv4,hc41,hc42,_,_⟩:=hO4.at_;obtain ⟨n4,hn4⟩:∃n4,n4=l4.length:=⟨_,rfl⟩;rw [←hn4]at hv4 hc41;have hl5:=hl4.out;rw [←hn4]at hl5;have HN4:=zH hn4;have HV4:=zH hv4;have HV4g:=zH hv4g;have HL5:=zH L5;have HT5:=zH T5;have HX5:=zH X5;have HJ5:=zH hJ5;have n41:=hl5.1;have wn:IntKind.i64.wrap ((n4:Int)-1)=(n4:Int)-1:=IntWalk.i64_in _ (by omega);have t'l:Hid (t'.reverse.length=T'):=by show _=_;rw[List.length_reverse];exact HT'.out.symm
    have p4:(0:Int)≤(n4:Int):=Int.natCast_nonneg _;clear hn4 hv4g hO4 T5 X5 X4 hJ5 L5 hO4d hy hR hJ4 hJ9 P9 k0 k1 k2 z0 z1 y0 y1 y2 y3 yz u0 u1 u2 u3 uz R9 hk5 hl5 q0 q1 q2 q3 qz KS;subst hv4;gi_wp2;gi_loopw [8,10] (fun vt vi wr2=>∃(p:Nat) (O2:List Nat),vi=.int .i64 ((p:Int)-1)∧p≤n4∧J O2 (pre++[(x',0)]) wr2∧bx∈O2∧(∀g,(Value.slice A4 n4 c4).ownBlock=some g→g∈O2)∧Has wr2 bx (.cells (spotC x').toArray 41)∧OwnP wr2 w9.heap.size (.slice A4 n4 c4) l4∧OwnP wr2 W.heap.size vt (t'.reverse++(l4.drop p).reverse)∧(∀g,vt.ownBlock=some g→g∈O2∧g≠bx∧(Value.slice A4 n4 c4).ownBlock≠some g)) (fun _ vi _=>(intOf vi+1).toNat)
    case atStart =>
     refine ⟨n4,O4,rfl,Nat.le_refl _,HJ5.out,hbO4,hvO4,HX5.out,HL5.out,?_,fun g hg=>?_⟩
     ·rw [show l4.drop n4=[] by rw[HN4.out,List.drop_length],List.reverse_nil,List.append_nil]
      have:=HT5.out;rw [t'l.out]at this;exact this
     ·injection hg with hg
      subst hg;exact ⟨hgO4,hgrO.2,fun e=>absurd (HV4g.out _ e) (Nat.not_le.2 hgr9)⟩
    case round =>
     obtain ⟨p,O2,hvi,hp,hJ6,hb6,hv6,hX6,hL6,hO6,hw6⟩:=hrel;rcases p with _|p
     ·have hvi':u10=.int .i64 (-1):=hvi
      subst hvi';have HJ6:=zH hJ6;have HX6:=zH hX6;have HO6:=zH hO6;have HW6:=zH hw6;clear hvi hJ6 hX6 hL6 hO6 hw6 hv6;gi_wp2;gi_roundg (l2.length+1)
      case measure=>rw[HM.out,HL2.out.1];simp
      case rel =>
       refine ⟨e3,l4++t',x',O2,pre++[(x',0)],rfl,HJ6.out,hb6,HX6.out,?_,fun g hg=>⟨(HW6.out g hg).1,(HW6.out g hg).2.1⟩,?_,fun y hy=>?_,.inl ⟨hE3.out,hd,l2,HL2.out.2,HLb.out,rfl⟩⟩
       ·have:=HO6.out
        rw [List.drop_zero]at this;rw [List.reverse_append];exact this
       ·have:=HN4.out
        have:=HT'.out;rw [List.length_append,List.length_append,List.length_singleton];omega
       ·rw [List.length_append,List.length_singleton]
        rcases List.mem_append.1 hy with hm|hm
        ·have:=hl4.out.2 y hm
         omega
        ·have:=HDEP.out y (List.mem_cons_of_mem _ hm)
         omega
     ·have hvi':u10=.int .i64 (p:Int):=by rw[hvi];simp
      subst hvi';have hpl:p<l4.length:=by have:=HN4.out;omega
      obtain ⟨gl,hA4⟩:∃gl,A4=some ⟨gl,0,none⟩:=by
       rcases hL6.cases with⟨_,h2⟩|⟨gl,_,_,h2,_⟩
       ·rw[h2]at hpl;simp at hpl
       ·injection h2 with h2;exact⟨gl,h2⟩
      subst hA4;obtain ⟨cell6,hgl⟩:(∀j,j<4→wr.cell? ⟨gl,p*4+j,none⟩=(spotC l4[p])[j]?)∧gl<wr.heap.size:=by
       rcases hL6.cases with⟨h1,_⟩|⟨gl',_,_,h2,_,h3,_,_,h4⟩
       ·cases h1
       ·injection h2 with h2
        injection h2 with h2;injection h2 with h2;subst h2;exact ⟨h4 p hpl,h3.lt⟩
      have hdr:Hid (t'.reverse++(l4.drop p).reverse=(t'.reverse++(l4.drop (p+1)).reverse)++[l4[p]]):=by
       show _=_;rw [List.drop_eq_getElem_cons hpl,List.reverse_cons,List.append_assoc]
      obtain ⟨y,hyd⟩:∃y,y=l4[p]:=⟨_,rfl⟩;rw [←hyd]at cell6 hdr;have q0:wr.cell? ⟨gl,p*4,none⟩=some (.int .i64 y.dir):=cell6 0 (by decide);have q1:wr.cell? ⟨gl,p*4+1,none⟩=some (.string (bs y.name)):=cell6 1 (by decide);have q2:wr.cell? ⟨gl,p*4+2,none⟩=some (.int .i64 y.no):=cell6 2 (by decide);have q3:wr.cell? ⟨gl,p*4+3,none⟩=some (.int .i64 y.depth):=cell6 3 (by decide);have r0:(0:Int)≤(p:Int):=Int.natCast_nonneg _;have r1:(p:Int)<(n4:Int):=by omega
      have r2:IntKind.i64.wrap ((p:Int)-1)=(p:Int)-1:=IntWalk.i64_in _ (by omega);have hln:(t'.reverse++(l4.drop (p+1)).reverse).length≤2000000:=by
       have:=HN4.out;have:=HT'.out;rw [List.length_append,List.length_reverse,List.length_reverse,List.length_drop];omega
      have hw6sz:W.heap.size≤wr.heap.size:=(HJ1.out _ _ _ hJ6).2.1;obtain ⟨v',w',hr,hO',hg,hblk⟩:=app_spot wr hO6 hw6sz y hln;have HR:=zH hr;have o6:Only u8.ownBlock.toList wr w':=(Only.allocN _ _ _).then (Only.of_grownBy hg (fun g hv=>Option.mem_toList.2 hv));have hB6:∀y∈O2,OwnB wr y:=fun y hy=>((HJ1.out _ _ _ hJ6).2.2 y hy).2
      have hlt6:∀y∈O2,y<wr.heap.size:=fun y hy=>(hB6 y hy).lt
      obtain ⟨O3,hO3⟩:∃O3,O3=(O2.filter fun y=>decide (y∉u8.ownBlock.toList))++v'.ownBlock.toList:=⟨_,rfl⟩;have mem3:∀y,y∈O3→(y∈O2∧y∉u8.ownBlock.toList)∨v'.ownBlock=some y:=fun y hy=>by
       rw [hO3]at hy;rcases List.mem_append.1 hy with hm|hm
       ·rw[List.mem_filter,decide_eq_true_eq]at hm;exact .inl hm
       ·exact .inr (Option.mem_toList.1 hm)
      have in3:∀y,y∈O2→u8.ownBlock≠some y→y∈O3:=fun y hy hn=>by
       rw [hO3];exact List.mem_append_left _ (List.mem_filter.2 ⟨hy,by rw[decide_eq_true_eq];exact fun hm=>hn (Option.mem_toList.1 hm)⟩)
      have hblk':∀g',v'.ownBlock=some g'→(u8.ownBlock=some g')∨g'=wr.heap.size+1:=fun g' hg'=>by
       rcases hblk with e|e
       ·rw[e]at hg';exact .inl hg'
       ·rw[e]at hg';injection hg' with hg';exact .inr hg'.symm
      have hJ7:J O3 (pre++[(x',0)]) w':=HJ2.out O2 _ wr _ w' hJ6 (o6.mono (fun y hy=>(hw6 y (Option.mem_toList.1 hy)).1)) (fun y hy=>by
        rcases mem3 y hy with hm|hm
        ·exact .inl hm.1
        ·rcases hblk' y hm with e|e
         ·exact .inl (hw6 y e).1
         ·exact .inr (by omega)) (fun y hy=>by
        rcases mem3 y hy with hm|hm
        ·exact (hB6 y hm.1).keep (o6.block y (hlt6 y hm.1) hm.2)
        ·exact hO'.ownB hm)
      have hX7:=o6.has hX6 (fun hm=>(hw6 bx (Option.mem_toList.1 hm)).2.1 rfl);have hL7:=hL6.only o6 (fun g hv hm=>(hw6 g (Option.mem_toList.1 hm)).2.2 hv);have hw7:∀g',v'.ownBlock=some g'→g'∈O3∧g'≠bx∧(Value.slice (some ⟨gl,0,none⟩) n4 c4).ownBlock≠some g':=fun g' hg'=>by
       refine ⟨by rw[hO3];exact List.mem_append_right _ (Option.mem_toList.2 hg'),?_,?_⟩
       ·rcases hblk' g' hg' with e|e
        ·exact (hw6 g' e).2.1
        ·have:=hlt6 bx hb6;omega
       ·rcases hblk' g' hg' with e|e
        ·exact (hw6 g' e).2.2
        ·intro e2
         have e3:some gl=some g':=e2;injection e3 with e3;omega
      have HJ7:=zH hJ7;have HX7:=zH hX7;have HL7:=zH hL7;have HO7:=zH hO';have HW7:=zH hw7;have HV6:=zH (fun g (hv:(Value.slice (some ⟨gl,0,none⟩) n4 c4).ownBlock=some g)=>in3 g (hv6 g hv) (fun e=>(hw6 g e).2.2 hv));have HB7:=zH (in3 bx hb6 (fun e=>(hw6 bx e).2.1 rfl));clear hvi hJ6 hX6 hL6 hO6 hw6 hv6 hr hO' hg hblk hblk' o6 hJ7 hX7 hL7 hw7 cell6 hyd hlt6 hB6 mem3 in3 hO3;gi_wp2_with (gi_at_builtin;refine wpListIn_append_run0 _ rfl _ _ 39 39 rfl _ _ rfl rfl _ _ HR.out ?_);go_roundw
      case rel=>exact⟨p,_,rfl,by omega,HJ7.out,HB7.out,HV6.out,HX7.out,HL7.out,by rw[hdr.out];exact HO7.out,HW7.out⟩
      case measure=>simp[intOf]
   ·gi_wp2
    refine bodyPost_ret (results_none rfl _ _ _) rfl ?_;exact ⟨⟨_,rfl⟩,.inr ⟨_,by rw[HLb.out];exact List.prefix_append _ _,hJx5⟩⟩
end Go.Proofs.YtpibnfdolojpcaaGreat
