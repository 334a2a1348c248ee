import Derived.Test.YtblbohcaphcobaaGreatDoorBunW
import Derived.Test.YtblbohcaphcobaaGreatDoorBunV
import Derived.Test.YtblbohcaphcobaaGreatDoorBunN
import Derived.Test.YtblbohcaphcobaaGreatDoorBunY
import Derived.Test.YtblbohcaphcobaaGreatDoorBunS
set_option maxHeartbeats 16000000
set_option maxRecDepth 100000
namespace Go.Proofs.YtblbohcaphcobaaGreatDoor
section
theorem xY {ns:List ai} {x:ai} {k:Int} (h:k≠x.no):aa (ns++[x]) k=aa ns k:=by
 unfold aa eY;rw [List.find?_append];have h2:[x].find? (fun n=>n.no == k)=none:=by
  rw [List.find?_cons];have:(x.no == k)=false:=by simpa using Ne.symm h
  rw [this];rfl
 rw [h2]
 cases ns.find? (fun n=>n.no == k)<;>rfl
theorem Nw {q:List ax} {x:ax} (h:∀y∈q,bl y.1 x.1=true):dk q x=q++[x]:=by
 unfold dk;have h1:iw q x.1=q:=filter_all h;have h2:i6 q x.1=[]:=filter_none fun y hy=>fA (h y hy)
 rw [h1,h2,List.append_nil]
section
variable {S:ac} {cu cg now:Int}
theorem QS (hu:aI S.nodes S.last) {dir:Int} {nm:List UInt8} {n:ai} (h:bL S cu cg now dir nm n=0) :
  (∀k,k≠dir->k≠S.last+1->aa (aX S cu cg now dir nm n).nodes k=aa S.nodes k)/\aa (aX S cu cg now dir nm n).nodes dir=cv S dir now (dk (aa S.nodes dir).ae (nm,S.last+1)) /\
  aa (aX S cu cg now dir nm n).nodes (S.last+1)={bA S cu cg now dir n with no:=S.last+1}/\(∀k,ak (aX S cu cg now dir nm n).af k=ak S.af k)/\(aX S cu cg now dir nm n).last=S.last+1/\(aX S cu cg now dir nm n).nodes.length=S.nodes.length+1/\dir<=S.last:=by
 obtain ⟨h1,h2,h3⟩:=gx h;obtain ⟨p1,p2,_⟩:=aR h1;obtain ⟨_,bc,hm⟩:=aj p1;have hd:dir<=S.last:=by have:=(hu.2 _ hm).2;rw[bc]at this;exact this
 have hT:aX S cu cg now dir nm n=cI (bj S (bA S cu cg now dir n)) dir now (dk (aa S.nodes dir).ae (nm,S.last+1)):=by unfold aX;rw[if_pos h]
 have hI:=(jw hu (bA S cu cg now dir n) p1).2;obtain ⟨Q,hM,hQ⟩:∃Q,bj S (bA S cu cg now dir n)=⟨S.nodes++[{bA S cu cg now dir n with no:=S.last+1}],Q,S.last+1⟩/\∀k,ak Q k=ak S.af k:=⟨_,by unfold bj;rw[if_pos h3],fun k=>YW _ _ _ _⟩;have hg:aa (S.nodes++[{bA S cu cg now dir n with no:=S.last+1}]) dir=aa S.nodes dir:=xY (by show dir≠S.last+1;omega);rw [hM]at hI;rw [hT,hM];obtain⟨l,hl⟩:=ar (dk (aa S.nodes dir).ae (nm,S.last+1));rw [<-hl];obtain ⟨ns,hns⟩:∃ns,ns=S.nodes++[{bA S cu cg now dir n with no:=S.last+1}]:=⟨_,rfl⟩;rw [<-hns]at hg hI|-;have ht:cv ⟨ns,Q,S.last+1⟩ dir now l=cv S dir now l:=by unfold cv;show {aa ns dir with ae:=l,mtime:=now,ctime:=now}=_;rw[hg]
 have hn:(cv S dir now l).no=dir:=bc;show (∀k,k≠dir->k≠S.last+1->aa (bn ns (cv ⟨ns,Q,S.last+1⟩ dir now l)) k=_)/\aa (bn ns (cv ⟨ns,Q,S.last+1⟩ dir now l)) dir=_/\aa (bn ns (cv ⟨ns,Q,S.last+1⟩ dir now l)) (S.last+1)=_/\(∀k,ak Q k=_)/\S.last+1=S.last+1/\(bn ns (cv ⟨ns,Q,S.last+1⟩ dir now l)).length=_/\_;rw [ht];refine ⟨fun k k1 k2=>?_,?_,?_,hQ,rfl,?_,hd⟩
 ·rw [gp ns _ (by rw[hn];exact k1),hns]
  exact xY k2
 ·have:=kY ns (cv S dir now l) (by rw[hn];exact hI)
  rw [hn]at this;exact this
 ·rw [gp ns _ (by rw[hn];omega),hns]
  exact (qJ hu _ rfl).1
 ·unfold bn;rw[List.length_map,hns,List.length_append];rfl
theorem QT {no dir:Int} {nm:List UInt8} (h:eP S cu cg no dir nm=0) :
  no≠dir/\(∀k,k≠dir->k≠no->aa (dW S cu cg now no dir nm).nodes k=aa S.nodes k)/\aa (dW S cu cg now no dir nm).nodes dir=cv S dir now (dk (aa S.nodes dir).ae (nm,no)) /\
  aa (dW S cu cg now no dir nm).nodes no=bH S now no/\(dW S cu cg now no dir nm).af=S.af/\(dW S cu cg now no dir nm).last=S.last/\(dW S cu cg now no dir nm).nodes.length=S.nodes.length:=by
 obtain ⟨hp,hi,hk,_⟩:=ii h;obtain ⟨hid,oL,_⟩:=aR hp;obtain ⟨_,bc,_⟩:=aj hi;obtain ⟨_,hdo,_⟩:=aj hid;have hne:no≠dir:=fun e=>by subst e;exact hk oL
 have hT:dW S cu cg now no dir nm=cI (aK S (bH S now no)) dir now (dk (aa S.nodes dir).ae (nm,no)):=by unfold dW;rw[if_pos h]
 obtain⟨l,hl⟩:=ar (dk (aa S.nodes dir).ae (nm,no));have e0:(bH S now no).no=no:=bc;have g1:aa (bn S.nodes (bH S now no)) dir=aa S.nodes dir:=gp _ _ (by rw[e0];exact Ne.symm hne);have g2:aQ (bn S.nodes (bH S now no)) dir=aQ S.nodes dir:=(jH (S:=S) (by rw[e0];exact Ne.symm hne)).2;have ht:cv (aK S (bH S now no)) dir now l=cv S dir now l:=by unfold cv;show {aa (bn S.nodes (bH S now no)) dir with ae:=l,mtime:=now,ctime:=now}=_;rw[g1]
 have hn:(cv S dir now l).no=dir:=hdo;rw [hT,<-hl];show no≠dir/\(∀k,k≠dir->k≠no->aa (bn (bn S.nodes (bH S now no)) (cv (aK S (bH S now no)) dir now l)) k=_)/\aa (bn (bn S.nodes (bH S now no)) (cv (aK S (bH S now no)) dir now l)) dir=_/\aa (bn (bn S.nodes (bH S now no)) (cv (aK S (bH S now no)) dir now l)) no=_/\S.af=S.af/\S.last=S.last/\(bn (bn S.nodes (bH S now no)) (cv (aK S (bH S now no)) dir now l)).length=_;rw [ht];refine ⟨hne,fun k k1 k2=>?_,?_,?_,rfl,rfl,?_⟩
 ·rw[gp _ _ (by rw[hn];exact k1),gp _ _ (by rw[e0];exact k2)]
 ·have:=kY (bn S.nodes (bH S now no)) (cv S dir now l) (by rw[hn,g2];exact hid)
  rw [hn]at this;exact this
 ·rw [gp _ _ (by rw[hn];exact hne)]
  have:=kY S.nodes (bH S now no) (by rw[e0];exact hi);rw [e0]at this;exact this
 ·unfold bn;rw[List.length_map,List.length_map]
end
structure At (T T':ac) (no:Int) (n:ai):Prop where
 off:∀k,k≠no->aa T'.nodes k=aa T.nodes k
 here:aa T'.nodes no=n
 af:T'.af=T.af
 last:T'.last=T.last
 len:T'.nodes.length=T.nodes.length
theorem At.set {T:ac} {no:Int} {n:ai} (hi:aQ T.nodes no=true) (hn:n.no=no):At T (aK T n) no n:=
 ⟨fun k hk=>gp _ _ (by rw[hn];exact hk),by subst hn;exact kY _ _ hi,rfl,rfl,by show (bn T.nodes n).length=_;unfold bn;rw[List.length_map]⟩
theorem At.then {T T' T2:ac} {no:Int} {n n2:ai} (h:At T T' no n) (k:At T' T2 no n2):At T T2 no n2:=
 ⟨fun i hi=>(k.off i hi).trans (h.off i hi),k.here,k.af.trans h.af,k.last.trans h.last,k.len.trans h.len⟩
theorem U4 {T:ac} {cu now no u g:Int} (h:fu T cu no u g=0):At T (ey T cu now no u g) no {aa T.nodes no with uid:=u,gid:=g,ctime:=now}:=by
 have hT:ey T cu now no u g=aK T {aa T.nodes no with uid:=u,gid:=g,ctime:=now}:=by unfold ey;rw[if_pos h]
 unfold fu at h;split at h
 ·rename_i h1;exact absurd h h1
 ·rename_i h1
  have hi:=fM (Decidable.not_not.1 h1);rw [hT];exact At.set hi (aj hi).2.1
theorem QU {T:ac} {cu now no m:Int} (h:eJ T cu no m=0):At T (d_ T cu now no m) no {aa T.nodes no with mode:=m,ctime:=now}:=by
 have hT:d_ T cu now no m=aK T {aa T.nodes no with mode:=m,ctime:=now}:=by unfold d_;rw[if_pos h]
 unfold eJ at h;split at h
 ·rename_i h1;exact absurd h h1
 ·rename_i h1
  have hi:=fM (Decidable.not_not.1 h1);rw [hT];exact At.set hi (aj hi).2.1
theorem FO {T:ac} {cu now no m:Int} (h:fw T cu no m=0):At T (ee T cu now no m) no {aa T.nodes no with mtime:=m,ctime:=now}:=by
 have hT:ee T cu now no m=aK T {aa T.nodes no with mtime:=m,ctime:=now}:=by unfold ee;rw[if_pos h]
 unfold fw at h;split at h
 ·rename_i h1;exact absurd h h1
 ·rename_i h1
  have hi:=fM (Decidable.not_not.1 h1);rw [hT];exact At.set hi (aj hi).2.1
theorem oa {s:aA} {cu cg:Int} {x:jn} (h:kF s cu cg x=0):fE s.t cu cg s.now x=0/\(jU s cu cg x).t=cF s.t cu cg s.now x/\o_ s cu cg x=jT s.t cu cg s.now x:=by
 obtain ⟨h0,_⟩:=iQ h;exact ⟨by unfold kF at h;rw[if_neg (fun k=>k h0)]at h;exact h,by unfold jU;rw[if_neg (fun k=>k h0)],by unfold o_;rw[if_neg (fun k=>k h0)]⟩
theorem oc {cu cg:Int} {s:aA} {x:jn} {l:List jn} (h:(eV cu cg s (x::l)).2=0):kF s cu cg x=0/\eV cu cg s (x::l)=eV cu cg (jU s cu cg x) l:=by
 by_cases h0:kF s cu cg x=0
 ·exact⟨h0,qu h0⟩
 ·rw[nH h0]at h;exact absurd h h0
theorem Nx {s:aA} {no:Int} {m:ai} (h:(eV 0 0 s (lV true 0 0 no m)).2=0) (h0:m.uid=0->m.gid=0->(aa s.t.nodes no).uid=0/\(aa s.t.nodes no).gid=0) :
  ∃ n,At s.t (eV 0 0 s (lV true 0 0 no m)).1.t no n/\n.no=(aa s.t.nodes no).no/\n.kind=(aa s.t.nodes no).kind/\n.data=(aa s.t.nodes no).data/\n.ae=(aa s.t.nodes no).ae/\n.uid=m.uid/\n.gid=m.gid/\n.mtime=m.mtime/\n.mode=if m.kind=1 then m.mode else (aa s.t.nodes no).mode:=by
 obtain⟨a,ha⟩:=ar (aa s.t.nodes no);rw [<-ha]at h0|-;obtain ⟨s1,n1,hs1,e1,b1,b2,b3,b4,b5,b6,b7⟩:∃s1 n1,(s1.t=s.t/\n1=a\/At s.t s1.t no n1)/\eV 0 0 s (lV true 0 0 no m)=eV 0 0 s1 (Fy no m++[.dp no m.mtime])/\n1.no=a.no/\n1.kind=a.kind/\n1.data=a.data/\n1.ae=a.ae/\n1.uid=m.uid/\n1.gid=m.gid/\n1.mode=a.mode:=by
  by_cases hc:m.uid≠0\/m.gid≠0
  ·have hd:lV true 0 0 no m=.cU no m.uid m.gid::(Fy no m++[.dp no m.mtime]):=by unfold lV Qu;rw[if_pos ⟨rfl,rfl,hc⟩];rfl
   rw [hd]at h|-;obtain ⟨k1,k2⟩:=oc h;obtain ⟨k3,k4,_⟩:=oa k1;have k5:=U4 (now:=s.now) (show fu s.t 0 no m.uid m.gid=0 from k3);rw [<-show (jU s 0 0 (.cU no m.uid m.gid)).t=ey s.t 0 s.now no m.uid m.gid from k4]at k5;rw [<-ha]at k5;exact ⟨_,_,.inr k5,k2,rfl,rfl,rfl,rfl,rfl,rfl,rfl⟩
  ·have hu:m.uid=0:=Decidable.byContradiction fun k=>hc (.inl k)
   have hg:m.gid=0:=Decidable.byContradiction fun k=>hc (.inr k)
   have hd:lV true 0 0 no m=Fy no m++[.dp no m.mtime]:=by unfold lV Qu;rw[if_neg (fun k=>hc k.2.2)];rfl
   rw [hd];exact ⟨s,a,.inl ⟨rfl,rfl⟩,rfl,rfl,rfl,rfl,rfl,by rw[hu];exact (h0 hu hg).1,by rw[hg];exact (h0 hu hg).2,rfl⟩
 rw [e1]at h|-;have a1:aa s1.t.nodes no=n1:=by
  rcases hs1 with⟨k,k2⟩|k
  ·rw[k,k2,ha]
  ·exact k.here
 have join:∀{T2:ac} {n2:ai},At s1.t T2 no n2->At s.t T2 no n2:=fun {T2 n2} k=>by
  rcases hs1 with⟨q,_⟩|q
  ·rw[q]at k;exact k
  ·exact q.then k
 by_cases hk:m.kind=1
 ·have hd:Fy no m++[.dp no m.mtime]=[.dn no m.mode,.dp no m.mtime]:=by unfold Fy;rw[if_pos hk];rfl
  rw [hd]at h|-;obtain ⟨k1,k2⟩:=oc h;rw [k2]at h|-;obtain ⟨k3,k4,_⟩:=oa k1;obtain ⟨j1,j2⟩:=oc h;rw [j2];obtain ⟨j3,j4,_⟩:=oa j1;have q1:=QU (now:=s1.now) (show eJ s1.t 0 no m.mode=0 from k3);rw [<-show (jU s1 0 0 (.dn no m.mode)).t=d_ s1.t 0 s1.now no m.mode from k4]at q1;obtain⟨s2,hs2⟩:=ar (jU s1 0 0 (.dn no m.mode));rw [<-hs2]at q1 j3 j4|-;have q2:=FO (now:=s2.now) (show fw s2.t 0 no m.mtime=0 from j3);rw [<-show (jU s2 0 0 (.dp no m.mtime)).t=ee s2.t 0 s2.now no m.mtime from j4]at q2;rw [q1.here,a1]at q2;exact ⟨_,join (q1.then q2),b1,b2,b3,b4,b5,b6,rfl,by rw[if_pos hk]⟩
 ·have hd:Fy no m++[.dp no m.mtime]=[.dp no m.mtime]:=by unfold Fy;rw[if_neg hk];rfl
  rw [hd]at h|-;obtain ⟨k1,k2⟩:=oc h;rw [k2];obtain ⟨k3,k4,_⟩:=oa k1;have q1:=FO (now:=s1.now) (show fw s1.t 0 no m.mtime=0 from k3);rw [<-show (jU s1 0 0 (.dp no m.mtime)).t=ee s1.t 0 s1.now no m.mtime from k4]at q1;rw [a1]at q1;exact ⟨_,join q1,b1,b2,b3,b4,b5,b6,rfl,by rw[if_neg hk];exact b7⟩
end
section
theorem Cm {c:Nat} {S:ac} (h:dI c S) {cu cg:Int} {x:aq} (hx:(aa S.nodes x.no).kind=1) {z:ax} (hz:z∈(aa S.nodes x.no).ae) (hy:ez S cu cg (ik x (z.1,ak S.af z.2))=0):ak S.af z.2=z.2:=by
 obtain ⟨ix,nx,mx⟩:=bh hx;have i3':(aa S.nodes (ak S.af z.2)).dev=(aa S.nodes x.no).dev:=(kH hy).2.2.1;obtain ⟨k1,k2,k3⟩:=h.zB _ mx z hz;have hp:=h.pos _ mx z hz;rcases fG h.nt (show 0<z.2 by omega) with e|⟨j,hj,e1,e2⟩
 ·exact e
 ·exfalso
  obtain ⟨q,hq,q1,q2,q3,q4⟩:=h.kZ j hj;obtain ⟨r,hr,r1,r2,r3⟩:=h.fc (j+1) hj;have gr:=(dy h.aC hr).1;rw [r1]at gr;rw [e2,gr,r3]at i3';have:=k3 q hq (by rw[q1,e1]);rw [nx]at *;omega
def Zz (n n':ai) (M:List (Int×Int)) (t:List aq) (k:Int):Prop:=
 n'.no=ap M k/\n'.kind=n.kind/\n'.data=n.data/\(n.kind≠1->n'.mode=n.mode/\n'.uid=n.uid/\n'.gid=n.gid/\n'.mtime=n.mtime/\n'.ae=[]) /\
 (n.kind=1->n'.uid=0/\n'.gid=0/\∃d:List ax,n.ae=d++(t.filter fun y=>y.dir == k).map (fun y=>(y.name,y.no))/\n'.ae=d.map (fun e=>(e.1,ap M e.2))/\∀e∈d,ap M e.2≠0)
structure FP (S:ac) (aY:Int) (b:List UInt8) (k0:Int) (M:List (Int×Int)) (late:List ai) (T:ac) (t:List aq):Prop where
 old:∀k,k<=S.last->k≠aY->aa T.nodes k=aa S.nodes k
 over:∀k,ak T.af k=ak S.af k
 last:S.last<=T.last
 len:S.nodes.length<T.nodes.length
 top:aO (aa T.nodes aY).ae b=S.last+1
 made:∀k,ap M k≠0->S.last<ap M k/\ap M k<=T.last/\k<=S.last/\k≠aY/\ak S.af k=k/\aQ S.nodes k=true/\Zz (aa S.nodes k) (aa T.nodes (ap M k)) M t k
 inj:∀k k2,ap M k≠0->ap M k2=ap M k->k2=k
 todo:∀y∈t,ap M y.dir≠0/\(aa S.nodes y.dir).kind=1/\ak S.af y.no=y.no
 Sh:∀m∈late,ap M m.no≠0/\m=aa S.nodes m.no/\m.kind=1
 Si:∀k,ap M k≠0->(aa S.nodes k).kind=1->aa S.nodes k∈late
 fst:ap M k0=S.last+1
section
variable {S:ac} {aY k0:Int} {b:List UInt8} {c:Nat}
theorem lY {cu cg:Int} {x y:aq} (h:y∈dB S cu cg x):y.dir=x.no/\im S cu cg x:=by
 by_cases hx:im S cu cg x
 ·rw [gO hx,List.mem_map]at h
  obtain ⟨z,_,rfl⟩:=h;exact ⟨rfl,hx⟩
 ·rw[nV hx]at h;cases h
theorem qA (hS:dI c S) {x:aq} (hx:im S 0 0 x) (hk:∀y∈dB S 0 0 x,ez S 0 0 y=0):(dB S 0 0 x).map (fun y=>(y.name,y.no))=(aa S.nodes x.no).ae/\∀y∈dB S 0 0 x,ak S.af y.no=y.no:=by
 have hr:∀z∈(aa S.nodes x.no).ae,ak S.af z.2=z.2:=fun z hz=>Cm hS hx.2 hz (hk _ (by
  rw [gO hx];exact List.mem_map.2 ⟨_,List.mem_map.2 ⟨z,hz,rfl⟩,rfl⟩))
 rw [gO hx];unfold dm;refine ⟨?_,fun y hy=>?_⟩
 ·rw [List.map_map,List.map_map]
  conv=>{rhs;rw[<-List.map_id (aa S.nodes x.no).ae]}
  refine List.map_congr_left fun z hz=>?_
  show (z.1,ak S.af z.2)=z;rw [hr z hz]
 ·rw [List.map_map,List.mem_map]at hy
  obtain ⟨z,hz,rfl⟩:=hy;show ak S.af (ak S.af z.2)=ak S.af z.2;rw [hr z hz,hr z hz]
theorem FP.step {M:List (Int×Int)} {late:List ai} {T:ac} {x:aq} {t:List aq} (hS:dI c S) (IK:aY<=S.last) (h:FP S aY b k0 M late T (x::t)) (hx:ez S 0 0 x=0) (U5:x.no≠aY) (Cn:∀y∈dB S 0 0 x,ez S 0 0 y=0)
  {M':List (Int×Int)} {FQ:List ai} {T':ac} {N now:Int} (hM:∀k,ap M' k=if k=x.no then N else ap M k) (Ul:S.last<N) (zC:N<=T'.last) (_hNd:N≠ap M x.dir) (hNi:∀k,ap M k=N->k=x.no) (hMx:ap M x.no≠0->ap M x.no=N)
  (off:∀k,k≠ap M x.dir->k≠N->aa T'.nodes k=aa T.nodes k) (hd:aa T'.nodes (ap M x.dir)=cv T (ap M x.dir) now (dk (aa T.nodes (ap M x.dir)).ae (x.name,N)))
  (hn:(aa T'.nodes N).no=N/\(aa T'.nodes N).kind=(aa S.nodes x.no).kind/\(aa T'.nodes N).data=(aa S.nodes x.no).data/\(aa T'.nodes N).ae=[]/\((aa S.nodes x.no).kind≠1->(aa T'.nodes N).mode=(aa S.nodes x.no).mode/\(aa T'.nodes N).uid=(aa S.nodes x.no).uid/\(aa T'.nodes N).gid=(aa S.nodes x.no).gid/\(aa T'.nodes N).mtime=(aa S.nodes x.no).mtime)/\((aa S.nodes x.no).kind=1->(aa T'.nodes N).uid=0/\(aa T'.nodes N).gid=0))
  (Nf:(aa S.nodes x.no).kind=1->ap M x.no=0) (ZA:∀k,ak T'.af k=ak T.af k) (ZB:T.last<=T'.last) (len':T.nodes.length<=T'.nodes.length)
  (ZC:∀m∈FQ,m∈late\/m=aa S.nodes x.no/\m.kind=1) (ZE:∀m∈late,m∈FQ) (ZF:(aa S.nodes x.no).kind=1->aa S.nodes x.no∈FQ) :
  FP S aY b k0 M' FQ T' (dB S 0 0 x++t):=by
 obtain ⟨td1,td2,td3⟩:=h.todo x (List.mem_cons_self ..);obtain ⟨a1,a2,a3,a4,a5,a6,aN⟩:=h.made x.dir td1;have ix:=(kH hx).1;obtain ⟨_,U6,xm⟩:=aj ix;have ZG:x.no<=S.last:=by have:=(hS.aC.2 _ xm).2;rw[U6]at this;exact this
 have g_:=hS.last;have LR:∀k,ap M k≠0->ap M' k=ap M k:=fun k hk=>by
  rw [hM]
  by_cases e:k=x.no
  ·subst e;rw[if_pos rfl];exact (hMx hk).symm
  ·rw[if_neg e]
 have IM:ap M' x.no=N:=by rw[hM,if_pos rfl]
 have ZH:∀k,k<=S.last->aa T'.nodes k=aa T.nodes k:=fun k hk=>off k (by omega) (by omega)
 have fil:∀k,k≠x.no->((dB S 0 0 x++t).filter fun y=>y.dir == k)=t.filter fun y=>y.dir == k:=fun k hk=>by
  rw [List.filter_append];have:((dB S 0 0 x).filter fun y=>y.dir == k)=[]:=List.filter_eq_nil_iff.2 fun y hy=>by
   rw [(lY hy).1];simpa using Ne.symm hk
  rw [this,List.nil_append]
 refine ⟨fun k k1 k2=>(ZH k k1).trans (h.old k k1 k2),fun k=>(ZA k).trans (h.over k),Int.le_trans h.last ZB,Nat.lt_of_lt_of_le h.len len',by rw[ZH _ IK];exact h.top,fun k hk=>?_,fun k k2 hk e=>?_,fun y hy=>?_,fun m hm=>?_,fun k hk oL=>?_,by rw[LR _ (by rw[h.fst];omega)];exact h.fst⟩
 ·by_cases e:k=x.no
  ·subst e
   rw [IM];obtain ⟨n1,n2,n3,n4,n5,n6⟩:=hn;refine ⟨Ul,zC,ZG,U5,td3,ix,by rw[IM];exact n1,n2,n3,fun q=>?_,fun q=>?_⟩
   ·obtain ⟨p1,p2,p3,p4⟩:=n5 q
    exact ⟨p1,p2,p3,p4,n4⟩
   ·obtain ⟨p1,p2⟩:=n6 q
    refine ⟨p1,p2,[],?_,by rw[n4];rfl,fun e he=>by cases he⟩;have f1:((dB S 0 0 x).filter fun y=>y.dir == x.no)=dB S 0 0 x:=List.filter_eq_self.2 fun y hy=>by rw[(lY hy).1];simp
    have f2:(t.filter fun y=>y.dir == x.no)=[]:=List.filter_eq_nil_iff.2 fun y hy=>by
     have:=(h.todo y (List.mem_cons_of_mem _ hy)).1;intro e;rw [beq_iff_eq]at e;rw [e]at this;exact this (Nf q)
    rw [List.filter_append,f1,f2,List.append_nil,List.nil_append];exact (qA hS ⟨hx,q⟩ Cn).1.symm
  ·have Cw:ap M k≠0:=by rw[hM,if_neg e]at hk;exact hk
   rw [LR k Cw];obtain ⟨b1,b2,b3,b4,b5,b6,bN⟩:=h.made k Cw;have hkN:ap M k≠N:=fun q=>e (hNi k q)
   refine ⟨b1,by omega,b3,b4,b5,b6,?_⟩;obtain ⟨c1,c2,c3,c4,c5⟩:=bN;unfold Zz;rw [LR k Cw,fil k e]
   by_cases ed:k=x.dir
   ·subst ed
    rw [hd];refine ⟨c1,c2,c3,fun q=>absurd td2 q,fun q=>?_⟩;obtain ⟨d1,d2,d,d3,d4,d5⟩:=c5 q;have hfc:((x::t).filter fun y=>y.dir == x.dir)=x::t.filter fun y=>y.dir == x.dir:=by rw[List.filter_cons,if_pos (by simp)]
    rw [hfc,List.map_cons]at d3;have Sj:=(hS.aa x.dir).1;rw [d3]at Sj;have zy:∀y∈d.map (fun e=>(e.1,ap M e.2)),bl y.1 (x.name,N).1=true:=fun y hy=>by
     rw [List.mem_map]at hy;obtain ⟨z,hz,rfl⟩:=hy;exact (List.pairwise_append.1 Sj).2.2 z hz (x.name,x.no) (List.mem_cons_self ..)
    refine ⟨d1,d2,d++[(x.name,x.no)],?_,?_,fun y hy=>?_⟩
    ·rw[d3,List.append_assoc];rfl
    ·show dk (aa T.nodes (ap M x.dir)).ae (x.name,N)=_
     rw [d4,Nw zy,List.map_append,List.map_cons,List.map_nil,IM]
     congr 1
     exact List.map_congr_left fun z hz=>by rw[LR _ (d5 z hz)]
    ·rcases List.mem_append.1 hy with hy|hy
     ·rw[LR _ (d5 y hy)];exact d5 y hy
     ·rw [List.mem_singleton]at hy;subst hy
      show ap M' x.no≠0;rw [IM];omega
   ·have oL:ap M k≠ap M x.dir:=fun q=>ed (h.inj _ _ td1 q)
    rw [off _ oL hkN];refine ⟨c1,c2,c3,c4,fun q=>?_⟩;obtain ⟨d1,d2,d,d3,d4,d5⟩:=c5 q;have hfc:((x::t).filter fun y=>y.dir == k)=t.filter fun y=>y.dir == k:=by rw[List.filter_cons,if_neg (by simpa using Ne.symm ed)]
    rw [hfc]at d3;refine ⟨d1,d2,d,d3,?_,fun y hy=>by rw[LR _ (d5 y hy)];exact d5 y hy⟩;rw [d4];exact List.map_congr_left fun z hz=>by rw[LR _ (d5 z hz)]
 ·rw [hM k]at hk e
  rw [hM k2]at e
  by_cases e1:k=x.no
  ·by_cases e2:k2=x.no
   ·rw[e1,e2]
   ·rw[if_neg e2,if_pos e1]at e;rw[e1];exact hNi k2 e
  ·rw [if_neg e1]at hk e
   by_cases e2:k2=x.no
   ·rw[if_pos e2]at e;rw[e2];exact (hNi k e.symm).symm
   ·rw[if_neg e2]at e;exact h.inj k k2 hk e
 ·rcases List.mem_append.1 hy with hy|hy
  ·obtain ⟨y1,y2⟩:=lY hy
   rw [y1];exact ⟨by rw[IM];omega,y2.2,(qA hS y2 Cn).2 y hy⟩
  ·obtain ⟨y1,y2,y3⟩:=h.todo y (List.mem_cons_of_mem _ hy)
   exact ⟨by rw[LR _ y1];exact y1,y2,y3⟩
 ·rcases ZC m hm with hm|⟨rfl,hk⟩
  ·obtain ⟨m1,m2,m3⟩:=h.Sh m hm
   exact ⟨by rw[LR _ m1];exact m1,m2,m3⟩
  ·rw [U6]
   exact ⟨by rw[IM];omega,rfl,hk⟩
 ·by_cases e:k=x.no
  ·subst e;exact ZF oL
  ·rw [hM,if_neg e]at hk
   exact ZE _ (h.Si k hk oL)
theorem vO {p e:Int} (h:fQ p e=0):p=0/\e=0:=by
 unfold fQ at h;split at h
 ·rename_i k;exact absurd h k
 ·rename_i k;exact⟨Decidable.not_not.1 k,h⟩
theorem Co {cu cg:Int} {s:aA} {m:ai} {dir:Int} {nm x:List UInt8} (h:kF s cu cg (zl m dir nm x)=0) :
  o_ s cu cg (zl m dir nm x)=s.t.last+1/\∃n:ai,bL s.t cu cg s.now dir nm n=0/\(jU s cu cg (zl m dir nm x)).t=aX s.t cu cg s.now dir nm n/\n.ae=[]/\n.kind=(if m.kind=1 then 1 else if m.kind=2 then 2 else 3)/\n.data=(if m.kind=1 then [] else x)/\n.mode=(if m.kind=1 then 448 else if m.kind=2 then m.mode else 511):=by
 refine ⟨(zm h).1,?_⟩;obtain ⟨h1,h2,_⟩:=oa h;rw [h2];unfold zl at h1|-
 by_cases k1:m.kind=1
 ·rw [if_pos k1]at h1|-
  obtain ⟨p1,p2⟩:=vO h1;refine ⟨dV 448 dir,p2,?_,rfl,by rw[if_pos k1];rfl,by rw[if_pos k1];rfl,by rw[if_pos k1];rfl⟩;show dM (lO 448) _ _=_;unfold dM;rw[p1,if_neg (by decide)]
 ·rw [if_neg k1]at h1|-
  by_cases k2:m.kind=2
  ·rw [if_pos k2]at h1|-
   obtain ⟨p1,p2⟩:=vO h1;refine ⟨cx m.mode x,p2,?_,rfl,by rw[if_neg k1,if_pos k2];rfl,by rw[if_neg k1];rfl,by rw[if_neg k1,if_pos k2];rfl⟩;show dM (gw m.mode x.length) _ _=_;unfold dM;rw[p1,if_neg (by decide)]
  ·rw [if_neg k2]at h1|-
   obtain ⟨p1,p2⟩:=vO h1;refine ⟨ep x,p2,?_,rfl,by rw[if_neg k1,if_neg k2];rfl,by rw[if_neg k1];rfl,by rw[if_neg k1,if_neg k2];rfl⟩;show dM (kP x) _ _=_;unfold dM;rw[p1,if_neg (by decide)]
def aD (S:ac):Prop:=∀n∈S.nodes,(n.kind=1->n.data=[])/\(n.kind=3->n.mode=511)
theorem U7 {s:aA} {m:ai} {no:Int} (hm:aa s.t.nodes no=m) (h:xS s 0 0 m no=0):(m.kind≠1->YX s 0 0 m no=m.data)/\(m.kind=1\/m.kind=2\/m.kind=3):=by
 have alive:∀e,dR s e=0->s.dead=false/\e=0:=fun e he=>by
  unfold dR at he;split at he
  ·cases he
  ·rename_i k;exact⟨by simpa using k,he⟩
 have opn:∀kind want,bf s.t 0 0 no kind want=0->aS s.t 0 0 no kind want=m/\m.kind=kind:=fun kind want ho=>by
  refine ⟨by unfold aS;rw[if_pos ho,hm],?_⟩;unfold bf at ho;split at ho
  ·cases ho
  ·split at ho
   ·rename_i k;rw[hm]at k;exact k
   ·split at ho
    ·cases ho
    ·split at ho<;>cases ho
 unfold xS at h;unfold YX
 by_cases k1:m.kind=1
 ·exact⟨fun k=>absurd k1 k,.inl k1⟩
 ·rw [if_neg k1]at h|-
  by_cases k2:m.kind=2
  ·rw [if_pos k2]at h|-
   obtain ⟨q1,q2⟩:=alive _ h;obtain ⟨q3,_⟩:=opn _ _ q2;refine ⟨fun _=>?_,.inr (.inl k2)⟩;unfold nr;rw[q1,if_neg (by decide),q3]
  ·rw [if_neg k2]at h|-
   obtain ⟨q1,q2⟩:=alive _ h;obtain ⟨q3,q4⟩:=opn _ _ q2;refine ⟨fun _=>?_,.inr (.inr q4)⟩;unfold nr;rw[q1,if_neg (by decide),q3]
end
end
section
section
variable {S:ac} {aY k0:Int} {b:List UInt8} {c c':Nat}
theorem Ew (hK:aD S) {T:vT} (hp:Pl c' T.s) (_hz:∀p∈T.made,p.2≠0) {x:aq} {dir:Int} {nm:List UInt8} (ix:aQ S.nodes x.no=true) (hm:aa T.s.t.nodes x.no=aa S.nodes x.no) (h2:ap T.made x.no=0) (hr:(jA true 0 0 T x dir nm).2=0) :
  ∃ (T':ac) (now:Int),(jA true 0 0 T x dir nm).1.s.t=T'/\(jA true 0 0 T x dir nm).1.made=T.made++[(x.no,T.s.t.last+1)]/\(jA true 0 0 T x dir nm).1.late=(if (aa S.nodes x.no).kind=1 then T.late++[aa S.nodes x.no] else T.late) /\
  dir<=T.s.t.last/\(aa T.s.t.nodes dir).kind=1/\(∀k,k≠dir->k≠T.s.t.last+1->aa T'.nodes k=aa T.s.t.nodes k)/\aa T'.nodes dir=cv T.s.t dir now (dk (aa T.s.t.nodes dir).ae (nm,T.s.t.last+1)) /\
  ((aa T'.nodes (T.s.t.last+1)).no=T.s.t.last+1/\(aa T'.nodes (T.s.t.last+1)).kind=(aa S.nodes x.no).kind/\(aa T'.nodes (T.s.t.last+1)).data=(aa S.nodes x.no).data/\(aa T'.nodes (T.s.t.last+1)).ae=[]/\((aa S.nodes x.no).kind≠1->(aa T'.nodes (T.s.t.last+1)).mode=(aa S.nodes x.no).mode/\(aa T'.nodes (T.s.t.last+1)).uid=(aa S.nodes x.no).uid/\(aa T'.nodes (T.s.t.last+1)).gid=(aa S.nodes x.no).gid/\(aa T'.nodes (T.s.t.last+1)).mtime=(aa S.nodes x.no).mtime)/\((aa S.nodes x.no).kind=1->(aa T'.nodes (T.s.t.last+1)).uid=0/\(aa T'.nodes (T.s.t.last+1)).gid=0)) /\
  (∀k,ak T'.af k=ak T.s.t.af k)/\T'.last=T.s.t.last+1/\T'.nodes.length=T.s.t.nodes.length+1:=by
 have xm:=(aj ix).2.2;have hu:=hp.dL.eE.aC;unfold jA at hr|-
 by_cases h1:dR T.s (cK T.s.t x.no)=0
 case neg=>rw[if_pos h1]at hr;exact absurd hr h1
 rw [if_neg (fun k=>k h1),if_neg (fun k=>k h2)]at hr|-
 by_cases h3:xS T.s 0 0 (aa T.s.t.nodes x.no) x.no=0
 case neg=>rw[if_pos h3]at hr;exact absurd hr h3
 rw [if_neg (fun k=>k h3)]at hr|-
 by_cases h4:kF T.s 0 0 (fx T 0 0 x dir nm)=0
 case neg=>rw[if_pos h4]at hr;exact absurd hr h4
 rw [if_neg (fun k=>k h4)]at hr|-;obtain ⟨t1,t2⟩:=U7 hm (by rw[hm]at h3;exact h3);have hN:o_ T.s 0 0 (fx T 0 0 x dir nm)=T.s.t.last+1:=(Co h4).1;obtain ⟨n,g1,g2,g3,g4,g5,g6⟩:=(Co h4).2;rw [hN]at hr|-;obtain⟨s1,hs1⟩:=ar (jU T.s 0 0 (fx T 0 0 x dir nm));have g2:s1.t=aX T.s.t 0 0 T.s.now dir nm n:=by rw[hs1];exact g2
 rw [<-hs1]at hr|-;rw [hm]at g4 g5 g6 hr|-;have gk:=(aR (gx g1).1).2.1;obtain ⟨e1,e2,e3,e4,e5,e6,e7⟩:=QS hu g1;rw [<-g2]at e1 e2 e3 e4 e5 e6
 by_cases hk:(aa S.nodes x.no).kind=1
 ·rw [if_pos hk]at hr g4 g5 g6|-
  refine ⟨s1.t,T.s.now,rfl,rfl,by rw[if_pos hk],e7,gk,e1,e2,?_,e4,e5,e6⟩;rw [e3];exact ⟨rfl,g4.trans hk.symm,g5.trans ((hK _ xm).1 hk).symm,g3,fun k=>absurd hk k,fun _=>⟨rfl,rfl⟩⟩
 ·rw [if_neg hk]at hr g4 g5 g6|-
  have hr:(eV 0 0 s1 (lV true 0 0 (T.s.t.last+1) (aa S.nodes x.no))).2=0:=hr;obtain ⟨n2,A,d1,d2,d3,d4,d5,d6,d7,d8⟩:=Nx hr (fun _ _=>by rw[e3];exact⟨rfl,rfl⟩);rw [e3]at d1 d2 d3 d4 d8;rw [if_neg hk]at d8;refine ⟨_,T.s.now,rfl,rfl,by rw[if_neg hk],e7,gk,fun k k1 k2=>(A.off k k2).trans (e1 k k1 k2),(A.off _ (by omega)).trans e2,?_,fun k=>by rw[A.af];exact e4 k,A.last.trans e5,A.len.trans e6⟩;rw [A.here];have d2:n2.kind=n.kind:=d2;have d8:n2.mode=n.mode:=d8;refine ⟨d1,?_,d3.trans (g5.trans (t1 hk)),d4.trans g3,fun _=>⟨?_,d5,d6,d7⟩,fun k=>absurd k hk⟩
  ·rw [d2,g4]
   rcases t2 with k|k|k
   ·exact absurd k hk
   ·rw[if_pos k,k]
   ·rw[if_neg (by rw[k];decide),k]
  ·rw [d8,g6]
   rcases t2 with k|k|k
   ·exact absurd k hk
   ·rw[if_pos k]
   ·rw[if_neg (by rw[k];decide)];exact ((hK _ xm).2 k).symm
theorem QV (hS:dI c S) (hK:aD S) (IK:aY<=S.last) {T:vT} (hp:Pl c' T.s) (hz:∀p∈T.made,p.2≠0) {x:aq} {t:List aq} (h:FP S aY b k0 T.made T.late T.s.t (x::t)) (hx:ez S 0 0 x=0) (U5:x.no≠aY) (Cn:∀y∈dB S 0 0 x,ez S 0 0 y=0)
  (hr:(jA true 0 0 T x (ap T.made x.dir) x.name).2=0) :
  FP S aY b k0 (jA true 0 0 T x (ap T.made x.dir) x.name).1.made (jA true 0 0 T x (ap T.made x.dir) x.name).1.late (jA true 0 0 T x (ap T.made x.dir) x.name).1.s.t (dB S 0 0 x++t):=by
 have ix:=(kH hx).1;obtain ⟨_,U6,xm⟩:=aj ix;have ZG:x.no<=S.last:=by have:=(hS.aC.2 _ xm).2;rw[U6]at this;exact this
 have hm:aa T.s.t.nodes x.no=aa S.nodes x.no:=h.old _ ZG U5;obtain ⟨td1,td2,td3⟩:=h.todo x (List.mem_cons_self ..);have hl:=h.last;have g_:=hS.last
 by_cases h2:ap T.made x.no=0
 case pos =>
  obtain ⟨T',now,f1,f2,f3,f4,_,f5,f6,f7,f8,f9,f10⟩:=Ew hK hp hz ix hm h2 hr;rw [f1,f2,f3];refine FP.step hS IK h hx U5 Cn (now:=now) (fun k=>zk h2 hz k) (by omega) (by omega) (by omega) (fun k hk=>?_) (fun k=>absurd h2 k) f5 f6 f7 (fun _=>h2) f8 (by omega) (by omega) (fun m hm=>?_) (fun m hm=>?_) (fun k=>?_)
  ·exfalso
   have:=(h.made k (by omega)).2.1;omega
  ·split at hm
   ·rename_i hk
    rcases List.mem_append.1 hm with hm|hm
    ·exact .inl hm
    ·rw[List.mem_singleton]at hm;exact .inr ⟨hm,by rw[hm];exact hk⟩
   ·exact .inl hm
  ·split
   ·exact List.mem_append_left _ hm
   ·exact hm
  ·rw[if_pos k];exact List.mem_append_right _ (List.mem_singleton.2 rfl)
 case neg =>
  unfold jA at hr|-
  by_cases h1:dR T.s (cK T.s.t x.no)=0
  case neg=>rw[if_pos h1]at hr;exact absurd hr h1
  rw [if_neg (fun k=>k h1),if_pos h2]at hr|-;have hr:kF T.s 0 0 (.link (ap T.made x.no) (ap T.made x.dir) x.name)=0:=hr;obtain ⟨q1,q2,_⟩:=oa hr;have q1:eP T.s.t 0 0 (ap T.made x.no) (ap T.made x.dir) x.name=0:=q1;obtain ⟨e1,e2,e3,e4,e5,e6,e7⟩:=QT (now:=T.s.now) q1;obtain ⟨b1,b2,b3,b4,b5,b6,c1,c2,c3,c4,c5⟩:=h.made x.no h2;have gG:(aa S.nodes x.no).kind≠1:=fun k=>(ii q1).2.2.1 (c2.trans k)
  obtain ⟨c6,c7,c8,c9,TI⟩:=c4 gG;show FP S aY b k0 T.made T.late (jU T.s 0 0 (.link (ap T.made x.no) (ap T.made x.dir) x.name)).t _;rw [q2];show FP S aY b k0 T.made T.late (dW T.s.t 0 0 T.s.now (ap T.made x.no) (ap T.made x.dir) x.name) _;refine FP.step hS IK h hx U5 Cn (N:=ap T.made x.no) (now:=T.s.now) (fun k=>?_) b1 (by rw[e6];exact b2) e1 (fun k hk=>h.inj x.no k h2 hk) (fun _=>rfl) e2 e3 ?_ (fun k=>absurd k gG) (fun k=>by rw[e5]) (by rw[e6];exact Int.le_refl _) (by rw[e7];exact Nat.le_refl _) (fun m hm=>.inl hm) (fun m hm=>hm) (fun k=>absurd k gG)
  ·by_cases e:k=x.no
   ·rw[if_pos e,e]
   ·rw[if_neg e]
  ·rw [e4]
   exact ⟨c1,c2,c3,TI,fun _=>⟨c6,c7,c8,c9⟩,fun k=>absurd k gG⟩
theorem rM {cu cg:Int} {t l:List aq} {y:aq} {e:Int} (h:jr S cu cg t l y e) (he:e=0):∀z∈t,ez S cu cg z=0/\z∈l:=by
 induction h with
 | nil=>intro z hz;cases hz
 | bad h=>exact absurd he h
 | step h0 _ ih =>
  intro z hz;rcases List.mem_cons.1 hz with rfl|hz
  ·exact⟨h0,List.mem_cons_self ..⟩
  ·obtain ⟨a,d⟩:=ih he z (List.mem_append_right _ hz)
   exact ⟨a,List.mem_cons_of_mem _ d⟩
theorem QW (hS:dI c S) (hK:aD S) (IK:aY<=S.last) {t l:List aq} {y:aq} {e:Int} (hd:jr S 0 0 t l y e) (he:e=0) :
  ∀ {T:vT} {c':Nat},Pl c' T.s->(∀p∈T.made,p.2≠0)->FP S aY b k0 T.made T.late T.s.t t->(∀x∈l,x.no≠aY)->(Jd true 0 0 T l).2=0->FP S aY b k0 (Jd true 0 0 T l).1.made (Jd true 0 0 T l).1.late (Jd true 0 0 T l).1.s.t []:=by
 induction hd with
 | nil=>intro T c' _ _ h _ _;exact h
 | bad h=>exact absurd he h
 | @step x t l y e h0 hd ih =>
  intro T c' hp hz h hl hr;unfold Jd at hr|-
  by_cases h2:(jA true 0 0 T x (ap T.made x.dir) x.name).2=0
  case neg=>rw[if_pos h2]at hr;exact absurd hr h2
  rw [if_neg (fun k=>k h2)]at hr|-;obtain ⟨c2,p2,_⟩:=vu (keep:=true) (cu:=0) (cg:=0) hp (Nat.le_refl _) x (ap T.made x.dir) x.name;exact ih he p2 (qv hp hz).1 (QV hS hK IK hp hz h h0 (hl x (List.mem_cons_self ..)) (fun z hz=>(rM hd he z (List.mem_append_left _ hz)).1) h2) (fun x hx=>hl x (List.mem_cons_of_mem _ hx)) hr
theorem IP {s:aA} (hp:Pl c s) (hK:aD s.t) {x:aq} (hx:ez s.t 0 0 x=0) (U5:x.no≠aY) (ZI:ak s.t.af x.no=x.no) (Cn:∀y∈dB s.t 0 0 x,ez s.t 0 0 y=0) (hr:(jA true 0 0 ⟨s,[],[]⟩ x aY b).2=0) :
  aY<=s.t.last/\FP s.t aY b x.no (jA true 0 0 ⟨s,[],[]⟩ x aY b).1.made (jA true 0 0 ⟨s,[],[]⟩ x aY b).1.late (jA true 0 0 ⟨s,[],[]⟩ x aY b).1.s.t (dB s.t 0 0 x++[]):=by
 have ix:=(kH hx).1;obtain ⟨_,U6,xm⟩:=aj ix;have hS:=hp.dL.eE;have ZG:x.no<=s.t.last:=by have:=(hS.aC.2 _ xm).2;rw[U6]at this;exact this
 have g_:=hS.last;obtain ⟨T',now,f1,f2,f3,f4,_,f5,f6,f7,f8,f9,f10⟩:=Ew (S:=s.t) (T:=⟨s,[],[]⟩) hK hp (fun p hp=>by cases hp) ix rfl rfl hr;refine ⟨f4,?_⟩;rw [f1,f2,f3,List.append_nil];have hM:∀k,ap ([]++[(x.no,s.t.last+1)]) k=if x.no=k then s.t.last+1 else 0:=fun k=>rfl
 have gG:∀k,ap ([]++[(x.no,s.t.last+1)]) k≠0->k=x.no:=fun k hk=>by
  rw [hM]at hk;split at hk
  ·rename_i e;exact e.symm
  ·exact absurd rfl hk
 have IM:ap ([]++[(x.no,s.t.last+1)]) x.no=s.t.last+1:=by rw[hM,if_pos rfl]
 refine ⟨fun k k1 k2=>f5 k k2 (by show k≠s.t.last+1;omega),f8,?_,?_,?_,fun k hk=>?_,fun k k2 hk e=>?_,fun y hy=>?_,fun m hm=>?_,fun k hk oL=>?_,IM⟩
 ·rw[f9];show s.t.last<=s.t.last+1;omega
 ·rw[f10];exact Nat.lt_succ_self _
 ·rw[f6];exact xj _ _ _
 ·have e:=gG k hk
  subst e;rw [IM];obtain ⟨n1,n2,n3,n4,n5,n6⟩:=f7;refine ⟨by omega,by rw[f9];exact Int.le_refl _,ZG,U5,ZI,ix,by rw[IM];exact n1,n2,n3,fun q=>?_,fun q=>?_⟩
  ·obtain ⟨p1,p2,p3,p4⟩:=n5 q
   exact ⟨p1,p2,p3,p4,n4⟩
  ·obtain ⟨p1,p2⟩:=n6 q
   refine ⟨p1,p2,[],?_,by rw[show aa T'.nodes (s.t.last+1)=aa T'.nodes (s.t.last+1) from rfl];exact n4,fun e he=>by cases he⟩;have fl:((dB s.t 0 0 x).filter fun y=>y.dir == x.no)=dB s.t 0 0 x:=List.filter_eq_self.2 fun y hy=>by rw[(lY hy).1];simp
   rw [fl,List.nil_append];exact (qA hS ⟨hx,q⟩ Cn).1.symm
 ·have e1:=gG k hk
  rw [e1,IM]at e;have:=gG k2 (by rw[e];omega);rw [e1,this]
 ·obtain ⟨y1,y2⟩:=lY hy
  rw [y1];exact ⟨by rw[IM];omega,y2.2,(qA hS y2 Cn).2 y hy⟩
 ·split at hm
  ·rename_i hk
   have hm:m∈([]:List ai)++[aa s.t.nodes x.no]:=hm;rw [List.nil_append,List.mem_singleton]at hm;subst hm;rw [U6];exact ⟨by rw[IM];omega,rfl,hk⟩
  ·cases hm
 ·have e:=gG k hk
  subst e;rw [if_pos oL];exact List.mem_append_right _ (List.mem_singleton.2 rfl)
end
end
section
structure U8 (S:ac) (aY:Int) (b:List UInt8) (k0:Int) (M:List (Int×Int)) (T:ac) (rest:List ai):Prop where
 old:∀k,k<=S.last->k≠aY->aa T.nodes k=aa S.nodes k
 over:∀k,ak T.af k=ak S.af k
 len:S.nodes.length<T.nodes.length
 top:aO (aa T.nodes aY).ae b=S.last+1
 inj:∀k k2,ap M k≠0->ap M k2=ap M k->k2=k
 fst:ap M k0=S.last+1
 made:∀k,ap M k≠0->S.last<ap M k/\k<=S.last/\k≠aY/\ak S.af k=k/\aQ S.nodes k=true /\
  (aa T.nodes (ap M k)).no=ap M k/\(aa T.nodes (ap M k)).kind=(aa S.nodes k).kind/\(aa T.nodes (ap M k)).data=(aa S.nodes k).data/\(aa T.nodes (ap M k)).ae=(aa S.nodes k).ae.map (fun e=>(e.1,ap M e.2))/\(∀e∈(aa S.nodes k).ae,ap M e.2≠0) /\
  ((aa S.nodes k).uid=0->(aa S.nodes k).gid=0->(aa T.nodes (ap M k)).uid=0/\(aa T.nodes (ap M k)).gid=0) /\
  (aa S.nodes k∉rest->(aa T.nodes (ap M k)).mode=(aa S.nodes k).mode/\(aa T.nodes (ap M k)).uid=(aa S.nodes k).uid/\(aa T.nodes (ap M k)).gid=(aa S.nodes k).gid/\(aa T.nodes (ap M k)).mtime=(aa S.nodes k).mtime)
section
variable {S T:ac} {aY k0:Int} {b:List UInt8} {c:Nat} {M:List (Int×Int)}
theorem FP.lat (hN:bi S) {late:List ai} (h:FP S aY b k0 M late T []):U8 S aY b k0 M T late.reverse:=by
 refine ⟨h.old,h.over,h.len,h.top,h.inj,h.fst,fun k hk=>?_⟩;obtain ⟨b1,b2,b3,b4,b5,b6,c1,c2,c3,c4,c5⟩:=h.made k hk
 by_cases gG:(aa S.nodes k).kind=1
 ·obtain ⟨d1,d2,d,d3,d4,d5⟩:=c5 gG
  have d3:(aa S.nodes k).ae=d:=by rw[d3];simp
  exact ⟨b1,b3,b4,b5,b6,c1,c2,c3,by rw[d3];exact d4,by rw[d3];exact d5,fun _ _=>⟨d1,d2⟩,fun hn=>absurd (List.mem_reverse.2 (h.Si k hk gG)) hn⟩
 ·obtain ⟨p1,p2,p3,p4,p5⟩:=c4 gG
  have he:(aa S.nodes k).ae=[]:=hN _ (aj b6).2.2 gG;exact ⟨b1,b3,b4,b5,b6,c1,c2,c3,by rw[he,p5];rfl,(by rw[he];intro e he;cases he),fun u g=>⟨p2.trans u,p3.trans g⟩,fun _=>⟨p1,p2,p3,p4⟩⟩
theorem FR (IK:aY<=S.last):∀(rest:List ai) {s:aA},U8 S aY b k0 M s.t rest->(∀m∈rest,ap M m.no≠0/\m=aa S.nodes m.no/\m.kind=1)->(lW true 0 0 M s rest).2=0->U8 S aY b k0 M (lW true 0 0 M s rest).1.t []
 | [],s,h,_,_=>h
 | m :: rest,s,h,hm,hr=>by
  unfold lW at hr|-
  by_cases h2:(eV 0 0 s (lV true 0 0 (ap M m.no) m)).2=0
  case neg=>rw[if_pos h2]at hr;exact absurd hr h2
  rw [if_neg (fun k=>k h2)]at hr|-;obtain ⟨m1,m2,m3⟩:=hm m (List.mem_cons_self ..);obtain ⟨b1,b3,b4,b5,b6,c1,c2,c3,c4,c5,c6,c7⟩:=h.made m.no m1;rw [<-m2]at c2 c3 c4 c5 c6;obtain ⟨n,A,d1,d2,d3,d4,d5,d6,d7,d8⟩:=Nx h2 c6;refine FR IK rest ⟨fun k k1 k2=>(A.off k (by omega)).trans (h.old k k1 k2),fun k=>by rw[A.af];exact h.over k,by rw[A.len];exact h.len,by rw[A.off _ (by omega)];exact h.top,h.inj,h.fst,fun k hk=>?_⟩ (fun m hx=>hm m (List.mem_cons_of_mem _ hx)) hr
  by_cases e:k=m.no
  ·subst e
   rw [A.here,<-m2];refine ⟨b1,b3,b4,b5,b6,d1.trans c1,d2.trans c2,d3.trans c3,d4.trans c4,c5,fun u g=>⟨d5.trans u,d6.trans g⟩,fun _=>⟨?_,d5,d6,d7⟩⟩;rw [d8,if_pos m3]
  ·obtain ⟨a1,a3,a4,a5,a6,e1,e2,e3,e4,e5,e6,e7⟩:=h.made k hk
   have hne:ap M k≠ap M m.no:=fun q=>e (h.inj _ _ m1 q)
   rw [A.off _ hne];refine ⟨a1,a3,a4,a5,a6,e1,e2,e3,e4,e5,e6,fun hn=>e7 fun hx=>?_⟩;rcases List.mem_cons.1 hx with q|q
   ·have:=congrArg ai.no q
    rw [(aj a6).2.1]at this;exact e this
   ·exact hn q
theorem IQ {s:aA} (hp:Pl c s) (hK:aD s.t) {x y:aq} {l:List aq} {e:Int} (he:e=0) (hd:jr s.t 0 0 [x] l y e) (ZI:ez s.t 0 0 x=0->ak s.t.af x.no=x.no) (hl:(aa s.t.nodes aY).kind=1->∀z∈l,z.no≠aY) (hr:(jM true 0 0 aY b s l 0).2=0) :
  aY<=s.t.last/\∃M,U8 s.t aY b x.no M (jM true 0 0 aY b s l 0).1.t []:=by
 cases hd with
 | bad h=>exact absurd he h
 | @step _ _ l1 _ _ h0 hd =>
  unfold jM at hr|-;rw [if_neg (fun k=>k rfl)]at hr|-
  by_cases h1:(vU true 0 0 aY b s (x::l1)).2=0
  case neg=>rw[if_pos h1]at hr;exact absurd hr h1
  rw [if_neg (fun k=>k h1)]at hr|-;rw [Ck]at h1 hr|-
  by_cases h2:(jA true 0 0 ⟨s,[],[]⟩ x aY b).2=0
  case neg=>rw[if_pos h2]at h1;exact absurd h1 h2
  rw [if_neg (fun k=>k h2)]at h1 hr|-;have hl:=hl (Ew (S:=s.t) (T:=⟨s,[],[]⟩) hK hp (fun p hp=>by cases hp) (kH h0).1 rfl rfl h2).choose_spec.choose_spec.2.2.2.2.1;obtain ⟨IK,T1⟩:=IP hp hK h0 (hl x (List.mem_cons_self ..)) (ZI h0) (fun z hz=>(rM hd he z (List.mem_append_left _ hz)).1) h2;obtain ⟨c2,p2,_⟩:=vu (keep:=true) (cu:=0) (cg:=0) (T:=⟨s,[],[]⟩) hp (Nat.le_refl _) x aY b;have T2:=QW hp.dL.eE hK IK hd he p2 (qv (T:=⟨s,[],[]⟩) hp (fun p hp=>by cases hp)).1 T1 (fun z hz=>hl z (List.mem_cons_of_mem _ hz)) h1;exact ⟨IK,_,FR IK _ (T2.lat hp.dL.xo) (fun m hm=>T2.Sh m (List.mem_reverse.1 hm)) hr⟩
def j_ (r:qC):qC:={r with ctime:=0,dev:=0}
theorem Ny {ns:List ai} {k:Int} (hk:k≠0) (h:(aa ns k).no=k):aQ ns k=true:=by
 cases hi:aQ ns k
 ·rw[(aV hi).1]at h;exact absurd h.symm hk
 ·rfl
theorem Nz (_hl0:1<=S.last) (bc:∀k,aQ S.nodes k=true->1<=k) (h:U8 S aY b k0 M T []) {t:List dE} {aC:List Int} {ra:List qC} (hr:cC S t aC ra):(∀y∈t,ap M y.2≠0)->cC T t aC ra:=by
 induction hr with
 | nil aC=>intro _;exact .nil aC
 | @none x t aC l hi _ _ =>
  intro hm;obtain ⟨b1,b3,b4,b5,b6,_⟩:=h.made x.2 (hm x (List.mem_cons_self ..));rw [b5,b6]at hi;cases hi
 | @step x t aC l hi _ ih =>
  intro hm;obtain ⟨b1,b3,b4,b5,b6,c1,c2,c3,c4,c5,_⟩:=h.made x.2 (hm x (List.mem_cons_self ..));have e1:ak T.af x.2=x.2:=(h.over _).trans b5;have e2:aa T.nodes x.2=aa S.nodes x.2:=h.old _ b3 b4;have hrow:pk T aC x=pk S aC x:=by unfold pk;rw[e1,b5,e2]
  have FM:cy T x=cy S x:=by unfold cy;rw[e1,b5,e2]
  rw [<-hrow];refine .step (by rw[e1];exact Ny (by have:=bc _ b6;omega) (by rw[e2];exact (aj b6).2.1)) ?_;rw [FM,e1];rw [b5]at ih;refine ih fun y hy=>?_
  rcases List.mem_append.1 hy with hy|hy
  ·unfold cy at hy
   rw [b5,List.mem_map]at hy;obtain ⟨z,hz,rfl⟩:=hy;exact c5 z hz
  ·exact hm y (List.mem_cons_of_mem _ hy)
theorem vP (h:U8 S aY b k0 M T []) {x:Int} (hx:ap M x≠0):∀(aC:List Int),ft (aC.map (ap M)) (ap M x)=ft aC x
 | []=>rfl
 | a :: aC=>by
  have ih:=vP h hx aC;unfold ft at ih|-;rw [List.map_cons,List.findIdx_cons,List.findIdx_cons,ih]
  by_cases e:a=x
  ·subst e;simp
  ·have h1:(a == x)=false:=by simpa using e
   have h2:(ap M a == ap M x)=false:=by
    simp only[beq_eq_false_iff_ne,ne_eq];exact fun q=>e (h.inj x a hx q)
   rw [h1,h2]
theorem NA (hb:∀k,S.last<k->ak S.af k=k) (jF:1<=S.last) (h:U8 S aY b k0 M T []) {t:List dE} {aC:List Int} {ra:List qC} (hr:cC S t aC ra):(∀y∈t,ap M y.2≠0) ->
  ∃ rb,cC T (t.map fun y=>(y.1,ap M y.2)) (aC.map (ap M)) rb/\rb.map j_=ra.map j_:=by
 induction hr with
 | nil aC=>intro _;exact⟨[],.nil _,rfl⟩
 | @none x t aC l hi _ _ =>
  intro hm;obtain ⟨b1,b3,b4,b5,b6,_⟩:=h.made x.2 (hm x (List.mem_cons_self ..));rw [b5,b6]at hi;cases hi
 | @step x t aC l hi _ ih =>
  intro hm;obtain ⟨b1,b3,b4,b5,b6,c1,c2,c3,c4,c5,_,c7⟩:=h.made x.2 (hm x (List.mem_cons_self ..));obtain ⟨p1,p2,p3,p4⟩:=c7 (List.not_mem_nil);have e1:ak T.af (ap M x.2)=ap M x.2:=(h.over _).trans (hb _ b1);have gG:cy T (x.1,ap M x.2)=(cy S x).map fun y=>(y.1,ap M y.2):=by
   unfold cy;show (aa T.nodes (ak T.af (ap M x.2))).ae.map _=_;rw [e1,b5,c4,List.map_map,List.map_map];rfl
  rw [b5]at ih;obtain ⟨rb,QX,NI⟩:=ih fun y hy=>by
   rcases List.mem_append.1 hy with hy|hy
   ·unfold cy at hy
    rw [b5,List.mem_map]at hy;obtain ⟨z,hz,rfl⟩:=hy;exact c5 z hz
   ·exact hm y (List.mem_cons_of_mem _ hy)
  rw [List.map_append,List.map_append,<-gG]at QX;refine ⟨pk T (aC.map (ap M)) (x.1,ap M x.2)::rb,?_,?_⟩
  ·rw [List.map_cons]
   refine .step (by show aQ T.nodes (ak T.af (ap M x.2))=true;rw[e1];exact Ny (by omega) c1) ?_;show cC T _ (_++[ak T.af (ap M x.2)]) rb;rw [e1];exact QX
  ·rw [List.map_cons,List.map_cons,NI]
   congr 1
   unfold j_ pk;show (⟨x.1,(aa T.nodes (ak T.af (ap M x.2))).kind,(aa T.nodes (ak T.af (ap M x.2))).mode,(aa T.nodes (ak T.af (ap M x.2))).uid,(aa T.nodes (ak T.af (ap M x.2))).gid,(aa T.nodes (ak T.af (ap M x.2))).mtime,0,0,(ft (aC.map (ap M)) (aa T.nodes (ak T.af (ap M x.2))).no:Nat),(aa T.nodes (ak T.af (ap M x.2))).data⟩:qC)=⟨x.1,(aa S.nodes (ak S.af x.2)).kind,(aa S.nodes (ak S.af x.2)).mode,(aa S.nodes (ak S.af x.2)).uid,(aa S.nodes (ak S.af x.2)).gid,(aa S.nodes (ak S.af x.2)).mtime,0,0,(ft aC (aa S.nodes (ak S.af x.2)).no:Nat),(aa S.nodes (ak S.af x.2)).data⟩;rw [e1,b5,c1,c2,c3,p1,p2,p3,p4,vP h (hm x (List.mem_cons_self ..)),(aj b6).2.1]
end
end
theorem Cp {c:Nat} {S:ac} (h:dI c S) (hl:nu S) {r:Int->Nat} (R:pO S r) {X0:Int} {t l:List aq} {y:aq} {e:Int} (hd:jr S 0 0 t l y e):(∀z∈t,im S 0 0 z->eL S z.no X0=true)->∀z∈l,(aa S.nodes z.no).kind=1->eL S z.no X0=true:=by
 induction hd with
 | nil=>intro _ z hz;cases hz
 | bad _=>intro _ z hz;cases hz
 | @step x t l y e h0 hd ih =>
  intro ht z hz hk;rcases List.mem_cons.1 hz with rfl|hz
  ·exact ht z (List.mem_cons_self ..) ⟨h0,hk⟩
  ·refine ih (fun w hw lw=>?_) z hz hk
   rcases List.mem_append.1 hw with hw|hw
   ·have lx:=(lY hw).2
    have hx:=ht x (List.mem_cons_self ..) lx;rw [gO lx,List.mem_map]at hw;obtain ⟨v,hv,rfl⟩:=hw;unfold dm at hv;rw [List.mem_map]at hv;obtain ⟨u,hu,rfl⟩:=hv;obtain ⟨i1,i2,i3⟩:=bh lx.2;obtain ⟨a1,a2⟩:=kS h hl i3 hu lw.2;rw [i2]at a1 a2;show eL S (ak S.af u.2) X0=true;have hn0:ak S.af u.2≠0:=by
     obtain ⟨j1,j2,j3⟩:=bh (show (aa S.nodes (ak S.af u.2)).kind=1 from lw.2);have:=(h.aC.2 _ j3).1;rw [j2]at this;omega
    by_cases e:ak S.af u.2=X0
    ·exact rX hn0 e
    ·rw[Az R hn0 e (by rw[a1];exact Ne.symm a2),a1];exact hx
   ·exact ht w (List.mem_cons_of_mem _ hw) lw
theorem NB {c:Nat} {s:aA} (hp:Pl c s) (hK:aD s.t) {dir aY:Int} {nm b:List UInt8} {l:List aq} {y:aq} {e:Int} (he:e=0) (hd:qi s 0 0 dir nm l y e) (hr:(jM true 0 0 aY b s l 0).2=0) (hw:eL s.t aY (aO (aa s.t.nodes dir).ae nm)=false) :
  aO (aa (jM true 0 0 aY b s l 0).1.t.nodes aY).ae b=s.t.last+1/\s.t.nodes.length<(jM true 0 0 aY b s l 0).1.t.nodes.length/\∃ra rb,cC s.t [([47],aO (aa s.t.nodes dir).ae nm)] [] ra/\cC (jM true 0 0 aY b s l 0).1.t [([47],aO (aa s.t.nodes dir).ae nm)] [] ra/\cC (jM true 0 0 aY b s l 0).1.t [([47],s.t.last+1)] [] rb/\rb.map j_=ra.map j_:=by
 obtain ⟨X0,Jc⟩:∃X,X=aO (aa s.t.nodes dir).ae nm:=⟨_,rfl⟩;rw [<-Jc]at hw|-;have h:=hp.dL.eE;have g_:=h.last;rcases hd with⟨h1,_,_,h4⟩|⟨h1,IW,hd⟩
 ·exact absurd (h4.symm.trans he) h1
 have PP:iH s.t 0 0 dir nm=0:=by unfold jV dR at h1;rw[IW,if_neg (by decide)]at h1;exact h1
 have hop:bf s.t 0 0 dir 1 1=0/\aO (aS s.t 0 0 dir 1 1).ae nm≠0:=by
  unfold iH at PP;split at PP
  ·rename_i k
   split at PP
   ·cases PP
   ·rename_i k2;exact⟨k,k2⟩
  ·rename_i k;exact absurd PP k
 have Rl:aS s.t 0 0 dir 1 1=aa s.t.nodes dir:=by unfold aS;rw[if_pos hop.1]
 have oL:(aa s.t.nodes dir).kind=1:=by
  have:=hop.1;unfold bf at this;split at this
  ·cases this
  ·split at this
   ·rename_i k;exact k
   ·split at this<;>cases this
 have ZJ:X0≠0:=by rw[Jc,<-Rl];exact hop.2
 have hmem:(nm,X0)∈(aa s.t.nodes dir).ae:=by
  obtain ⟨⟨a,d⟩,q1,q2,q3⟩:=uo (l:=(aa s.t.nodes dir).ae) (nm:=nm) (by rw[<-Jc];exact ZJ);rw [<-Jc]at q3;obtain rfl:a=nm:=q2;obtain rfl:d=X0:=q3;exact q1
 have hfx:jh s 0 0 dir nm=⟨dir,nm,ak s.t.af X0,0⟩:=by
  unfold jh RG lc;rw [IW,if_neg (by decide),if_pos PP,Rl,<-Jc]
 rw [hfx]at hd;have ZI:ez s.t 0 0 ⟨dir,nm,ak s.t.af X0,0⟩=0->ak s.t.af X0=X0:=fun h0=>Cm h (x:=⟨0,[],dir,0⟩) oL hmem (cu:=0) (cg:=0) h0
 obtain ⟨r,R⟩:=h.AJ;have hx0:ez s.t 0 0 ⟨dir,nm,ak s.t.af X0,0⟩=0:=(rM hd he _ (List.mem_cons_self ..)).1;have eo:=ZI hx0;rw [eo]at hd hx0;have sw:=Cp (X0:=X0) h hp.dL.kids.up R hd (fun z hz _=>by rw[List.mem_singleton]at hz;subst hz;exact rX ZJ rfl);obtain ⟨IK,M,L⟩:=IQ hp hK he hd (fun _=>eo) (fun hk z hz e2=>by
  have:=sw z hz (by rw[e2];exact hk);rw [e2,hw]at this;cases this) hr
 have hb:∀k,s.t.last<k->ak s.t.af k=k:=fun no bc=>by
  rcases fG h.nt (show 0<no by omega) with e|⟨k,hk,e1,e2⟩
  ·exact e
  ·exfalso
   obtain ⟨q,hq,q1,_⟩:=h.kZ k hk;have:=(h.aC.2 q hq).2;omega
 have bc:∀k,aQ s.t.nodes k=true->1<=k:=fun k hk=>by
  obtain ⟨_,e1,e2⟩:=aj hk;have:=(h.aC.2 _ e2).1;omega
 obtain ⟨ra,FE⟩:=vp h hp.dL.xo hp.dL.kids.up [([47],X0)] [];have hm:∀y∈[(([47]:List UInt8),X0)],ap M y.2≠0:=fun y hy=>by
  rw [List.mem_singleton]at hy;subst hy;show ap M X0≠0;have:ap M X0=s.t.last+1:=L.fst;omega
 obtain ⟨rb,QX,NI⟩:=NA hb g_ L FE hm;refine ⟨L.top,L.len,ra,rb,FE,Nz g_ bc L FE hm,?_,NI⟩;have e2:ap M X0=s.t.last+1:=L.fst;rw [List.map_cons,List.map_nil,List.map_nil,e2]at QX;exact QX
open Go.ChangeShapes Go.WideShapes Go.ChangeAt Go.RowKit
def QY (n:ai):Prop:=(n.kind=1->n.data=[])/\(n.kind=3->n.mode=511)
theorem aD.get {S:ac} (h:aD S) (no:Int):QY (aa S.nodes no):=by
 cases hi:aQ S.nodes no
 ·rw[(aV hi).1];exact⟨fun _=>rfl,fun h=>by cases h⟩
 ·exact h _ (aj hi).2.2
theorem aD.set {S:ac} (h:aD S) {n:ai} (hn:QY n):aD (aK S n):=fun m hm=>by
 rcases aM hm with⟨hm,_⟩|rfl
 ·exact h m hm
 ·exact hn
theorem aD.Sk {S:ac} (h:aD S) (dir now:Int) (l:List ax):aD (cI S dir now l):=h.set (h.get dir)
theorem aD.make {S:ac} (h:aD S) {n:ai} (hn:QY n):aD (bj S n):=by
 unfold bj;split
 ·intro m hm
  rcases List.mem_append.1 hm with hm|hm
  ·exact h m hm
  ·rw[List.mem_singleton]at hm;subst hm;exact hn
 ·exact h
theorem aD.come {S:ac} (h:aD S) (cu cg now dir:Int) (nm:List UInt8) {n:ai} (hn:QY n):aD (aX S cu cg now dir nm n):=by
 unfold aX;split
 ·exact (h.make (n:=bA S cu cg now dir n) hn).Sk _ _ _
 ·exact h
theorem aD.pre {S T:ac} {p:Int} (h:aD S) (k:aD T):aD (dM p S T):=by unfold dM;split;exact h;exact k
theorem aD.T_ {S:ac} (h:aD S) (cu cg now no dir:Int) (nm:List UInt8):aD (dW S cu cg now no dir nm):=by
 unfold dW;split
 ·exact (h.set (n:=bH S now no) (h.get no)).Sk _ _ _
 ·exact h
theorem aD.mode {S:ac} (h:aD S) (cu now no mode:Int):aD (d_ S cu now no mode):=by
 unfold d_;split
 ·rename_i h0
  refine h.set ⟨(h.get no).1,fun k=>?_⟩
  exfalso
  unfold eJ at h0;split at h0
  ·rename_i h1;exact h1 h0
  ·rw[if_pos (.inr (.inr k))]at h0;cases h0
 ·exact h
theorem aD.Ua {S:ac} (h:aD S) (cu now no uid gid:Int):aD (ey S cu now no uid gid):=by
 unfold ey;split;exact h.set (h.get no);exact h
theorem aD.time {S:ac} (h:aD S) (cu now no mt:Int):aD (ee S cu now no mt):=by
 unfold ee;split;exact h.set (h.get no);exact h
theorem aD.root {S:ac} (h:aD S) (over b n:Int):aD (cr S over b n):=fun m hm=>by
 rcases List.mem_append.1 hm with hm|hm
 ·exact h m hm
 ·rw[List.mem_singleton]at hm;subst hm;exact⟨fun _=>rfl,fun h=>by cases h⟩
theorem aD.ji {S:ac} (h:aD S) (a b n:Int):aD (ct S a b n):=by
 unfold ct;split;exact h.root _ _ _;exact h
theorem aD.dir {S:ac} (h:aD S) (cu cg now dir:Int) (nm:List UInt8) (mode:Int):aD (cF S cu cg now (.bZ dir nm mode)):=h.pre (h.come _ _ _ _ _ ⟨fun _=>rfl,fun h=>by cases h⟩)
theorem aD.Ib {S:ac} (h:aD S) (m:eA):aD (gF S m):=by
 unfold gF;split
 ·exact h
 ·split
  ·split
   ·exact (h.dir _ _ _ _ _ _).ji _ _ _
   ·exact h.dir _ _ _ _ _ _
  ·exact h.ji _ _ _
theorem aD.wF {S:ac} (h:aD S) (l:List eA):aD (dX S l):=by
 unfold dX
 induction l generalizing S with
 | nil=>exact h
 | cons m l ih =>
  rw [List.foldl_cons];refine ih ?_;split
  ·exact h
  ·exact h.Ib m
theorem aD.DV {S:ac} (h:aD S) (it:dJ):aD (iY S it):=by
 unfold iY;split
 ·rename_i x hx
  unfold gT at hx;split at hx
  ·cases hx
  split at hx
  ·cases hx
  split at hx
  ·injection hx with hx;subst hx;exact h.dir _ _ _ _ _ _
  split at hx
  ·injection hx with hx;subst hx;exact h.pre (h.come _ _ _ _ _ ⟨fun k=>(by cases k),fun k=>(by cases k)⟩)
  split at hx
  ·injection hx with hx;subst hx;exact h.pre (h.come _ _ _ _ _ ⟨fun k=>(by cases k),fun _=>rfl⟩)
  split at hx
  ·split at hx
   ·injection hx with hx;subst hx;exact h.T_ _ _ _ _ _ _
   ·cases hx
  ·cases hx
 ·exact h
theorem aD.uR {S:ac} (h:aD S) (no:Int) (it:dJ):aD (fp S no it):=by
 unfold fp;split;exact (h.Ua _ _ _ _ _).mode _ _ _ _;exact h
theorem aD.items (l:List dJ) (p:ac×List Int) (h:aD p.1):aD (dD p l).1:=by
 unfold dD
 induction l generalizing p with
 | nil=>exact h
 | cons m l ih =>
  rw [List.foldl_cons];exact ih _ ((h.DV m).uR _ _)
theorem aD.times (l:List (Int×dJ)) {S:ac} (h:aD S):aD (dN S l):=by
 unfold dN
 induction l generalizing S with
 | nil=>exact h
 | cons x l ih =>
  rw [List.foldl_cons];refine ih ?_;unfold lU;split
  ·exact h.time _ _ _ _
  ·exact h
theorem Ey (ms:List eA) (is:List dJ):aD (fD ms is):=
 (aD.items is _ ((aD.root (S:=cE) (fun n hn=>by cases hn) _ _ _).wF ms)).times _
theorem Cq (S:ac) (r:Int->Nat) (no:Int):jW S r ([47],no):=by
 refine ⟨?_,fun _=>?_⟩
 ·show ([47]:List UInt8).length<=_
  simp only[List.length_cons,List.length_nil];omega
 ·show ([47]:List UInt8).length<=_
  simp only[List.length_cons,List.length_nil];omega
theorem IR {s:aA} (hpl:iM 140 s.t) (hp:Pl 140 s) (hK:aD s.t) {dir aY:Int} {nm b:List UInt8} {l:List aq} {y:aq} {e:Int} (hT:qi s 0 0 dir nm l y e) (I3:l.length<=141) {C:aA×Int} (hC:C=jM true 0 0 aY b s l e) (k:C.2=0) (hw:eL s.t aY (aO (aa s.t.nodes dir).ae nm)=false) :
  ∃ c' ra rb,c'<=900/\Pl c' C.1/\aO (aa C.1.t.nodes aY).ae b=s.t.last+1/\s.t.last+1≠0/\s.t.nodes.length<C.1.t.nodes.length/\cC s.t [([47],aO (aa s.t.nodes dir).ae nm)] [] ra/\cC C.1.t [([47],aO (aa s.t.nodes dir).ae nm)] [] ra/\cC C.1.t [([47],s.t.last+1)] [] rb/\rb.map j_=ra.map j_/\ra.length<=200/\rb.length<=200:=by
 have he:e=0:=by
  by_cases h0:e=0
  ·exact h0
  ·rw [hC]at k
   unfold jM at k;rw [if_pos h0]at k;exact absurd k h0
 have Fq:C=jM true 0 0 aY b s l 0:=by rw[hC,he]
 have hr:(jM true 0 0 aY b s l 0).2=0:=by rw[<-Fq];exact k
 obtain ⟨h1,h2,ra,rb,h3,h4,h5,h6⟩:=NB hp hK he hT hr hw;rw [<-Fq]at h1 h2 h4 h5;have hP:=FF hp true 0 0 aY b l 0;rw [<-Fq]at hP;have Ol:ra.length<=200:=by
  have:=xQ hpl.dL.eE hpl.dL.xo hpl.dL.kids h3;have:=hpl.I7;omega
 have hlb:rb.length=ra.length:=by have:=congrArg List.length h6;rw[List.length_map,List.length_map]at this;exact this
 exact ⟨_,ra,rb,by omega,hP,h1,by have:=hpl.dL.eE.last;omega,h2,h3,h4,h5,h6,Ol,by omega⟩
theorem dC.NC {w:World} {A:Option Addr} {l:List qC} (h:dC fU w A l) {k:Nat} (hk:k<l.length):∃b o,A=some ⟨b,o,none⟩/\b<w.heap.size/\∀j,j<10->w.cell? ⟨b,o+k*10+j,none⟩=(fU.enc l[k])[j]?:=by
 rcases h with h|⟨b,o,hA,hb,hc⟩
 ·rw[h]at hk;cases hk
 ·exact⟨b,o,hA,hb,fun j hj=>hc k hk j hj⟩
theorem xZ (A:Option Addr) (l:List qC) (cap:Nat) (w:World) (h:dC fU w A l) (hl:l.length<=100000) (_hcap:l.length<=cap):Calls Tryz.prog 20 #[.slice A l.length cap] w (fun e w'=>∃v,e=.returned v/\bJ fU w' w.heap.size v (l.map j_)/\Ext w w'):=by
 obtain⟨m,hm⟩:=ar l.length;rw [<-hm]at hl _hcap|-;have HM:=zH hm;have HA:=zH h;clear hm h;go_enter Tryz.func20,Tryz.ntmps20;go_wp2_with fail;go_loopw [3,4] (fun vo vi wr=>∃k:Nat,vi=.int .i64 k/\k<=m/\bJ fU wr w.heap.size vo ((l.take k).map j_)/\Ext w wr) (fun _ vi _=>m-(intOf vi).toNat)
 case atStart=>exact⟨0,rfl,Nat.zero_le _,bJ.nil _ _ _,Ext.refl _⟩
 case round =>
  obtain ⟨k,rfl,hk,hO,hE⟩:=hrel;have k0:(0:Int)<=(k:Int):=Int.natCast_nonneg _
  by_cases hlt:(k:Int)<m
  case pos =>
   have dq:k<l.length:=by have:=HM.out;omega
   obtain ⟨b,o,rfl,hb,hc⟩:=HA.out.NC dq;have lk:(l.take (k+1)).map j_=(l.take k).map j_++[j_ l[k]]:=by rw[List.take_succ_eq_append_getElem dq,List.map_append];rfl
   obtain⟨x,hx⟩:=ar (l[k]);rw [<-hx]at hc lk;have hq:∀j,j<10->wr.cell? ⟨b,o+k*10+j,none⟩=(fU.enc x)[j]?:=fun j hj=>(hE.cell hb).trans (hc j hj)
   have q0:wr.cell? ⟨b,o+k*10,none⟩=some (.string (bs x.path)):=hq 0 (by decide);have q1:wr.cell? ⟨b,o+k*10+1,none⟩=some (.int .i64 x.kind):=hq 1 (by decide);have q2:wr.cell? ⟨b,o+k*10+2,none⟩=some (.int .i64 x.mode):=hq 2 (by decide);have q3:wr.cell? ⟨b,o+k*10+3,none⟩=some (.int .i64 x.uid):=hq 3 (by decide);have q4:wr.cell? ⟨b,o+k*10+4,none⟩=some (.int .i64 x.gid):=hq 4 (by decide);have q5:wr.cell? ⟨b,o+k*10+5,none⟩=some (.int .i64 x.mtime):=hq 5 (by decide);have q6:wr.cell? ⟨b,o+k*10+6,none⟩=some (.int .i64 x.ctime):=hq 6 (by decide);have q7:wr.cell? ⟨b,o+k*10+7,none⟩=some (.int .i64 x.dev):=hq 7 (by decide);have q8:wr.cell? ⟨b,o+k*10+8,none⟩=some (.int .i64 x.first):=hq 8 (by decide);have q9:wr.cell? ⟨b,o+k*10+9,none⟩=some (.string (bs x.data)):=hq 9 (by decide);have qz:b<wr.heap.size:=by have:=hE.size;omega
   have VM:IntKind.i64.wrap ((k:Int)+1)=(k:Int)+1:=IntWalk.i64_in _ (by omega);obtain ⟨W4,fN⟩:∃W,W=wr.alloc (.cells #[bs x.path,x.kind,x.mode,x.uid,x.gid,x.mtime,x.ctime,x.dev,.int .i64 x.first,bs x.data] 83):=⟨_,rfl⟩;obtain ⟨b5,jP⟩:∃b,b=wr.heap.size:=⟨_,rfl⟩;have E4:Ext wr W4:=by rw[fN];exact (Ext.refl _).alloc _
   have X4:Has W4 b5 (.cells #[bs x.path,x.kind,x.mode,x.uid,x.gid,x.mtime,x.ctime,x.dev,.int .i64 x.first,bs x.data] 83):=by rw[fN,jP];exact Has.new _ _
   obtain ⟨W5,kL⟩:∃W,W=W4.setCell ⟨b5,6,none⟩ (.int .i64 0):=⟨_,rfl⟩;obtain ⟨W6,DI⟩:∃W,W=W5.setCell ⟨b5,7,none⟩ (.int .i64 0):=⟨_,rfl⟩;have E5:Ext wr W5:=by rw[kL];exact E4.setCell (by show wr.heap.size<=b5;omega) _
   have E6:Ext wr W6:=by rw[DI];exact E5.setCell (by show wr.heap.size<=b5;omega) _
   have X5:Has W5 b5 (.cells #[bs x.path,x.kind,x.mode,x.uid,x.gid,x.mtime,.int .i64 0,x.dev,.int .i64 x.first,bs x.data] 83):=by rw[kL];have:=Has.setCell X4 6 (.int .i64 0);simpa using this
   have X6:Has W6 b5 (.cells #[bs x.path,x.kind,x.mode,x.uid,x.gid,x.mtime,.int .i64 0,.int .i64 0,.int .i64 x.first,bs x.data] 83):=by rw[DI];have:=Has.setCell X5 7 (.int .i64 0);simpa using this
   obtain ⟨v8,w8,RT,MP,Oy,_⟩:=sf fU W6 (hO.ext E6) (hE.trans E6).size (j_ x) (by rw[List.length_map];have:=List.length_take_le k l;have:=HM.out;omega);have E8:Ext w w8:=((hE.trans E6).alloc _).grown Oy (fun g hv=>((hO.ext E6).lt hv).1);rw [<-lk]at MP;have VT:=zH RT;have xP:=zH MP;have zL:=zH E8;have I_:=zH X4;have RM:=zH X5;have zI:=zH X6;clear hc hq lk hx E4 X4 E5 X5 E6 X6 RT MP Oy E8 hE hO;go_upto_region 6 with fail;rw [<-fN,<-jP];clear fN jP q0 q1 q2 q3 q4 q5 q6 q7 q8 q9 qz;have y6:=I_.out.cell 6;have y6f:=I_.out.free 6;have yz:=I_.out.lt;simp only[gA,gB,gC]at y6;go_upto_region 7 with fail;rw [<-kL];clear kL y6 y6f yz;have y7:=RM.out.cell 7;have y7f:=RM.out.free 7;have yz:=RM.out.lt;simp only[gA,gB,gC]at y7;go_upto_region 8 with fail;rw [<-DI];clear DI y7 y7f yz;have n0:=zI.out.cell 0;have n1:=zI.out.cell 1;have n2:=zI.out.cell 2;have n3:=zI.out.cell 3;have n4:=zI.out.cell 4;have n5:=zI.out.cell 5;have n6:=zI.out.cell 6;have n7:=zI.out.cell 7;have n8:=zI.out.cell 8;have n9:=zI.out.cell 9;have nz:=zI.out.lt;simp only[gA,gB,gC]at n0 n1 n2 n3 n4 n5 n6 n7 n8 n9;go_wp2_with (at_builtin;refine Lib.wpList_append_run _ rfl _ _ 71 71 rfl _ _ rfl rfl _ _ VT.out ?_);go_roundw
   case rel=>exact⟨k+1,by go_num,by omega,xP.out,zL.out⟩
   case measure=>simp[intOf];omega
  case neg =>
   have YT:(l.take k).map j_=l.map j_:=by rw[List.take_of_length_le (by have:=HM.out;omega)]
   rw [YT]at hO;have HO:=zH hO;have HE:=zH hE;clear YT hO hE;go_wp2_with fail;go_ret;exact ⟨_,rfl,HO.out,HE.out⟩
theorem su (A A':Option Addr) (l:List qC) (cap cap':Nat) (w:World) (h:dC fU w A l) (h':dC fU w A' l) (hl:l.length<=100000) (_hcap:l.length<=cap) (_hcap':l.length<=cap'):Calls Tryz.prog 19 #[.slice A l.length cap,.slice A' l.length cap'] w (aH w (.bool true)):=by
 obtain⟨m,hm⟩:=ar l.length;rw [<-hm]at hl _hcap _hcap'|-;have HM:=zH hm;have HA:=zH h;have HA':=zH h';clear hm h h';go_enter Tryz.func19,Tryz.ntmps19;go_wp2_with fail;go_loopw [5] (fun vi wr=>∃k:Nat,vi=.int .i64 k/\k<=m/\Ext w wr) (fun vi _=>m-(intOf vi).toNat)
 case atStart=>exact⟨0,rfl,Nat.zero_le _,Ext.refl _⟩
 case round =>
  obtain ⟨k,rfl,hk,hE⟩:=hrel;have k0:(0:Int)<=(k:Int):=Int.natCast_nonneg _
  by_cases hlt:(k:Int)<m
  case pos =>
   have dq:k<l.length:=by have:=HM.out;omega
   obtain ⟨b,o,rfl,hb,hc⟩:=HA.out.NC dq;obtain ⟨b',o',rfl,hb',hc'⟩:=HA'.out.NC dq;obtain⟨x,hx⟩:=ar (l[k]);rw [<-hx]at hc hc';have hq:∀j,j<10->wr.cell? ⟨b,o+k*10+j,none⟩=(fU.enc x)[j]?:=fun j hj=>(hE.cell hb).trans (hc j hj)
   have hp:∀j,j<10->wr.cell? ⟨b',o'+k*10+j,none⟩=(fU.enc x)[j]?:=fun j hj=>(hE.cell hb').trans (hc' j hj)
   have q0:wr.cell? ⟨b,o+k*10,none⟩=some (.string (bs x.path)):=hq 0 (by decide);have q1:wr.cell? ⟨b,o+k*10+1,none⟩=some (.int .i64 x.kind):=hq 1 (by decide);have q2:wr.cell? ⟨b,o+k*10+2,none⟩=some (.int .i64 x.mode):=hq 2 (by decide);have q3:wr.cell? ⟨b,o+k*10+3,none⟩=some (.int .i64 x.uid):=hq 3 (by decide);have q4:wr.cell? ⟨b,o+k*10+4,none⟩=some (.int .i64 x.gid):=hq 4 (by decide);have q5:wr.cell? ⟨b,o+k*10+5,none⟩=some (.int .i64 x.mtime):=hq 5 (by decide);have q6:wr.cell? ⟨b,o+k*10+6,none⟩=some (.int .i64 x.ctime):=hq 6 (by decide);have q7:wr.cell? ⟨b,o+k*10+7,none⟩=some (.int .i64 x.dev):=hq 7 (by decide);have q8:wr.cell? ⟨b,o+k*10+8,none⟩=some (.int .i64 x.first):=hq 8 (by decide);have q9:wr.cell? ⟨b,o+k*10+9,none⟩=some (.string (bs x.data)):=hq 9 (by decide);have p0:wr.cell? ⟨b',o'+k*10,none⟩=some (.string (bs x.path)):=hp 0 (by decide);have p1:wr.cell? ⟨b',o'+k*10+1,none⟩=some (.int .i64 x.kind):=hp 1 (by decide);have p2:wr.cell? ⟨b',o'+k*10+2,none⟩=some (.int .i64 x.mode):=hp 2 (by decide);have p3:wr.cell? ⟨b',o'+k*10+3,none⟩=some (.int .i64 x.uid):=hp 3 (by decide);have p4:wr.cell? ⟨b',o'+k*10+4,none⟩=some (.int .i64 x.gid):=hp 4 (by decide);have p5:wr.cell? ⟨b',o'+k*10+5,none⟩=some (.int .i64 x.mtime):=hp 5 (by decide);have p6:wr.cell? ⟨b',o'+k*10+6,none⟩=some (.int .i64 x.ctime):=hp 6 (by decide);have p7:wr.cell? ⟨b',o'+k*10+7,none⟩=some (.int .i64 x.dev):=hp 7 (by decide);have p8:wr.cell? ⟨b',o'+k*10+8,none⟩=some (.int .i64 x.first):=hp 8 (by decide);have p9:wr.cell? ⟨b',o'+k*10+9,none⟩=some (.string (bs x.data)):=hp 9 (by decide);have qz:b<wr.heap.size:=by have:=hE.size;omega
   have pz:b'<wr.heap.size:=by have:=hE.size;omega
   have VM:IntKind.i64.wrap ((k:Int)+1)=(k:Int)+1:=IntWalk.i64_in _ (by omega);have HE:=zH hE;clear hc hc' hq hp hx hE;go_upto_region 6 with fail;go_quiet (fail);have EQ:=zH (HE.out.drewN nq);go_wp2_with fail;go_roundw
   case rel=>exact⟨k+1,by go_num,by omega,EQ.out⟩
   case measure=>simp[intOf];omega
  case neg =>
   have HE:=zH hE;clear hE;go_wp2_with fail;go_ret;exact aH.mk rfl HE.out
theorem wJ (AW : ∀ w,Calls Tryz.prog 6 #[] w (aH w (.bool true))) (x:nA) (cs:Array Value) (w:World) (h:nB w x cs):Calls Tryz.prog 4 #[.agg cs] w (aH w (.bool true)):=by
 obtain ⟨W1,b_⟩:∃W,W=w.alloc (.cells cs 30):=⟨_,rfl⟩;obtain ⟨b1,jZ⟩:∃b,b=w.heap.size:=⟨_,rfl⟩;have E1:Ext w W1:=by rw[b_];exact (Ext.refl _).alloc _
 have B1:Has W1 b1 (.cells cs 30):=by rw[b_,jZ];exact Has.new _ _
 have KF:=zH (Iq x cs W1 (h.ext E1));obtain ⟨x0,hx0⟩:∃x0:nA,x0={x with plan:=[]}:=⟨_,rfl⟩;obtain ⟨Am,cm,Ai,ci,Ap,cp,rfl,hr1,zx,_,_,jF,g_,rO,Om,_⟩:=h;have KB:Hid (Ip x->∀u,Ext w u->Calls Tryz.prog 7 #[.agg #[.slice Am x.ms.length cm,.slice Ai x.is.length ci,x.uid,x.gid,.int .i64 x.at_,.int .i64 x.aY,bs x.name,.slice none 0 0,.bool x.keep]] u (MH u x0)):=by
  show _->∀_,_;intro hF u hu;rw [hx0];exact MI _ _ u ⟨Am,cm,Ai,ci,none,0,rfl,hr1.ext hu,zx.ext hu,.inl rfl,fun _=>rfl,jF,g_,rO,Om,Nat.le_refl _,by decide⟩ ⟨hF.1,hF.2.1,Nat.zero_le _⟩
 obtain ⟨nm,gY⟩:∃n,n=x.ms.length:=⟨_,rfl⟩;obtain ⟨ni,tg⟩:∃n,n=x.is.length:=⟨_,rfl⟩;obtain ⟨np,Jb⟩:∃n,n=x.plan.length:=⟨_,rfl⟩;obtain ⟨Pn,hPn⟩:∃P,P=bs x.name:=⟨_,rfl⟩;rw [<-gY,<-tg,<-hPn]at b_ B1 KF KB|-;rw [<-Jb]at b_ B1 KF|-;have HPN:=zH hPn;have qs:=zH B1;have uJ:Hid (w.heap.size<=b1):=zH (by rw[jZ];exact Nat.le_refl _);have c0:=B1.cell 0;have c1:=B1.cell 1;have c2:=B1.cell 2;have c3:=B1.cell 3;have c4:=B1.cell 4;have c5:=B1.cell 5;have c6:=B1.cell 6;have c7:=B1.cell 7;have c8:=B1.cell 8;have cz:=B1.lt;simp only[gA,gB,gC]at c0 c1 c2 c3 c4 c5 c6 c7 c8;clear gY tg Jb hPn B1 hr1 zx jF g_ rO Om;go_enter Tryz.func4,Tryz.ntmps4;go_upto_region 1 with fail;rw [<-b_,<-jZ];clear b_ jZ;go_wp2_with fail;refine KF.out.mono ?_;rintro e w2 ⟨h2,E2⟩;clear KF;have Ea:=zH (E1.trans E2);have B2:=qs.out.ext E2;have ZK:=zH B2;have ZL:w.heap.size<=b1:=uJ.out;clear c0 c1 c2 c3 c4 c5 c6 c7 c8 cz;have c2:=B2.cell 2;have cz:=B2.lt;simp only[gA,gB,gC]at c2;rcases h2 with⟨rfl,hF⟩|rfl
 case inr =>
  clear B2;go_wp2_with fail;refine (AW _).mono ?_;rintro e wz ⟨rfl,bz⟩;go_wp2_with fail;go_ret;exact aH.mk rfl (Ea.out.trans bz)
 have HF:=zH hF;have KB1:=zH (KB.out hF);have c7:=B2.cell 7;have cf:∀i,w2.frozen? ⟨b1,i,none⟩=false:=fun i=>(B2.free i).trans (by simp)
 simp only[gA,gB,gC]at c7;clear hF KB B2;go_upto_region 4 with fail;obtain ⟨W3,du⟩:∃W,W=w2.setCell ⟨b1,7,none⟩ (.slice none 0 0):=⟨_,rfl⟩;rw [<-du];have O3:Only [b1] w2 W3:=by rw[du];exact Only.setCell _ _ _ _
 have B3:Has W3 b1 (.cells #[.slice Am nm cm,.slice Ai ni ci,x.uid,x.gid,.int .i64 x.at_,.int .i64 x.aY,.string Pn,.slice none 0 0,.bool x.keep] 30):=by rw[du];exact ZK.out.setCell 7 _
 have E3:Ext w W3:=O3.after Ea.out (by intro y hy;rw[List.mem_singleton]at hy;subst hy;exact ZL);have RJ:=zH E3;have HB3:=zH B3;have KB2:=zH (KB1.out W3 E3);clear du O3 c7 c2 cf cz E1 E2 KB1 ZK Ea E3 ZL;have c0:=B3.cell 0;have c1:=B3.cell 1;have c2:=B3.cell 2;have c3:=B3.cell 3;have c4:=B3.cell 4;have c5:=B3.cell 5;have c6:=B3.cell 6;have c7:=B3.cell 7;have c8:=B3.cell 8;have cz:=B3.lt;simp only[gA,gB,gC]at c0 c1 c2 c3 c4 c5 c6 c7 c8;clear B3;go_wp2_with fail;refine KB2.out.mono ?_;rintro e w4 ⟨B,b,g,f,rfl,hB,hP,hR,E4⟩;rw [hx0]at hP hR;have hFx:Ip {x with plan:=[]}:=⟨HF.out.1,HF.out.2.1,Nat.zero_le _⟩;obtain ⟨hpl,hs⟩:=zr hFx;have hwh:=Cj x.ms x.is;obtain ⟨s,hs0⟩:∃s:aA,s=⟨fD x.ms x.is,0,0,[],false⟩:=⟨_,rfl⟩;have hst:s.t=fD x.ms x.is:=by rw[hs0]
 have Uw:s.dead=false:=by rw[hs0]
 have hsp:s.plan=[]:=by rw[hs0]
 have hP:PS w4 B b g s:=by rw[hs0];exact hP
 have hR:RS w4 B f s:=by rw[hs0];exact hR
 have hs:fT 140 s:=by rw[hs0];exact hs
 have hpl:iM 140 (fD x.ms x.is):=hpl;rw [<-hst]at hpl hwh;have HSD:=zH Uw;have HSP:=zH hsp;have HWH:=zH hwh;have HB0:=zH hB;have HE4:=zH E4;have HP:=zH hP;have HR:=zH hR;have HS:=zH hs;have l6:=zH hpl;have abL:=zH (RJ.out.trans E4);have Mj:=zH (HB3.out.ext E4);have B4:=Mj.out;have KS:=zH (Na hR hpl x.at_);have KD:=zH (fun (u:World) (hu:Ext w4 u)=>QF (HR.out.ext hu) l6.out x.aY);obtain ⟨vN,vD,v3,v4,v5,v6,hFS⟩:∃vN vD v3 v4 v5 v6,Has w4 f.bF (.cells #[vN,vD,.int .i64 s.t.last,v3,v4,v5,v6] 54):=by
  obtain ⟨X,_,cn,ce,k,_⟩:=HR.out.PG;exact ⟨_,_,_,_,_,_,k⟩
 have HFS:=zH hFS;have ou:=zH hst;clear hB hs0 hst Uw hsp hP hR hs hpl hwh hFx hx0 KB2 E4 c0 c1 c2 c3 c4 c5 c6 c7 c8 cz hFS;have c4:=B4.cell 4;have cz:=B4.lt;simp only[gA,gB,gC]at c4;clear B4;go_wp2_with fail;refine KS.out.mono ?_;rintro e w5 ⟨dir,ZM,is,rfl,ZN,_,E5⟩;have HE5:=zH E5;have acB:=zH ZN;have B5:=Mj.out.ext E5;have KD5:=zH (KD.out _ E5);clear KS KD c4 cz E5 ZN;have c5:=B5.cell 5;have cz:=B5.lt;simp only[gA,gB,gC]at c5;clear B5;go_wp2_with fail;refine KD5.out.mono ?_;rintro e w6 ⟨aY,rfl,E6⟩;have E46:=HE5.out.trans E6;have abM:=zH E46;have hp:Pl 140 s:=⟨l6.out.dL,HS.out.c0,HS.out.c1,HS.out.plan⟩;have HPP:=zH hp;obtain ⟨Xt,hFX⟩:=HR.out.PG;have HFX:=zH hFX;have KG:=zH (eZ B f s.t Xt dir w6 (hFX.ext E46) (by have:=l6.out.dL.eE.count;have:=l6.out.dL.last;omega) l6.out.dL.eE.aC);clear KD5 c5 cz E6 E46 hp hFX;go_wp2_with fail;refine KG.out.mono ?_;rintro e w7 ⟨A7,k7,rfl,tK,E7⟩;obtain ⟨n7,hn7⟩:∃n,n=aa s.t.nodes dir:=⟨_,rfl⟩;rw [<-hn7]at tK|-;have HN7:=zH hn7;have lJ:n7.ae.length<=2000000:=by have:=(l6.out.dL.eE.aa dir).2;rw[hn7];omega
 have KI:=zH (lK A7 n7.ae k7 ZM w7 tK.ae.ae lJ);obtain ⟨X0,Jc⟩:∃X,X=aO n7.ae ZM:=⟨_,rfl⟩;rw [<-Jc]at KI;have se:=zH Jc;have U9:=zH (abM.out.trans E7);have hfd:∀W,(Instr.field 58 (.agg #[n7.no,n7.dev,n7.kind,n7.mode,n7.uid,n7.gid,n7.mtime,n7.ctime,n7.ah,n7.up,bs n7.data,.slice A7 n7.ae.length k7]) 11).run Tryz.prog W=.ok (.slice A7 n7.ae.length k7) W:=fun W=>by kernel_rfl
 clear KG hn7 lJ Jc tK E7;go_wp2_with fail;refine KI.out.mono ?_;rintro e w8 ⟨rfl,E8⟩;have U_:=zH (U9.out.trans E8);have Va:=zH (abL.out.trans (U9.out.trans E8));clear KI E8 U9 hfd
 cases is with
 | false =>
  go_wp2_with fail;refine (AW _).mono ?_;rintro e wz ⟨rfl,bz⟩;go_wp2_with fail;go_ret;exact aH.mk rfl (Va.out.trans bz)
 | true =>
  have KW:=zH (fun (b0:Int) (u:World) (hu:Ext w4 u)=>AA B f s.t Xt aY b0 u (HFX.out.ext hu) (by have:=l6.out.dL.eE.count;have:=l6.out.dL.last;omega) l6.out.dL.eE.eight l6.out.dL.eE.roots l6.out.dL.eE.aC);have KW1:=zH (KW.out X0 w8 U_.out);obtain ⟨q1,Gh⟩:∃q,q=eL s.t aY X0:=⟨_,rfl⟩;rw [<-Gh]at KW1;have UK:=zH Gh;clear Gh;go_wp2_with fail;refine KW1.out.mono ?_;rintro e w9 ⟨rfl,E9⟩;have Vb:=zH (U_.out.trans E9);have Vc:=zH (Va.out.trans E9);clear KW1 E9 U_ Va
  cases q1 with
  | true =>
   go_wp2_with fail;refine (AW _).mono ?_;rintro e wz ⟨rfl,bz⟩;go_wp2_with fail;go_ret;exact aH.mk rfl (Vc.out.trans bz)
  | false =>
   have KO:=zH (iD B f s.t Xt X0 w9 (HFX.out.ext Vb.out) (by have:=l6.out.dL.eE.eight;omega));obtain ⟨Y0,hY0⟩:∃Y,Y=ak s.t.af X0:=⟨_,rfl⟩;rw [<-hY0]at KO;clear hY0;go_wp2_with fail;refine KO.out.mono ?_;rintro e DJ ⟨rfl,Qf⟩;have Vd:=zH (Vb.out.trans Qf);have ZO:=zH (Vc.out.trans Qf);have KW2:=zH (KW.out Y0 DJ Vd.out);obtain ⟨q2,hq2⟩:∃q,q=eL s.t aY Y0:=⟨_,rfl⟩;rw [<-hq2]at KW2;clear hq2 KO Qf Vb Vc;go_wp2_with fail;refine KW2.out.mono ?_;rintro e Ja ⟨rfl,tc⟩;have Cs:=zH (Vd.out.trans tc);have Ve:=zH (ZO.out.trans tc);clear KW2 tc Vd ZO KW
   cases q2 with
   | true =>
    go_wp2_with fail;refine (AW _).mono ?_;rintro e wz ⟨rfl,bz⟩;go_wp2_with fail;go_ret;exact aH.mk rfl (Ve.out.trans bz)
   | false =>
    obtain ⟨l,b0,e0,hT,I3⟩:=PY HS.out.eE l6.out.dL.kids 0 0 dir ZM;have abN:=l6.out.I7;have ZP:l.length<=141:=by omega
    have K:=zH ((HP.out.ext Cs.out).FC HPP.out true 0 0 dir aY ZM x.name l b0 e0 hT (by omega) (by omega));obtain⟨C,hC⟩:=ar (jM true 0 0 aY x.name s l e0);rw [<-hC,<-HPN.out]at K;have ND:=fun (k:C.2=0) (hw:eL s.t aY (aO (aa s.t.nodes dir).ae ZM)=false)=>IR l6.out HPP.out (by rw[ou.out];exact Ey _ _) hT ZP hC k hw
    rw [<-HN7.out,<-se.out]at ND;have HPK:=zH (fun k=>ND k UK.out.symm);have HB6:=zH (Mj.out.ext Cs.out);have abO:=zH (HFX.out.ext Cs.out);have IV:=zH ((HP.out.ext Cs.out).abC HB6.out (by decide) (by decide) (by decide) (by decide));have Qr:=zH ((HP.out.ext Cs.out).cV);have HRb:=zH (HR.out.ext Cs.out);have HPb:=zH (HP.out.ext Cs.out);clear hT I3 abN hC ND ZP;have B6:=HB6.out;have c6:=B6.cell 6;have cz:=B6.lt;simp only[gA,gB,gC]at c6;clear B6;go_wp2_with fail;refine K.out.mono ?_;rintro e I5 ⟨rfl,Qh,Ow⟩;have HRc:=zH (HRb.out.only Ow Qr.out (fun y hy hm=>(HPb.out.Dz HRb.out) y hm hy));have HPc:=zH Qh;have HBc:=zH (Ow.has HB6.out IV.out);have Vf:=zH (Ow.after Ve.out (fun y hy=>by have h1:=(Qr.out y hy).1;have h2:=HB0.out;have h3:=RJ.out.size;omega));clear K c6 cz Qh Ow HRb HPb HB6 IV abO Ve Cs Qr
    by_cases kC:C.2=0
    case neg =>
     have tC:(C.2 != 0)=true:=by simpa using kC
     clear kC;go_wp2_with fail;refine (AW _).mono ?_;rintro e wz ⟨rfl,bz⟩;go_wp2_with fail;go_ret;exact aH.mk rfl (Vf.out.trans bz)
    have tC:(C.2 != 0)=false:=by simpa using kC
    obtain ⟨c',ra,rb,hc',hp',p1,p2,p3,FE,ZQ,QX,NI,Ol,hlb⟩:=HPK.out kC;obtain ⟨r',hr'⟩:=hp'.dL.eE.AJ;obtain ⟨L1,hL1⟩:∃k,k=s.t.last+1:=⟨_,rfl⟩;rw [<-hL1]at p1 p2 QX;have t2:(L1 != 0)=true:=by simpa using p2
    have KDB:Hid (∀(no:Int) (rows:List qC),cC C.1.t [([47],no)] [] rows->rows.length<=200->∀u,Ext I5 u->Calls Tryz.prog 18 #[.pointer (some ⟨b,0,none⟩),.int .i64 no,.string ⟨#[47]⟩] u (fun e w'=>∃v,e=.returned v/\bJ fU w' u.heap.size v rows/\Ext u w')):=by
     show ∀_ _ _ _ _ _,_;intro no rows hB hl u hu;exact (HPc.out.ext hu).FL hp' hc' no [47] rows hB (by omega) hr' (Cq _ _ _)
    have Za:=zH FE;have KDA:=zH (KDB.out X0 ra ZQ Ol);have KDC:=zH (KDB.out L1 rb QX hlb);have HEQ:=zH NI;have HLA:=zH Ol;have BC:=zH hlb;have Fw:=zH p3;obtain ⟨_,h2,cd,h3,_⟩:=id HPc.out.Tp;obtain ⟨AP,Zm,Ns⟩:∃A cap,eQ I5 b g C.1.now C.1.count A C.1.plan.length cap C.1.dead:=by obtain⟨A,cap,hp⟩:=HPc.out;exact⟨A,cap,hp.2.1⟩
    have d0:=Has.cell Ns 0;have dz:=Has.lt Ns;have d1:=h3.cell 0;have d1z:=h3.lt;simp only[gA,gB]at d0 d1;have KT:=zH (fP B g.bT g.bM C.1.t.nodes C.1.t.last aY I5 h2);obtain ⟨qD,QZ⟩:∃n,n=aa C.1.t.nodes aY:=⟨_,rfl⟩;rw [<-QZ]at p1;have lJ:qD.ae.length<=2000000:=by have:=(hp'.dL.eE.aa aY).2;rw[QZ];omega
    have abP:=zH QZ;have Cx:=zH p1;have xO:=zH p2;clear kC hp' FE ZQ QX NI Ol hlb p1 p2 p3 hr' hL1 h2 h3 Ns QZ KDB;go_wp2_with fail;refine KT.out.mono ?_;rintro e VH ⟨A,k,rfl,ok,RP⟩;rw [<-abP.out]at ok|-;obtain ⟨V0,NF⟩:∃W,W=VH.alloc (.cells #[qD.no,qD.dev,qD.kind,qD.mode,qD.uid,qD.gid,qD.mtime,qD.ctime,qD.ah,qD.up,bs qD.data,.slice A qD.ae.length k] 58):=⟨_,rfl⟩;obtain ⟨iU,iW⟩:∃b,b=VH.heap.size:=⟨_,rfl⟩;have Fl:Ext I5 V0:=by rw[NF];exact RP.alloc _
    have N14:Has V0 iU (.cells #[qD.no,qD.dev,qD.kind,qD.mode,qD.uid,qD.gid,qD.mtime,qD.ctime,qD.ah,qD.up,bs qD.data,.slice A qD.ae.length k] 58):=by rw[NF,iW];exact Has.new _ _
    have Iz:=zH Fl;have ZR:=zH N14;have KI:Hid (Calls Tryz.prog 13 #[.slice A qD.ae.length k,.string Pn] V0 (aH V0 (.int .i64 L1))):=by
     show Calls _ _ _ _ _;have:=lK A qD.ae k x.name V0 ((ok.ext (by rw[NF];exact (Ext.refl _).alloc _)).ae.ae) lJ;rw [Cx.out,<-HPN.out]at this;exact this
    clear KT ok RP Fl N14 d0 dz d1 d1z;go_upto_region 13 with fail;rw [<-NF,<-iW];clear NF iW;have Gx:V0.cell? ⟨iU,11,none⟩=some (.slice A qD.ae.length k):=ZR.out.dS.2.2.2.2.2.2.2.2.2.2.2;have abQ:=ZR.out.lt;have Bc:=HBc.out.ext Iz.out;have c6:=Bc.cell 6;have cz:=Bc.lt;simp only[gA,gB,gC]at c6;clear Bc;go_wp2_with fail;refine KI.out.mono ?_;rintro e w15 ⟨rfl,E15⟩;have ZS:=zH (Iz.out.trans E15);have KA:=zH (KDA.out w15 ZS.out);clear KI Gx abQ c6 cz E15 KDA;go_wp2_with fail;refine KA.out.mono ?_;rintro e w16 ⟨va,rfl,Oa,E16⟩;have ZT:=zH (ZS.out.trans E16);have KB:=zH (KDC.out w16 ZT.out);have HOa:=zH Oa;clear KA E16 Oa;go_wp2_with fail;refine KB.out.mono ?_;rintro e Je ⟨vb,rfl,Ob,E17⟩;have Vg:=zH (ZT.out.trans E17);have abR:=zH (HOa.out.ext E17);have HOb:=zH Ob;clear KB E17 Ob HOa;go_upto_region 15 with fail;obtain ⟨Aa,ka,rfl,VI,_,Ra,_⟩:=abR.out.at_;obtain ⟨Ab,kb,rfl,hkb,_,Rb,_⟩:=HOb.out.at_;obtain ⟨L2,Po⟩:∃L,L=ra.map j_:=⟨_,rfl⟩;have h2l:L2.length<=200:=by rw[Po,List.length_map];exact HLA.out
    have KB1:Hid (∀u,Ext Je u->Calls Tryz.prog 20 #[.slice Aa ra.length ka] u (fun e w'=>∃v,e=.returned v/\bJ fU w' u.heap.size v L2/\Ext u w')):=by
     show ∀_ _,_;intro u hu;rw [Po];exact xZ Aa ra ka u (Ra.ext hu) (by have:=HLA.out;omega) VI
    have KB2:Hid (∀u,Ext Je u->Calls Tryz.prog 20 #[.slice Ab rb.length kb] u (fun e w'=>∃v,e=.returned v/\bJ fU w' u.heap.size v L2/\Ext u w')):=by
     show ∀_ _,_;intro u hu;rw [Po,<-HEQ.out];exact xZ Ab rb kb u (Rb.ext hu) (by have:=BC.out;omega) hkb
    have NM:Hid (∀A1 A2 k1 k2 u,dC fU u A1 L2->dC fU u A2 L2->L2.length<=k1->L2.length<=k2->Calls Tryz.prog 19 #[.slice A1 L2.length k1,.slice A2 L2.length k2] u (aH u (.bool true))):=by
     show ∀_ _ _ _ _ _ _ _ _,_;intro A1 A2 k1 k2 u r1 r2 h1 h2;exact su A1 A2 L2 k1 k2 u r1 r2 (by omega) h1 h2
    have Z6:Hid (∀A4 k4 u,Ext Je u->dC fU u A4 ra->ra.length<=k4->Calls Tryz.prog 19 #[.slice Aa ra.length ka,.slice A4 ra.length k4] u (aH u (.bool true))):=by
     show ∀_ _ _ _ _ _,_;intro A4 k4 u hu r4 h4;exact su Aa A4 ra ka k4 u (Ra.ext hu) r4 (by have:=HLA.out;omega) VI h4
    have hRu:∀u,Ext Je u->RS u B f s:=fun u hu=>HRc.out.ext (Vg.out.trans hu)
    have KRB:Hid (∀u,Ext Je u->Calls Tryz.prog 21 #[.pointer (some ⟨f.bF,0,none⟩),.int .i64 X0,.string ⟨#[47]⟩] u (fun e w'=>∃v,e=.returned v/\bJ fU w' u.heap.size v ra/\Ext u w')):=by
     show ∀_ _,_;intro u hu;obtain ⟨X1,Q7⟩:=(hRu u hu).PG;obtain ⟨r,hr⟩:=l6.out.dL.eE.AJ;exact B_ B f s.t X1 X0 [47] u Q7 l6.out.dL.eE l6.out.dL.xo l6.out.dL.kids (by decide) (by have:=l6.out.dL.last;omega) ra Za.out (by have:=HLA.out;omega) hr (Cq _ _ _)
    obtain ⟨nc,hnc⟩:∃n,n=C.1.t.nodes.length:=⟨_,rfl⟩;obtain ⟨ns,hns⟩:∃n,n=s.t.nodes.length:=⟨_,rfl⟩;have hgt:(ns:Int)<(nc:Int):=by have:=Fw.out;rw[<-hnc,<-hns]at this;omega
    have hPu:∀u,Ext Je u->PS u B b g C.1:=fun u hu=>HPc.out.ext (Vg.out.trans hu)
    have KL:Hid (∀u,Ext Je u->Calls Tryz.prog 22 #[.pointer (some ⟨g.bT,0,none⟩)] u (aH u (.int .i64 nc))):=by
     show ∀_ _,_;intro u hu;rw [hnc];obtain ⟨_,h2,_⟩:=(hPu u hu).Tp;exact J0 B g.bT g.bM _ _ u h2
    obtain ⟨cn,hcn⟩:∃cn,∀u,Ext Je u->u.cell? ⟨f.bF,0,none⟩=some (.slice (some ⟨f.bN,0,none⟩) ns cn)/\f.bF<u.heap.size:=by
     obtain ⟨X1,_,cn,ce,hk,_⟩:=(hRu Je (Ext.refl _)).PG;refine ⟨cn,fun u hu=>?_⟩;rw [hns];exact ⟨(hk.ext hu).cell 0,(hk.ext hu).lt⟩
    have KC:Hid (∀u,Ext Je u->u.cell? ⟨b,0,none⟩=some (.pointer (some ⟨g.bW,0,none⟩))/\b<u.heap.size/\u.cell? ⟨g.bW,0,none⟩=some (.pointer (some ⟨g.bT,0,none⟩))/\g.bW<u.heap.size/\u.cell? ⟨f.bF,0,none⟩=some (.slice (some ⟨f.bN,0,none⟩) ns cn)/\f.bF<u.heap.size):=by
     show ∀_ _,_;intro u hu;have hP:=hPu u hu;obtain ⟨_,_,cd,h3,_⟩:=hP.Tp;obtain ⟨A,cap,hp⟩:=hP;exact ⟨Has.cell hp.2.1 0,Has.lt hp.2.1,h3.cell 0,h3.lt,(hcn u hu).1,(hcn u hu).2⟩
    have GD:Ext Je Je.drew:=(Ext.refl _).drew;have Q0:=zH (Vf.out.trans Vg.out);clear Po h2l hRu hnc hns hPu hcn Vf;refine wp_region_any (by kernel_rfl) ?_;refine wpAny_take (i:=0) (v:=?_) rfl (by kernel_rfl) (by kernel_rfl) (by kernel_rfl) (fun _ _ _ h=>h) (Or.inl ⟨by kernel_rfl,?_⟩) ?_
    case refine_2=>intro w;go_simp;rfl
    simp only[Act.put,List.setIfInBounds_toArray];refine wpAny_take (i:=1) (v:=?_) rfl (by kernel_rfl) (by kernel_rfl) (by kernel_rfl) (fun _ _ _ h=>h) (Or.inl ⟨by kernel_rfl,?_⟩) ?_
    case refine_2=>intro w;go_simp;rfl
    simp only[Act.put];refine wpAny_take (i:=2) (v:=?_) rfl (by kernel_rfl) (by kernel_rfl) (by kernel_rfl) (fun _ _ _ h=>h) (Or.inl ⟨by kernel_rfl,?_⟩) ?_
    case refine_2=>intro w;go_simp;rfl
    simp only[Act.put];refine wpAny_take (i:=3) (v:=?_) rfl (by kernel_rfl) (by kernel_rfl) (by kernel_rfl) (fun _ _ _ h=>h) (Or.inl ⟨by kernel_rfl,?_⟩) ?_
    case refine_2=>intro w;go_simp;rfl
    simp only[Act.put];refine wpAny_take (i:=5) (v:=?_) rfl (by kernel_rfl) (by kernel_rfl) (by kernel_rfl) (fun _ _ _ h=>h) (Or.inl ⟨by kernel_rfl,?_⟩) ?_
    case refine_2=>intro w;go_simp;rfl
    simp only[Act.put];refine wpAny_ready (rs:=[4]) (by kernel_rfl) (by simp) ?_;refine AllReady.cons rfl (fun K hK=>?_) ?_
    ·go_simp
     refine (KB1.out _ GD).mono ?_;rintro e u1 ⟨v1,rfl,O1,F1⟩;obtain ⟨A1,k1,rfl,gG,_,R1,_⟩:=O1.at_;have G1:=(GD).trans F1;refine hK _ _ ?_;clear hK K;refine wpAny_ready (rs:=[6]) (by kernel_rfl) (by simp) ?_;refine AllReady.cons rfl (fun K hK=>?_) ?_
     ·go_simp
      refine (KB2.out _ G1).mono ?_;rintro e u2 ⟨v2,rfl,O2,F2⟩;obtain ⟨A2,k2,rfl,hk2,_,R2,_⟩:=O2.at_;have G2:=(G1).trans F2;refine hK _ _ ?_;clear hK K;refine wpAny_ready (rs:=[7]) (by kernel_rfl) (by simp) ?_;refine AllReady.cons rfl (fun K hK=>?_) ?_
      ·go_simp
       refine (NM.out _ _ _ _ _ (R1.ext F2) R2 gG hk2).mono ?_;rintro e u3 ⟨rfl,F3⟩;have G3:=(G2).trans F3;refine hK _ _ ?_;clear hK K;refine wpAny_take (i:=8) (v:=?_) rfl (by kernel_rfl) (by kernel_rfl) (by kernel_rfl) (fun _ _ _ h=>h) (Or.inl ⟨by kernel_rfl,?_⟩) ?_
       case refine_2=>intro w;go_simp;rfl
       simp only[Act.put,List.setIfInBounds_toArray];refine wpAny_take (i:=9) (v:=?_) rfl (by kernel_rfl) (by kernel_rfl) (by kernel_rfl) (fun _ _ _ h=>h) (Or.inl ⟨by kernel_rfl,?_⟩) ?_
       case refine_2=>intro w;go_simp;rfl
       simp only[Act.put];refine wpAny_take (i:=10) (v:=?_) rfl (by kernel_rfl) (by kernel_rfl) (by kernel_rfl) (fun _ _ _ h=>h) (Or.inl ⟨by kernel_rfl,?_⟩) ?_
       case refine_2=>intro w;go_simp;rfl
       simp only[Act.put];refine wpAny_take (i:=11) (v:=?_) rfl (by kernel_rfl) (by kernel_rfl) (by kernel_rfl) (fun _ _ _ h=>h) (Or.inl ⟨by kernel_rfl,?_⟩) ?_
       case refine_2=>intro w;go_simp;rfl
       simp only[Act.put];refine wpAny_take (i:=12) (v:=?_) rfl (by kernel_rfl) (by kernel_rfl) (by kernel_rfl) (fun _ _ _ h=>h) (Or.inl ⟨by kernel_rfl,?_⟩) ?_
       case refine_2=>intro w;go_simp;rfl
       simp only[Act.put];refine wpAny_ready (rs:=[13]) (by kernel_rfl) (by simp) ?_;refine AllReady.cons rfl (fun K hK=>?_) ?_
       ·go_simp
        refine (KRB.out _ G3).mono ?_;rintro e u4 ⟨v4,rfl,O4,F4⟩;obtain ⟨A4,k4,rfl,I2,_,R4,_⟩:=O4.at_;have G4:=(G3).trans F4;refine hK _ _ ?_;clear hK K;refine wpAny_ready (rs:=[14]) (by kernel_rfl) (by simp) ?_;refine AllReady.cons rfl (fun K hK=>?_) ?_
        ·go_simp
         refine (Z6.out _ _ _ G4 R4 I2).mono ?_;rintro e u5 ⟨rfl,F5⟩;have G5:=(G4).trans F5;refine hK _ _ ?_;clear hK K;obtain ⟨c1,c1z,c2,c2z,c3,c3z⟩:=KC.out _ G5;refine wpAny_take (i:=15) (v:=?_) rfl (by kernel_rfl) (by kernel_rfl) (by kernel_rfl) (fun _ _ _ h=>h) (Or.inl ⟨by kernel_rfl,?_⟩) ?_
         case refine_2=>intro w;go_simp;rfl
         simp only[Act.put,List.setIfInBounds_toArray];refine wpAny_take (i:=16) (v:=?_) rfl (by kernel_rfl) (by kernel_rfl) (by kernel_rfl) (fun _ _ _ h=>h) (Or.inl ⟨by kernel_rfl,?_⟩) ?_
         case refine_2=>intro w;go_simp;rfl
         simp only[Act.put];refine wpAny_take (i:=17) (v:=?_) rfl (by kernel_rfl) (by kernel_rfl) (by kernel_rfl) (fun _ _ _ h=>h) (Or.inl ⟨by kernel_rfl,?_⟩) ?_
         case refine_2=>intro w;go_simp;rfl
         simp only[Act.put];refine wpAny_take (i:=18) (v:=?_) rfl (by kernel_rfl) (by kernel_rfl) (by kernel_rfl) (fun _ _ _ h=>h) (Or.inl ⟨by kernel_rfl,?_⟩) ?_
         case refine_2=>intro w;go_simp;rfl
         simp only[Act.put];refine wpAny_take (i:=19) (v:=?_) rfl (by kernel_rfl) (by kernel_rfl) (by kernel_rfl) (fun _ _ _ h=>h) (Or.inl ⟨by kernel_rfl,?_⟩) ?_
         case refine_2=>intro w;go_simp;rfl
         simp only[Act.put];refine wpAny_take (i:=25) (v:=?_) rfl (by kernel_rfl) (by kernel_rfl) (by kernel_rfl) (fun _ _ _ h=>h) (Or.inl ⟨by kernel_rfl,?_⟩) ?_
         case refine_2=>intro w;go_simp;rfl
         simp only[Act.put];refine wpAny_take (i:=26) (v:=?_) rfl (by kernel_rfl) (by kernel_rfl) (by kernel_rfl) (fun _ _ _ h=>h) (Or.inl ⟨by kernel_rfl,?_⟩) ?_
         case refine_2=>intro w;go_simp;rfl
         simp only[Act.put];refine wpAny_take (i:=27) (v:=?_) rfl (by kernel_rfl) (by kernel_rfl) (by kernel_rfl) (fun _ _ _ h=>h) (Or.inl ⟨by kernel_rfl,?_⟩) ?_
         case refine_2=>intro w;go_simp;rfl
         simp only[Act.put];refine wpAny_ready (rs:=[20,28]) (by kernel_rfl) (by simp) ?_;refine AllReady.cons rfl (fun K hK=>?_) ?_
         ·go_simp
          refine hK _ _ ?_;clear hK K;refine wpAny_take (i:=21) (v:=?_) rfl (by kernel_rfl) (by kernel_rfl) (by kernel_rfl) (fun _ _ _ h=>h) (Or.inl ⟨by kernel_rfl,?_⟩) ?_
          case refine_2=>intro w;go_simp;rfl
          simp only[Act.put,List.setIfInBounds_toArray];refine wpAny_take (i:=22) (v:=?_) rfl (by kernel_rfl) (by kernel_rfl) (by kernel_rfl) (fun _ _ _ h=>h) (Or.inl ⟨by kernel_rfl,?_⟩) ?_
          case refine_2=>intro w;go_simp;rfl
          simp only[Act.put];refine wpAny_ready (rs:=[23,28]) (by kernel_rfl) (by simp) ?_;refine AllReady.cons rfl (fun K hK=>?_) ?_
          ·go_simp
           refine hK _ _ ?_;clear hK K;refine wpAny_ready (rs:=[24,28]) (by kernel_rfl) (by simp) ?_;refine AllReady.cons rfl (fun K hK=>?_) ?_
           ·go_simp
            refine (KL.out _ G5).mono ?_;rintro e u6 ⟨rfl,F6⟩;have G6:=(G5).trans F6;refine hK _ _ ?_;clear hK K;obtain ⟨c1',Vh,c2',Vi,Z_,Vj⟩:=KC.out _ G6;refine wpAny_ready (rs:=[28]) (by kernel_rfl) (by simp) ?_;refine AllReady.cons rfl (fun K hK=>?_) ?_
            ·go_simp
             refine hK _ _ ?_;clear hK K;refine wpAny_take (i:=29) (v:=?_) rfl (by kernel_rfl) (by kernel_rfl) (by kernel_rfl) (fun _ _ _ h=>h) (Or.inl ⟨by kernel_rfl,?_⟩) ?_
             case refine_2=>intro w;go_simp;rfl
             simp only[Act.put,List.setIfInBounds_toArray];refine wpAny_take (i:=30) (v:=?_) rfl (by kernel_rfl) (by kernel_rfl) (by kernel_rfl) (fun _ _ _ h=>h) (Or.inl ⟨by kernel_rfl,?_⟩) ?_
             case refine_2=>intro w;go_simp;rfl
             simp only[Act.put];refine wpAny_take (i:=31) (v:=?_) rfl (by kernel_rfl) (by kernel_rfl) (by kernel_rfl) (fun _ _ _ h=>h) (Or.inl ⟨by kernel_rfl,?_⟩) ?_
             case refine_2=>intro w;go_simp;rfl
             simp only[Act.put];refine wpAny_take (i:=32) (v:=?_) rfl (by kernel_rfl) (by kernel_rfl) (by kernel_rfl) (fun _ _ _ h=>h) (Or.inl ⟨by kernel_rfl,?_⟩) ?_
             case refine_2=>intro w;go_simp;rfl
             simp only[Act.put];refine wpAny_ready (rs:=[33]) (by kernel_rfl) (by simp) ?_;refine AllReady.cons rfl (fun K hK=>?_) ?_
             ·go_simp
              refine (AW _).mono ?_;rintro e u7 ⟨rfl,F7⟩;have G7:=(G6).trans F7;refine hK _ _ ?_;clear hK K;refine wpAny_take (i:=34) (v:=?_) rfl (by kernel_rfl) (by kernel_rfl) (by kernel_rfl) (fun _ _ _ h=>h) (Or.inl ⟨by kernel_rfl,?_⟩) ?_
              case refine_2=>intro w;go_simp;rfl
              simp only[Act.put,List.setIfInBounds_toArray];refine wpAny_take (i:=35) (v:=?_) rfl (by kernel_rfl) (by kernel_rfl) (by kernel_rfl) (fun _ _ _ h=>h) (Or.inl ⟨by kernel_rfl,?_⟩) ?_
              case refine_2=>intro w;go_simp;rfl
              simp only[Act.put];refine wpAny_done (by kernel_rfl) ?_ _
              try simp only[Act.put,List.setIfInBounds_toArray,List.set_cons_zero,List.set_cons_succ]
              try go_simp
              go_wp2_with fail;go_ret;exact aH.mk (by first|rfl|(simp[go_sem];done)) (Q0.out.trans G7)
             exact AllReady.nil
            exact AllReady.nil
           refine AllReady.cons rfl (fun K hK=>?_) ?_
           ·go_simp
            refine hK _ _ ?_;clear hK K;refine wpAny_take (i:=29) (v:=?_) rfl (by kernel_rfl) (by kernel_rfl) (by kernel_rfl) (fun _ _ _ h=>h) (Or.inl ⟨by kernel_rfl,?_⟩) ?_
            case refine_2=>intro w;go_simp;rfl
            simp only[Act.put,List.setIfInBounds_toArray];refine wpAny_ready (rs:=[24]) (by kernel_rfl) (by simp) ?_;refine AllReady.cons rfl (fun K hK=>?_) ?_
            ·go_simp
             refine (KL.out _ G5).mono ?_;rintro e u6 ⟨rfl,F6⟩;have G6:=(G5).trans F6;refine hK _ _ ?_;clear hK K;obtain ⟨c1',Vh,c2',Vi,Z_,Vj⟩:=KC.out _ G6;refine wpAny_take (i:=30) (v:=?_) rfl (by kernel_rfl) (by kernel_rfl) (by kernel_rfl) (fun _ _ _ h=>h) (Or.inl ⟨by kernel_rfl,?_⟩) ?_
             case refine_2=>intro w;go_simp;rfl
             simp only[Act.put,List.setIfInBounds_toArray];refine wpAny_take (i:=31) (v:=?_) rfl (by kernel_rfl) (by kernel_rfl) (by kernel_rfl) (fun _ _ _ h=>h) (Or.inl ⟨by kernel_rfl,?_⟩) ?_
             case refine_2=>intro w;go_simp;rfl
             simp only[Act.put];refine wpAny_take (i:=32) (v:=?_) rfl (by kernel_rfl) (by kernel_rfl) (by kernel_rfl) (fun _ _ _ h=>h) (Or.inl ⟨by kernel_rfl,?_⟩) ?_
             case refine_2=>intro w;go_simp;rfl
             simp only[Act.put];refine wpAny_ready (rs:=[33]) (by kernel_rfl) (by simp) ?_;refine AllReady.cons rfl (fun K hK=>?_) ?_
             ·go_simp
              refine (AW _).mono ?_;rintro e u7 ⟨rfl,F7⟩;have G7:=(G6).trans F7;refine hK _ _ ?_;clear hK K;refine wpAny_take (i:=34) (v:=?_) rfl (by kernel_rfl) (by kernel_rfl) (by kernel_rfl) (fun _ _ _ h=>h) (Or.inl ⟨by kernel_rfl,?_⟩) ?_
              case refine_2=>intro w;go_simp;rfl
              simp only[Act.put,List.setIfInBounds_toArray];refine wpAny_take (i:=35) (v:=?_) rfl (by kernel_rfl) (by kernel_rfl) (by kernel_rfl) (fun _ _ _ h=>h) (Or.inl ⟨by kernel_rfl,?_⟩) ?_
              case refine_2=>intro w;go_simp;rfl
              simp only[Act.put];refine wpAny_done (by kernel_rfl) ?_ _
              try simp only[Act.put,List.setIfInBounds_toArray,List.set_cons_zero,List.set_cons_succ]
              try go_simp
              go_wp2_with fail;go_ret;exact aH.mk (by first|rfl|(simp[go_sem];done)) (Q0.out.trans G7)
             exact AllReady.nil
            exact AllReady.nil
           exact AllReady.nil
          refine AllReady.cons rfl (fun K hK=>?_) ?_
          ·go_simp
           refine hK _ _ ?_;clear hK K;refine wpAny_take (i:=29) (v:=?_) rfl (by kernel_rfl) (by kernel_rfl) (by kernel_rfl) (fun _ _ _ h=>h) (Or.inl ⟨by kernel_rfl,?_⟩) ?_
           case refine_2=>intro w;go_simp;rfl
           simp only[Act.put,List.setIfInBounds_toArray];refine wpAny_ready (rs:=[23]) (by kernel_rfl) (by simp) ?_;refine AllReady.cons rfl (fun K hK=>?_) ?_
           ·go_simp
            refine hK _ _ ?_;clear hK K;refine wpAny_ready (rs:=[24]) (by kernel_rfl) (by simp) ?_;refine AllReady.cons rfl (fun K hK=>?_) ?_
            ·go_simp
             refine (KL.out _ G5).mono ?_;rintro e u6 ⟨rfl,F6⟩;have G6:=(G5).trans F6;refine hK _ _ ?_;clear hK K;obtain ⟨c1',Vh,c2',Vi,Z_,Vj⟩:=KC.out _ G6;refine wpAny_take (i:=30) (v:=?_) rfl (by kernel_rfl) (by kernel_rfl) (by kernel_rfl) (fun _ _ _ h=>h) (Or.inl ⟨by kernel_rfl,?_⟩) ?_
             case refine_2=>intro w;go_simp;rfl
             simp only[Act.put,List.setIfInBounds_toArray];refine wpAny_take (i:=31) (v:=?_) rfl (by kernel_rfl) (by kernel_rfl) (by kernel_rfl) (fun _ _ _ h=>h) (Or.inl ⟨by kernel_rfl,?_⟩) ?_
             case refine_2=>intro w;go_simp;rfl
             simp only[Act.put];refine wpAny_take (i:=32) (v:=?_) rfl (by kernel_rfl) (by kernel_rfl) (by kernel_rfl) (fun _ _ _ h=>h) (Or.inl ⟨by kernel_rfl,?_⟩) ?_
             case refine_2=>intro w;go_simp;rfl
             simp only[Act.put];refine wpAny_ready (rs:=[33]) (by kernel_rfl) (by simp) ?_;refine AllReady.cons rfl (fun K hK=>?_) ?_
             ·go_simp
              refine (AW _).mono ?_;rintro e u7 ⟨rfl,F7⟩;have G7:=(G6).trans F7;refine hK _ _ ?_;clear hK K;refine wpAny_take (i:=34) (v:=?_) rfl (by kernel_rfl) (by kernel_rfl) (by kernel_rfl) (fun _ _ _ h=>h) (Or.inl ⟨by kernel_rfl,?_⟩) ?_
              case refine_2=>intro w;go_simp;rfl
              simp only[Act.put,List.setIfInBounds_toArray];refine wpAny_take (i:=35) (v:=?_) rfl (by kernel_rfl) (by kernel_rfl) (by kernel_rfl) (fun _ _ _ h=>h) (Or.inl ⟨by kernel_rfl,?_⟩) ?_
              case refine_2=>intro w;go_simp;rfl
              simp only[Act.put];refine wpAny_done (by kernel_rfl) ?_ _
              try simp only[Act.put,List.setIfInBounds_toArray,List.set_cons_zero,List.set_cons_succ]
              try go_simp
              go_wp2_with fail;go_ret;exact aH.mk (by first|rfl|(simp[go_sem];done)) (Q0.out.trans G7)
             exact AllReady.nil
            exact AllReady.nil
           exact AllReady.nil
          exact AllReady.nil
         refine AllReady.cons rfl (fun K hK=>?_) ?_
         ·go_simp
          refine hK _ _ ?_;clear hK K;refine wpAny_take (i:=29) (v:=?_) rfl (by kernel_rfl) (by kernel_rfl) (by kernel_rfl) (fun _ _ _ h=>h) (Or.inl ⟨by kernel_rfl,?_⟩) ?_
          case refine_2=>intro w;go_simp;rfl
          simp only[Act.put,List.setIfInBounds_toArray];refine wpAny_ready (rs:=[20]) (by kernel_rfl) (by simp) ?_;refine AllReady.cons rfl (fun K hK=>?_) ?_
          ·go_simp
           refine hK _ _ ?_;clear hK K;refine wpAny_take (i:=21) (v:=?_) rfl (by kernel_rfl) (by kernel_rfl) (by kernel_rfl) (fun _ _ _ h=>h) (Or.inl ⟨by kernel_rfl,?_⟩) ?_
           case refine_2=>intro w;go_simp;rfl
           simp only[Act.put,List.setIfInBounds_toArray];refine wpAny_take (i:=22) (v:=?_) rfl (by kernel_rfl) (by kernel_rfl) (by kernel_rfl) (fun _ _ _ h=>h) (Or.inl ⟨by kernel_rfl,?_⟩) ?_
           case refine_2=>intro w;go_simp;rfl
           simp only[Act.put];refine wpAny_ready (rs:=[23]) (by kernel_rfl) (by simp) ?_;refine AllReady.cons rfl (fun K hK=>?_) ?_
           ·go_simp
            refine hK _ _ ?_;clear hK K;refine wpAny_ready (rs:=[24]) (by kernel_rfl) (by simp) ?_;refine AllReady.cons rfl (fun K hK=>?_) ?_
            ·go_simp
             refine (KL.out _ G5).mono ?_;rintro e u6 ⟨rfl,F6⟩;have G6:=(G5).trans F6;refine hK _ _ ?_;clear hK K;obtain ⟨c1',Vh,c2',Vi,Z_,Vj⟩:=KC.out _ G6;refine wpAny_take (i:=30) (v:=?_) rfl (by kernel_rfl) (by kernel_rfl) (by kernel_rfl) (fun _ _ _ h=>h) (Or.inl ⟨by kernel_rfl,?_⟩) ?_
             case refine_2=>intro w;go_simp;rfl
             simp only[Act.put,List.setIfInBounds_toArray];refine wpAny_take (i:=31) (v:=?_) rfl (by kernel_rfl) (by kernel_rfl) (by kernel_rfl) (fun _ _ _ h=>h) (Or.inl ⟨by kernel_rfl,?_⟩) ?_
             case refine_2=>intro w;go_simp;rfl
             simp only[Act.put];refine wpAny_take (i:=32) (v:=?_) rfl (by kernel_rfl) (by kernel_rfl) (by kernel_rfl) (fun _ _ _ h=>h) (Or.inl ⟨by kernel_rfl,?_⟩) ?_
             case refine_2=>intro w;go_simp;rfl
             simp only[Act.put];refine wpAny_ready (rs:=[33]) (by kernel_rfl) (by simp) ?_;refine AllReady.cons rfl (fun K hK=>?_) ?_
             ·go_simp
              refine (AW _).mono ?_;rintro e u7 ⟨rfl,F7⟩;have G7:=(G6).trans F7;refine hK _ _ ?_;clear hK K;refine wpAny_take (i:=34) (v:=?_) rfl (by kernel_rfl) (by kernel_rfl) (by kernel_rfl) (fun _ _ _ h=>h) (Or.inl ⟨by kernel_rfl,?_⟩) ?_
              case refine_2=>intro w;go_simp;rfl
              simp only[Act.put,List.setIfInBounds_toArray];refine wpAny_take (i:=35) (v:=?_) rfl (by kernel_rfl) (by kernel_rfl) (by kernel_rfl) (fun _ _ _ h=>h) (Or.inl ⟨by kernel_rfl,?_⟩) ?_
              case refine_2=>intro w;go_simp;rfl
              simp only[Act.put];refine wpAny_done (by kernel_rfl) ?_ _
              try simp only[Act.put,List.setIfInBounds_toArray,List.set_cons_zero,List.set_cons_succ]
              try go_simp
              go_wp2_with fail;go_ret;exact aH.mk (by first|rfl|(simp[go_sem];done)) (Q0.out.trans G7)
             exact AllReady.nil
            exact AllReady.nil
           exact AllReady.nil
          exact AllReady.nil
         exact AllReady.nil
        exact AllReady.nil
       exact AllReady.nil
      exact AllReady.nil
     exact AllReady.nil
    exact AllReady.nil
theorem cloneTwin_walk {H:Type} {enc:TypeId×Value->H} (W:World) (base:Nat) (v0:Value) (d0:DataW H) (p0:List MemPlace)
  (_hs:W.ShapedOpen Tryz.prog)
  (k0:Value.okWide Tryz.prog W .any base 30 v0) (h0:DataW.Trod enc Tryz.prog W 0 (fun _=>true) true 30 v0 d0 p0)
  : Calls Tryz.prog 4 #[v0] W (aH W (.bool true)):=by
 obtain ⟨x,cs,rfl,hx⟩:=Im k0 h0;exact wJ (QK Zy) x cs W hx
end Go.Proofs.YtblbohcaphcobaaGreatDoor
