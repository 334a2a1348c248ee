import Derived.Test.YtpibnfdolojpcaaGreatBunG
import Derived.Test.YtpibnfdolojpcaaGreatBunE
import Derived.Test.YtpibnfdolojpcaaGreatBunD
import Derived.Test.YtpibnfdolojpcaaGreatBunC
set_option maxHeartbeats 8000000
set_option maxRecDepth 100000
namespace Go.Proofs.YtpibnfdolojpcaaGreat
section
def aS (S:ae) (cu cg dir:Int) (nm:List UInt8):Int:=
 if aJ S.nodes dir=false then 5 else if ¬(ac S.nodes dir).kind=1 then 9 else if ¬bX nm=0 then bX nm
 else if dX cu cg (ac S.nodes dir).uid (ac S.nodes dir).gid (ac S.nodes dir).mode 3=false then 6 else 0
def cV (S:ae) (cu cg dir:Int) (nm:List UInt8):ai:=if aS S cu cg dir nm=0 then ac S.nodes dir else aa
def eL (S:ae) (dir now:Int) (l:List ay):ai:={ac S.nodes dir with af:=l,mtime:=now,ctime:=now}
def bR (S:ae) (dir now:Int) (l:List ay):ae:=aE S (eL S dir now l)
def bZ (S:ae) (cu cg now dir:Int) (n:ai):ai:={n with dev:=(ac S.nodes dir).dev,uid:=cu,gid:=cg,mtime:=now,ctime:=now,ag:=1}
def cC (S:ae) (cu cg now dir:Int) (nm:List UInt8) (n:ai):Int:=
 if ¬aS S cu cg dir nm=0 then aS S cu cg dir nm else if ¬aK (ac S.nodes dir).af nm=0 then 7 else eY S (bZ S cu cg now dir n)
def dD (S:ae) (cu cg now dir:Int) (nm:List UInt8) (n:ai):Int:=if cC S cu cg now dir nm n=0 then S.last+1 else 0
def bV (S:ae) (cu cg now dir:Int) (nm:List UInt8) (n:ai):ae:=
 if cC S cu cg now dir nm n=0 then bR (bB S (bZ S cu cg now dir n)) dir now (en (ac S.nodes dir).af (nm,S.last+1)) else S
def dY (mode dir:Int):ai:={aa with kind:=1,mode:=mode,up:=dir}
def cG (mode:Int) (data:List UInt8):ai:={aa with kind:=2,mode:=mode,data:=data}
def eC (text:List UInt8):ai:={aa with kind:=3,mode:=511,data:=text}
def mH (mode:Int):Int:=if mode<0\/1023<mode then 1 else 0
def ik (mode dl:Int):Int:=if mode<0\/1023<mode then 1 else if 1048576<dl then 3 else 0
def k_ (text:List UInt8):Int:=if text=[]\/hasB text 0=true then 1 else if 4096<text.length then 13 else 0
def iw (p e:Int):Int:=if ¬p=0 then p else e
def js (p n:Int):Int:=if ¬p=0 then 0 else n
def fc (p:Int) (S T:ae):ae:=if ¬p=0 then S else T
def fD (S:ae) (cu cg no dir:Int) (nm:List UInt8):Int:=
 if ¬aS S cu cg dir nm=0 then aS S cu cg dir nm else if aJ S.nodes no=false then 5 else if (ac S.nodes no).kind=1 then 4
 else if ¬aK (ac S.nodes dir).af nm=0 then 7 else if ¬(ac S.nodes no).dev=(ac S.nodes dir).dev then 11 else if 1000<=(ac S.nodes no).ag then 18 else 0
def dE (S:ae) (now no:Int):ai:={ac S.nodes no with ag:=(ac S.nodes no).ag+1,ctime:=now}
def gM (S:ae) (cu cg now no dir:Int) (nm:List UInt8):ae:=
 if fD S cu cg no dir nm=0 then bR (aE S (dE S now no)) dir now (en (ac S.nodes dir).af (nm,no)) else S
theorem aT {S:ae} {cu cg dir:Int} {nm:List UInt8} (h:aS S cu cg dir nm=0):aJ S.nodes dir=true/\(ac S.nodes dir).kind=1/\bX nm=0:=by
 unfold aS at h;split at h
 ·cases h
 ·rename_i h1
  split at h
  ·cases h
  ·rename_i h2
   split at h
   ·rename_i h3;exact absurd h h3
   ·rename_i h3
    exact ⟨by simpa using h1,Decidable.not_not.1 h2,Decidable.not_not.1 h3⟩
theorem jZ {S:ae} {cu cg dir:Int} {nm:List UInt8} (h:aS S cu cg dir nm=0):cV S cu cg dir nm=ac S.nodes dir:=by unfold cV;rw[if_pos h]
theorem jN {S:ae} {cu cg now dir:Int} {nm:List UInt8} {n:ai} (h:cC S cu cg now dir nm n=0):aS S cu cg dir nm=0/\aK (ac S.nodes dir).af nm=0/\eY S (bZ S cu cg now dir n)=0:=by
 unfold cC at h;split at h
 ·rename_i h1;exact absurd h h1
 ·rename_i h1
  split at h
  ·cases h
  ·rename_i h2;exact⟨Decidable.not_not.1 h1,Decidable.not_not.1 h2,h⟩
theorem kL {S:ae} (_hu:aD S.nodes S.last) (n:ai) {no:Int} (hi:aJ S.nodes no=true):ac (bB S n).nodes no=ac S.nodes no/\aJ (bB S n).nodes no=true:=by
 obtain ⟨_,e,hm⟩:=ak hi;unfold bB;split
 ·have hmem:ac S.nodes no∈S.nodes++[{n with no:=S.last+1}]:=List.mem_append_left _ hm
  obtain ⟨k,hk,ek⟩:=List.getElem_of_mem hm;have R_:eF (S.nodes++[{n with no:=S.last+1}]) no=some (ac S.nodes no):=by
   unfold eF;rw [List.find?_append];have:=(ak hi).1;unfold eF at this;rw [this];rfl
  exact ⟨by show Option.getD (eF _ no) aa=_;rw[R_];rfl,by show Option.isSome (eF _ no)=true;rw[R_];rfl⟩
 ·exact⟨rfl,hi⟩
theorem rS {c:Nat} {S:ae} (h:dy c S) {cu cg now dir:Int} {nm:List UInt8} {n:ai} (he:n.af=[]) (hd:n.data.length<=1048576) (hk:n.kind=1->n.up=dir) (hm:0<=n.mode/\n.mode<=1023):dy (c+1) (bV S cu cg now dir nm n):=by
 unfold bV;split
 ·rename_i h0
  obtain ⟨hp,hf,nk⟩:=jN h0;obtain ⟨hi,wo,hc⟩:=aT hp;obtain ⟨e1,e2⟩:=kL h.bc (bZ S cu cg now dir n) hi;obtain ⟨_,aW,hmem⟩:=ak hi;unfold bR eL;rw [e1];refine Le h (d:={ac S.nodes dir with af:=en (ac S.nodes dir).af (nm,S.last+1),mtime:=now,ctime:=now}) (nm:=nm) ?_ ?_ wo ?_ ?_ (h.mC (ac S.nodes dir) hmem wo) (h.on (ac S.nodes dir) hmem).2 ?_ ?_ (qq hc) he hd rfl ?_ ?_ ⟨hm.1,hm.2,rfl⟩ nk
  ·show aJ S.nodes (ac S.nodes dir).no=true;rw[aW];exact hi
  ·show (ac S.nodes (ac S.nodes dir).no).kind=1;rw[aW];exact wo
  ·show _=(ac S.nodes (ac S.nodes dir).no).dev;rw[aW]
  ·show _=(ac S.nodes (ac S.nodes dir).no).up;rw[aW]
  ·show _=en (ac S.nodes (ac S.nodes dir).no).af _;rw[aW]
  ·show aK (ac S.nodes (ac S.nodes dir).no).af nm=0;rw[aW];exact hf
  ·intro jK
   exact ⟨rfl,(hk jK).trans aW.symm⟩
  ·show _=(ac S.nodes (ac S.nodes dir).no).mode;rw[aW]
 ·exact gz h (by omega)
theorem xn {c c':Nat} {k k':Int} {S:ae} (h:nP c k S) (rn:k=0\/k=k') {dir now:Int} {l:List ay} (hi:aJ S.nodes dir=true) (wo:(ac S.nodes dir).kind=1) (ST:c<=c') (hr:iq l) (hn:∀x∈l,x.1≠[]/\x.1.length<=255) (hp:∀x∈l,1<=x.2/\x.2<=S.last) (hs:l.length<=c')
  (hx:∀x∈l,VT S (ac S.nodes dir).no (ac S.nodes dir).dev x.2) (keep:∀q∈S.nodes,q.kind=1->q.no≠k'->q.up=dir->q.no≠dir->∃x∈l,x.2=q.no):nP c' k' (bR S dir now l):=by
 obtain ⟨_,aW,hmem⟩:=ak hi;have hb:=h.bits _ hmem;refine qu h rn (n:=eL S dir now l) ?_ ST ?_ ?_ ?_ (fun _=>h.mC (ac S.nodes dir) hmem wo) hr hn hp hs (h.on (ac S.nodes dir) hmem).2 hb hx ?_
 ·show aJ S.nodes (ac S.nodes dir).no=true;rw[aW];exact hi
 ·show _=(ac S.nodes (ac S.nodes dir).no).kind;rw[aW];rfl
 ·show _=(ac S.nodes (ac S.nodes dir).no).dev;rw[aW];rfl
 ·show _=(ac S.nodes (ac S.nodes dir).no).up;rw[aW];rfl
 ·intro q hq ut Ay xj uj
  have e:(eL S dir now l).no=dir:=aW;rw [e]at xj uj;exact keep q hq ut Ay xj uj
theorem kT {S:ae} {cu cg no dir:Int} {nm:List UInt8} (h:fD S cu cg no dir nm=0):aS S cu cg dir nm=0/\aJ S.nodes no=true/\¬(ac S.nodes no).kind=1/\aK (ac S.nodes dir).af nm=0/\(ac S.nodes no).dev=(ac S.nodes dir).dev/\(ac S.nodes no).ag<1000:=by
 unfold fD at h;split at h
 ·rename_i h1;exact absurd h h1
 ·rename_i h1
  split at h
  ·cases h
  ·rename_i h2
   split at h
   ·cases h
   ·rename_i h3
    split at h
    ·cases h
    ·rename_i h4
     split at h
     ·cases h
     ·rename_i h5
      split at h
      ·cases h
      ·rename_i h6
       exact ⟨Decidable.not_not.1 h1,by simpa using h2,h3,Decidable.not_not.1 h4,Decidable.not_not.1 h5,by omega⟩
theorem jt {S:ae} {n:ai} {no:Int} (hne:no≠n.no):ac (aE S n).nodes no=ac S.nodes no/\aJ (aE S n).nodes no=aJ S.nodes no:=by
 have : eF (bQ S.nodes n) no=eF S.nodes no:=by
  unfold eF bQ
  induction S.nodes with
  | nil=>rfl
  | cons m ms ih =>
   rw [List.map_cons,List.find?_cons,List.find?_cons]
   by_cases e:m.no=n.no
   ·have e1:(m.no == n.no)=true:=by simpa using e
    have e2:(n.no == no)=false:=by simpa using Ne.symm hne
    have e3:(m.no == no)=false:=by rw[e];exact e2
    rw [if_pos e1,e2,e3];exact ih
   ·have e1:¬(m.no == n.no)=true:=by simpa using e
    rw [if_neg e1]
    cases (m.no == no)
    ·exact ih
    ·rfl
 exact ⟨by show Option.getD (eF (bQ S.nodes n) no) aa=_;rw[this];rfl,by show Option.isSome (eF (bQ S.nodes n) no)=_;rw[this];rfl⟩
theorem xo {l:List ay} {nm:List UInt8} (hp:∀x∈l,1<=x.2) (hf:aK l nm=0):∀x∈l,x.1≠nm:=by
 intro x hx e;unfold aK at hf
 cases hg:l.find? (fun x=>x.1 == nm) with
 | none=>have:=List.find?_eq_none.1 hg x hx;simp at this;exact this e
 | some y =>
  rw [hg]at hf;have:=hp y (List.mem_of_find?_eq_some hg);simp only at hf;omega
theorem GV {l:List ay} {x:ay} (h:∀y∈l,y.1≠x.1):∀y∈l,y∈en l x:=by
 intro y hy;unfold en jm jG;simp only[List.mem_append,List.mem_filter,List.mem_singleton];rcases lq y.1 x.1 with g|g|g
 ·exact .inl (.inl ⟨hy,g⟩)
 ·exact absurd g (h y hy)
 ·exact .inr ⟨hy,g⟩
theorem Lx {c:Nat} {S:ae} (h:dy c S) (cu cg now no dir:Int) (nm:List UInt8):dy (c+1) (gM S cu cg now no dir nm):=by
 unfold gM;split
 ·rename_i h0
  obtain ⟨hp,hi,hk,hf,hv,hl⟩:=kT h0;obtain ⟨hid,wo,hc⟩:=aT hp;obtain ⟨_,aW,hmem⟩:=ak hi;obtain ⟨_,jB,il⟩:=ak hid;have hb:=h.bits _ hmem;have hne:dir≠no:=fun e=>by subst e;exact hk wo
  have e0:(dE S now no).no=no:=aW;have h1:dy c (aE S (dE S now no)):=by
   have e1:∀{P:ai->Prop},P (ac S.nodes no)->P (ac S.nodes (dE S now no).no):=fun hp=>by rw[e0];exact hp
   refine qu h (.inl rfl) (by rw[e0];exact hi) (Nat.le_refl _) (e1 (P:=fun m=>(dE S now no).kind=m.kind) rfl) (e1 (P:=fun m=>(dE S now no).dev=m.dev) rfl) (e1 (P:=fun m=>(dE S now no).up=m.up) rfl) (fun jK=>absurd jK hk) (h.lP (ac S.nodes no) hmem) (h.names (ac S.nodes no) hmem) (h.pos (ac S.nodes no) hmem) (h.small (ac S.nodes no) hmem) (h.on (ac S.nodes no) hmem).2
    ⟨hb.1,hb.2.1,by show 1<=(ac S.nodes no).ag+1;omega,by show (ac S.nodes no).ag+1<=1000;omega⟩ (fun x hx=>h.yJ (ac S.nodes no) hmem x hx) (fun q hq ut _ xj uj=>?_)
   rcases h.wl q hq ut with⟨_,u2⟩|⟨_,_,m,hm,u3,u4,_⟩
   ·exact absurd (u2.symm.trans xj) uj
   ·have:=ib h.bc hm hmem (by rw[u3,xj,e0,aW])
    subst this;exact absurd u4 hk
  obtain ⟨g1,g2⟩:=jt (S:=S) (n:=dE S now no) (no:=dir) (by rw[e0];exact hne);have aV:=xo (fun x hx=>(h.pos _ il x hx).1) hf;have Ly:=h.bc.2 _ hmem;rw [aW]at Ly;refine xn h1 (.inl rfl) (by rw[g2];exact hid) (by rw[g1];exact wo) (Nat.le_succ _) (wU _ (h.lP _ il)) (fun x hx=>?_) (fun x hx=>?_) ?_ (fun x hx=>?_) (fun q hq ut _ xj uj=>?_)
  ·rcases iG hx with hx|rfl
   ·exact h.names _ il x hx
   ·exact qq hc
  ·rcases iG hx with hx|rfl
   ·exact h.pos _ il x hx
   ·exact Ly
  ·have:=qb (ac S.nodes dir).af (nm,no)
   have:=h.small _ il;omega
  ·rw [g1]
   rcases iG hx with hx|rfl
   ·have:=h1.yJ (ac S.nodes dir) (ur il (by rw[e0,jB];exact hne)) x hx
    exact this
   ·refine ⟨by rw[jB];exact fun e=>hne e.symm,fun d hd e=>?_,fun q hq e=>?_⟩
    ·obtain ⟨j,hj,rfl⟩:=List.getElem_of_mem hd
     obtain ⟨m,hm,o1,o2,_⟩:=h.fG j hj;have:=ib h.bc hm hmem (by rw[o1,aW];exact e.symm);subst this;exact hk o2
    ·rcases aQ hq with⟨hq,uj⟩|rfl
     ·exact absurd e (by rw[e0]at uj;exact uj)
     ·exact hv
  ·rcases aQ hq with⟨hq,_⟩|rfl
   ·rcases h.wl q hq ut with⟨_,u2⟩|⟨_,_,m,hm,u3,_,_,x,hx,u6⟩
    ·exact absurd (u2.symm.trans xj) uj
    ·have:=ib h.bc hm il (by rw[u3,xj,jB])
     subst this;exact ⟨x,GV aV x hx,u6⟩
   ·exact absurd ut hk
 ·exact gz h (by omega)
open Go.ChangeShapes Go.WideShapes Go.ChangeAt Go.RowKit
def yO (w:World) (B:Nat) (S:ae) (cu cg dir:Int) (nm:List UInt8) (e:Ending) (w':World):Prop:=
 ∃ A c,e=.returned (.tuple #[.agg #[.int .i64 (cV S cu cg dir nm).no,.int .i64 (cV S cu cg dir nm).dev,.int .i64 (cV S cu cg dir nm).kind,.int .i64 (cV S cu cg dir nm).mode,.int .i64 (cV S cu cg dir nm).uid,.int .i64 (cV S cu cg dir nm).gid,.int .i64 (cV S cu cg dir nm).mtime,.int .i64 (cV S cu cg dir nm).ctime,.int .i64 (cV S cu cg dir nm).ag,.int .i64 (cV S cu cg dir nm).up,.string (bs (cV S cu cg dir nm).data),.slice A (cV S cu cg dir nm).af.length c],.int .i64 (aS S cu cg dir nm)])/\az w' B (cV S cu cg dir nm) A c/\Ext w w'
theorem pJ (B:Nat) (g:bG) (S:ae) (cu cg dir:Int) (nm:List UInt8) (w:World) (h:dM w B g S) (hd:0<S.ah.length) :
  Calls Tryz.prog 193 #[.pointer (some ⟨g.bW,0,none⟩),.agg #[cu,cg],.int .i64 dir,bs nm] w (yO w B S cu cg dir nm):=by
 have h0:=h;obtain ⟨h1,h2,cd,h3,h4⟩:=h;have j_:((S.ah.length:Int) == 0)=false:=by simpa using (show ¬(S.ah.length:Int)=0 by omega)
 have E0:Ext w ((w.alloc (.cells #[cu,cg] 27)).alloc (.cells #[.int .i64 0,.int .i64 0,.int .i64 0,.int .i64 0,.int .i64 0,.int .i64 0,.int .i64 0,.int .i64 0,.int .i64 0,.int .i64 0,.string ⟨#[]⟩,.slice none 0 0] 66)):=((Ext.refl _).alloc _).alloc _;go_enter Tryz.func193,Tryz.ntmps193;go_wp2_with fail;refine (lL B g S _ (h0.ext E0) hd).mono ?_;rintro e w1 ⟨rfl,b1⟩;have E1:=E0.trans b1;have R0:=Has.new (w.alloc (.cells #[cu,cg] 27)) (.cells #[aa.no,aa.dev,aa.kind,aa.mode,aa.uid,aa.gid,aa.mtime,aa.ctime,aa.ag,aa.up,bs aa.data,.slice none aa.af.length 0] 66);rw [World.size_alloc]at R0;have R1:=R0.ext b1;have C1:=((Has.new w (.cells #[cu,cg] 27)).alloc (.cells #[.int .i64 0,.int .i64 0,.int .i64 0,.int .i64 0,.int .i64 0,.int .i64 0,.int .i64 0,.int .i64 0,.int .i64 0,.int .i64 0,.string ⟨#[]⟩,.slice none 0 0] 66)).ext b1;have v0:w1.cell? ⟨g.bW,0,none⟩=some (.pointer (some ⟨g.bT,0,none⟩)):=(h3.ext E1).cell 0;have z1:=(h3.ext E1).lt;go_wp2_with fail;refine (fK B g.bT g.bM S.nodes S.last dir _ (h2.ext E1)).mono ?_;rintro e w2 ⟨A2,k2,rfl,gv,b2⟩;have R2:=R1.ext b2;have C2:=C1.ext b2;have hm:Hid (aS S cu cg dir nm=if aJ S.nodes dir=false then 5 else if ¬(ac S.nodes dir).kind=1 then 9 else if ¬bX nm=0 then bX nm
  else if dX cu cg (ac S.nodes dir).uid (ac S.nodes dir).gid (ac S.nodes dir).mode 3=false then 6 else 0):=by show _=_;rfl
 have bU:Hid (cV S cu cg dir nm=if aS S cu cg dir nm=0 then ac S.nodes dir else aa):=by show _=_;rfl
 obtain⟨m,hmm⟩:=zE (ac S.nodes dir);rw [<-hmm]at gv hm bU|-;obtain⟨W3,cj⟩:=zE (w2.alloc (.cells #[m.no,m.dev,m.kind,m.mode,m.uid,m.gid,m.mtime,m.ctime,m.ag,m.up,bs m.data,.slice A2 m.af.length k2] 66));have h_:Ext w2 W3:=by rw[cj];exact (Ext.refl _).alloc _
 have N3:Has W3 w2.heap.size (.cells #[m.no,m.dev,m.kind,m.mode,m.uid,m.gid,m.mtime,m.ctime,m.ag,m.up,bs m.data,.slice A2 m.af.length k2] 66):=by rw[cj];exact Has.new _ _
 have R3:=R2.ext h_;have C3:=C2.ext h_;have E3:Ext w W3:=(E1.trans b2).trans h_;obtain⟨b8,fM⟩:=zE w2.heap.size;obtain⟨i,hi⟩:=zE (aJ S.nodes dir);rw [<-hi]at hm|-;obtain⟨ck,PX⟩:=zE (bX nm);rw [<-PX]at hm;have HCK:=zH PX;clear v0 hmm hi PX R1 C1 R2 C2;go_upto_region 4 with fail;rw [<-cj];rw [<-fM]at N3|-;clear cj fM;go_wp2_with fail;refine (C_ (bs nm) _).mono ?_;rw [show (bs nm).data.toList=nm from mj nm,<-HCK.out];rintro e w4 ⟨rfl,b4⟩;have R4:=R3.ext b4;have C4:=C3.ext b4;have N4:=N3.ext b4;have E4:=E3.trans b4;have qy:=(gv.ext h_).ext b4;clear R3 C3 N3 E3 b4;have HS:Hid (∀(w5 w6:World) (x:Int),Ext w w5->Only [w.heap.size+1] w5 w6->aS S cu cg dir nm=x->x≠0->yO w B S cu cg dir nm (.returned (.tuple #[.agg #[aa.no,aa.dev,aa.kind,aa.mode,aa.uid,aa.gid,aa.mtime,aa.ctime,aa.ag,aa.up,bs aa.data,.slice none aa.af.length 0],.int .i64 x])) w6):=by
  show ∀(w5 w6:World) (x:Int),_;intro w5 w6 x hE hO hx aV;have hN:cV S cu cg dir nm=aa:=by rw[bU.out,if_neg (by rw[hx];exact aV)]
  exact ⟨none,0,by rw[hx,hN],by rw[hN];exact az.zero _ _,hO.after hE (by simp)⟩
 cases i
 ·have hE:Hid (aS S cu cg dir nm=5):=by show _=_;rw[hm.out];rfl
  clear hm;go_wp2_with (refine ap rfl _ _ rfl (w.heap.size+1) aa none 0 rfl rfl R4 ?_;intro w5 R5 O5);refine bodyPost_ret (v:=.tuple #[.agg #[aa.no,aa.dev,aa.kind,aa.mode,aa.uid,aa.gid,aa.mtime,aa.ctime,aa.ag,aa.up,bs aa.data,.slice none aa.af.length 0],.int .i64 5]) (cr Tryz.results193 _ _ (w.heap.size+1) aa none 0 _ rfl rfl R5) rfl ?_;exact HS.out _ _ _ E4 O5 hE.out (by decide)
 ·have Dk : w4.cell? ⟨b8,2,none⟩=some (.int .i64 m.kind):=N4.cell 2
  have kz:=N4.lt
  by_cases c1:m.kind=1
  ·have t1 : (m.kind == 1)=true:=by simpa using c1
   have rH:(m.kind != 1)=false:=by simpa using c1
   by_cases c2:ck=0
   ·have t2:(ck == 0)=true:=by simpa using c2
    have OG:(ck != 0)=false:=by simpa using c2
    obtain⟨u,hu⟩:=zE (dX cu cg m.uid m.gid m.mode 3);have k7:Hid (aS S cu cg dir nm=if u=false then 6 else 0):=by show _=_;rw[hm.out,if_neg (by decide),if_neg (by simpa using c1),if_neg (by simpa using c2),hu]
    have HU:=zH hu;have x0:w4.cell? ⟨w.heap.size,0,none⟩=some (.int .i64 cu):=C4.cell 0;have x1:w4.cell? ⟨w.heap.size,1,none⟩=some (.int .i64 cg):=C4.cell 1;have xz:=C4.lt;clear hm hu c1 c2;go_wp2_with (refine aw rfl _ rfl b8 m A2 k2 rfl N4 ?_);refine (lS cu cg _ _ _ m.mode m.uid m.gid _ _ _ _ _ _ 3 _).mono ?_;rw [<-HU.out];rintro e w5 ⟨rfl,b5⟩;have R5:=R4.ext b5;have N5:=N4.ext b5;have E5:=E4.trans b5;clear x0 x1 xz Dk kz R4 N4
    cases u
    ·have hE:Hid (aS S cu cg dir nm=6):=by show _=_;rw[k7.out];rfl
     clear k7;go_wp2_with (refine ap rfl _ _ rfl (w.heap.size+1) aa none 0 rfl rfl R5 ?_;intro w6 R6 O5);refine bodyPost_ret (v:=.tuple #[.agg #[aa.no,aa.dev,aa.kind,aa.mode,aa.uid,aa.gid,aa.mtime,aa.ctime,aa.ag,aa.up,bs aa.data,.slice none aa.af.length 0],.int .i64 6]) (cr Tryz.results193 _ _ (w.heap.size+1) aa none 0 _ rfl rfl R6) rfl ?_;exact HS.out _ _ _ E5 O5 hE.out (by decide)
    ·have hE:Hid (aS S cu cg dir nm=0):=by show _=_;rw[k7.out];rfl
     have hN:Hid (cV S cu cg dir nm=m):=by show _=_;rw[bU.out,hE.out];rfl
     clear k7;go_wp2_with (first|(refine aw rfl _ rfl b8 m A2 k2 rfl N5 ?_)|(refine ap rfl _ _ rfl (w.heap.size+1) m A2 k2 rfl rfl R5 ?_;intro w6 R6 O6));refine bodyPost_ret (v:=.tuple #[.agg #[m.no,m.dev,m.kind,m.mode,m.uid,m.gid,m.mtime,m.ctime,m.ag,m.up,bs m.data,.slice A2 m.af.length k2],.int .i64 0]) (cr Tryz.results193 _ _ (w.heap.size+1) m A2 k2 _ rfl rfl R6) rfl ?_;have rT:az w6 B m A2 k2:=((qy.ext b5).only O6 (by
      intro b hb;rw [List.mem_singleton]at hb;subst hb;exact ⟨by have:=h1;have:=h0.lt.1;omega,R5.fJ (by decide)⟩))
     exact ⟨A2,k2,by rw[hE.out,hN.out],by rw[hN.out];exact rT,O6.after E5 (by simp)⟩
   ·have t2:(ck == 0)=false:=by simpa using c2
    have OG:(ck != 0)=true:=by simpa using c2
    have hE:Hid (aS S cu cg dir nm=ck):=by show _=_;rw[hm.out,if_neg (by decide),if_neg (by simpa using c1),if_pos c2]
    have rU:=zH c2;clear hm c1 c2;go_wp2_with (refine ap rfl _ _ rfl (w.heap.size+1) aa none 0 rfl rfl R4 ?_;intro w5 R5 O5);refine bodyPost_ret (v:=.tuple #[.agg #[aa.no,aa.dev,aa.kind,aa.mode,aa.uid,aa.gid,aa.mtime,aa.ctime,aa.ag,aa.up,bs aa.data,.slice none aa.af.length 0],.int .i64 ck]) (cr Tryz.results193 _ _ (w.heap.size+1) aa none 0 _ rfl rfl R5) rfl ?_;exact HS.out _ _ _ E4 O5 hE.out rU.out
  ·have t1:(m.kind == 1)=false:=by simpa using c1
   have rH:(m.kind != 1)=true:=by simpa using c1
   have hE:Hid (aS S cu cg dir nm=9):=by show _=_;rw[hm.out,if_neg (by decide),if_pos c1]
   clear hm c1;go_wp2_with (refine ap rfl _ _ rfl (w.heap.size+1) aa none 0 rfl rfl R4 ?_;intro w5 R5 O5);refine bodyPost_ret (v:=.tuple #[.agg #[aa.no,aa.dev,aa.kind,aa.mode,aa.uid,aa.gid,aa.mtime,aa.ctime,aa.ag,aa.up,bs aa.data,.slice none aa.af.length 0],.int .i64 9]) (cr Tryz.results193 _ _ (w.heap.size+1) aa none 0 _ rfl rfl R5) rfl ?_;exact HS.out _ _ _ E4 O5 hE.out (by decide)
def uE (w:World) (B:Nat) (g:bG) (T:ae) (e:Ending) (w':World):Prop:=e=.returned (.tuple #[])/\dM w' B g T/\Only g.list w w'
def Dl (w:World) (B:Nat) (g:cI) (T:ae) (X:cP) (e:Ending) (w':World):Prop:=e=.returned (.tuple #[])/\gR w' B g T X/\Only g.list w w'
theorem pK (B:Nat) (g:bG) (S:ae) (dir now:Int) (A:Option Addr) (l:List ay) (cap:Nat) (w:World) (h:dM w B g S) (hu:aD S.nodes S.last) (hl:lf w B A l) (hc1:l.length<=cap) (tF:cap<=maxLen) (hc3:A=none->cap=0) :
  Calls Tryz.prog 194 #[.pointer (some ⟨g.bW,0,none⟩),.int .i64 dir,.int .i64 now,.slice A l.length cap] w (uE w B g (bR S dir now l)):=by
 have h0:=h;obtain ⟨_,_,cd,h3,_⟩:=id h;have v0:w.cell? ⟨g.bW,0,none⟩=some (.pointer (some ⟨g.bT,0,none⟩)):=h3.cell 0;have z1:=h3.lt;have HL:=zH hl;obtain⟨L,hL⟩:=zE l.length;rw [<-hL];have uF:=zH hL;have HU:=zH hu;clear h3 hl hL hu;go_enter Tryz.func194,Tryz.ntmps194;go_wp2_with fail;refine (fK B g.bT g.bM S.nodes S.last dir _ h0.2.1).mono ?_;rintro e w2 ⟨A2,k2,rfl,gv,b2⟩;obtain⟨m,hmm⟩:=zE (ac S.nodes dir);rw [<-hmm]at gv|-;have HM:=zH hmm;obtain⟨W3,cj⟩:=zE (w2.alloc (.cells #[m.no,m.dev,m.kind,m.mode,m.uid,m.gid,m.mtime,m.ctime,m.ag,m.up,bs m.data,.slice A2 m.af.length k2] 66));have h_:Ext w2 W3:=by rw[cj];exact (Ext.refl _).alloc _
 obtain⟨b8,fM⟩:=zE w2.heap.size;have N3:Has W3 b8 (.cells #[m.no,m.dev,m.kind,m.mode,m.uid,m.gid,m.mtime,m.ctime,m.ag,m.up,bs m.data,.slice A2 m.af.length k2] 66):=by rw[cj,fM];exact Has.new _ _
 have E3:Ext w W3:=b2.trans h_;have o7:w.heap.size<=b8:=by rw[fM];exact b2.size
 clear v0 hmm;go_upto_region 1 with fail;rw [<-cj];rw [<-fM];clear cj fM;have nN:W3.cell? ⟨b8,11,none⟩=some (.slice A2 m.af.length k2):=N3.cell 11;have y6:W3.cell? ⟨b8,6,none⟩=some (.int .i64 m.mtime):=N3.cell 6;have y7:W3.cell? ⟨b8,7,none⟩=some (.int .i64 m.ctime):=N3.cell 7;have yf:∀i,W3.frozen? ⟨b8,i,none⟩=false:=fun i=>(N3.free i).trans (by simp)
 have yz:=N3.lt;obtain ⟨n,hn⟩:∃n:ai,n={m with af:=l,mtime:=now,ctime:=now}:=⟨_,rfl⟩;have HN:=zH hn;clear hn;go_upto_region 2 with fail;obtain⟨V,hV⟩:=zE (((W3.setCell ⟨b8,11,none⟩ (.slice A L cap)).setCell ⟨b8,6,none⟩ (.int .i64 now)).setCell ⟨b8,7,none⟩ (.int .i64 now));rw [<-hV];have NV:Has V b8 (.cells #[n.no,n.dev,n.kind,n.mode,n.uid,n.gid,n.mtime,n.ctime,n.ag,n.up,bs n.data,.slice A n.af.length cap] 66):=by rw[hV,HN.out,uF.out];exact ((N3.setCell 11 _).setCell 6 _).setCell 7 _
 have OV:Only [b8] W3 V:=by rw[hV];exact ((Only.setCell _ _ _ _).then (Only.setCell _ _ _ _)).then (Only.setCell _ _ _ _)
 have EV:Ext w V:=OV.after E3 (by intro x hx;rw[List.mem_singleton]at hx;omega);have KV:=h0.ext EV;have wj:az V B n A cap:=by
  refine ⟨?_,by rw[HN.out];exact hc1,tF,hc3⟩;rw [HN.out];exact HL.out.ext EV
 clear hV nN y6 y7 yf yz;obtain ⟨_,_,cdV,Lz,_⟩:=id KV;have v0:V.cell? ⟨g.bW,0,none⟩=some (.pointer (some ⟨g.bT,0,none⟩)):=Lz.cell 0;have vz:=Lz.lt;obtain ⟨x0,x1,x2,x3,x4,x5,x6,x7,x8,x9,ki,ke⟩:=NV.cD;have zN:=NV.lt;clear Lz;go_still_tail 5,(by kernel_rfl);change wpList _ _ _ _ _ V.drew;go_wp2_with fail;have ED:Ext V V.drew:=(Ext.refl _).drew;refine (lU B g S n A cap _ (KV.ext ED) HU.out (wj.ext ED)).mono ?_;rintro e w8 ⟨rfl,K8,O8⟩;go_wp2_with fail;go_end0;have e2:bR S dir now l=aE S n:=by unfold bR eL;rw[HN.out,HM.out]
 exact ⟨rfl,by rw[e2];exact K8,Only.pre (EV.trans ED) O8⟩
theorem uG (B:Nat) (g:cI) (S:ae) (X:cP) (dir:Int) (A:Option Addr) (l:List ay) (cap:Nat) (w:World) (h:gR w B g S X) (lM:S.nodes.length<=1000000) (hu:aD S.nodes S.last) (hl:lf w B A l) (hc1:l.length<=cap) (tF:cap<=maxLen) (hc3:A=none->cap=0) :
  Calls Tryz.prog 166 #[.pointer (some ⟨g.bF,0,none⟩),.int .i64 dir,.slice A l.length cap] w (Dl w B g (bR S dir X.now l) X):=by
 have HL:=zH hl;obtain⟨L,hL⟩:=zE l.length;rw [<-hL];have uF:=zH hL;have HU:=zH hu;clear hl hL hu;go_enter Tryz.func166,Tryz.ntmps166;go_wp2_with fail;refine (eK B g S X dir _ h lM HU.out).mono ?_;rintro e w2 ⟨A2,k2,rfl,gv,b2⟩;obtain⟨m,hmm⟩:=zE (ac S.nodes dir);rw [<-hmm]at gv|-;have HM:=zH hmm;obtain⟨W3,cj⟩:=zE (w2.alloc (.cells #[m.no,m.dev,m.kind,m.mode,m.uid,m.gid,m.mtime,m.ctime,m.ag,m.up,bs m.data,.slice A2 m.af.length k2] 66));have h_:Ext w2 W3:=by rw[cj];exact (Ext.refl _).alloc _
 obtain⟨b8,fM⟩:=zE w2.heap.size;have N3:Has W3 b8 (.cells #[m.no,m.dev,m.kind,m.mode,m.uid,m.gid,m.mtime,m.ctime,m.ag,m.up,bs m.data,.slice A2 m.af.length k2] 66):=by rw[cj,fM];exact Has.new _ _
 have E3:Ext w W3:=b2.trans h_;have o7:w.heap.size<=b8:=by rw[fM];exact b2.size
 clear hmm;go_upto_region 1 with fail;rw [<-cj];rw [<-fM];clear cj fM;have nN:W3.cell? ⟨b8,11,none⟩=some (.slice A2 m.af.length k2):=N3.cell 11;have y6:W3.cell? ⟨b8,6,none⟩=some (.int .i64 m.mtime):=N3.cell 6;have y7:W3.cell? ⟨b8,7,none⟩=some (.int .i64 m.ctime):=N3.cell 7;have yf:∀i,W3.frozen? ⟨b8,i,none⟩=false:=fun i=>(N3.free i).trans (by simp)
 have yz:=N3.lt;have nw:W3.cell? ⟨g.bF,3,none⟩=some (.int .i64 X.now):=by obtain⟨_,_,_,k,_⟩:=h.ext E3;exact k.cell 3
 have nz:=(h.ext E3).lt.1;have hlt:=h.lt.1;have Xi:(b8=g.bF)=False:=eq_false (by omega);have LA:(g.bF=b8)=False:=eq_false (by omega);obtain ⟨n,hn⟩:∃n:ai,n={m with af:=l,mtime:=X.now,ctime:=X.now}:=⟨_,rfl⟩;have HN:=zH hn;clear hn;go_upto_region 4 with fail;obtain⟨V,hV⟩:=zE (((W3.setCell ⟨b8,11,none⟩ (.slice A L cap)).setCell ⟨b8,6,none⟩ (.int .i64 X.now)).setCell ⟨b8,7,none⟩ (.int .i64 X.now));rw [<-hV];have NV:Has V b8 (.cells #[n.no,n.dev,n.kind,n.mode,n.uid,n.gid,n.mtime,n.ctime,n.ag,n.up,bs n.data,.slice A n.af.length cap] 66):=by rw[hV,HN.out,uF.out];exact ((N3.setCell 11 _).setCell 6 _).setCell 7 _
 have OV:Only [b8] W3 V:=by rw[hV];exact ((Only.setCell _ _ _ _).then (Only.setCell _ _ _ _)).then (Only.setCell _ _ _ _)
 have EV:Ext w V:=OV.after E3 (by intro x hx;rw[List.mem_singleton]at hx;omega);have wj:az V B n A cap:=by
  refine ⟨?_,by rw[HN.out];exact hc1,tF,hc3⟩;rw [HN.out];exact HL.out.ext EV
 clear hV nN y6 y7 yf yz nw nz Xi LA;go_wp2_with (refine aw rfl _ rfl b8 n A cap rfl NV ?_);refine (nC B g S X n A cap _ (h.ext EV) lM HU.out wj).mono ?_;rintro e w5 ⟨rfl,K5,O5⟩;go_wp2_with fail;go_end0;have e2:bR S dir X.now l=aE S n:=by unfold bR eL;rw[HN.out,HM.out]
 exact ⟨rfl,by rw[e2];exact K5,Only.pre EV O5⟩
attribute [local irreducible] gH
attribute [local go_sem] fx
theorem qA {S:ae} (h:Live S) (n:ai):aD (bB S n).nodes (bB S n).last:=by
 unfold bB;split
 ·exact h.bc.add {n with no:=S.last+1} rfl (by have:=h.last;omega)
 ·exact h.bc
structure Ok (S:ae):Prop where
 live:Live S
 af:∀n∈S.nodes,iq n.af/\n.af.length<=100000
 ag:∀n∈S.nodes,1<=n.ag/\n.ag<=1000
theorem dy.ok {c:Nat} {S:ae} (h:dy c S) (hc:c<=100000):Ok S:=⟨h.live,fun n hn=>⟨h.lP n hn,by have:=h.small n hn;omega⟩,fun n hn=>(h.bits n hn).2.2⟩
theorem Ok.aY {S:ae} (h:Ok S) (no:Int):iq (ac S.nodes no).af/\(ac S.nodes no).af.length<=100000:=by
 cases hi:aJ S.nodes no
 ·rw[(aU hi).1];exact⟨List.Pairwise.nil,Nat.zero_le _⟩
 ·exact h.af _ (ak hi).2.2
theorem j0 {l:List ay} {nm:List UInt8} (hr:iq l):numOf l nm=aK l nm:=by
 unfold aK numOf
 cases hh:has l nm
 ·have:l.find? (·.1 == nm)=none:=by
   rw [List.find?_eq_none];intro x hx;unfold has at hh;rw [List.any_eq_false]at hh;exact hh x hx
  rw [this];rfl
 ·obtain ⟨hp,he⟩:=yh hr hh
  have:l.find? (·.1 == nm)=some l[pos l nm]:=by
   rw [List.find?_eq_some_iff_getElem];refine ⟨by simp[he],pos l nm,hp,rfl,fun j hj=>?_⟩;have h1:=zR l nm j hj (by omega);unfold lt at h1;have:=nA h1;simp [this]
  rw [this];simp [List.getD_eq_getElem?_getD,List.getElem?_eq_getElem hp]
def tA (n:ai) (dev cu cg now:Int):Nat->ai
 | 0=>n
 | 1=>{n with dev:=dev}
 | 2=>{n with dev:=dev,uid:=cu}
 | 3=>{n with dev:=dev,uid:=cu,gid:=cg}
 | 4=>{n with dev:=dev,uid:=cu,gid:=cg,mtime:=now}
 | 5=>{n with dev:=dev,uid:=cu,gid:=cg,mtime:=now,ctime:=now}
 | _=>{n with dev:=dev,uid:=cu,gid:=cg,mtime:=now,ctime:=now,ag:=1}
def yP (w:World) (B:Nat) (g:bG) (S:ae) (cu cg now dir:Int) (nm:List UInt8) (n:ai) (e:Ending) (w':World):Prop:=
 e = .returned (.tuple #[.int .i64 (dD S cu cg now dir nm n),.int .i64 (cC S cu cg now dir nm n)])/\dM w' B g (bV S cu cg now dir nm n)/\Only g.list w w'
theorem GW {w w':World} {B:Nat} {g:bG} {S:ae} {cu cg now dir x:Int} {nm:List UInt8} {n:ai} (h:dM w B g S) (hE:Ext w w') (hx:cC S cu cg now dir nm n=x) (h0:x≠0):yP w B g S cu cg now dir nm n (.returned (.tuple #[.int .i64 0,.int .i64 x])) w':=by
 refine ⟨?_,?_,Only.ax hE⟩
 ·unfold dD;rw[hx,if_neg h0]
 ·unfold bV;rw[hx,if_neg h0];exact h.ext hE
theorem uH (B:Nat) (g:bG) (S:ae) (cu cg now dir:Int) (nm:List UInt8) (n:ai) (A:Option Addr) (c:Nat) (w:World) (h:dM w B g S) (O:Ok S) (iE:S.last<=100000) (hn:az w B n A c) (lr:n.data.length<=1000000000) :
    Calls Tryz.prog 191 #[.pointer (some ⟨g.bW,0,none⟩),.agg #[cu,cg],.int .i64 now,.int .i64 dir,bs nm,.agg #[n.no,n.dev,n.kind,n.mode,n.uid,n.gid,n.mtime,n.ctime,n.ag,n.up,bs n.data,.slice A n.af.length c]] w (yP w B g S cu cg now dir nm n):=by
  obtain⟨W0,aH⟩:=zE ((w.alloc (.cells #[cu,cg] 27)).alloc (.cells #[n.no,n.dev,n.kind,n.mode,n.uid,n.gid,n.mtime,n.ctime,n.ag,n.up,bs n.data,.slice A n.af.length c] 66))
  have E0:Ext w W0:=by rw[aH];exact ((Ext.refl _).alloc _).alloc _
  obtain ⟨b7,sP⟩:∃b,b=w.heap.size:=⟨_,rfl⟩
  have C0:Has W0 b7 (.cells #[cu,cg] 27):=by rw[aH,sP];exact (Has.new w _).alloc _
  have N0:Has W0 (b7+1) (.cells #[n.no,n.dev,n.kind,n.mode,n.uid,n.gid,n.mtime,n.ctime,n.ag,n.up,bs n.data,.slice A n.af.length c] 66):=by
    rw [aH,sP]
    have:=Has.new (w.alloc (.cells #[cu,cg] 27)) (.cells #[n.no,n.dev,n.kind,n.mode,n.uid,n.gid,n.mtime,n.ctime,n.ag,n.up,bs n.data,.slice A n.af.length c] 66)
    rwa [World.size_alloc]at this
  have aaG:w.heap.size+2<=W0.heap.size:=by rw[aH];simp
  have HO:=zH O
  have hm:Hid (cC S cu cg now dir nm n=if ¬aS S cu cg dir nm=0 then aS S cu cg dir nm else if ¬aK (ac S.nodes dir).af nm=0 then 7 else eY S (bZ S cu cg now dir n)):=by show _=_;rfl
  have hp:Hid (aS S cu cg dir nm=0->cV S cu cg dir nm=ac S.nodes dir/\aJ S.nodes dir=true):=fun h0=>⟨jZ h0,(aT h0).1⟩
  have HS:Hid (∀(w':World) (x:Int),Ext w w'->cC S cu cg now dir nm n=x->x≠0->yP w B g S cu cg now dir nm n (.returned (.tuple #[.int .i64 0,.int .i64 x])) w'):=by
    show ∀(w':World) (x:Int),_
    exact fun w' x hE hx h0=>GW h hE hx h0
  have lD:=zH E0
  clear O
  go_enter Tryz.func191,Tryz.ntmps191
  go_upto_region 1 with fail
  rw [<-aH]
  rw [<-sP]
  have aaH:b7<=w.heap.size:=by omega
  have Xj:w.heap.size<=b7:=by omega
  clear aH sP
  have x0:W0.cell? ⟨b7,0,none⟩=some (.int .i64 cu):=C0.cell 0
  have x1:W0.cell? ⟨b7,1,none⟩=some (.int .i64 cg):=C0.cell 1
  have xz:=C0.lt
  go_wp2_with fail
  refine (pJ B g S cu cg dir nm _ (h.ext E0) HO.out.live.ah).mono ?_
  rintro e w2 ⟨A2,k2,rfl,gv,b2⟩
  obtain⟨m,hmm⟩:=zE (cV S cu cg dir nm)
  obtain⟨x,hx⟩:=zE (aS S cu cg dir nm)
  rw [<-hmm]at gv hp
  rw [<-hx]at hm hp
  rw [<-hmm,<-hx]
  obtain⟨W3,cj⟩:=zE (w2.alloc (.cells #[m.no,m.dev,m.kind,m.mode,m.uid,m.gid,m.mtime,m.ctime,m.ag,m.up,bs m.data,.slice A2 m.af.length k2] 66))
  obtain ⟨lW,nU⟩:∃b,b=w2.heap.size:=⟨_,rfl⟩
  have h_:Ext w2 W3:=by rw[cj];exact (Ext.refl _).alloc _
  have M3:Has W3 lW (.cells #[m.no,m.dev,m.kind,m.mode,m.uid,m.gid,m.mtime,m.ctime,m.ag,m.up,bs m.data,.slice A2 m.af.length k2] 66):=by rw[cj,nU];exact Has.new _ _
  have mR:Ext W0 W3:=b2.trans h_
  have C3:=C0.ext mR
  have N3:=N0.ext mR
  have nj:=gv.ext h_
  have Sa:W0.heap.size<=lW:=by rw[nU];exact b2.size
  clear x0 x1 xz hmm hx C0 N0
  go_upto_region 2 with fail
  rw [<-cj]
  rw [<-nU]
  clear cj nU
  by_cases aV:x=0
  · have t0 : (x == 0)=true:=by simpa using aV
    have mB:(x != 0)=false:=by simpa using aV
    obtain ⟨mW,hid⟩:=hp.out aV
    have bU:Hid (cC S cu cg now dir nm n=if ¬aK m.af nm=0 then 7 else eY S (bZ S cu cg now dir n)):=by show _=_;rw[hm.out,if_neg (by simpa using aV),<-mW]
    have zC:=zH mW
    have HID:=zH hid
    have hen:=HO.out.aY dir
    rw [<-mW]at hen
    have sQ:=zH hen
    have zG:W3.cell? ⟨lW,11,none⟩=some (.slice A2 m.af.length k2):=M3.cell 11
    have kz:=M3.lt
    clear hm hp aV mW hid hen
    go_wp2_with fail
    refine (nv A2 m.af k2 nm _ nj.af.af sQ.out.1 (by have:=sQ.out.2;omega)).mono ?_
    rw [j0 sQ.out.1]
    rintro e w4 ⟨rfl,b4⟩
    obtain⟨v,hv⟩:=zE (aK m.af nm)
    rw [<-hv]at bU
    rw [<-hv]
    have C4:=C3.ext b4
    have N4:=N3.ext b4
    have M4:=M3.ext b4
    have qy:=nj.ext b4
    have E4:=mR.trans b4
    clear hv zG kz C3 N3 M3 nj mR b4
    by_cases pL:v=0
    · have t1:(v == 0)=true:=by simpa using pL
      have rH:(v != 0)=false:=by simpa using pL
      have k7:Hid (cC S cu cg now dir nm n=eY S (bZ S cu cg now dir n)):=by show _=_;rw[bU.out,if_neg (by simpa using pL)]
      clear bU pL
      go_upto_region 6 with fail
      obtain ⟨dK,iQ⟩:∃b,b=b7+1:=⟨_,rfl⟩
      rw [<-iQ]at N4|-
      have Xk:dK<=b7+1:=by omega
      have Xl:b7+1<=dK:=by omega
      clear iQ
      have Sb:=h.lt
      have s0:=E0.size
      have GX:lW≠dK:=by have:=b2.size;omega
      have tf:b7≠dK:=by omega
      obtain ⟨Ph,k8⟩:∃Ph:Nat->World->Prop,Ph=fun j w'=>Has w' dK (.cells #[.int .i64 (tA n m.dev cu cg now j).no,.int .i64 (tA n m.dev cu cg now j).dev,.int .i64 (tA n m.dev cu cg now j).kind,.int .i64 (tA n m.dev cu cg now j).mode,.int .i64 (tA n m.dev cu cg now j).uid,.int .i64 (tA n m.dev cu cg now j).gid,.int .i64 (tA n m.dev cu cg now j).mtime,.int .i64 (tA n m.dev cu cg now j).ctime,.int .i64 (tA n m.dev cu cg now j).ag,.int .i64 (tA n m.dev cu cg now j).up,.string (bs (tA n m.dev cu cg now j).data),.slice A (tA n m.dev cu cg now j).af.length c] 66)/\Only [dK] w4 w':=⟨_,rfl⟩
      have HV:Hid (Ph 0 w4.drew):=by show Ph 0 _;rw[k8];exact⟨N4.ext (Ext.refl _).drew,Only.ax (Ext.refl _).drew⟩
      have hne:Nonempty (Hp Ph):=⟨⟨0,_,HV.out⟩⟩
      have KQ:Hid (∀w',Ph 6 w'->Has w' dK (.cells #[.int .i64 (bZ S cu cg now dir n).no,.int .i64 (bZ S cu cg now dir n).dev,.int .i64 (bZ S cu cg now dir n).kind,.int .i64 (bZ S cu cg now dir n).mode,.int .i64 (bZ S cu cg now dir n).uid,.int .i64 (bZ S cu cg now dir n).gid,.int .i64 (bZ S cu cg now dir n).mtime,.int .i64 (bZ S cu cg now dir n).ctime,.int .i64 (bZ S cu cg now dir n).ag,.int .i64 (bZ S cu cg now dir n).up,.string (bs (bZ S cu cg now dir n).data),.slice A (bZ S cu cg now dir n).af.length c] 66)/\Only [dK] w4 w'):=by
        show ∀w',_
        intro w' hw
        rw [k8]at hw
        refine ⟨?_,hw.2⟩
        have:=hw.1
        rw [zC.out]at this
        exact this
      have u1:∀u:Hp Ph,u.w.cell? ⟨lW,1,none⟩=some (.int .i64 m.dev):=by
        rintro ⟨j,u,hu⟩
        rw [k8]at hu
        exact (hu.2.has M4 (by simpa using GX)).cell 1
      have u2:∀u:Hp Ph,u.w.cell? ⟨b7,0,none⟩=some (.int .i64 cu):=by
        rintro ⟨j,u,hu⟩
        rw [k8]at hu
        exact (hu.2.has C4 (by simpa using tf)).cell 0
      have u3:∀u:Hp Ph,u.w.cell? ⟨b7,1,none⟩=some (.int .i64 cg):=by
        rintro ⟨j,u,hu⟩
        rw [k8]at hu
        exact (hu.2.has C4 (by simpa using tf)).cell 1
      have f0:∀u:Wc (Ph 0),u.w.cell? ⟨dK,1,none⟩=some (.int .i64 n.dev):=by
        rintro ⟨u,hu⟩
        rw [k8]at hu
        exact hu.1.cell 1
      have g0:∀u:Wc (Ph 0),u.w.frozen? ⟨dK,1,none⟩=false:=by
        rintro ⟨u,hu⟩
        rw [k8]at hu
        exact (hu.1.free 1).trans (by simp)
      have KS0:Hid (∀u:Wc (Ph 0),Ph 1 (u.w.setCell ⟨dK,1,none⟩ (.int .i64 m.dev))):=by
        show ∀u:Wc (Ph 0),_
        rintro ⟨u,hu⟩
        dsimp only
        rw [k8]at hu|-
        exact ⟨hu.1.setCell 1 _,hu.2.then (Only.setCell _ _ _ _)⟩
      have f1:∀u:Wc (Ph 1),u.w.cell? ⟨dK,4,none⟩=some (.int .i64 n.uid):=by
        rintro ⟨u,hu⟩
        rw [k8]at hu
        exact hu.1.cell 4
      have g1:∀u:Wc (Ph 1),u.w.frozen? ⟨dK,4,none⟩=false:=by
        rintro ⟨u,hu⟩
        rw [k8]at hu
        exact (hu.1.free 4).trans (by simp)
      have KS1:Hid (∀u:Wc (Ph 1),Ph 2 (u.w.setCell ⟨dK,4,none⟩ (.int .i64 cu))):=by
        show ∀u:Wc (Ph 1),_
        rintro ⟨u,hu⟩
        dsimp only
        rw [k8]at hu|-
        exact ⟨hu.1.setCell 4 _,hu.2.then (Only.setCell _ _ _ _)⟩
      have f2:∀u:Wc (Ph 2),u.w.cell? ⟨dK,5,none⟩=some (.int .i64 n.gid):=by
        rintro ⟨u,hu⟩
        rw [k8]at hu
        exact hu.1.cell 5
      have g2:∀u:Wc (Ph 2),u.w.frozen? ⟨dK,5,none⟩=false:=by
        rintro ⟨u,hu⟩
        rw [k8]at hu
        exact (hu.1.free 5).trans (by simp)
      have KS2:Hid (∀u:Wc (Ph 2),Ph 3 (u.w.setCell ⟨dK,5,none⟩ (.int .i64 cg))):=by
        show ∀u:Wc (Ph 2),_
        rintro ⟨u,hu⟩
        dsimp only
        rw [k8]at hu|-
        exact ⟨hu.1.setCell 5 _,hu.2.then (Only.setCell _ _ _ _)⟩
      have f3:∀u:Wc (Ph 3),u.w.cell? ⟨dK,6,none⟩=some (.int .i64 n.mtime):=by
        rintro ⟨u,hu⟩
        rw [k8]at hu
        exact hu.1.cell 6
      have g3:∀u:Wc (Ph 3),u.w.frozen? ⟨dK,6,none⟩=false:=by
        rintro ⟨u,hu⟩
        rw [k8]at hu
        exact (hu.1.free 6).trans (by simp)
      have KS3:Hid (∀u:Wc (Ph 3),Ph 4 (u.w.setCell ⟨dK,6,none⟩ (.int .i64 now))):=by
        show ∀u:Wc (Ph 3),_
        rintro ⟨u,hu⟩
        dsimp only
        rw [k8]at hu|-
        exact ⟨hu.1.setCell 6 _,hu.2.then (Only.setCell _ _ _ _)⟩
      have f4:∀u:Wc (Ph 4),u.w.cell? ⟨dK,7,none⟩=some (.int .i64 n.ctime):=by
        rintro ⟨u,hu⟩
        rw [k8]at hu
        exact hu.1.cell 7
      have g4:∀u:Wc (Ph 4),u.w.frozen? ⟨dK,7,none⟩=false:=by
        rintro ⟨u,hu⟩
        rw [k8]at hu
        exact (hu.1.free 7).trans (by simp)
      have KS4:Hid (∀u:Wc (Ph 4),Ph 5 (u.w.setCell ⟨dK,7,none⟩ (.int .i64 now))):=by
        show ∀u:Wc (Ph 4),_
        rintro ⟨u,hu⟩
        dsimp only
        rw [k8]at hu|-
        exact ⟨hu.1.setCell 7 _,hu.2.then (Only.setCell _ _ _ _)⟩
      have f5:∀u:Wc (Ph 5),u.w.cell? ⟨dK,8,none⟩=some (.int .i64 n.ag):=by
        rintro ⟨u,hu⟩
        rw [k8]at hu
        exact hu.1.cell 8
      have g5:∀u:Wc (Ph 5),u.w.frozen? ⟨dK,8,none⟩=false:=by
        rintro ⟨u,hu⟩
        rw [k8]at hu
        exact (hu.1.free 8).trans (by simp)
      have KS5:Hid (∀u:Wc (Ph 5),Ph 6 (u.w.setCell ⟨dK,8,none⟩ (.int .i64 1))):=by
        show ∀u:Wc (Ph 5),_
        rintro ⟨u,hu⟩
        dsimp only
        rw [k8]at hu|-
        exact ⟨hu.1.setCell 8 _,hu.2.then (Only.setCell _ _ _ _)⟩
      clear k8
      refine iM Ph [9,11,13,15,17,19] (by kernel_rfl) (by kernel_rfl) (by kernel_rfl) HV.out ?_
      repeat (first
        | (refine jr (by kernel_rfl) (fun K hK=>?_)
           go_simp
           refine hK _ ?_
           clear hK K)
        | (refine dN 0 (by kernel_rfl) rfl (fun K hK=>?_)
           go_simp
           refine ⟨⟨undef,fun u=>⟨rfl,KS0.out u⟩⟩,hK _ ?_⟩
           clear hK K)
        | (refine dN 1 (by kernel_rfl) rfl (fun K hK=>?_)
           go_simp
           refine ⟨⟨undef,fun u=>⟨rfl,KS1.out u⟩⟩,hK _ ?_⟩
           clear hK K)
        | (refine dN 2 (by kernel_rfl) rfl (fun K hK=>?_)
           go_simp
           refine ⟨⟨undef,fun u=>⟨rfl,KS2.out u⟩⟩,hK _ ?_⟩
           clear hK K)
        | (refine dN 3 (by kernel_rfl) rfl (fun K hK=>?_)
           go_simp
           refine ⟨⟨undef,fun u=>⟨rfl,KS3.out u⟩⟩,hK _ ?_⟩
           clear hK K)
        | (refine dN 4 (by kernel_rfl) rfl (fun K hK=>?_)
           go_simp
           refine ⟨⟨undef,fun u=>⟨rfl,KS4.out u⟩⟩,hK _ ?_⟩
           clear hK K)
        | (refine dN 5 (by kernel_rfl) rfl (fun K hK=>?_)
           go_simp
           refine ⟨⟨undef,fun u=>⟨rfl,KS5.out u⟩⟩,hK _ ?_⟩
           clear hK K))
      refine mG ?_
      intro w5 RN
      obtain ⟨N5,O5⟩:=KQ.out _ RN
      clear u1 u2 u3 f0 f1 f2 f3 f4 f5 g0 g1 g2 g3 g4 g5 KS0 KS1 KS2 KS3 KS4 KS5 KQ HV RN hne
      obtain⟨n',hn'⟩:=zE (bZ S cu cg now dir n)
      rw [<-hn']at N5 k7
      have AF:n'.data=n.data:=by rw[hn'];rfl
      have rV:n'.af=n.af:=by rw[hn'];rfl
      have CB:=zH hn'
      have HDN:=zH AF
      have Tu:db w4 B [dK]:=by
        intro b hb
        rw [List.mem_singleton]at hb
        subst hb
        exact ⟨by have:=h.1;omega,N4.fJ (by decide)⟩
      have Gs:∀b∈g.list,b∉[dK]:=by
        intro b hb
        simp only[bG.list,List.mem_cons,List.not_mem_nil,or_false]at hb
        rw [List.mem_singleton]
        rcases hb with rfl|rfl|rfl|rfl<;>omega
      have LB:Ext w w4:=E0.trans E4
      have K5:dM w5 B g S:=(h.ext LB).only O5 Tu Gs
      have uI:az w5 B n' A c:=((hn.ext LB).only O5 Tu).same rV
      have yH:=qy.only O5 Tu
      have M5:=O5.has M4 (by simpa using GX)
      have Ow5:Only g.list w w5:=(Only.ax LB).trans O5 (by intro b hb;rw[List.mem_singleton]at hb;right;omega)
      have E5:Ext w w5:=O5.after LB (by intro b hb;rw[List.mem_singleton]at hb;omega)
      clear hn' AF rV
      go_wp2_with (refine aw rfl _ rfl dK n' A c rfl N5 ?_)
      refine (Gp B g S n' A c _ K5 uI HO.out.live.roots HO.out.live.ah HO.out.live.eight HO.out.live.bc (by have:=HO.out.live.last;omega) (by omega) (by rw[HDN.out];exact lr)).mono ?_
      rintro e w6 ⟨rfl,K6,O6⟩
      obtain⟨e6,LC⟩:=zE (eY S n')
      have aW:eY S n'=0->mP S n'=S.last+1:=fun h0=>by unfold mP;rw[if_pos h0]
      obtain⟨no,ry⟩:=zE (mP S n')
      rw [<-LC,<-ry]at aW
      rw [<-LC]at k7
      rw [<-LC,<-ry]
      have w_:=zH aW
      have OH:=zH LC
      have M6:=O6.has M5 (by simp only[bG.list,List.mem_cons,List.not_mem_nil,or_false];omega)
      have rT:=yH.only O6 K5.apart
      have Xm:=Ow5.then O6
      clear aW ry LC
      by_cases hz:e6=0
      · have t2:(e6 == 0)=true:=by simpa using hz
        have OG:(e6 != 0)=false:=by simpa using hz
        have HZ:=zH hz
        have zG:w6.cell? ⟨lW,11,none⟩=some (.slice A2 m.af.length k2):=M6.cell 11
        have kz:=M6.lt
        clear hz
        go_wp2_with fail
        refine (EX A2 m.af k2 nm no _ rT.af.af rT.nil sQ.out.1 rT.cap rT.max (by have:=sQ.out.2;omega)).mono ?_
        rintro e w7 ⟨v7,rfl,hown,Xn⟩
        rw [rp _ _ _ sQ.out.1]at hown
        obtain ⟨A7,c7,rfl,q1,q2,q3,q4⟩:=hown.zY (B:=B)
        obtain⟨T,hT⟩:=zE (bB S n')
        rw [<-hT]at K6
        have Tv:aD T.nodes T.last:=by rw[hT];exact qA HO.out.live _
        obtain ⟨L7,OI⟩:∃L,L=en m.af (nm,no):=⟨_,rfl⟩
        rw [<-OI]at q1 q3|-
        have Tw:Hid (Calls Tryz.prog 194 #[.pointer (some ⟨g.bW,0,none⟩),.int .i64 dir,.int .i64 now,.slice A7 L7.length c7] w7 (uE w7 B g (bR T dir now L7))):=pK B g T dir now A7 L7 c7 w7 (K6.ext Xn) Tv q3 q1 q2 q4
        have HT:=zH hT
        have Xo:=zH OI
        clear zG kz hown q1 q2 q3 q4 hT OI
        go_wp2_with fail
        refine Tw.out.mono ?_
        rintro e w8 ⟨rfl,K8,O8⟩
        go_wp2_with fail
        go_ret2
        have e1:cC S cu cg now dir nm n=0:=by rw[k7.out];exact HZ.out
        have e2:dD S cu cg now dir nm n=no:=by unfold dD;rw[if_pos e1];exact (w_.out HZ.out).symm
        have e3:bV S cu cg now dir nm n=bR T dir now L7:=by
          unfold bV
          rw [if_pos e1,HT.out,Xo.out,<-CB.out,zC.out,w_.out HZ.out]
        refine ⟨by rw[e1,e2];rfl,by rw[e3];exact K8,(Xm.ext Xn).then O8⟩
      · have t2:(e6 == 0)=false:=by simpa using hz
        have OG:(e6 != 0)=true:=by simpa using hz
        have HZ:=zH hz
        clear hz
        go_wp2_with fail
        go_ret2
        have e1:cC S cu cg now dir nm n=e6:=k7.out
        have e2:dD S cu cg now dir nm n=0:=by unfold dD;rw[if_neg (by rw[e1];exact HZ.out)]
        have e3:bV S cu cg now dir nm n=S:=by unfold bV;rw[if_neg (by rw[e1];exact HZ.out)]
        have e4:bB S n'=S:=by unfold bB;rw[if_neg (by rw[<-OH.out];exact HZ.out)]
        rw [e4]at K6
        exact ⟨by rw[e1,e2];rfl,by rw[e3];exact K6,Xm⟩
    · have t1:(v == 0)=false:=by simpa using pL
      have rH:(v != 0)=true:=by simpa using pL
      have hE:Hid (cC S cu cg now dir nm n=7):=by show _=_;rw[bU.out,if_pos pL]
      clear bU pL
      go_wp2_with fail
      go_ret2
      exact HS.out _ _ (lD.out.trans E4) hE.out (by decide)
  · have t0:(x == 0)=false:=by simpa using aV
    have mB:(x != 0)=true:=by simpa using aV
    have hE:Hid (cC S cu cg now dir nm n=x):=by show _=_;rw[hm.out,if_pos aV]
    have HX:=zH aV
    clear hm aV
    go_wp2_with fail
    go_ret2
    exact HS.out _ _ (lD.out.trans mR) hE.out HX.out
end
open Go.ChangeShapes Go.WideShapes Go.ChangeAt Go.RowKit
theorem GY (B:Nat) (g:bG) (S:ae) (cu cg now no dir:Int) (nm:List UInt8) (w:World) (h:dM w B g S) (O:Ok S) :
  Calls Tryz.prog 159 #[.pointer (some ⟨g.bW,0,none⟩),.agg #[cu,cg],.int .i64 now,.int .i64 no,.int .i64 dir,bs nm] w (mA w B g (gM S cu cg now no dir nm) (fD S cu cg no dir nm)):=by
 obtain⟨W0,aH⟩:=zE (w.alloc (.cells #[cu,cg] 27));have E0:Ext w W0:=by rw[aH];exact (Ext.refl _).alloc _
 have C0:Has W0 w.heap.size (.cells #[cu,cg] 27):=by rw[aH];exact Has.new w _
 have HO:=zH O;have hm:Hid (fD S cu cg no dir nm=if ¬aS S cu cg dir nm=0 then aS S cu cg dir nm else if aJ S.nodes no=false then 5 else if (ac S.nodes no).kind=1 then 4
  else if ¬aK (ac S.nodes dir).af nm=0 then 7 else if ¬(ac S.nodes no).dev=(ac S.nodes dir).dev then 11 else if 1000<=(ac S.nodes no).ag then 18 else 0):=by show _=_;rfl
 have hp:Hid (aS S cu cg dir nm=0->cV S cu cg dir nm=ac S.nodes dir/\aJ S.nodes dir=true):=fun h0=>⟨jZ h0,(aT h0).1⟩
 have HS:Hid (∀(w':World) (x:Int),Ext w w'->fD S cu cg no dir nm=x->x≠0->mA w B g (gM S cu cg now no dir nm) (fD S cu cg no dir nm) (.returned (.int .i64 x)) w'):=by
  show ∀(w':World) (x:Int),_;intro w' x hE hx h0;rw [hx];exact eG h hE (by unfold gM;rw[if_neg (by rw[hx];exact h0)])
 clear O;go_enter Tryz.func159,Tryz.ntmps159;go_upto_region 1 with fail;rw [<-aH];clear aH;have x0:W0.cell? ⟨w.heap.size,0,none⟩=some (.int .i64 cu):=C0.cell 0;have x1:W0.cell? ⟨w.heap.size,1,none⟩=some (.int .i64 cg):=C0.cell 1;have xz:=C0.lt;go_wp2_with fail;refine (pJ B g S cu cg dir nm _ (h.ext E0) HO.out.live.ah).mono ?_;rintro e w2 ⟨A2,k2,rfl,gv,b2⟩;obtain⟨m,hmm⟩:=zE (cV S cu cg dir nm);obtain⟨x,hx⟩:=zE (aS S cu cg dir nm);rw [<-hmm]at gv hp;rw [<-hx]at hm hp;rw [<-hmm,<-hx];obtain⟨W3,cj⟩:=zE (w2.alloc (.cells #[m.no,m.dev,m.kind,m.mode,m.uid,m.gid,m.mtime,m.ctime,m.ag,m.up,bs m.data,.slice A2 m.af.length k2] 66));obtain ⟨mY,uJ⟩:∃b,b=w2.heap.size:=⟨_,rfl⟩;have h_:Ext w2 W3:=by rw[cj];exact (Ext.refl _).alloc _
 have M3:Has W3 mY (.cells #[m.no,m.dev,m.kind,m.mode,m.uid,m.gid,m.mtime,m.ctime,m.ag,m.up,bs m.data,.slice A2 m.af.length k2] 66):=by rw[cj,uJ];exact Has.new _ _
 have E3:Ext w W3:=E0.trans (b2.trans h_);have nj:=gv.ext h_;have Xp:w.heap.size<=mY:=by rw[uJ];exact (E0.trans b2).size
 clear x0 x1 xz hmm hx C0;go_upto_region 2 with fail;rw [<-cj];rw [<-uJ];clear cj uJ
 by_cases aV:x=0
 ·have t0:(x == 0)=true:=by simpa using aV
  have mB:(x != 0)=false:=by simpa using aV
  obtain ⟨mW,hid⟩:=hp.out aV;have bU:Hid (fD S cu cg no dir nm=if aJ S.nodes no=false then 5 else if (ac S.nodes no).kind=1 then 4 else if ¬aK m.af nm=0 then 7 else if ¬(ac S.nodes no).dev=m.dev then 11 else if 1000<=(ac S.nodes no).ag then 18 else 0):=by
   show _=_;rw[hm.out,if_neg (by simpa using aV),<-mW]
  have zC:=zH mW;have hen:=HO.out.aY dir;rw [<-mW]at hen;have sQ:=zH hen;obtain ⟨_,_,cd,h3,_⟩:=id (h.ext E3);have v0:W3.cell? ⟨g.bW,0,none⟩=some (.pointer (some ⟨g.bT,0,none⟩)):=h3.cell 0;have z1:=h3.lt;clear hm hp aV mW hid hen h3;go_wp2_with fail;refine (fK B g.bT g.bM S.nodes S.last no _ (h.ext E3).2.1).mono ?_;rintro e w4 ⟨A4,k4,rfl,qy,b4⟩;obtain⟨n,hn⟩:=zE (ac S.nodes no);obtain⟨i,hi⟩:=zE (aJ S.nodes no);have hlk:aJ S.nodes no=true->1<=(ac S.nodes no).ag/\(ac S.nodes no).ag<=1000:=fun hi=>HO.out.ag _ (ak hi).2.2
  rw [<-hn,<-hi]at hlk;rw [<-hn]at qy bU;rw [<-hi]at bU;rw [<-hn,<-hi];have HLK:=zH hlk;obtain⟨W5,jJ⟩:=zE (w4.alloc (.cells #[n.no,n.dev,n.kind,n.mode,n.uid,n.gid,n.mtime,n.ctime,n.ag,n.up,bs n.data,.slice A4 n.af.length k4] 66));obtain ⟨nV,rW⟩:∃b,b=w4.heap.size:=⟨_,rfl⟩;have OJ:Ext w4 W5:=by rw[jJ];exact (Ext.refl _).alloc _
  have N5:Has W5 nV (.cells #[n.no,n.dev,n.kind,n.mode,n.uid,n.gid,n.mtime,n.ctime,n.ag,n.up,bs n.data,.slice A4 n.af.length k4] 66):=by rw[jJ,rW];exact Has.new _ _
  have PY:Ext W3 W5:=b4.trans OJ;have M5:=M3.ext PY;have yH:=nj.ext PY;have uI:=qy.ext OJ;have E5:=E3.trans PY;have Xq:W3.heap.size<=nV:=by rw[rW];exact b4.size
  have aaI:mY<nV:=by have:=M3.lt;omega
  have nL:=zH hn;have HI:=zH hi;clear v0 z1 hn hi M3 nj qy E3 hlk;go_upto_region 5 with fail;rw [<-jJ];rw [<-rW];clear jJ rW
  cases i
  ·have hE:Hid (fD S cu cg no dir nm=5):=by show _=_;rw[bU.out];rfl
   clear bU;go_wp2_with fail;go_ret;exact HS.out _ _ E5 hE.out (by decide)
  have Dk:W5.cell? ⟨nV,2,none⟩=some (.int .i64 n.kind):=N5.cell 2;have kz:=N5.lt
  by_cases c1:n.kind=1
  ·have t1:(n.kind == 1)=true:=by simpa using c1
   have hE:Hid (fD S cu cg no dir nm=4):=by show _=_;rw[bU.out,if_neg (by decide),if_pos c1]
   clear bU;go_wp2_with fail;go_ret;exact HS.out _ _ E5 hE.out (by decide)
  have t1:(n.kind == 1)=false:=by simpa using c1
  have zG:W5.cell? ⟨mY,11,none⟩=some (.slice A2 m.af.length k2):=M5.cell 11;have kz2:=M5.lt;have AG:=zH c1;clear c1;go_wp2_with fail;refine (nv A2 m.af k2 nm _ yH.af.af sQ.out.1 (by have:=sQ.out.2;omega)).mono ?_;rw [j0 sQ.out.1];rintro e w6 ⟨rfl,b6⟩;obtain⟨v,hv⟩:=zE (aK m.af nm);rw [<-hv]at bU;rw [<-hv];have N6:=N5.ext b6;have M6:=M5.ext b6;have rT:=yH.ext b6;have Dm:=uI.ext b6;have E6:=E5.trans b6;clear hv Dk kz zG kz2 N5 M5 yH uI
  by_cases c2:v=0
  case neg =>
   have t2:(v == 0)=false:=by simpa using c2
   have OG:(v != 0)=true:=by simpa using c2
   have hE:Hid (fD S cu cg no dir nm=7):=by show _=_;rw[bU.out,if_neg (by decide),if_neg AG.out,if_pos c2]
   clear bU c2;go_wp2_with fail;go_ret;exact HS.out _ _ E6 hE.out (by decide)
  have t2:(v == 0)=true:=by simpa using c2
  have OG:(v != 0)=false:=by simpa using c2
  have y1:w6.cell? ⟨nV,1,none⟩=some (.int .i64 n.dev):=N6.cell 1;have y2:w6.cell? ⟨mY,1,none⟩=some (.int .i64 m.dev):=M6.cell 1;have y3:w6.cell? ⟨nV,8,none⟩=some (.int .i64 n.ag):=N6.cell 8;have yz:=N6.lt;have yz2:=M6.lt;have rU:=zH (show ¬¬v=0 by simpa using c2);clear c2
  by_cases c3:n.dev=m.dev
  case neg =>
   have t3:(n.dev == m.dev)=false:=by simpa using c3
   have t3b:(n.dev != m.dev)=true:=by simpa using c3
   have hE:Hid (fD S cu cg no dir nm=11):=by show _=_;rw[bU.out,if_neg (by decide),if_neg AG.out,if_neg rU.out,if_pos c3]
   clear bU c3;go_wp2_with fail;go_ret;exact HS.out _ _ E6 hE.out (by decide)
  have t3:(n.dev == m.dev)=true:=by simpa using c3
  have t3b:(n.dev != m.dev)=false:=by simpa using c3
  have Xr:=zH (show ¬¬n.dev=m.dev by simpa using c3);clear c3
  by_cases c4:1000<=n.ag
  ·have t4:decide (1000<=n.ag)=true:=decide_eq_true c4
   have hE:Hid (fD S cu cg no dir nm=18):=by show _=_;rw[bU.out,if_neg (by decide),if_neg AG.out,if_neg rU.out,if_neg Xr.out,if_pos c4]
   clear bU c4;go_wp2_with fail;go_ret;exact HS.out _ _ E6 hE.out (by decide)
  have t4:decide (1000<=n.ag)=false:=decide_eq_false c4;have hE:Hid (fD S cu cg no dir nm=0):=by show _=_;rw[bU.out,if_neg (by decide),if_neg AG.out,if_neg rU.out,if_neg Xr.out,if_neg c4]
  have iE:=(HLK.out (by trivial)).1;have y4:IntKind.i64.wrap (n.ag+1)=n.ag+1:=a_ (by omega) (by omega);have yf:∀i,w6.frozen? ⟨nV,i,none⟩=false:=fun i=>(N6.free i).trans (by simp)
  have y7:w6.cell? ⟨nV,7,none⟩=some (.int .i64 n.ctime):=N6.cell 7;obtain ⟨n',hn'⟩:∃n':ai,n'={n with ag:=n.ag+1,ctime:=now}:=⟨_,rfl⟩;have CB:=zH hn';clear bU c4 iE hn';go_upto_region 17 with fail;obtain⟨V,hV⟩:=zE ((w6.setCell ⟨nV,8,none⟩ (.int .i64 (n.ag+1))).setCell ⟨nV,7,none⟩ (.int .i64 now));rw [<-hV];have NV:Has V nV (.cells #[.int .i64 (n').no,.int .i64 (n').dev,.int .i64 (n').kind,.int .i64 (n').mode,.int .i64 (n').uid,.int .i64 (n').gid,.int .i64 (n').mtime,.int .i64 (n').ctime,.int .i64 (n').ag,.int .i64 (n').up,.string (bs (n').data),.slice A4 (n').af.length k4] 66):=by rw[hV,CB.out];exact (N6.setCell 8 _).setCell 7 _
  have OV:Only [nV] w6 V:=by rw[hV];exact (Only.setCell _ _ _ _).then (Only.setCell _ _ _ _)
  have OK:db w6 B [nV]:=by
   intro b hb;rw [List.mem_singleton]at hb;subst hb;exact ⟨by have:=h.1;have:=h.lt.1;have:=E0.size;have:=PY.size;omega,N6.fJ (by decide)⟩
  have EV:Ext w V:=OV.after E6 (by intro b hb;rw[List.mem_singleton]at hb;omega);have KV:=h.ext EV;have MV:=OV.has M6 (by rw[List.mem_singleton];omega);have wj:=rT.only OV OK;have Tx:az V B n' A4 k4:=(Dm.only OV OK).same (by rw[CB.out]);clear hV y1 y2 y3 y4 yf y7 yz yz2 N6 M6 rT Dm;obtain ⟨_,_,cdV,Lz,_⟩:=id KV;have v0:V.cell? ⟨g.bW,0,none⟩=some (.pointer (some ⟨g.bT,0,none⟩)):=Lz.cell 0;have vz:=Lz.lt;obtain ⟨x0,x1,x2,x3,x4,x5,x6,x7,x8,x9,ki,ke⟩:=NV.cD;have zN:=NV.lt;clear Lz;go_still_tail 5,(by kernel_rfl);change wpList _ _ _ _ _ V.drew;go_wp2_with fail;have ED:Ext V V.drew:=(Ext.refl _).drew;refine (lU B g S n' A4 k4 _ (KV.ext ED) HO.out.live.bc (Tx.ext ED)).mono ?_;rintro e w7 ⟨rfl,K7,O7⟩;have LF:mY∉g.list:=by
   have Sb:=h.lt;simp only[bG.list,List.mem_cons,List.not_mem_nil,or_false];omega
  have M7:=O7.has (MV.ext ED) LF;have yw:=(wj.ext ED).only O7 (KV.ext ED).apart;have VW:Only g.list w w7:=Only.pre (EV.trans ED) O7;obtain⟨T,hT⟩:=zE (aE S n');rw [<-hT]at K7;have Tv:aD T.nodes T.last:=by rw[hT];exact HO.out.live.bc.set _
  have HT:=zH hT;have zG:w7.cell? ⟨mY,11,none⟩=some (.slice A2 m.af.length k2):=M7.cell 11;have kz:=M7.lt;clear v0 vz x0 x1 x2 x3 x4 x5 x6 x7 x8 x9 ki ke zN hT;go_wp2_with fail;refine (EX A2 m.af k2 nm no _ yw.af.af yw.nil sQ.out.1 yw.cap yw.max (by have:=sQ.out.2;omega)).mono ?_;rintro e w8 ⟨v8,rfl,hown,Ft⟩;rw [rp _ _ _ sQ.out.1]at hown;obtain ⟨A8,c8,rfl,q1,q2,q3,q4⟩:=hown.zY (B:=B);obtain ⟨L8,Ty⟩:∃L,L=en m.af (nm,no):=⟨_,rfl⟩;rw [<-Ty]at q1 q3|-;have Tw:Hid (Calls Tryz.prog 194 #[.pointer (some ⟨g.bW,0,none⟩),.int .i64 dir,.int .i64 now,.slice A8 L8.length c8] w8 (uE w8 B g (bR T dir now L8))):=pK B g T dir now A8 L8 c8 w8 (K7.ext Ft) Tv q3 q1 q2 q4;have HL8:=zH Ty;clear zG kz hown q1 q2 q3 q4 Ty;go_wp2_with fail;refine Tw.out.mono ?_;rintro e w9 ⟨rfl,K9,O9⟩;go_wp2_with fail;go_ret;rw [hE.out];have e3:gM S cu cg now no dir nm=bR T dir now L8:=by
   unfold gM dE;rw [if_pos hE.out,HT.out,HL8.out,CB.out,nL.out,zC.out]
  exact ⟨rfl,by rw[e3];exact K9,(VW.ext Ft).then O9⟩
 ·have t0:(x == 0)=false:=by simpa using aV
  have mB:(x != 0)=true:=by simpa using aV
  have hE:Hid (fD S cu cg no dir nm=x):=by show _=_;rw[hm.out,if_pos aV]
  have HX:=zH aV;clear hm aV;go_wp2_with fail;go_ret;exact HS.out _ _ E3 hE.out HX.out
theorem pM (B:Nat) (g:cI) (S:ae) (X:cP) (cu cg no:Int) (w:World) (h:gR w B g S X) (lM:S.nodes.length<=1000000) (hu:aD S.nodes S.last) :
  Calls Tryz.prog 127 #[.pointer (some ⟨g.bF,0,none⟩),.agg #[cu,cg],.int .i64 no] w (aI w (.int .i64 (eo S cu no))):=by
 have E0:Ext w (w.alloc (.cells #[cu,cg] 27)):=(Ext.refl _).alloc _;have hm:Hid (eo S cu no=if aJ S.nodes no=false then 5 else if fB cu (ac S.nodes no).uid=false then 4 else 0):=by show _=_;rfl
 have hz:aJ S.nodes no=false->(ac S.nodes no).no=0:=fun hi=>by rw[(aU hi).1];rfl
 have hz2:aJ S.nodes no=true->(ac S.nodes no).no≠0:=fun hi=>by rw[(ak hi).2.1];have:=(hu.2 _ (ak hi).2.2).1;rw[(ak hi).2.1]at this;omega
 go_enter Tryz.func127,Tryz.ntmps127;go_wp2_with fail;refine (eK B g S X no _ (h.ext E0) lM hu).mono ?_;rintro e w2 ⟨A,c,rfl,gv,b2⟩;have C2:=(Has.new w (.cells #[cu,cg] 27)).ext b2;have E2:=E0.trans b2;obtain⟨m,hmm⟩:=zE (ac S.nodes no);obtain⟨i,hi⟩:=zE (aJ S.nodes no);rw [<-hmm]at gv hm hz hz2;rw [<-hi]at hm hz hz2;rw [<-hmm];obtain⟨W3,cj⟩:=zE (w2.alloc (.cells #[m.no,m.dev,m.kind,m.mode,m.uid,m.gid,m.mtime,m.ctime,m.ag,m.up,bs m.data,.slice A m.af.length c] 66));obtain ⟨b7,sP⟩:∃b,b=w2.heap.size:=⟨_,rfl⟩;have h_:Ext w2 W3:=by rw[cj];exact (Ext.refl _).alloc _
 have N3:Has W3 b7 (.cells #[m.no,m.dev,m.kind,m.mode,m.uid,m.gid,m.mtime,m.ctime,m.ag,m.up,bs m.data,.slice A m.af.length c] 66):=by rw[cj,sP];exact Has.new _ _
 have C3:=C2.ext h_;have E3:=E2.trans h_;have HZ:=zH hz;have TA:=zH hz2;clear hmm hi hz hz2;go_upto_region 2 with fail;rw [<-cj];rw [<-sP];clear cj sP;have k0:W3.cell? ⟨b7,0,none⟩=some (.int .i64 m.no):=N3.cell 0;have kz:=N3.lt
 cases i
 ·have t0:(m.no == 0)=true:=by simpa using HZ.out rfl
  have hE:Hid (eo S cu no=5):=by show _=_;rw[hm.out];rfl
  clear hm;go_wp2_with fail;go_ret;exact aI.mk (aB hE.out.symm) E3
 ·have t0:(m.no == 0)=false:=by simpa using TA.out rfl
  obtain⟨u,wg⟩:=zE (fB cu m.uid);rw [<-wg]at hm;have HU:=zH wg;have c0:W3.cell? ⟨w.heap.size,0,none⟩=some (.int .i64 cu):=C3.cell 0;have c1:W3.cell? ⟨w.heap.size,1,none⟩=some (.int .i64 cg):=C3.cell 1;have zc:=C3.lt;clear wg;go_wp2_with (refine aw rfl _ rfl b7 m A c rfl N3 ?_);refine (Gy cu cg _ _ _ _ m.uid _ _ _ _ _ _ _ _).mono ?_;rw [<-HU.out];rintro e w4 ⟨rfl,b4⟩
  cases u
  ·have hE:Hid (eo S cu no=4):=by show _=_;rw[hm.out];rfl
   clear hm;go_wp2_with fail;go_ret;exact aI.mk (aB hE.out.symm) (E3.trans b4)
  ·have hE:Hid (eo S cu no=0):=by show _=_;rw[hm.out];rfl
   clear hm;go_wp2_with fail;go_ret;exact aI.mk (aB hE.out.symm) (E3.trans b4)
theorem GZ (B:Nat) (g:cI) (S:ae) (X:cP) (cu cg no mode:Int) (w:World) (h:gR w B g S X) (lM:S.nodes.length<=1000000) (hu:aD S.nodes S.last) :
  Calls Tryz.prog 76 #[.pointer (some ⟨g.bF,0,none⟩),.agg #[cu,cg],.int .i64 no,.int .i64 mode] w (Dh w B g (eZ S cu X.now no mode) X (fC S cu no mode)):=by
 have E0:Ext w (w.alloc (.cells #[cu,cg] 27)):=(Ext.refl _).alloc _;have hm:Hid (fC S cu no mode=if eo S cu no≠0 then eo S cu no else if mode<0\/1023<mode\/(ac S.nodes no).kind=3 then 1 else 0):=by show _=_;rfl
 have pn:Hid (eo S cu no=0->aJ S.nodes no=true):=fun h0=>(ia h0).1
 have HS:Hid (∀(w':World) (x:Int),Ext w w'->fC S cu no mode=x->x≠0->Dh w B g (eZ S cu X.now no mode) X (fC S cu no mode) (.returned (.int .i64 x)) w'):=by
  show ∀(w':World) (x:Int),_;intro w' x hE hx aV;rw [hx];exact rR h hE (by unfold eZ;rw[if_neg (by rw[hx];exact aV)])
 go_enter Tryz.func76,Tryz.ntmps76;go_wp2_with fail;refine (pM B g S X cu cg no _ (h.ext E0) lM hu).mono ?_;rintro e w1 ⟨rfl,b1⟩;have E1:=E0.trans b1;have C1:=(Has.new w (.cells #[cu,cg] 27)).ext b1;obtain⟨x,hx⟩:=zE (eo S cu no);rw [<-hx]at hm pn;rw [<-hx];clear hx
 by_cases aV:x=0
 ·have t0 : (x == 0)=true:=by simpa using aV
  have mB:(x != 0)=false:=by simpa using aV
  have HN:=zH ((ak (pn.out aV)).2.1);have fX:Hid (fC S cu no mode=if mode<0\/1023<mode\/(ac S.nodes no).kind=3 then 1 else 0):=by show _=_;rw[hm.out,if_neg (by simpa using aV)]
  clear hm pn aV;have EG:=E1;go_wp2_with fail;refine (eK B g S X no _ (h.ext EG) lM hu).mono ?_;rintro e w2 ⟨A,c,rfl,gv,b2⟩;have E2:=EG.trans b2;obtain⟨m,hmm⟩:=zE (ac S.nodes no);rw [<-hmm]at gv HN fX;rw [<-hmm];have HM:=zH hmm;have nw:w2.cell? ⟨g.bF,3,none⟩=some (.int .i64 X.now):=by obtain⟨_,_,_,k,_⟩:=h.ext E2;exact k.cell 3
  have nz:=(h.ext E2).lt.1;clear hmm
  by_cases c1:mode<0
  ·have t1:decide (mode<0)=true:=decide_eq_true c1
   have hE:Hid (fC S cu no mode=1):=by show _=_;rw[fX.out,if_pos (.inl c1)]
   clear fX c1;go_wp2_with fail;go_ret;exact HS.out _ _ (E2.alloc _) hE.out (by decide)
  ·have t1:decide (mode<0)=false:=decide_eq_false c1
   by_cases c2:1023<mode
   ·have t2:decide (1023<mode)=true:=decide_eq_true c2
    have hE:Hid (fC S cu no mode=1):=by show _=_;rw[fX.out,if_pos (.inr (.inl c2))]
    clear fX c1 c2;go_wp2_with fail;go_ret;exact HS.out _ _ (E2.alloc _) hE.out (by decide)
   ·have t2:decide (1023<mode)=false:=decide_eq_false c2
    by_cases c3:m.kind=3
    ·have t3:(m.kind == 3)=true:=by simpa using c3
     have hE:Hid (fC S cu no mode=1):=by show _=_;rw[fX.out,if_pos (.inr (.inr c3))]
     clear fX c1 c2 c3;go_wp2_with fail;go_ret;exact HS.out _ _ (E2.alloc _) hE.out (by decide)
    ·have t3:(m.kind == 3)=false:=by simpa using c3
     have hE:Hid (fC S cu no mode=0):=by show _=_;rw[fX.out,if_neg (by rintro (g'|g'|g')<;>contradiction)]
     clear fX c1 c2 c3;go_upto_region 9 with fail;obtain ⟨n,hn⟩:∃n:ai,n={m with mode:=mode,ctime:=X.now}:=⟨_,rfl⟩;obtain⟨V,hV⟩:=zE (w2.alloc (.cells #[n.no,n.dev,n.kind,n.mode,n.uid,n.gid,n.mtime,n.ctime,n.ag,n.up,bs n.data,.slice A n.af.length c] 66));have my:=hV;rw [hn]at my;rw [<-my];have NV:Has V w2.heap.size (.cells #[n.no,n.dev,n.kind,n.mode,n.uid,n.gid,n.mtime,n.ctime,n.ag,n.up,bs n.data,.slice A n.af.length c] 66):=by rw[hV];exact Has.new _ _
     have EV:Ext w V:=by rw[hV];exact E2.alloc _
     have wj:az V B n A c:=((gv.ext (by rw[hV];exact (Ext.refl _).alloc _)).same (by rw[hn]));have nL:=zH hn;clear hV my hn nw nz;go_wp2_with (refine aw rfl _ rfl w2.heap.size n A c rfl NV ?_);refine (nC B g S X n A c _ (h.ext EV) lM hu wj).mono ?_;rintro e w5 ⟨rfl,K5,O5⟩;go_wp2_with fail;go_ret;rw [hE.out];refine ⟨rfl,?_,Only.pre EV O5⟩;have:eZ S cu X.now no mode=aE S n:=by unfold eZ;rw[if_pos hE.out,nL.out,HM.out]
     rw [this];exact K5
 ·have t0:(x == 0)=false:=by simpa using aV
  have mB:(x != 0)=true:=by simpa using aV
  have hE:Hid (fC S cu no mode=x):=by show _=_;rw[hm.out,if_pos aV]
  have HX:=zH aV;clear hm pn aV;go_wp2_with fail;go_ret;exact HS.out _ _ E1 hE.out HX.out
theorem Dn (B:Nat) (g:cI) (S:ae) (X:cP) (cu cg no uid gid:Int) (w:World) (h:gR w B g S X) (lM:S.nodes.length<=1000000) (hu:aD S.nodes S.last) :
  Calls Tryz.prog 75 #[.pointer (some ⟨g.bF,0,none⟩),.agg #[cu,cg],.int .i64 no,.int .i64 uid,.int .i64 gid] w (Dh w B g (fN S cu X.now no uid gid) X (gD S cu no uid gid)):=by
 have E0:Ext w (w.alloc (.cells #[cu,cg] 27)):=(Ext.refl _).alloc _;have hm:Hid (gD S cu no uid gid=if eo S cu no≠0 then eo S cu no else if ¬cu=0 then 4 else if nO uid gid=false then 1 else 0):=by show _=_;rfl
 have pn:Hid (eo S cu no=0->aJ S.nodes no=true):=fun h0=>(ia h0).1
 have HS:Hid (∀(w':World) (x:Int),Ext w w'->gD S cu no uid gid=x->x≠0->Dh w B g (fN S cu X.now no uid gid) X (gD S cu no uid gid) (.returned (.int .i64 x)) w'):=by
  show ∀(w':World) (x:Int),_;intro w' x hE hx aV;rw [hx];exact rR h hE (by unfold fN;rw[if_neg (by rw[hx];exact aV)])
 go_enter Tryz.func75,Tryz.ntmps75;go_wp2_with fail;refine (pM B g S X cu cg no _ (h.ext E0) lM hu).mono ?_;rintro e w1 ⟨rfl,b1⟩;have E1:=E0.trans b1;have C1:=(Has.new w (.cells #[cu,cg] 27)).ext b1;obtain⟨x,hx⟩:=zE (eo S cu no);rw [<-hx]at hm pn;rw [<-hx];clear hx
 by_cases aV:x=0
 ·have t0:(x == 0)=true:=by simpa using aV
  have mB:(x != 0)=false:=by simpa using aV
  have HN:=zH ((ak (pn.out aV)).2.1);have fX:Hid (gD S cu no uid gid=if ¬cu=0 then 4 else if nO uid gid=false then 1 else 0):=by show _=_;rw[hm.out,if_neg (by simpa using aV)]
  clear hm pn aV;have k0:w1.cell? ⟨w.heap.size,0,none⟩=some (.int .i64 cu):=C1.cell 0;have kz:=C1.lt
  by_cases c1:cu=0
  ·have t1:(cu == 0)=true:=by simpa using c1
   have rH:(cu != 0)=false:=by simpa using c1
   obtain⟨u,wg⟩:=zE (nO uid gid);rw [<-wg]at fX;have HU:=zH wg;have bU:Hid (gD S cu no uid gid=if u=false then 1 else 0):=by show _=_;rw[fX.out,if_neg (by simpa using c1)]
   clear fX c1 wg;go_wp2_with fail;refine (Gx uid gid _).mono ?_;rw [<-HU.out];rintro e w1' ⟨rfl,Gc⟩;have EG:=E1.trans Gc;clear k0 kz
   cases u
   ·have hE:Hid (gD S cu no uid gid=1):=by show _=_;rw[bU.out];rfl
    clear bU;go_wp2_with fail;go_ret;exact HS.out _ _ EG hE.out (by decide)
   ·have hE:Hid (gD S cu no uid gid=0):=by show _=_;rw[bU.out];rfl
    clear bU;go_wp2_with fail;refine (eK B g S X no _ (h.ext EG) lM hu).mono ?_;rintro e w2 ⟨A,c,rfl,gv,b2⟩;have E2:=EG.trans b2;obtain⟨m,hmm⟩:=zE (ac S.nodes no);rw [<-hmm]at gv HN;rw [<-hmm];have HM:=zH hmm;have nw:w2.cell? ⟨g.bF,3,none⟩=some (.int .i64 X.now):=by obtain⟨_,_,_,k,_⟩:=h.ext E2;exact k.cell 3
    have nz:=(h.ext E2).lt.1;clear hmm;go_upto_region 12 with fail;obtain ⟨n,hn⟩:∃n:ai,n={m with uid:=uid,gid:=gid,ctime:=X.now}:=⟨_,rfl⟩;obtain⟨V,hV⟩:=zE (w2.alloc (.cells #[n.no,n.dev,n.kind,n.mode,n.uid,n.gid,n.mtime,n.ctime,n.ag,n.up,bs n.data,.slice A n.af.length c] 66));have my:=hV;rw [hn]at my;rw [<-my];have NV:Has V w2.heap.size (.cells #[n.no,n.dev,n.kind,n.mode,n.uid,n.gid,n.mtime,n.ctime,n.ag,n.up,bs n.data,.slice A n.af.length c] 66):=by rw[hV];exact Has.new _ _
    have EV:Ext w V:=by rw[hV];exact E2.alloc _
    have wj:az V B n A c:=((gv.ext (by rw[hV];exact (Ext.refl _).alloc _)).same (by rw[hn]));have nL:=zH hn;clear hV my hn nw nz;go_wp2_with (refine aw rfl _ rfl w2.heap.size n A c rfl NV ?_);refine (nC B g S X n A c _ (h.ext EV) lM hu wj).mono ?_;rintro e w5 ⟨rfl,K5,O5⟩;go_wp2_with fail;go_ret;rw [hE.out];refine ⟨rfl,?_,Only.pre EV O5⟩;have:fN S cu X.now no uid gid=aE S n:=by unfold fN;rw[if_pos hE.out,nL.out,HM.out]
    rw [this];exact K5
  ·have t1:(cu == 0)=false:=by simpa using c1
   have rH:(cu != 0)=true:=by simpa using c1
   have hE:Hid (gD S cu no uid gid=4):=by show _=_;rw[fX.out,if_pos c1]
   clear fX c1;go_wp2_with fail;go_ret;exact HS.out _ _ E1 hE.out (by decide)
 ·have t0:(x == 0)=false:=by simpa using aV
  have mB:(x != 0)=true:=by simpa using aV
  have hE:Hid (gD S cu no uid gid=x):=by show _=_;rw[hm.out,if_pos aV]
  have HX:=zH aV;clear hm pn aV;go_wp2_with fail;go_ret;exact HS.out _ _ E1 hE.out HX.out
theorem G0 (B:Nat) (g:cI) (S:ae) (X:cP) (cu cg no mt:Int) (w:World) (h:gR w B g S X) (lM:S.nodes.length<=1000000) (hu:aD S.nodes S.last) :
  Calls Tryz.prog 77 #[.pointer (some ⟨g.bF,0,none⟩),.agg #[cu,cg],.int .i64 no,.int .i64 mt] w (Dh w B g (fO S cu X.now no mt) X (gL S cu no mt)):=by
 have E0:Ext w (w.alloc (.cells #[cu,cg] 27)):=(Ext.refl _).alloc _;have hm:Hid (gL S cu no mt=if eo S cu no≠0 then eo S cu no else if mt<0\/253402300799<mt then 1 else 0):=by show _=_;rfl
 have pn:Hid (eo S cu no=0->aJ S.nodes no=true):=fun h0=>(ia h0).1
 have HS:Hid (∀(w':World) (x:Int),Ext w w'->gL S cu no mt=x->x≠0->Dh w B g (fO S cu X.now no mt) X (gL S cu no mt) (.returned (.int .i64 x)) w'):=by
  show ∀(w':World) (x:Int),_;intro w' x hE hx aV;rw [hx];exact rR h hE (by unfold fO;rw[if_neg (by rw[hx];exact aV)])
 go_enter Tryz.func77,Tryz.ntmps77;go_wp2_with fail;refine (pM B g S X cu cg no _ (h.ext E0) lM hu).mono ?_;rintro e w1 ⟨rfl,b1⟩;have E1:=E0.trans b1;have C1:=(Has.new w (.cells #[cu,cg] 27)).ext b1;obtain⟨x,hx⟩:=zE (eo S cu no);rw [<-hx]at hm pn;rw [<-hx];clear hx
 by_cases aV:x=0
 ·have t0:(x == 0)=true:=by simpa using aV
  have mB:(x != 0)=false:=by simpa using aV
  have HN:=zH ((ak (pn.out aV)).2.1);have fX:Hid (gL S cu no mt=if mt<0\/253402300799<mt then 1 else 0):=by show _=_;rw[hm.out,if_neg (by simpa using aV)]
  clear hm pn aV;have EG:=E1
  by_cases c1:mt<0
  ·have t1:decide (mt<0)=true:=decide_eq_true c1
   have hE:Hid (gL S cu no mt=1):=by show _=_;rw[fX.out,if_pos (.inl c1)]
   clear fX c1;go_wp2_with fail;go_ret;exact HS.out _ _ E1 hE.out (by decide)
  ·have t1:decide (mt<0)=false:=decide_eq_false c1
   by_cases c2:253402300799<mt
   ·have t2:decide (253402300799<mt)=true:=decide_eq_true c2
    have hE:Hid (gL S cu no mt=1):=by show _=_;rw[fX.out,if_pos (.inr c2)]
    clear fX c1 c2;go_wp2_with fail;go_ret;exact HS.out _ _ E1 hE.out (by decide)
   ·have t2:decide (253402300799<mt)=false:=decide_eq_false c2
    have hE:Hid (gL S cu no mt=0):=by show _=_;rw[fX.out,if_neg (by rintro (g'|g')<;>contradiction)]
    clear fX c1 c2;go_wp2_with fail;refine (eK B g S X no _ (h.ext EG) lM hu).mono ?_;rintro e w2 ⟨A,c,rfl,gv,b2⟩;have E2:=EG.trans b2;obtain⟨m,hmm⟩:=zE (ac S.nodes no);rw [<-hmm]at gv HN;rw [<-hmm];have HM:=zH hmm;have nw:w2.cell? ⟨g.bF,3,none⟩=some (.int .i64 X.now):=by obtain⟨_,_,_,k,_⟩:=h.ext E2;exact k.cell 3
    have nz:=(h.ext E2).lt.1;clear hmm;go_upto_region 9 with fail;obtain ⟨n,hn⟩:∃n:ai,n={m with mtime:=mt,ctime:=X.now}:=⟨_,rfl⟩;obtain⟨V,hV⟩:=zE (w2.alloc (.cells #[n.no,n.dev,n.kind,n.mode,n.uid,n.gid,n.mtime,n.ctime,n.ag,n.up,bs n.data,.slice A n.af.length c] 66));have my:=hV;rw [hn]at my;rw [<-my];have NV:Has V w2.heap.size (.cells #[n.no,n.dev,n.kind,n.mode,n.uid,n.gid,n.mtime,n.ctime,n.ag,n.up,bs n.data,.slice A n.af.length c] 66):=by rw[hV];exact Has.new _ _
    have EV:Ext w V:=by rw[hV];exact E2.alloc _
    have wj:az V B n A c:=((gv.ext (by rw[hV];exact (Ext.refl _).alloc _)).same (by rw[hn]));have nL:=zH hn;clear hV my hn nw nz;go_wp2_with (refine aw rfl _ rfl w2.heap.size n A c rfl NV ?_);refine (nC B g S X n A c _ (h.ext EV) lM hu wj).mono ?_;rintro e w5 ⟨rfl,K5,O5⟩;go_wp2_with fail;go_ret;rw [hE.out];refine ⟨rfl,?_,Only.pre EV O5⟩;have:fO S cu X.now no mt=aE S n:=by unfold fO;rw[if_pos hE.out,nL.out,HM.out]
    rw [this];exact K5
 ·have t0:(x == 0)=false:=by simpa using aV
  have mB:(x != 0)=true:=by simpa using aV
  have hE:Hid (gL S cu no mt=x):=by show _=_;rw[hm.out,if_pos aV]
  have HX:=zH aV;clear hm pn aV;go_wp2_with fail;go_ret;exact HS.out _ _ E1 hE.out HX.out
def bt (S:ae) (cu cg no kind want:Int):Int:=
 if aJ S.nodes no=false then 5
 else if (ac S.nodes no).kind=kind then (if dX cu cg (ac S.nodes no).uid (ac S.nodes no).gid (ac S.nodes no).mode want=false then 6 else 0)
 else if kind=1 then 9 else if (ac S.nodes no).kind=1 then 8 else 1
def bf (S:ae) (cu cg no kind want:Int):ai:=if bt S cu cg no kind want=0 then ac S.nodes no else aa
def Fu (w:World) (B:Nat) (S:ae) (cu cg no kind want:Int) (e:Ending) (w':World):Prop:=
 ∃ A c,e=.returned (.tuple #[.agg #[.int .i64 (bf S cu cg no kind want).no,.int .i64 (bf S cu cg no kind want).dev,.int .i64 (bf S cu cg no kind want).kind,.int .i64 (bf S cu cg no kind want).mode,.int .i64 (bf S cu cg no kind want).uid,.int .i64 (bf S cu cg no kind want).gid,.int .i64 (bf S cu cg no kind want).mtime,.int .i64 (bf S cu cg no kind want).ctime,.int .i64 (bf S cu cg no kind want).ag,.int .i64 (bf S cu cg no kind want).up,.string (bs (bf S cu cg no kind want).data),.slice A (bf S cu cg no kind want).af.length c],.int .i64 (bt S cu cg no kind want)])/\az w' B (bf S cu cg no kind want) A c/\Ext w w'
theorem xp (B:Nat) (g:bG) (S:ae) (cu cg no kind want:Int) (w:World) (h:dM w B g S) (hd:0<S.ah.length) :
  Calls Tryz.prog 99 #[.pointer (some ⟨g.bW,0,none⟩),.agg #[cu,cg],.int .i64 no,.int .i64 kind,.int .i64 want] w (Fu w B S cu cg no kind want):=by
 have h0:=h;obtain ⟨h1,h2,cd,h3,h4⟩:=h;have j_:((S.ah.length:Int) == 0)=false:=by simpa using (show ¬(S.ah.length:Int)=0 by omega)
 have E0:Ext w ((w.alloc (.cells #[cu,cg] 27)).alloc (.cells #[.int .i64 0,.int .i64 0,.int .i64 0,.int .i64 0,.int .i64 0,.int .i64 0,.int .i64 0,.int .i64 0,.int .i64 0,.int .i64 0,.string ⟨#[]⟩,.slice none 0 0] 66)):=((Ext.refl _).alloc _).alloc _;go_enter Tryz.func99,Tryz.ntmps99;go_wp2_with fail;refine (lL B g S _ (h0.ext E0) hd).mono ?_;rintro e w1 ⟨rfl,b1⟩;have E1:=E0.trans b1;have R0:=Has.new (w.alloc (.cells #[cu,cg] 27)) (.cells #[aa.no,aa.dev,aa.kind,aa.mode,aa.uid,aa.gid,aa.mtime,aa.ctime,aa.ag,aa.up,bs aa.data,.slice none aa.af.length 0] 66);rw [World.size_alloc]at R0;have R1:=R0.ext b1;have C1:=((Has.new w (.cells #[cu,cg] 27)).alloc (.cells #[.int .i64 0,.int .i64 0,.int .i64 0,.int .i64 0,.int .i64 0,.int .i64 0,.int .i64 0,.int .i64 0,.int .i64 0,.int .i64 0,.string ⟨#[]⟩,.slice none 0 0] 66)).ext b1;have v0:w1.cell? ⟨g.bW,0,none⟩=some (.pointer (some ⟨g.bT,0,none⟩)):=(h3.ext E1).cell 0;have z1:=(h3.ext E1).lt;go_wp2_with fail;refine (fK B g.bT g.bM S.nodes S.last no _ (h2.ext E1)).mono ?_;rintro e w2 ⟨A2,k2,rfl,gv,b2⟩;have R2:=R1.ext b2;have C2:=C1.ext b2;have hm:Hid (bt S cu cg no kind want=if aJ S.nodes no=false then 5
  else if (ac S.nodes no).kind=kind then (if dX cu cg (ac S.nodes no).uid (ac S.nodes no).gid (ac S.nodes no).mode want=false then 6 else 0)
  else if kind=1 then 9 else if (ac S.nodes no).kind=1 then 8 else 1):=by show _=_;rfl
 have bU:Hid (bf S cu cg no kind want=if bt S cu cg no kind want=0 then ac S.nodes no else aa):=by show _=_;rfl
 obtain⟨m,hmm⟩:=zE (ac S.nodes no);rw [<-hmm]at gv hm bU|-;obtain⟨W3,cj⟩:=zE (w2.alloc (.cells #[m.no,m.dev,m.kind,m.mode,m.uid,m.gid,m.mtime,m.ctime,m.ag,m.up,bs m.data,.slice A2 m.af.length k2] 66));have h_:Ext w2 W3:=by rw[cj];exact (Ext.refl _).alloc _
 have N3:Has W3 w2.heap.size (.cells #[m.no,m.dev,m.kind,m.mode,m.uid,m.gid,m.mtime,m.ctime,m.ag,m.up,bs m.data,.slice A2 m.af.length k2] 66):=by rw[cj];exact Has.new _ _
 have R3:=R2.ext h_;have C3:=C2.ext h_;have E3:Ext w W3:=(E1.trans b2).trans h_;obtain⟨b8,fM⟩:=zE w2.heap.size;obtain⟨i,hi⟩:=zE (aJ S.nodes no);rw [<-hi]at hm|-;clear hmm hi R1 C1 R2 C2 v0;go_upto_region 4 with fail;rw [<-cj];rw [<-fM]at N3|-;have nj:=gv.ext h_;clear cj fM h_;have HS:Hid (∀(w5 w6:World) (x:Int),Ext w w5->Only [w.heap.size+1] w5 w6->bt S cu cg no kind want=x->x≠0->Fu w B S cu cg no kind want (.returned (.tuple #[.agg #[aa.no,aa.dev,aa.kind,aa.mode,aa.uid,aa.gid,aa.mtime,aa.ctime,aa.ag,aa.up,bs aa.data,.slice none aa.af.length 0],.int .i64 x])) w6):=by
  show ∀(w5 w6:World) (x:Int),_;intro w5 w6 x hE hO hx aV;have hN:bf S cu cg no kind want=aa:=by rw[bU.out,if_neg (by rw[hx];exact aV)]
  exact ⟨none,0,by rw[hx,hN],by rw[hN];exact az.zero _ _,hO.after hE (by simp)⟩
 have Dk:W3.cell? ⟨b8,2,none⟩=some (.int .i64 m.kind):=N3.cell 2;have kz:=N3.lt
 cases i
 ·have hE:Hid (bt S cu cg no kind want=5):=by show _=_;rw[hm.out];rfl
  clear hm;go_wp2_with (refine ap rfl _ _ rfl (w.heap.size+1) aa none 0 rfl rfl R3 ?_;intro w9 R9 O9);refine bodyPost_ret (v:=.tuple #[.agg #[aa.no,aa.dev,aa.kind,aa.mode,aa.uid,aa.gid,aa.mtime,aa.ctime,aa.ag,aa.up,bs aa.data,.slice none aa.af.length 0],.int .i64 5]) (cr Tryz.results99 _ _ (w.heap.size+1) aa none 0 _ rfl rfl R9) rfl ?_;exact HS.out _ _ _ E3 O9 hE.out (by decide)
 ·by_cases c1:m.kind=kind
  ·have t1:(m.kind == kind)=true:=by simpa using c1
   have rH:(m.kind != kind)=false:=by simpa using c1
   obtain⟨u,wg⟩:=zE (dX cu cg m.uid m.gid m.mode want);have k7:Hid (bt S cu cg no kind want=if u=false then 6 else 0):=by show _=_;rw[hm.out,if_neg (by decide),if_pos c1,wg]
   have HU:=zH wg;have x0:W3.cell? ⟨w.heap.size,0,none⟩=some (.int .i64 cu):=C3.cell 0;have x1:W3.cell? ⟨w.heap.size,1,none⟩=some (.int .i64 cg):=C3.cell 1;have xz:=C3.lt;clear hm wg c1;obtain ⟨n0,n1,n2,n3,n4,n5,n6,n7,n8,n9,G3,Do⟩:=N3.cD;go_wp2_with fail;refine (lS cu cg _ _ _ m.mode m.uid m.gid _ _ _ _ _ _ want _).mono ?_;rw [<-HU.out];rintro e w5 ⟨rfl,b5⟩;have R5:=R3.ext b5;have N5:=N3.ext b5;have E5:=E3.trans b5;have aaJ:w5.cell? ⟨b8,2,none⟩=some (.int .i64 m.kind):=N5.cell 2;have aaK:=N5.lt;clear x0 x1 xz Dk kz R3 N3 n0 n1 n2 n3 n4 n5 n6 n7 n8 n9 G3 Do
   cases u
   ·have hE:Hid (bt S cu cg no kind want=6):=by show _=_;rw[k7.out];rfl
    clear k7;go_wp2_with (refine ap rfl _ _ rfl (w.heap.size+1) aa none 0 rfl rfl R5 ?_;intro w9 R9 O9);refine bodyPost_ret (v:=.tuple #[.agg #[aa.no,aa.dev,aa.kind,aa.mode,aa.uid,aa.gid,aa.mtime,aa.ctime,aa.ag,aa.up,bs aa.data,.slice none aa.af.length 0],.int .i64 6]) (cr Tryz.results99 _ _ (w.heap.size+1) aa none 0 _ rfl rfl R9) rfl ?_;exact HS.out _ _ _ E5 O9 hE.out (by decide)
   ·have hE:Hid (bt S cu cg no kind want=0):=by show _=_;rw[k7.out];rfl
    have hN:Hid (bf S cu cg no kind want=m):=by show _=_;rw[bU.out,hE.out];rfl
    clear k7;go_wp2_with (first|(refine aw rfl _ rfl b8 m A2 k2 rfl N5 ?_)|(refine ap rfl _ _ rfl (w.heap.size+1) m A2 k2 rfl rfl R5 ?_;intro w6 R6 O6));refine bodyPost_ret (v:=.tuple #[.agg #[m.no,m.dev,m.kind,m.mode,m.uid,m.gid,m.mtime,m.ctime,m.ag,m.up,bs m.data,.slice A2 m.af.length k2],.int .i64 0]) (cr Tryz.results99 _ _ (w.heap.size+1) m A2 k2 _ rfl rfl R6) rfl ?_;have rT:az w6 B m A2 k2:=((nj.ext b5).only O6 (by
     intro b hb;rw [List.mem_singleton]at hb;subst hb;exact ⟨by have:=h0.1;have:=h0.lt.1;omega,R5.fJ (by decide)⟩))
    exact ⟨A2,k2,by rw[hE.out,hN.out],by rw[hN.out];exact rT,O6.after E5 (by simp)⟩
  ·have t1:(m.kind == kind)=false:=by simpa using c1
   have rH:(m.kind != kind)=true:=by simpa using c1
   by_cases c2:kind=1
   ·have t2:(kind == 1)=true:=by simpa using c2
    have hE:Hid (bt S cu cg no kind want=9):=by show _=_;rw[hm.out,if_neg (by decide),if_neg c1,if_pos c2]
    clear hm c1 c2;go_wp2_with (refine ap rfl _ _ rfl (w.heap.size+1) aa none 0 rfl rfl R3 ?_;intro w9 R9 O9);refine bodyPost_ret (v:=.tuple #[.agg #[aa.no,aa.dev,aa.kind,aa.mode,aa.uid,aa.gid,aa.mtime,aa.ctime,aa.ag,aa.up,bs aa.data,.slice none aa.af.length 0],.int .i64 9]) (cr Tryz.results99 _ _ (w.heap.size+1) aa none 0 _ rfl rfl R9) rfl ?_;exact HS.out _ _ _ E3 O9 hE.out (by decide)
   ·have t2:(kind == 1)=false:=by simpa using c2
    by_cases c3:m.kind=1
    ·have t3:(m.kind == 1)=true:=by simpa using c3
     have hE:Hid (bt S cu cg no kind want=8):=by show _=_;rw[hm.out,if_neg (by decide),if_neg c1,if_neg c2,if_pos c3]
     clear hm c1 c2 c3;go_wp2_with (refine ap rfl _ _ rfl (w.heap.size+1) aa none 0 rfl rfl R3 ?_;intro w9 R9 O9);refine bodyPost_ret (v:=.tuple #[.agg #[aa.no,aa.dev,aa.kind,aa.mode,aa.uid,aa.gid,aa.mtime,aa.ctime,aa.ag,aa.up,bs aa.data,.slice none aa.af.length 0],.int .i64 8]) (cr Tryz.results99 _ _ (w.heap.size+1) aa none 0 _ rfl rfl R9) rfl ?_;exact HS.out _ _ _ E3 O9 hE.out (by decide)
    ·have t3:(m.kind == 1)=false:=by simpa using c3
     have hE:Hid (bt S cu cg no kind want=1):=by show _=_;rw[hm.out,if_neg (by decide),if_neg c1,if_neg c2,if_neg c3]
     clear hm c1 c2 c3;go_wp2_with (refine ap rfl _ _ rfl (w.heap.size+1) aa none 0 rfl rfl R3 ?_;intro w9 R9 O9);refine bodyPost_ret (v:=.tuple #[.agg #[aa.no,aa.dev,aa.kind,aa.mode,aa.uid,aa.gid,aa.mtime,aa.ctime,aa.ag,aa.up,bs aa.data,.slice none aa.af.length 0],.int .i64 1]) (cr Tryz.results99 _ _ (w.heap.size+1) aa none 0 _ rfl rfl R9) rfl ?_;exact HS.out _ _ _ E3 O9 hE.out (by decide)
theorem xq (B:Nat) (g:cI) (S:ae) (X:cP) (cu cg no kind want:Int) (w:World) (h:gR w B g S X) (hl:S.nodes.length<=1000000) (hu:aD S.nodes S.last) :
  Calls Tryz.prog 134 #[.pointer (some ⟨g.bF,0,none⟩),.agg #[cu,cg],.int .i64 no,.int .i64 kind,.int .i64 want] w (Fu w B S cu cg no kind want):=by
 have h0:=h;have E0:Ext w ((w.alloc (.cells #[cu,cg] 27)).alloc (.cells #[.int .i64 0,.int .i64 0,.int .i64 0,.int .i64 0,.int .i64 0,.int .i64 0,.int .i64 0,.int .i64 0,.int .i64 0,.int .i64 0,.string ⟨#[]⟩,.slice none 0 0] 66)):=((Ext.refl _).alloc _).alloc _;go_enter Tryz.func134,Tryz.ntmps134;go_wp2_with fail;have b1:=Ext.refl ((w.alloc (.cells #[cu,cg] 27)).alloc (.cells #[.int .i64 0,.int .i64 0,.int .i64 0,.int .i64 0,.int .i64 0,.int .i64 0,.int .i64 0,.int .i64 0,.int .i64 0,.int .i64 0,.string ⟨#[]⟩,.slice none 0 0] 66));have E1:=E0;have R0:=Has.new (w.alloc (.cells #[cu,cg] 27)) (.cells #[aa.no,aa.dev,aa.kind,aa.mode,aa.uid,aa.gid,aa.mtime,aa.ctime,aa.ag,aa.up,bs aa.data,.slice none aa.af.length 0] 66);rw [World.size_alloc]at R0;have R1:=R0.ext b1;have C1:=((Has.new w (.cells #[cu,cg] 27)).alloc (.cells #[.int .i64 0,.int .i64 0,.int .i64 0,.int .i64 0,.int .i64 0,.int .i64 0,.int .i64 0,.int .i64 0,.int .i64 0,.int .i64 0,.string ⟨#[]⟩,.slice none 0 0] 66)).ext b1;refine (eK B g S X no _ (h.ext E1) hl hu).mono ?_;rintro e w2 ⟨A2,k2,rfl,gv,b2⟩;have R2:=R1.ext b2;have C2:=C1.ext b2;have hm:Hid (bt S cu cg no kind want=if aJ S.nodes no=false then 5
  else if (ac S.nodes no).kind=kind then (if dX cu cg (ac S.nodes no).uid (ac S.nodes no).gid (ac S.nodes no).mode want=false then 6 else 0)
  else if kind=1 then 9 else if (ac S.nodes no).kind=1 then 8 else 1):=by show _=_;rfl
 have bU:Hid (bf S cu cg no kind want=if bt S cu cg no kind want=0 then ac S.nodes no else aa):=by show _=_;rfl
 have wu:Hid (((ac S.nodes no).no == 0)=!aJ S.nodes no):=by
  refine zH ?_
  cases hi:aJ S.nodes no
  ·rw[(aU hi).1];rfl
  ·have h1:=(hu.2 _ (ak hi).2.2).1
   simp;omega
 obtain⟨m,hmm⟩:=zE (ac S.nodes no);rw [<-hmm]at gv hm bU wu|-;obtain⟨W3,cj⟩:=zE (w2.alloc (.cells #[m.no,m.dev,m.kind,m.mode,m.uid,m.gid,m.mtime,m.ctime,m.ag,m.up,bs m.data,.slice A2 m.af.length k2] 66));have h_:Ext w2 W3:=by rw[cj];exact (Ext.refl _).alloc _
 have N3:Has W3 w2.heap.size (.cells #[m.no,m.dev,m.kind,m.mode,m.uid,m.gid,m.mtime,m.ctime,m.ag,m.up,bs m.data,.slice A2 m.af.length k2] 66):=by rw[cj];exact Has.new _ _
 have R3:=R2.ext h_;have C3:=C2.ext h_;have E3:Ext w W3:=(E1.trans b2).trans h_;obtain⟨b8,fM⟩:=zE w2.heap.size;obtain⟨i,hi⟩:=zE (aJ S.nodes no);rw [<-hi]at hm wu;clear hmm hi R1 C1 R2 C2;go_upto_region 2 with fail;rw [<-cj];rw [<-fM]at N3|-;have nj:=gv.ext h_;clear cj fM h_;have HS:Hid (∀(w5 w6:World) (x:Int),Ext w w5->Only [w.heap.size+1] w5 w6->bt S cu cg no kind want=x->x≠0->Fu w B S cu cg no kind want (.returned (.tuple #[.agg #[aa.no,aa.dev,aa.kind,aa.mode,aa.uid,aa.gid,aa.mtime,aa.ctime,aa.ag,aa.up,bs aa.data,.slice none aa.af.length 0],.int .i64 x])) w6):=by
  show ∀(w5 w6:World) (x:Int),_;intro w5 w6 x hE hO hx aV;have hN:bf S cu cg no kind want=aa:=by rw[bU.out,if_neg (by rw[hx];exact aV)]
  exact ⟨none,0,by rw[hx,hN],by rw[hN];exact az.zero _ _,hO.after hE (by simp)⟩
 have k0':W3.cell? ⟨b8,0,none⟩=some (.int .i64 m.no):=N3.cell 0;have Dk:W3.cell? ⟨b8,2,none⟩=some (.int .i64 m.kind):=N3.cell 2;have kz:=N3.lt
 cases i
 ·have hE:Hid (bt S cu cg no kind want=5):=by show _=_;rw[hm.out];rfl
  have tn:(m.no == 0)=true:=wu.out;clear hm;go_wp2_with (refine ap rfl _ _ rfl (w.heap.size+1) aa none 0 rfl rfl R3 ?_;intro w9 R9 O9);refine bodyPost_ret (v:=.tuple #[.agg #[aa.no,aa.dev,aa.kind,aa.mode,aa.uid,aa.gid,aa.mtime,aa.ctime,aa.ag,aa.up,bs aa.data,.slice none aa.af.length 0],.int .i64 5]) (cr Tryz.results134 _ _ (w.heap.size+1) aa none 0 _ rfl rfl R9) rfl ?_;exact HS.out _ _ _ E3 O9 hE.out (by decide)
 ·have tn : (m.no == 0)=false:=wu.out
  by_cases c1:m.kind=kind
  ·have t1:(m.kind == kind)=true:=by simpa using c1
   have rH:(m.kind != kind)=false:=by simpa using c1
   obtain⟨u,wg⟩:=zE (dX cu cg m.uid m.gid m.mode want);have k7:Hid (bt S cu cg no kind want=if u=false then 6 else 0):=by show _=_;rw[hm.out,if_neg (by decide),if_pos c1,wg]
   have HU:=zH wg;have x0:W3.cell? ⟨w.heap.size,0,none⟩=some (.int .i64 cu):=C3.cell 0;have x1:W3.cell? ⟨w.heap.size,1,none⟩=some (.int .i64 cg):=C3.cell 1;have xz:=C3.lt;clear hm wg c1;go_wp2_with (refine aw rfl _ rfl b8 m A2 k2 rfl N3 ?_);refine (rN cu cg _ _ _ m.mode m.uid m.gid _ _ _ _ _ _ want _).mono ?_;rw [<-HU.out];rintro e w5 ⟨rfl,b5⟩;have R5:=R3.ext b5;have N5:=N3.ext b5;have E5:=E3.trans b5;have aaJ:w5.cell? ⟨b8,2,none⟩=some (.int .i64 m.kind):=N5.cell 2;have aaK:=N5.lt;clear x0 x1 xz Dk kz R3 N3
   cases u
   ·have hE:Hid (bt S cu cg no kind want=6):=by show _=_;rw[k7.out];rfl
    clear k7;go_wp2_with (refine ap rfl _ _ rfl (w.heap.size+1) aa none 0 rfl rfl R5 ?_;intro w9 R9 O9);refine bodyPost_ret (v:=.tuple #[.agg #[aa.no,aa.dev,aa.kind,aa.mode,aa.uid,aa.gid,aa.mtime,aa.ctime,aa.ag,aa.up,bs aa.data,.slice none aa.af.length 0],.int .i64 6]) (cr Tryz.results134 _ _ (w.heap.size+1) aa none 0 _ rfl rfl R9) rfl ?_;exact HS.out _ _ _ E5 O9 hE.out (by decide)
   ·have hE:Hid (bt S cu cg no kind want=0):=by show _=_;rw[k7.out];rfl
    have hN:Hid (bf S cu cg no kind want=m):=by show _=_;rw[bU.out,hE.out];rfl
    clear k7;go_wp2_with (first|(refine aw rfl _ rfl b8 m A2 k2 rfl N5 ?_)|(refine ap rfl _ _ rfl (w.heap.size+1) m A2 k2 rfl rfl R5 ?_;intro w6 R6 O6));refine bodyPost_ret (v:=.tuple #[.agg #[m.no,m.dev,m.kind,m.mode,m.uid,m.gid,m.mtime,m.ctime,m.ag,m.up,bs m.data,.slice A2 m.af.length k2],.int .i64 0]) (cr Tryz.results134 _ _ (w.heap.size+1) m A2 k2 _ rfl rfl R6) rfl ?_;have rT:az w6 B m A2 k2:=((nj.ext b5).only O6 (by
     intro b hb;rw [List.mem_singleton]at hb;subst hb;exact ⟨by have:=h0.1;have:=h0.lt.1;omega,R5.fJ (by decide)⟩))
    exact ⟨A2,k2,by rw[hE.out,hN.out],by rw[hN.out];exact rT,O6.after E5 (by simp)⟩
  ·have t1:(m.kind == kind)=false:=by simpa using c1
   have rH:(m.kind != kind)=true:=by simpa using c1
   by_cases c2:kind=1
   ·have t2:(kind == 1)=true:=by simpa using c2
    have hE:Hid (bt S cu cg no kind want=9):=by show _=_;rw[hm.out,if_neg (by decide),if_neg c1,if_pos c2]
    clear hm c1 c2;go_wp2_with (refine ap rfl _ _ rfl (w.heap.size+1) aa none 0 rfl rfl R3 ?_;intro w9 R9 O9);refine bodyPost_ret (v:=.tuple #[.agg #[aa.no,aa.dev,aa.kind,aa.mode,aa.uid,aa.gid,aa.mtime,aa.ctime,aa.ag,aa.up,bs aa.data,.slice none aa.af.length 0],.int .i64 9]) (cr Tryz.results134 _ _ (w.heap.size+1) aa none 0 _ rfl rfl R9) rfl ?_;exact HS.out _ _ _ E3 O9 hE.out (by decide)
   ·have t2:(kind == 1)=false:=by simpa using c2
    by_cases c3:m.kind=1
    ·have t3:(m.kind == 1)=true:=by simpa using c3
     have hE:Hid (bt S cu cg no kind want=8):=by show _=_;rw[hm.out,if_neg (by decide),if_neg c1,if_neg c2,if_pos c3]
     clear hm c1 c2 c3;go_wp2_with (refine ap rfl _ _ rfl (w.heap.size+1) aa none 0 rfl rfl R3 ?_;intro w9 R9 O9);refine bodyPost_ret (v:=.tuple #[.agg #[aa.no,aa.dev,aa.kind,aa.mode,aa.uid,aa.gid,aa.mtime,aa.ctime,aa.ag,aa.up,bs aa.data,.slice none aa.af.length 0],.int .i64 8]) (cr Tryz.results134 _ _ (w.heap.size+1) aa none 0 _ rfl rfl R9) rfl ?_;exact HS.out _ _ _ E3 O9 hE.out (by decide)
    ·have t3:(m.kind == 1)=false:=by simpa using c3
     have hE:Hid (bt S cu cg no kind want=1):=by show _=_;rw[hm.out,if_neg (by decide),if_neg c1,if_neg c2,if_neg c3]
     clear hm c1 c2 c3;go_wp2_with (refine ap rfl _ _ rfl (w.heap.size+1) aa none 0 rfl rfl R3 ?_;intro w9 R9 O9);refine bodyPost_ret (v:=.tuple #[.agg #[aa.no,aa.dev,aa.kind,aa.mode,aa.uid,aa.gid,aa.mtime,aa.ctime,aa.ag,aa.up,bs aa.data,.slice none aa.af.length 0],.int .i64 1]) (cr Tryz.results134 _ _ (w.heap.size+1) aa none 0 _ rfl rfl R9) rfl ?_;exact HS.out _ _ _ E3 O9 hE.out (by decide)
def du (S:ae) (cu cg dir:Int) (nm:List UInt8):Int:=
 if bt S cu cg dir 1 1=0 then (if aK (bf S cu cg dir 1 1).af nm=0 then 5 else 0) else bt S cu cg dir 1 1
def ep (S:ae) (cu cg dir:Int) (nm:List UInt8):Int:=if du S cu cg dir nm=0 then ar S.ah (aK (bf S cu cg dir 1 1).af nm) else 0
theorem dy.bf {c:Nat} {S:ae} (h:dy c S) (cu cg no kind want:Int):iq (bf S cu cg no kind want).af/\(Proofs.YtpibnfdolojpcaaGreat.bf S cu cg no kind want).af.length<=c:=by
 unfold Proofs.YtpibnfdolojpcaaGreat.bf;split
 ·exact h.ac no
 ·exact⟨List.Pairwise.nil,Nat.zero_le _⟩
theorem G5 {c:Nat} (B:Nat) (g:bG) (S:ae) (cu cg dir:Int) (nm:List UInt8) (w:World) (h:dM w B g S) (T:dy c S) (hc:c<=1000000) (_hl:S.last<=100000) :
  Calls Tryz.prog 55 #[.pointer (some ⟨g.bW,0,none⟩),.agg #[cu,cg],.int .i64 dir,bs nm] w (aI w (.tuple #[.int .i64 (ep S cu cg dir nm),.int .i64 (du S cu cg dir nm)])):=by
 have E0:Ext w (w.alloc (.cells #[cu,cg] 27)):=(Ext.refl _).alloc _;go_enter Tryz.func55,Tryz.ntmps55;go_wp2_with fail;refine (xp B g S cu cg dir 1 1 _ (h.ext E0) T.ah).mono ?_;rintro e w1 ⟨A,k,rfl,tN,b1⟩;have zI:=T.bf cu cg dir 1 1;have hE:Hid (du S cu cg dir nm=if bt S cu cg dir 1 1=0 then (if aK (bf S cu cg dir 1 1).af nm=0 then 5 else 0) else bt S cu cg dir 1 1):=by show _=_;rfl
 have hN:Hid (ep S cu cg dir nm=if du S cu cg dir nm=0 then ar S.ah (aK (bf S cu cg dir 1 1).af nm) else 0):=by show _=_;rfl
 obtain⟨m,hm⟩:=zE (bf S cu cg dir 1 1);obtain⟨x,hx⟩:=zE (bt S cu cg dir 1 1);rw [<-hm]at tN zI hE hN|-;rw [<-hx]at hE|-;have HR:=zH zI;obtain ⟨W2,cQ⟩:∃W,W=w1.alloc (.cells #[m.no,m.dev,m.kind,m.mode,m.uid,m.gid,m.mtime,m.ctime,m.ag,m.up,bs m.data,.slice A m.af.length k] 66):=⟨_,rfl⟩;obtain ⟨b8,fM⟩:∃b,b=w1.heap.size:=⟨_,rfl⟩;have N2:Has W2 b8 (.cells #[m.no,m.dev,m.kind,m.mode,m.uid,m.gid,m.mtime,m.ctime,m.ag,m.up,bs m.data,.slice A m.af.length k] 66):=by rw[cQ,fM];exact Has.new _ _
 have Dp:Ext w1 W2:=by rw[cQ];exact (Ext.refl _).alloc _
 have HX:=zH ((E0.trans b1).trans Dp);have gv:=tN.ext Dp;clear hm hx zI tN Dp;go_upto_region 2 with fail;rw [<-cQ,<-fM];clear cQ fM
 by_cases c0:x=0
 case neg =>
  have t0:(x == 0)=false:=by simpa using c0
  have mB:(x != 0)=true:=by simpa using c0
  have e1:Hid (du S cu cg dir nm=x/\ep S cu cg dir nm=0):=by
   have h1:du S cu cg dir nm=x:=by rw[hE.out,if_neg c0]
   exact zH ⟨h1,by rw[hN.out,h1,if_neg c0]⟩
  clear c0;go_wp2_with fail;go_ret2;exact aI.mk (by rw[e1.out.1,e1.out.2];rfl) HX.out
 have t0:(x == 0)=true:=by simpa using c0
 have mB:(x != 0)=false:=by simpa using c0
 have nN:W2.cell? ⟨b8,11,none⟩=some (.slice A m.af.length k):=N2.cell 11;have yz:=N2.lt;have C0:=zH c0;clear c0;go_wp2_with fail;refine (nv A m.af k nm _ gv.af.af HR.out.1 (by have:=HR.out.2;omega)).mono ?_;rw [j0 HR.out.1];rintro e w3 ⟨rfl,b3⟩;obtain⟨no,aW⟩:=zE (aK m.af nm);rw [<-aW]at hE hN|-;clear aW nN yz
 by_cases c1:no=0
 ·have t1:(no == 0)=true:=by simpa using c1
  have e1:Hid (du S cu cg dir nm=5/\ep S cu cg dir nm=0):=by
   have h1:du S cu cg dir nm=5:=by rw[hE.out,if_pos C0.out,if_pos c1]
   exact zH ⟨h1,by rw[hN.out,h1,if_neg (by decide)]⟩
  clear c1;go_wp2_with fail;go_ret2;exact aI.mk (by rw[e1.out.1,e1.out.2];rfl) (HX.out.trans b3)
 ·have t1:(no == 0)=false:=by simpa using c1
  have e1:Hid (du S cu cg dir nm=0/\ep S cu cg dir nm=ar S.ah no):=by
   have h1:du S cu cg dir nm=0:=by rw[hE.out,if_pos C0.out,if_neg c1]
   exact zH ⟨h1,by rw[hN.out,h1,if_pos rfl]⟩
  clear c1;go_wp2_with fail;refine (gZ B g S _ _ (h.ext (HX.out.trans b3)) (by have:=T.ah;omega) (by have:=T.eight;omega)).mono ?_;rintro e w4 ⟨rfl,b4⟩;go_wp2_with fail;go_ret2;exact aI.mk (by rw[e1.out.1,e1.out.2];rfl) ((HX.out.trans b3).trans b4)
theorem G6 {c:Nat} (B:Nat) (g:cI) (S:ae) (X:cP) (cu cg dir:Int) (nm:List UInt8) (w:World) (h:gR w B g S X) (T:dy c S) (hc:c<=1000000) (hl:S.last<=100000) :
  Calls Tryz.prog 90 #[.pointer (some ⟨g.bF,0,none⟩),.agg #[cu,cg],.int .i64 dir,bs nm] w (aI w (.tuple #[.int .i64 (ep S cu cg dir nm),.int .i64 (du S cu cg dir nm)])):=by
 have E0:Ext w (w.alloc (.cells #[cu,cg] 27)):=(Ext.refl _).alloc _;go_enter Tryz.func90,Tryz.ntmps90;go_wp2_with fail;refine (xq B g S X cu cg dir 1 1 _ (h.ext E0) (by have:=T.count;omega) T.bc).mono ?_;rintro e w1 ⟨A,k,rfl,tN,b1⟩;have zI:=T.bf cu cg dir 1 1;have hE:Hid (du S cu cg dir nm=if bt S cu cg dir 1 1=0 then (if aK (bf S cu cg dir 1 1).af nm=0 then 5 else 0) else bt S cu cg dir 1 1):=by show _=_;rfl
 have hN:Hid (ep S cu cg dir nm=if du S cu cg dir nm=0 then ar S.ah (aK (bf S cu cg dir 1 1).af nm) else 0):=by show _=_;rfl
 obtain⟨m,hm⟩:=zE (bf S cu cg dir 1 1);obtain⟨x,hx⟩:=zE (bt S cu cg dir 1 1);rw [<-hm]at tN zI hE hN|-;rw [<-hx]at hE|-;have HR:=zH zI;obtain ⟨W2,cQ⟩:∃W,W=w1.alloc (.cells #[m.no,m.dev,m.kind,m.mode,m.uid,m.gid,m.mtime,m.ctime,m.ag,m.up,bs m.data,.slice A m.af.length k] 66):=⟨_,rfl⟩;obtain ⟨b8,fM⟩:∃b,b=w1.heap.size:=⟨_,rfl⟩;have N2:Has W2 b8 (.cells #[m.no,m.dev,m.kind,m.mode,m.uid,m.gid,m.mtime,m.ctime,m.ag,m.up,bs m.data,.slice A m.af.length k] 66):=by rw[cQ,fM];exact Has.new _ _
 have Dp:Ext w1 W2:=by rw[cQ];exact (Ext.refl _).alloc _
 have HX:=zH ((E0.trans b1).trans Dp);have gv:=tN.ext Dp;clear hm hx zI tN Dp;go_upto_region 2 with fail;rw [<-cQ,<-fM];clear cQ fM
 by_cases c0:x=0
 case neg =>
  have t0:(x == 0)=false:=by simpa using c0
  have mB:(x != 0)=true:=by simpa using c0
  have e1:Hid (du S cu cg dir nm=x/\ep S cu cg dir nm=0):=by
   have h1:du S cu cg dir nm=x:=by rw[hE.out,if_neg c0]
   exact zH ⟨h1,by rw[hN.out,h1,if_neg c0]⟩
  clear c0;go_wp2_with fail;go_ret2;exact aI.mk (by rw[e1.out.1,e1.out.2];rfl) HX.out
 have t0:(x == 0)=true:=by simpa using c0
 have mB:(x != 0)=false:=by simpa using c0
 have nN:W2.cell? ⟨b8,11,none⟩=some (.slice A m.af.length k):=N2.cell 11;have yz:=N2.lt;have C0:=zH c0;clear c0;go_wp2_with fail;refine (oJ A m.af k nm _ gv.af.af (by have:=HR.out.2;omega)).mono ?_
 skip
 rintro e w3 ⟨rfl,b3⟩;obtain⟨no,aW⟩:=zE (aK m.af nm);rw [<-aW]at hE hN|-;clear aW nN yz
 by_cases c1:no=0
 ·have t1:(no == 0)=true:=by simpa using c1
  have e1:Hid (du S cu cg dir nm=5/\ep S cu cg dir nm=0):=by
   have h1:du S cu cg dir nm=5:=by rw[hE.out,if_pos C0.out,if_pos c1]
   exact zH ⟨h1,by rw[hN.out,h1,if_neg (by decide)]⟩
  clear c1;go_wp2_with fail;go_ret2;exact aI.mk (by rw[e1.out.1,e1.out.2];rfl) (HX.out.trans b3)
 ·have t1:(no == 0)=false:=by simpa using c1
  have e1:Hid (du S cu cg dir nm=0/\ep S cu cg dir nm=ar S.ah no):=by
   have h1:du S cu cg dir nm=0:=by rw[hE.out,if_pos C0.out,if_neg c1]
   exact zH ⟨h1,by rw[hN.out,h1,if_pos rfl]⟩
  clear c1;go_wp2_with fail;refine (g_ B g S X _ _ (h.ext (HX.out.trans b3)) (by have:=T.eight;omega)).mono ?_;rintro e w4 ⟨rfl,b4⟩;go_wp2_with fail;go_ret2;exact aI.mk (by rw[e1.out.1,e1.out.2];rfl) ((HX.out.trans b3).trans b4)
end Go.Proofs.YtpibnfdolojpcaaGreat
