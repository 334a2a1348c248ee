import Derived.Test.YtblbohcaphcobaaGreatDoorBunG
import Derived.Test.YtblbohcaphcobaaGreatDoorBunE
import Derived.Test.YtblbohcaphcobaaGreatDoorBunD
import Derived.Test.YtblbohcaphcobaaGreatDoorBunC
set_option maxHeartbeats 8000000
set_option maxRecDepth 100000
namespace Go.Proofs.YtblbohcaphcobaaGreatDoor
section
def aV (S:aa) (cu cg dir:Int) (nm:List UInt8):Int:=
 if aK S.nodes dir=false then 5 else if ¬(ac S.nodes dir).kind=1 then 9 else if ¬bX nm=0 then bX nm
 else if fy cu cg (ac S.nodes dir).uid (ac S.nodes dir).gid (ac S.nodes dir).mode 3=false then 6 else 0
def cU (S:aa) (cu cg dir:Int) (nm:List UInt8):ai:=if aV S cu cg dir nm=0 then ac S.nodes dir else ae
def eQ (S:aa) (dir now:Int) (l:List aw):ai:={ac S.nodes dir with af:=l,mtime:=now,ctime:=now}
def cI (S:aa) (dir now:Int) (l:List aw):aa:=aJ S (eQ S dir now l)
def bi (S:aa) (cu cg now dir:Int) (n:ai):ai:={n with dev:=(ac S.nodes dir).dev,uid:=cu,gid:=cg,mtime:=now,ctime:=now,ah:=1}
def bC (S:aa) (cu cg now dir:Int) (nm:List UInt8) (n:ai):Int:=
 if ¬aV S cu cg dir nm=0 then aV S cu cg dir nm else if ¬bk (ac S.nodes dir).af nm=0 then 7 else ey S (bi S cu cg now dir n)
def cZ (S:aa) (cu cg now dir:Int) (nm:List UInt8) (n:ai):Int:=if bC S cu cg now dir nm n=0 then S.last+1 else 0
def aW (S:aa) (cu cg now dir:Int) (nm:List UInt8) (n:ai):aa:=
 if bC S cu cg now dir nm n=0 then cI (aQ S (bi S cu cg now dir n)) dir now (dq (ac S.nodes dir).af (nm,S.last+1)) else S
def dM (mode dir:Int):ai:={ae with kind:=1,mode:=mode,up:=dir}
def ct (mode:Int) (data:List UInt8):ai:={ae with kind:=2,mode:=mode,data:=data}
def dY (text:List UInt8):ai:={ae with kind:=3,mode:=511,data:=text}
def lX (mode:Int):Int:=if mode<0\/1023<mode then 1 else 0
def gH (mode dl:Int):Int:=if mode<0\/1023<mode then 1 else if 1048576<dl then 3 else 0
def kN (text:List UInt8):Int:=if text=[]\/hasB text 0=true then 1 else if 4096<text.length then 13 else 0
def fQ (p e:Int):Int:=if ¬p=0 then p else e
def gZ (p n:Int):Int:=if ¬p=0 then 0 else n
def dR (p:Int) (S T:aa):aa:=if ¬p=0 then S else T
def eV (S:aa) (cu cg no dir:Int) (nm:List UInt8):Int:=
 if ¬aV S cu cg dir nm=0 then aV S cu cg dir nm else if aK S.nodes no=false then 5 else if (ac S.nodes no).kind=1 then 4
 else if ¬bk (ac S.nodes dir).af nm=0 then 7 else if ¬(ac S.nodes no).dev=(ac S.nodes dir).dev then 11 else if 1000<=(ac S.nodes no).ah then 18 else 0
def cy (S:aa) (now no:Int):ai:={ac S.nodes no with ah:=(ac S.nodes no).ah+1,ctime:=now}
def eW (S:aa) (cu cg now no dir:Int) (nm:List UInt8):aa:=
 if eV S cu cg no dir nm=0 then cI (aJ S (cy S now no)) dir now (dq (ac S.nodes dir).af (nm,no)) else S
theorem aE {S:aa} {cu cg dir:Int} {nm:List UInt8} (h:aV S cu cg dir nm=0):aK S.nodes dir=true/\(ac S.nodes dir).kind=1/\bX nm=0:=by
 unfold aV at h;split at h
 ·cases h
 ·rename_i h1
  split at h
  ·cases h
  ·rename_i h2
   split at h
   ·rename_i h3;exact absurd h h3
   ·rename_i h3
    exact ⟨by simpa using h1,Decidable.not_not.1 h2,Decidable.not_not.1 h3⟩
theorem kS {S:aa} {cu cg dir:Int} {nm:List UInt8} (h:aV S cu cg dir nm=0):cU S cu cg dir nm=ac S.nodes dir:=by unfold cU;rw[if_pos h]
theorem eA {S:aa} {cu cg now dir:Int} {nm:List UInt8} {n:ai} (h:bC S cu cg now dir nm n=0):aV S cu cg dir nm=0/\bk (ac S.nodes dir).af nm=0/\ey S (bi S cu cg now dir n)=0:=by
 unfold bC at h;split at h
 ·rename_i h1;exact absurd h h1
 ·rename_i h1
  split at h
  ·cases h
  ·rename_i h2;exact⟨Decidable.not_not.1 h1,Decidable.not_not.1 h2,h⟩
theorem fk {S:aa} (_hu:aD S.nodes S.last) (n:ai) {no:Int} (hi:aK S.nodes no=true):ac (aQ S n).nodes no=ac S.nodes no/\aK (aQ S n).nodes no=true:=by
 obtain ⟨_,e,hm⟩:=aj hi;unfold aQ;split
 ·have hmem:ac S.nodes no∈S.nodes++[{n with no:=S.last+1}]:=List.mem_append_left _ hm
  obtain ⟨k,hk,ek⟩:=List.getElem_of_mem hm;have PT:eX (S.nodes++[{n with no:=S.last+1}]) no=some (ac S.nodes no):=by
   unfold eX;rw [List.find?_append];have:=(aj hi).1;unfold eX at this;rw [this];rfl
  exact ⟨by show Option.getD (eX _ no) ae=_;rw[PT];rfl,by show Option.isSome (eX _ no)=true;rw[PT];rfl⟩
 ·exact⟨rfl,hi⟩
theorem qC {c:Nat} {S:aa} (h:dC c S) {cu cg now dir:Int} {nm:List UInt8} {n:ai} (he:n.af=[]) (hd:n.data.length<=1048576) (hk:n.kind=1->n.up=dir) (hm:0<=n.mode/\n.mode<=1023):dC (c+1) (aW S cu cg now dir nm n):=by
 unfold aW;split
 ·rename_i h0
  obtain ⟨hp,hf,mD⟩:=eA h0;obtain ⟨hi,qD,hc⟩:=aE hp;obtain ⟨e1,e2⟩:=fk h.aC (bi S cu cg now dir n) hi;obtain ⟨_,aU,hmem⟩:=aj hi;unfold cI eQ;rw [e1];refine Jd h (d:={ac S.nodes dir with af:=dq (ac S.nodes dir).af (nm,S.last+1),mtime:=now,ctime:=now}) (nm:=nm) ?_ ?_ qD ?_ ?_ (h.lS (ac S.nodes dir) hmem qD) (h.on (ac S.nodes dir) hmem).2 ?_ ?_ (pD hc) he hd rfl ?_ ?_ ⟨hm.1,hm.2,rfl⟩ mD
  ·show aK S.nodes (ac S.nodes dir).no=true;rw[aU];exact hi
  ·show (ac S.nodes (ac S.nodes dir).no).kind=1;rw[aU];exact qD
  ·show _=(ac S.nodes (ac S.nodes dir).no).dev;rw[aU]
  ·show _=(ac S.nodes (ac S.nodes dir).no).up;rw[aU]
  ·show _=dq (ac S.nodes (ac S.nodes dir).no).af _;rw[aU]
  ·show bk (ac S.nodes (ac S.nodes dir).no).af nm=0;rw[aU];exact hf
  ·intro jI
   exact ⟨rfl,(hk jI).trans aU.symm⟩
  ·show _=(ac S.nodes (ac S.nodes dir).no).mode;rw[aU]
 ·exact fX h (by omega)
theorem wI {c c':Nat} {k k':Int} {S:aa} (h:mM c k S) (u_:k=0\/k=k') {dir now:Int} {l:List aw} (hi:aK S.nodes dir=true) (qD:(ac S.nodes dir).kind=1) (Nd:c<=c') (hr:iH l) (hn:∀x∈l,x.1≠[]/\x.1.length<=255) (hp:∀x∈l,1<=x.2/\x.2<=S.last) (hs:l.length<=c')
  (hx:∀x∈l,TH S (ac S.nodes dir).no (ac S.nodes dir).dev x.2) (keep:∀q∈S.nodes,q.kind=1->q.no≠k'->q.up=dir->q.no≠dir->∃x∈l,x.2=q.no):mM c' k' (cI S dir now l):=by
 obtain ⟨_,aU,hmem⟩:=aj hi;have hb:=h.bits _ hmem;refine pG h u_ (n:=eQ S dir now l) ?_ Nd ?_ ?_ ?_ (fun _=>h.lS (ac S.nodes dir) hmem qD) hr hn hp hs (h.on (ac S.nodes dir) hmem).2 hb hx ?_
 ·show aK S.nodes (ac S.nodes dir).no=true;rw[aU];exact hi
 ·show _=(ac S.nodes (ac S.nodes dir).no).kind;rw[aU];rfl
 ·show _=(ac S.nodes (ac S.nodes dir).no).dev;rw[aU];rfl
 ·show _=(ac S.nodes (ac S.nodes dir).no).up;rw[aU];rfl
 ·intro q hq tr zP wG sY
  have e:(eQ S dir now l).no=dir:=aU;rw [e]at wG sY;exact keep q hq tr zP wG sY
theorem g_ {S:aa} {cu cg no dir:Int} {nm:List UInt8} (h:eV S cu cg no dir nm=0):aV S cu cg dir nm=0/\aK S.nodes no=true/\¬(ac S.nodes no).kind=1/\bk (ac S.nodes dir).af nm=0/\(ac S.nodes no).dev=(ac S.nodes dir).dev/\(ac S.nodes no).ah<1000:=by
 unfold eV at h;split at h
 ·rename_i h1;exact absurd h h1
 ·rename_i h1
  split at h
  ·cases h
  ·rename_i h2
   split at h
   ·cases h
   ·rename_i h3
    split at h
    ·cases h
    ·rename_i h4
     split at h
     ·cases h
     ·rename_i h5
      split at h
      ·cases h
      ·rename_i h6
       exact ⟨Decidable.not_not.1 h1,by simpa using h2,h3,Decidable.not_not.1 h4,Decidable.not_not.1 h5,by omega⟩
theorem fZ {S:aa} {n:ai} {no:Int} (hne:no≠n.no):ac (aJ S n).nodes no=ac S.nodes no/\aK (aJ S n).nodes no=aK S.nodes no:=by
 have : eX (cA S.nodes n) no=eX S.nodes no:=by
  unfold eX cA
  induction S.nodes with
  | nil=>rfl
  | cons m ms ih =>
   rw [List.map_cons,List.find?_cons,List.find?_cons]
   by_cases e:m.no=n.no
   ·have e1:(m.no == n.no)=true:=by simpa using e
    have e2:(n.no == no)=false:=by simpa using Ne.symm hne
    have e3:(m.no == no)=false:=by rw[e];exact e2
    rw [if_pos e1,e2,e3];exact ih
   ·have e1:¬(m.no == n.no)=true:=by simpa using e
    rw [if_neg e1]
    cases (m.no == no)
    ·exact ih
    ·rfl
 exact ⟨by show Option.getD (eX (cA S.nodes n) no) ae=_;rw[this];rfl,by show Option.isSome (eX (cA S.nodes n) no)=_;rw[this];rfl⟩
theorem wJ {l:List aw} {nm:List UInt8} (hp:∀x∈l,1<=x.2) (hf:bk l nm=0):∀x∈l,x.1≠nm:=by
 intro x hx e;unfold bk at hf
 cases hg:l.find? (fun x=>x.1 == nm) with
 | none=>have:=List.find?_eq_none.1 hg x hx;simp at this;exact this e
 | some y =>
  rw [hg]at hf;have:=hp y (List.mem_of_find?_eq_some hg);simp only at hf;omega
theorem FM {l:List aw} {x:aw} (h:∀y∈l,y.1≠x.1):∀y∈l,y∈dq l x:=by
 intro y hy;unfold dq iN je;simp only[List.mem_append,List.mem_filter,List.mem_singleton];rcases lK y.1 x.1 with g|g|g
 ·exact .inl (.inl ⟨hy,g⟩)
 ·exact absurd g (h y hy)
 ·exact .inr ⟨hy,g⟩
theorem Js {c:Nat} {S:aa} (h:dC c S) (cu cg now no dir:Int) (nm:List UInt8):dC (c+1) (eW S cu cg now no dir nm):=by
 unfold eW;split
 ·rename_i h0
  obtain ⟨hp,hi,hk,hf,hv,hl⟩:=g_ h0;obtain ⟨hid,qD,hc⟩:=aE hp;obtain ⟨_,aU,hmem⟩:=aj hi;obtain ⟨_,lg,jg⟩:=aj hid;have hb:=h.bits _ hmem;have hne:dir≠no:=fun e=>by subst e;exact hk qD
  have e0:(cy S now no).no=no:=aU;have h1:dC c (aJ S (cy S now no)):=by
   have e1:∀{P:ai->Prop},P (ac S.nodes no)->P (ac S.nodes (cy S now no).no):=fun hp=>by rw[e0];exact hp
   refine pG h (.inl rfl) (by rw[e0];exact hi) (Nat.le_refl _) (e1 (P:=fun m=>(cy S now no).kind=m.kind) rfl) (e1 (P:=fun m=>(cy S now no).dev=m.dev) rfl) (e1 (P:=fun m=>(cy S now no).up=m.up) rfl) (fun jI=>absurd jI hk) (h.mq (ac S.nodes no) hmem) (h.names (ac S.nodes no) hmem) (h.pos (ac S.nodes no) hmem) (h.small (ac S.nodes no) hmem) (h.on (ac S.nodes no) hmem).2
    ⟨hb.1,hb.2.1,by show 1<=(ac S.nodes no).ah+1;omega,by show (ac S.nodes no).ah+1<=1000;omega⟩ (fun x hx=>h.xR (ac S.nodes no) hmem x hx) (fun q hq tr _ wG sY=>?_)
   rcases h.vv q hq tr with⟨_,u2⟩|⟨_,_,m,hm,u3,u4,_⟩
   ·exact absurd (u2.symm.trans wG) sY
   ·have:=gw h.aC hm hmem (by rw[u3,wG,e0,aU])
    subst this;exact absurd u4 hk
  obtain ⟨g1,g2⟩:=fZ (S:=S) (n:=cy S now no) (no:=dir) (by rw[e0];exact hne);have hx0:=wJ (fun x hx=>(h.pos _ jg x hx).1) hf;have Cy:=h.aC.2 _ hmem;rw [aU]at Cy;refine wI h1 (.inl rfl) (by rw[g2];exact hid) (by rw[g1];exact qD) (Nat.le_succ _) (vX _ (h.mq _ jg)) (fun x hx=>?_) (fun x hx=>?_) ?_ (fun x hx=>?_) (fun q hq tr _ wG sY=>?_)
  ·rcases fW hx with hx|rfl
   ·exact h.names _ jg x hx
   ·exact pD hc
  ·rcases fW hx with hx|rfl
   ·exact h.pos _ jg x hx
   ·exact Cy
  ·have:=pu (ac S.nodes dir).af (nm,no)
   have:=h.small _ jg;omega
  ·rw [g1]
   rcases fW hx with hx|rfl
   ·have:=h1.xR (ac S.nodes dir) (tq jg (by rw[e0,lg];exact hne)) x hx
    exact this
   ·refine ⟨by rw[lg];exact fun e=>hne e.symm,fun d hd e=>?_,fun q hq e=>?_⟩
    ·obtain ⟨j,hj,rfl⟩:=List.getElem_of_mem hd
     obtain ⟨m,hm,o1,o2,_⟩:=h.eY j hj;have:=gw h.aC hm hmem (by rw[o1,aU];exact e.symm);subst this;exact hk o2
    ·rcases aM hq with⟨hq,sY⟩|rfl
     ·exact absurd e (by rw[e0]at sY;exact sY)
     ·exact hv
  ·rcases aM hq with⟨hq,_⟩|rfl
   ·rcases h.vv q hq tr with⟨_,u2⟩|⟨_,_,m,hm,u3,_,_,x,hx,u6⟩
    ·exact absurd (u2.symm.trans wG) sY
    ·have:=gw h.aC hm jg (by rw[u3,wG,lg])
     subst this;exact ⟨x,FM hx0 x hx,u6⟩
   ·exact absurd tr hk
 ·exact fX h (by omega)
open Go.ChangeShapes Go.WideShapes Go.ChangeAt Go.RowKit
def xV (w:World) (B:Nat) (S:aa) (cu cg dir:Int) (nm:List UInt8) (e:Ending) (w':World):Prop:=
 ∃ A c,e=.returned (.tuple #[.agg #[.int .i64 (cU S cu cg dir nm).no,.int .i64 (cU S cu cg dir nm).dev,.int .i64 (cU S cu cg dir nm).kind,.int .i64 (cU S cu cg dir nm).mode,.int .i64 (cU S cu cg dir nm).uid,.int .i64 (cU S cu cg dir nm).gid,.int .i64 (cU S cu cg dir nm).mtime,.int .i64 (cU S cu cg dir nm).ctime,.int .i64 (cU S cu cg dir nm).ah,.int .i64 (cU S cu cg dir nm).up,.string (bs (cU S cu cg dir nm).data),.slice A (cU S cu cg dir nm).af.length c],.int .i64 (aV S cu cg dir nm)])/\ax w' B (cU S cu cg dir nm) A c/\Ext w w'
theorem tE (B:Nat) (g:bJ) (S:aa) (cu cg dir:Int) (nm:List UInt8) (w:World) (h:ep w B g S) (hd:0<S.ag.length) :
  Calls Tryz.prog 124 #[.pointer (some ⟨g.bW,0,none⟩),.agg #[cu,cg],.int .i64 dir,bs nm] w (xV w B S cu cg dir nm):=by
 have h0:=h;obtain ⟨h1,h2,cd,h3,h4⟩:=h;have jF:((S.ag.length:Int) == 0)=false:=by simpa using (show ¬(S.ag.length:Int)=0 by omega)
 have E0:Ext w ((w.alloc (.cells #[cu,cg] 27)).alloc (.cells #[.int .i64 0,.int .i64 0,.int .i64 0,.int .i64 0,.int .i64 0,.int .i64 0,.int .i64 0,.int .i64 0,.int .i64 0,.int .i64 0,.string ⟨#[]⟩,.slice none 0 0] 58)):=((Ext.refl _).alloc _).alloc _;go_enter Tryz.func124,Tryz.ntmps124;go_wp2_with fail;refine (lw B g S _ (h0.ext E0) hd).mono ?_;rintro e w1 ⟨rfl,b1⟩;have E1:=E0.trans b1;have R0:=Has.new (w.alloc (.cells #[cu,cg] 27)) (.cells #[ae.no,ae.dev,ae.kind,ae.mode,ae.uid,ae.gid,ae.mtime,ae.ctime,ae.ah,ae.up,bs ae.data,.slice none ae.af.length 0] 58);rw [World.size_alloc]at R0;have R1:=R0.ext b1;have C1:=((Has.new w (.cells #[cu,cg] 27)).alloc (.cells #[.int .i64 0,.int .i64 0,.int .i64 0,.int .i64 0,.int .i64 0,.int .i64 0,.int .i64 0,.int .i64 0,.int .i64 0,.int .i64 0,.string ⟨#[]⟩,.slice none 0 0] 58)).ext b1;have v0:w1.cell? ⟨g.bW,0,none⟩=some (.pointer (some ⟨g.bT,0,none⟩)):=(h3.ext E1).cell 0;have z1:=(h3.ext E1).lt;go_wp2_with fail;refine (fU B g.bT g.bM S.nodes S.last dir _ (h2.ext E1)).mono ?_;rintro e w2 ⟨A2,k2,rfl,ir,b2⟩;have R2:=R1.ext b2;have C2:=C1.ext b2;have hm:Hid (aV S cu cg dir nm=if aK S.nodes dir=false then 5 else if ¬(ac S.nodes dir).kind=1 then 9 else if ¬bX nm=0 then bX nm
  else if fy cu cg (ac S.nodes dir).uid (ac S.nodes dir).gid (ac S.nodes dir).mode 3=false then 6 else 0):=by show _=_;rfl
 have cF:Hid (cU S cu cg dir nm=if aV S cu cg dir nm=0 then ac S.nodes dir else ae):=by show _=_;rfl
 obtain⟨m,hmm⟩:=aq (ac S.nodes dir);rw [<-hmm]at ir hm cF|-;obtain⟨W3,dg⟩:=aq (w2.alloc (.cells #[m.no,m.dev,m.kind,m.mode,m.uid,m.gid,m.mtime,m.ctime,m.ah,m.up,bs m.data,.slice A2 m.af.length k2] 58));have km:Ext w2 W3:=by rw[dg];exact (Ext.refl _).alloc _
 have N3:Has W3 w2.heap.size (.cells #[m.no,m.dev,m.kind,m.mode,m.uid,m.gid,m.mtime,m.ctime,m.ah,m.up,bs m.data,.slice A2 m.af.length k2] 58):=by rw[dg];exact Has.new _ _
 have R3:=R2.ext km;have C3:=C2.ext km;have E3:Ext w W3:=(E1.trans b2).trans km;obtain⟨b8,fP⟩:=aq w2.heap.size;obtain⟨i,hi⟩:=aq (aK S.nodes dir);rw [<-hi]at hm|-;obtain⟨ck,Rf⟩:=aq (bX nm);rw [<-Rf]at hm;have HCK:=zH Rf;clear v0 hmm hi Rf R1 C1 R2 C2;go_upto_region 4 with fail;rw [<-dg];rw [<-fP]at N3|-;clear dg fP;go_wp2_with fail;refine (Ck (bs nm) _).mono ?_;rw [show (bs nm).data.toList=nm from kP nm,<-HCK.out];rintro e w4 ⟨rfl,b4⟩;have R4:=R3.ext b4;have C4:=C3.ext b4;have N4:=N3.ext b4;have E4:=E3.trans b4;have rY:=(ir.ext km).ext b4;clear R3 C3 N3 E3 b4;have HS:Hid (∀(w5 w6:World) (x:Int),Ext w w5->Only [w.heap.size+1] w5 w6->aV S cu cg dir nm=x->x≠0->xV w B S cu cg dir nm (.returned (.tuple #[.agg #[ae.no,ae.dev,ae.kind,ae.mode,ae.uid,ae.gid,ae.mtime,ae.ctime,ae.ah,ae.up,bs ae.data,.slice none ae.af.length 0],.int .i64 x])) w6):=by
  show ∀(w5 w6:World) (x:Int),_;intro w5 w6 x hE hO hx hx0;have hN:cU S cu cg dir nm=ae:=by rw[cF.out,if_neg (by rw[hx];exact hx0)]
  exact ⟨none,0,by rw[hx,hN],by rw[hN];exact ax.zero _ _,hO.after hE (by simp)⟩
 cases i
 ·have hE:Hid (aV S cu cg dir nm=5):=by show _=_;rw[hm.out];rfl
  clear hm;go_wp2_with (refine ay rfl _ _ rfl (w.heap.size+1) ae none 0 rfl rfl R4 ?_;intro w5 R5 O5);refine bodyPost_ret (v:=.tuple #[.agg #[ae.no,ae.dev,ae.kind,ae.mode,ae.uid,ae.gid,ae.mtime,ae.ctime,ae.ah,ae.up,bs ae.data,.slice none ae.af.length 0],.int .i64 5]) (dm Tryz.results124 _ _ (w.heap.size+1) ae none 0 _ rfl rfl R5) rfl ?_;exact HS.out _ _ _ E4 O5 hE.out (by decide)
 ·have NQ : w4.cell? ⟨b8,2,none⟩=some (.int .i64 m.kind):=N4.cell 2
  have kz:=N4.lt
  by_cases c1:m.kind=1
  ·have t1 : (m.kind == 1)=true:=by simpa using c1
   have vr:(m.kind != 1)=false:=by simpa using c1
   by_cases c2:ck=0
   ·have t2:(ck == 0)=true:=by simpa using c2
    have NR:(ck != 0)=false:=by simpa using c2
    obtain⟨u,hu⟩:=aq (fy cu cg m.uid m.gid m.mode 3);have mC:Hid (aV S cu cg dir nm=if u=false then 6 else 0):=by show _=_;rw[hm.out,if_neg (by decide),if_neg (by simpa using c1),if_neg (by simpa using c2),hu]
    have HU:=zH hu;have x0:w4.cell? ⟨w.heap.size,0,none⟩=some (.int .i64 cu):=C4.cell 0;have x1:w4.cell? ⟨w.heap.size,1,none⟩=some (.int .i64 cg):=C4.cell 1;have xz:=C4.lt;clear hm hu c1 c2;go_wp2_with (refine aO rfl _ rfl b8 m A2 k2 rfl N4 ?_);refine (qy cu cg _ _ _ m.mode m.uid m.gid _ _ _ _ _ _ 3 _).mono ?_;rw [<-HU.out];rintro e w5 ⟨rfl,b5⟩;have R5:=R4.ext b5;have N5:=N4.ext b5;have E5:=E4.trans b5;clear x0 x1 xz NQ kz R4 N4
    cases u
    ·have hE:Hid (aV S cu cg dir nm=6):=by show _=_;rw[mC.out];rfl
     clear mC;go_wp2_with (refine ay rfl _ _ rfl (w.heap.size+1) ae none 0 rfl rfl R5 ?_;intro w6 R6 O5);refine bodyPost_ret (v:=.tuple #[.agg #[ae.no,ae.dev,ae.kind,ae.mode,ae.uid,ae.gid,ae.mtime,ae.ctime,ae.ah,ae.up,bs ae.data,.slice none ae.af.length 0],.int .i64 6]) (dm Tryz.results124 _ _ (w.heap.size+1) ae none 0 _ rfl rfl R6) rfl ?_;exact HS.out _ _ _ E5 O5 hE.out (by decide)
    ·have hE:Hid (aV S cu cg dir nm=0):=by show _=_;rw[mC.out];rfl
     have hN:Hid (cU S cu cg dir nm=m):=by show _=_;rw[cF.out,hE.out];rfl
     clear mC;go_wp2_with (first|(refine aO rfl _ rfl b8 m A2 k2 rfl N5 ?_)|(refine ay rfl _ _ rfl (w.heap.size+1) m A2 k2 rfl rfl R5 ?_;intro w6 R6 O6));refine bodyPost_ret (v:=.tuple #[.agg #[m.no,m.dev,m.kind,m.mode,m.uid,m.gid,m.mtime,m.ctime,m.ah,m.up,bs m.data,.slice A2 m.af.length k2],.int .i64 0]) (dm Tryz.results124 _ _ (w.heap.size+1) m A2 k2 _ rfl rfl R6) rfl ?_;have rZ:ax w6 B m A2 k2:=((rY.ext b5).only O6 (by
      intro b hb;rw [List.mem_singleton]at hb;subst hb;exact ⟨by have:=h1;have:=h0.lt.1;omega,R5.fT (by decide)⟩))
     exact ⟨A2,k2,by rw[hE.out,hN.out],by rw[hN.out];exact rZ,O6.after E5 (by simp)⟩
   ·have t2:(ck == 0)=false:=by simpa using c2
    have NR:(ck != 0)=true:=by simpa using c2
    have hE:Hid (aV S cu cg dir nm=ck):=by show _=_;rw[hm.out,if_neg (by decide),if_neg (by simpa using c1),if_pos c2]
    have qE:=zH c2;clear hm c1 c2;go_wp2_with (refine ay rfl _ _ rfl (w.heap.size+1) ae none 0 rfl rfl R4 ?_;intro w5 R5 O5);refine bodyPost_ret (v:=.tuple #[.agg #[ae.no,ae.dev,ae.kind,ae.mode,ae.uid,ae.gid,ae.mtime,ae.ctime,ae.ah,ae.up,bs ae.data,.slice none ae.af.length 0],.int .i64 ck]) (dm Tryz.results124 _ _ (w.heap.size+1) ae none 0 _ rfl rfl R5) rfl ?_;exact HS.out _ _ _ E4 O5 hE.out qE.out
  ·have t1:(m.kind == 1)=false:=by simpa using c1
   have vr:(m.kind != 1)=true:=by simpa using c1
   have hE:Hid (aV S cu cg dir nm=9):=by show _=_;rw[hm.out,if_neg (by decide),if_pos c1]
   clear hm c1;go_wp2_with (refine ay rfl _ _ rfl (w.heap.size+1) ae none 0 rfl rfl R4 ?_;intro w5 R5 O5);refine bodyPost_ret (v:=.tuple #[.agg #[ae.no,ae.dev,ae.kind,ae.mode,ae.uid,ae.gid,ae.mtime,ae.ctime,ae.ah,ae.up,bs ae.data,.slice none ae.af.length 0],.int .i64 9]) (dm Tryz.results124 _ _ (w.heap.size+1) ae none 0 _ rfl rfl R5) rfl ?_;exact HS.out _ _ _ E4 O5 hE.out (by decide)
def Cz (w:World) (B:Nat) (g:bJ) (T:aa) (e:Ending) (w':World):Prop:=e=.returned (.tuple #[])/\ep w' B g T/\Only g.list w w'
def CA (w:World) (B:Nat) (g:cE) (T:aa) (X:cQ) (e:Ending) (w':World):Prop:=e=.returned (.tuple #[])/\gU w' B g T X/\Only g.list w w'
theorem tF (B:Nat) (g:bJ) (S:aa) (dir now:Int) (A:Option Addr) (l:List aw) (cap:Nat) (w:World) (h:ep w B g S) (hu:aD S.nodes S.last) (hl:kQ w B A l) (hc1:l.length<=cap) (DU:cap<=maxLen) (Yj:A=none->cap=0) :
  Calls Tryz.prog 126 #[.pointer (some ⟨g.bW,0,none⟩),.int .i64 dir,.int .i64 now,.slice A l.length cap] w (Cz w B g (cI S dir now l)):=by
 have h0:=h;obtain ⟨_,_,cd,h3,_⟩:=id h;have v0:w.cell? ⟨g.bW,0,none⟩=some (.pointer (some ⟨g.bT,0,none⟩)):=h3.cell 0;have z1:=h3.lt;have HL:=zH hl;obtain⟨L,hL⟩:=aq l.length;rw [<-hL];have BL:=zH hL;have HU:=zH hu;clear h3 hl hL hu;go_enter Tryz.func126,Tryz.ntmps126;go_wp2_with fail;refine (fU B g.bT g.bM S.nodes S.last dir _ h0.2.1).mono ?_;rintro e w2 ⟨A2,k2,rfl,ir,b2⟩;obtain⟨m,hmm⟩:=aq (ac S.nodes dir);rw [<-hmm]at ir|-;have HM:=zH hmm;obtain⟨W3,dg⟩:=aq (w2.alloc (.cells #[m.no,m.dev,m.kind,m.mode,m.uid,m.gid,m.mtime,m.ctime,m.ah,m.up,bs m.data,.slice A2 m.af.length k2] 58));have km:Ext w2 W3:=by rw[dg];exact (Ext.refl _).alloc _
 obtain⟨b8,fP⟩:=aq w2.heap.size;have N3:Has W3 b8 (.cells #[m.no,m.dev,m.kind,m.mode,m.uid,m.gid,m.mtime,m.ctime,m.ah,m.up,bs m.data,.slice A2 m.af.length k2] 58):=by rw[dg,fP];exact Has.new _ _
 have E3:Ext w W3:=b2.trans km;have uY:w.heap.size<=b8:=by rw[fP];exact b2.size
 clear v0 hmm;go_upto_region 1 with fail;rw [<-dg];rw [<-fP];clear dg fP;have Jl:W3.cell? ⟨b8,11,none⟩=some (.slice A2 m.af.length k2):=N3.cell 11;have y6:W3.cell? ⟨b8,6,none⟩=some (.int .i64 m.mtime):=N3.cell 6;have y7:W3.cell? ⟨b8,7,none⟩=some (.int .i64 m.ctime):=N3.cell 7;have yf:∀i,W3.frozen? ⟨b8,i,none⟩=false:=fun i=>(N3.free i).trans (by simp)
 have yz:=N3.lt;obtain ⟨n,hn⟩:∃n:ai,n={m with af:=l,mtime:=now,ctime:=now}:=⟨_,rfl⟩;have HN:=zH hn;clear hn;go_upto_region 2 with fail;obtain⟨V,hV⟩:=aq (((W3.setCell ⟨b8,11,none⟩ (.slice A L cap)).setCell ⟨b8,6,none⟩ (.int .i64 now)).setCell ⟨b8,7,none⟩ (.int .i64 now));rw [<-hV];have NV:Has V b8 (.cells #[n.no,n.dev,n.kind,n.mode,n.uid,n.gid,n.mtime,n.ctime,n.ah,n.up,bs n.data,.slice A n.af.length cap] 58):=by rw[hV,HN.out,BL.out];exact ((N3.setCell 11 _).setCell 6 _).setCell 7 _
 have OV:Only [b8] W3 V:=by rw[hV];exact ((Only.setCell _ _ _ _).then (Only.setCell _ _ _ _)).then (Only.setCell _ _ _ _)
 have EV:Ext w V:=OV.after E3 (by intro x hx;rw[List.mem_singleton]at hx;omega);have KV:=h0.ext EV;have xO:ax V B n A cap:=by
  refine ⟨?_,by rw[HN.out];exact hc1,DU,Yj⟩;rw [HN.out];exact HL.out.ext EV
 clear hV Jl y6 y7 yf yz;obtain ⟨_,_,cdV,Rg,_⟩:=id KV;have v0:V.cell? ⟨g.bW,0,none⟩=some (.pointer (some ⟨g.bT,0,none⟩)):=Rg.cell 0;have vz:=Rg.lt;obtain ⟨x0,x1,x2,x3,x4,x5,x6,x7,x8,x9,rO,rP⟩:=NV.dP;have zN:=NV.lt;clear Rg;go_still_tail 5,(by kernel_rfl);change wpList _ _ _ _ _ V.drew;go_wp2_with fail;have ED:Ext V V.drew:=(Ext.refl _).drew;refine (mL B g S n A cap _ (KV.ext ED) HU.out (xO.ext ED)).mono ?_;rintro e w8 ⟨rfl,K8,O8⟩;go_wp2_with fail;go_end0;have e2:cI S dir now l=aJ S n:=by unfold cI eQ;rw[HN.out,HM.out]
 exact ⟨rfl,by rw[e2];exact K8,Only.pre (EV.trans ED) O8⟩
theorem tG (B:Nat) (g:cE) (S:aa) (X:cQ) (dir:Int) (A:Option Addr) (l:List aw) (cap:Nat) (w:World) (h:gU w B g S X) (mB:S.nodes.length<=1000000) (hu:aD S.nodes S.last) (hl:kQ w B A l) (hc1:l.length<=cap) (DU:cap<=maxLen) (Yj:A=none->cap=0) :
  Calls Tryz.prog 120 #[.pointer (some ⟨g.bF,0,none⟩),.int .i64 dir,.slice A l.length cap] w (CA w B g (cI S dir X.now l) X):=by
 have HL:=zH hl;obtain⟨L,hL⟩:=aq l.length;rw [<-hL];have BL:=zH hL;have HU:=zH hu;clear hl hL hu;go_enter Tryz.func120,Tryz.ntmps120;go_wp2_with fail;refine (fc B g S X dir _ h mB HU.out).mono ?_;rintro e w2 ⟨A2,k2,rfl,ir,b2⟩;obtain⟨m,hmm⟩:=aq (ac S.nodes dir);rw [<-hmm]at ir|-;have HM:=zH hmm;obtain⟨W3,dg⟩:=aq (w2.alloc (.cells #[m.no,m.dev,m.kind,m.mode,m.uid,m.gid,m.mtime,m.ctime,m.ah,m.up,bs m.data,.slice A2 m.af.length k2] 58));have km:Ext w2 W3:=by rw[dg];exact (Ext.refl _).alloc _
 obtain⟨b8,fP⟩:=aq w2.heap.size;have N3:Has W3 b8 (.cells #[m.no,m.dev,m.kind,m.mode,m.uid,m.gid,m.mtime,m.ctime,m.ah,m.up,bs m.data,.slice A2 m.af.length k2] 58):=by rw[dg,fP];exact Has.new _ _
 have E3:Ext w W3:=b2.trans km;have uY:w.heap.size<=b8:=by rw[fP];exact b2.size
 clear hmm;go_upto_region 1 with fail;rw [<-dg];rw [<-fP];clear dg fP;have Jl:W3.cell? ⟨b8,11,none⟩=some (.slice A2 m.af.length k2):=N3.cell 11;have y6:W3.cell? ⟨b8,6,none⟩=some (.int .i64 m.mtime):=N3.cell 6;have y7:W3.cell? ⟨b8,7,none⟩=some (.int .i64 m.ctime):=N3.cell 7;have yf:∀i,W3.frozen? ⟨b8,i,none⟩=false:=fun i=>(N3.free i).trans (by simp)
 have yz:=N3.lt;have nw:W3.cell? ⟨g.bF,3,none⟩=some (.int .i64 X.now):=by obtain⟨_,_,_,k,_⟩:=h.ext E3;exact k.cell 3
 have nz:=(h.ext E3).lt.1;have hlt:=h.lt.1;have UU:(b8=g.bF)=False:=eq_false (by omega);have Jt:(g.bF=b8)=False:=eq_false (by omega);obtain ⟨n,hn⟩:∃n:ai,n={m with af:=l,mtime:=X.now,ctime:=X.now}:=⟨_,rfl⟩;have HN:=zH hn;clear hn;go_upto_region 4 with fail;obtain⟨V,hV⟩:=aq (((W3.setCell ⟨b8,11,none⟩ (.slice A L cap)).setCell ⟨b8,6,none⟩ (.int .i64 X.now)).setCell ⟨b8,7,none⟩ (.int .i64 X.now));rw [<-hV];have NV:Has V b8 (.cells #[n.no,n.dev,n.kind,n.mode,n.uid,n.gid,n.mtime,n.ctime,n.ah,n.up,bs n.data,.slice A n.af.length cap] 58):=by rw[hV,HN.out,BL.out];exact ((N3.setCell 11 _).setCell 6 _).setCell 7 _
 have OV:Only [b8] W3 V:=by rw[hV];exact ((Only.setCell _ _ _ _).then (Only.setCell _ _ _ _)).then (Only.setCell _ _ _ _)
 have EV:Ext w V:=OV.after E3 (by intro x hx;rw[List.mem_singleton]at hx;omega);have xO:ax V B n A cap:=by
  refine ⟨?_,by rw[HN.out];exact hc1,DU,Yj⟩;rw [HN.out];exact HL.out.ext EV
 clear hV Jl y6 y7 yf yz nw nz UU Jt;go_wp2_with (refine aO rfl _ rfl b8 n A cap rfl NV ?_);refine (mH B g S X n A cap _ (h.ext EV) mB HU.out xO).mono ?_;rintro e w5 ⟨rfl,K5,O5⟩;go_wp2_with fail;go_end0;have e2:cI S dir X.now l=aJ S n:=by unfold cI eQ;rw[HN.out,HM.out]
 exact ⟨rfl,by rw[e2];exact K5,Only.pre EV O5⟩
attribute [local irreducible] fY
attribute [local go_sem] eP
theorem pL {S:aa} (h:Live S) (n:ai):aD (aQ S n).nodes (aQ S n).last:=by
 unfold aQ;split
 ·exact h.aC.add {n with no:=S.last+1} rfl (by have:=h.last;omega)
 ·exact h.aC
structure Ok (S:aa):Prop where
 live:Live S
 af:∀n∈S.nodes,iH n.af/\n.af.length<=100000
 ah:∀n∈S.nodes,1<=n.ah/\n.ah<=1000
theorem dC.ok {c:Nat} {S:aa} (h:dC c S) (hc:c<=100000):Ok S:=⟨h.live,fun n hn=>⟨h.mq n hn,by have:=h.small n hn;omega⟩,fun n hn=>(h.bits n hn).2.2⟩
theorem Ok.bH {S:aa} (h:Ok S) (no:Int):iH (ac S.nodes no).af/\(ac S.nodes no).af.length<=100000:=by
 cases hi:aK S.nodes no
 ·rw[(aZ hi).1];exact⟨List.Pairwise.nil,Nat.zero_le _⟩
 ·exact h.af _ (aj hi).2.2
theorem kT {l:List aw} {nm:List UInt8} (hr:iH l):numOf l nm=bk l nm:=by
 unfold bk numOf
 cases hh:has l nm
 ·have:l.find? (·.1 == nm)=none:=by
   rw [List.find?_eq_none];intro x hx;unfold has at hh;rw [List.any_eq_false]at hh;exact hh x hx
  rw [this];rfl
 ·obtain ⟨hp,he⟩:=BW hr hh
  have:l.find? (·.1 == nm)=some l[pos l nm]:=by
   rw [List.find?_eq_some_iff_getElem];refine ⟨by simp[he],pos l nm,hp,rfl,fun j hj=>?_⟩;have h1:=zf l nm j hj (by omega);unfold lt at h1;have:=vW h1;simp [this]
  rw [this];simp [List.getD_eq_getElem?_getD,List.getElem?_eq_getElem hp]
def r7 (n:ai) (dev cu cg now:Int):Nat->ai
 | 0=>n
 | 1=>{n with dev:=dev}
 | 2=>{n with dev:=dev,uid:=cu}
 | 3=>{n with dev:=dev,uid:=cu,gid:=cg}
 | 4=>{n with dev:=dev,uid:=cu,gid:=cg,mtime:=now}
 | 5=>{n with dev:=dev,uid:=cu,gid:=cg,mtime:=now,ctime:=now}
 | _=>{n with dev:=dev,uid:=cu,gid:=cg,mtime:=now,ctime:=now,ah:=1}
def xW (w:World) (B:Nat) (g:bJ) (S:aa) (cu cg now dir:Int) (nm:List UInt8) (n:ai) (e:Ending) (w':World):Prop:=
 e = .returned (.tuple #[.int .i64 (cZ S cu cg now dir nm n),.int .i64 (bC S cu cg now dir nm n)])/\ep w' B g (aW S cu cg now dir nm n)/\Only g.list w w'
theorem FO {w w':World} {B:Nat} {g:bJ} {S:aa} {cu cg now dir x:Int} {nm:List UInt8} {n:ai} (h:ep w B g S) (hE:Ext w w') (hx:bC S cu cg now dir nm n=x) (h0:x≠0):xW w B g S cu cg now dir nm n (.returned (.tuple #[.int .i64 0,.int .i64 x])) w':=by
 refine ⟨?_,?_,Only.av hE⟩
 ·unfold cZ;rw[hx,if_neg h0]
 ·unfold aW;rw[hx,if_neg h0];exact h.ext hE
theorem tH (B:Nat) (g:bJ) (S:aa) (cu cg now dir:Int) (nm:List UInt8) (n:ai) (A:Option Addr) (c:Nat) (w:World) (h:ep w B g S) (O:Ok S) (i_:S.last<=100000) (hn:ax w B n A c) (kM:n.data.length<=1000000000) :
    Calls Tryz.prog 128 #[.pointer (some ⟨g.bW,0,none⟩),.agg #[cu,cg],.int .i64 now,.int .i64 dir,bs nm,.agg #[n.no,n.dev,n.kind,n.mode,n.uid,n.gid,n.mtime,n.ctime,n.ah,n.up,bs n.data,.slice A n.af.length c]] w (xW w B g S cu cg now dir nm n):=by
  obtain⟨W0,aY⟩:=aq ((w.alloc (.cells #[cu,cg] 27)).alloc (.cells #[n.no,n.dev,n.kind,n.mode,n.uid,n.gid,n.mtime,n.ctime,n.ah,n.up,bs n.data,.slice A n.af.length c] 58))
  have E0:Ext w W0:=by rw[aY];exact ((Ext.refl _).alloc _).alloc _
  obtain ⟨b7,vB⟩:∃b,b=w.heap.size:=⟨_,rfl⟩
  have C0:Has W0 b7 (.cells #[cu,cg] 27):=by rw[aY,vB];exact (Has.new w _).alloc _
  have N0:Has W0 (b7+1) (.cells #[n.no,n.dev,n.kind,n.mode,n.uid,n.gid,n.mtime,n.ctime,n.ah,n.up,bs n.data,.slice A n.af.length c] 58):=by
    rw [aY,vB]
    have:=Has.new (w.alloc (.cells #[cu,cg] 27)) (.cells #[n.no,n.dev,n.kind,n.mode,n.uid,n.gid,n.mtime,n.ctime,n.ah,n.up,bs n.data,.slice A n.af.length c] 58)
    rwa [World.size_alloc]at this
  have ZZ:w.heap.size+2<=W0.heap.size:=by rw[aY];simp
  have HO:=zH O
  have hm:Hid (bC S cu cg now dir nm n=if ¬aV S cu cg dir nm=0 then aV S cu cg dir nm else if ¬bk (ac S.nodes dir).af nm=0 then 7 else ey S (bi S cu cg now dir n)):=by show _=_;rfl
  have hp:Hid (aV S cu cg dir nm=0->cU S cu cg dir nm=ac S.nodes dir/\aK S.nodes dir=true):=fun h0=>⟨kS h0,(aE h0).1⟩
  have HS:Hid (∀(w':World) (x:Int),Ext w w'->bC S cu cg now dir nm n=x->x≠0->xW w B g S cu cg now dir nm n (.returned (.tuple #[.int .i64 0,.int .i64 x])) w'):=by
    show ∀(w':World) (x:Int),_
    exact fun w' x hE hx h0=>FO h hE hx h0
  have ja:=zH E0
  clear O
  go_enter Tryz.func128,Tryz.ntmps128
  go_upto_region 1 with fail
  rw [<-aY]
  rw [<-vB]
  have Z0:b7<=w.heap.size:=by omega
  have Z1:w.heap.size<=b7:=by omega
  clear aY vB
  have x0:W0.cell? ⟨b7,0,none⟩=some (.int .i64 cu):=C0.cell 0
  have x1:W0.cell? ⟨b7,1,none⟩=some (.int .i64 cg):=C0.cell 1
  have xz:=C0.lt
  go_wp2_with fail
  refine (tE B g S cu cg dir nm _ (h.ext E0) HO.out.live.ag).mono ?_
  rintro e w2 ⟨A2,k2,rfl,ir,b2⟩
  obtain⟨m,hmm⟩:=aq (cU S cu cg dir nm)
  obtain⟨x,hx⟩:=aq (aV S cu cg dir nm)
  rw [<-hmm]at ir hp
  rw [<-hx]at hm hp
  rw [<-hmm,<-hx]
  obtain⟨W3,dg⟩:=aq (w2.alloc (.cells #[m.no,m.dev,m.kind,m.mode,m.uid,m.gid,m.mtime,m.ctime,m.ah,m.up,bs m.data,.slice A2 m.af.length k2] 58))
  obtain ⟨CB,xX⟩:∃b,b=w2.heap.size:=⟨_,rfl⟩
  have km:Ext w2 W3:=by rw[dg];exact (Ext.refl _).alloc _
  have M3:Has W3 CB (.cells #[m.no,m.dev,m.kind,m.mode,m.uid,m.gid,m.mtime,m.ctime,m.ah,m.up,bs m.data,.slice A2 m.af.length k2] 58):=by rw[dg,xX];exact Has.new _ _
  have nN:Ext W0 W3:=b2.trans km
  have C3:=C0.ext nN
  have N3:=N0.ext nN
  have pg:=ir.ext km
  have UV:W0.heap.size<=CB:=by rw[xX];exact b2.size
  clear x0 x1 xz hmm hx C0 N0
  go_upto_region 2 with fail
  rw [<-dg]
  rw [<-xX]
  clear dg xX
  by_cases hx0:x=0
  · have t0 : (x == 0)=true:=by simpa using hx0
    have oN:(x != 0)=false:=by simpa using hx0
    obtain ⟨oc,hid⟩:=hp.out hx0
    have cF:Hid (bC S cu cg now dir nm n=if ¬bk m.af nm=0 then 7 else ey S (bi S cu cg now dir n)):=by show _=_;rw[hm.out,if_neg (by simpa using hx0),<-oc]
    have Cq:=zH oc
    have HID:=zH hid
    have hen:=HO.out.bH dir
    rw [<-oc]at hen
    have xY:=zH hen
    have CC:W3.cell? ⟨CB,11,none⟩=some (.slice A2 m.af.length k2):=M3.cell 11
    have kz:=M3.lt
    clear hm hp hx0 oc hid hen
    go_wp2_with fail
    refine (pk A2 m.af k2 nm _ pg.af.af xY.out.1 (by have:=xY.out.2;omega)).mono ?_
    rw [kT xY.out.1]
    rintro e w4 ⟨rfl,b4⟩
    obtain⟨v,hv⟩:=aq (bk m.af nm)
    rw [<-hv]at cF
    rw [<-hv]
    have C4:=C3.ext b4
    have N4:=N3.ext b4
    have M4:=M3.ext b4
    have rY:=pg.ext b4
    have E4:=nN.trans b4
    clear hv CC kz C3 N3 M3 pg nN b4
    by_cases qF:v=0
    · have t1:(v == 0)=true:=by simpa using qF
      have vr:(v != 0)=false:=by simpa using qF
      have mC:Hid (bC S cu cg now dir nm n=ey S (bi S cu cg now dir n)):=by show _=_;rw[cF.out,if_neg (by simpa using qF)]
      clear cF qF
      go_upto_region 6 with fail
      obtain ⟨fR,vC⟩:∃b,b=b7+1:=⟨_,rfl⟩
      rw [<-vC]at N4|-
      have UW:fR<=b7+1:=by omega
      have UX:b7+1<=fR:=by omega
      clear vC
      have UY:=h.lt
      have s0:=E0.size
      have FP:CB≠fR:=by have:=b2.size;omega
      have oG:b7≠fR:=by omega
      obtain ⟨Ph,lh⟩:∃Ph:Nat->World->Prop,Ph=fun j w'=>Has w' fR (.cells #[.int .i64 (r7 n m.dev cu cg now j).no,.int .i64 (r7 n m.dev cu cg now j).dev,.int .i64 (r7 n m.dev cu cg now j).kind,.int .i64 (r7 n m.dev cu cg now j).mode,.int .i64 (r7 n m.dev cu cg now j).uid,.int .i64 (r7 n m.dev cu cg now j).gid,.int .i64 (r7 n m.dev cu cg now j).mtime,.int .i64 (r7 n m.dev cu cg now j).ctime,.int .i64 (r7 n m.dev cu cg now j).ah,.int .i64 (r7 n m.dev cu cg now j).up,.string (bs (r7 n m.dev cu cg now j).data),.slice A (r7 n m.dev cu cg now j).af.length c] 58)/\Only [fR] w4 w':=⟨_,rfl⟩
      have HV:Hid (Ph 0 w4.drew):=by show Ph 0 _;rw[lh];exact⟨N4.ext (Ext.refl _).drew,Only.av (Ext.refl _).drew⟩
      have hne:Nonempty (Hp Ph):=⟨⟨0,_,HV.out⟩⟩
      have KQ:Hid (∀w',Ph 6 w'->Has w' fR (.cells #[.int .i64 (bi S cu cg now dir n).no,.int .i64 (bi S cu cg now dir n).dev,.int .i64 (bi S cu cg now dir n).kind,.int .i64 (bi S cu cg now dir n).mode,.int .i64 (bi S cu cg now dir n).uid,.int .i64 (bi S cu cg now dir n).gid,.int .i64 (bi S cu cg now dir n).mtime,.int .i64 (bi S cu cg now dir n).ctime,.int .i64 (bi S cu cg now dir n).ah,.int .i64 (bi S cu cg now dir n).up,.string (bs (bi S cu cg now dir n).data),.slice A (bi S cu cg now dir n).af.length c] 58)/\Only [fR] w4 w'):=by
        show ∀w',_
        intro w' hw
        rw [lh]at hw
        refine ⟨?_,hw.2⟩
        have:=hw.1
        rw [Cq.out]at this
        exact this
      have u1:∀u:Hp Ph,u.w.cell? ⟨CB,1,none⟩=some (.int .i64 m.dev):=by
        rintro ⟨j,u,hu⟩
        rw [lh]at hu
        exact (hu.2.has M4 (by simpa using FP)).cell 1
      have u2:∀u:Hp Ph,u.w.cell? ⟨b7,0,none⟩=some (.int .i64 cu):=by
        rintro ⟨j,u,hu⟩
        rw [lh]at hu
        exact (hu.2.has C4 (by simpa using oG)).cell 0
      have u3:∀u:Hp Ph,u.w.cell? ⟨b7,1,none⟩=some (.int .i64 cg):=by
        rintro ⟨j,u,hu⟩
        rw [lh]at hu
        exact (hu.2.has C4 (by simpa using oG)).cell 1
      have f0:∀u:Wc (Ph 0),u.w.cell? ⟨fR,1,none⟩=some (.int .i64 n.dev):=by
        rintro ⟨u,hu⟩
        rw [lh]at hu
        exact hu.1.cell 1
      have g0:∀u:Wc (Ph 0),u.w.frozen? ⟨fR,1,none⟩=false:=by
        rintro ⟨u,hu⟩
        rw [lh]at hu
        exact (hu.1.free 1).trans (by simp)
      have KS0:Hid (∀u:Wc (Ph 0),Ph 1 (u.w.setCell ⟨fR,1,none⟩ (.int .i64 m.dev))):=by
        show ∀u:Wc (Ph 0),_
        rintro ⟨u,hu⟩
        dsimp only
        rw [lh]at hu|-
        exact ⟨hu.1.setCell 1 _,hu.2.then (Only.setCell _ _ _ _)⟩
      have f1:∀u:Wc (Ph 1),u.w.cell? ⟨fR,4,none⟩=some (.int .i64 n.uid):=by
        rintro ⟨u,hu⟩
        rw [lh]at hu
        exact hu.1.cell 4
      have g1:∀u:Wc (Ph 1),u.w.frozen? ⟨fR,4,none⟩=false:=by
        rintro ⟨u,hu⟩
        rw [lh]at hu
        exact (hu.1.free 4).trans (by simp)
      have PU:Hid (∀u:Wc (Ph 1),Ph 2 (u.w.setCell ⟨fR,4,none⟩ (.int .i64 cu))):=by
        show ∀u:Wc (Ph 1),_
        rintro ⟨u,hu⟩
        dsimp only
        rw [lh]at hu|-
        exact ⟨hu.1.setCell 4 _,hu.2.then (Only.setCell _ _ _ _)⟩
      have f2:∀u:Wc (Ph 2),u.w.cell? ⟨fR,5,none⟩=some (.int .i64 n.gid):=by
        rintro ⟨u,hu⟩
        rw [lh]at hu
        exact hu.1.cell 5
      have g2:∀u:Wc (Ph 2),u.w.frozen? ⟨fR,5,none⟩=false:=by
        rintro ⟨u,hu⟩
        rw [lh]at hu
        exact (hu.1.free 5).trans (by simp)
      have KS2:Hid (∀u:Wc (Ph 2),Ph 3 (u.w.setCell ⟨fR,5,none⟩ (.int .i64 cg))):=by
        show ∀u:Wc (Ph 2),_
        rintro ⟨u,hu⟩
        dsimp only
        rw [lh]at hu|-
        exact ⟨hu.1.setCell 5 _,hu.2.then (Only.setCell _ _ _ _)⟩
      have f3:∀u:Wc (Ph 3),u.w.cell? ⟨fR,6,none⟩=some (.int .i64 n.mtime):=by
        rintro ⟨u,hu⟩
        rw [lh]at hu
        exact hu.1.cell 6
      have g3:∀u:Wc (Ph 3),u.w.frozen? ⟨fR,6,none⟩=false:=by
        rintro ⟨u,hu⟩
        rw [lh]at hu
        exact (hu.1.free 6).trans (by simp)
      have KS3:Hid (∀u:Wc (Ph 3),Ph 4 (u.w.setCell ⟨fR,6,none⟩ (.int .i64 now))):=by
        show ∀u:Wc (Ph 3),_
        rintro ⟨u,hu⟩
        dsimp only
        rw [lh]at hu|-
        exact ⟨hu.1.setCell 6 _,hu.2.then (Only.setCell _ _ _ _)⟩
      have f4:∀u:Wc (Ph 4),u.w.cell? ⟨fR,7,none⟩=some (.int .i64 n.ctime):=by
        rintro ⟨u,hu⟩
        rw [lh]at hu
        exact hu.1.cell 7
      have g4:∀u:Wc (Ph 4),u.w.frozen? ⟨fR,7,none⟩=false:=by
        rintro ⟨u,hu⟩
        rw [lh]at hu
        exact (hu.1.free 7).trans (by simp)
      have KS4:Hid (∀u:Wc (Ph 4),Ph 5 (u.w.setCell ⟨fR,7,none⟩ (.int .i64 now))):=by
        show ∀u:Wc (Ph 4),_
        rintro ⟨u,hu⟩
        dsimp only
        rw [lh]at hu|-
        exact ⟨hu.1.setCell 7 _,hu.2.then (Only.setCell _ _ _ _)⟩
      have f5:∀u:Wc (Ph 5),u.w.cell? ⟨fR,8,none⟩=some (.int .i64 n.ah):=by
        rintro ⟨u,hu⟩
        rw [lh]at hu
        exact hu.1.cell 8
      have g5:∀u:Wc (Ph 5),u.w.frozen? ⟨fR,8,none⟩=false:=by
        rintro ⟨u,hu⟩
        rw [lh]at hu
        exact (hu.1.free 8).trans (by simp)
      have KS5:Hid (∀u:Wc (Ph 5),Ph 6 (u.w.setCell ⟨fR,8,none⟩ (.int .i64 1))):=by
        show ∀u:Wc (Ph 5),_
        rintro ⟨u,hu⟩
        dsimp only
        rw [lh]at hu|-
        exact ⟨hu.1.setCell 8 _,hu.2.then (Only.setCell _ _ _ _)⟩
      clear lh
      refine gX Ph [9,11,13,15,17,19] (by kernel_rfl) (by kernel_rfl) (by kernel_rfl) HV.out ?_
      repeat (first
        | (refine j9 (by kernel_rfl) (fun K hK=>?_)
           go_simp
           refine hK _ ?_
           clear hK K)
        | (refine dG 0 (by kernel_rfl) rfl (fun K hK=>?_)
           go_simp
           refine ⟨⟨undef,fun u=>⟨rfl,KS0.out u⟩⟩,hK _ ?_⟩
           clear hK K)
        | (refine dG 1 (by kernel_rfl) rfl (fun K hK=>?_)
           go_simp
           refine ⟨⟨undef,fun u=>⟨rfl,PU.out u⟩⟩,hK _ ?_⟩
           clear hK K)
        | (refine dG 2 (by kernel_rfl) rfl (fun K hK=>?_)
           go_simp
           refine ⟨⟨undef,fun u=>⟨rfl,KS2.out u⟩⟩,hK _ ?_⟩
           clear hK K)
        | (refine dG 3 (by kernel_rfl) rfl (fun K hK=>?_)
           go_simp
           refine ⟨⟨undef,fun u=>⟨rfl,KS3.out u⟩⟩,hK _ ?_⟩
           clear hK K)
        | (refine dG 4 (by kernel_rfl) rfl (fun K hK=>?_)
           go_simp
           refine ⟨⟨undef,fun u=>⟨rfl,KS4.out u⟩⟩,hK _ ?_⟩
           clear hK K)
        | (refine dG 5 (by kernel_rfl) rfl (fun K hK=>?_)
           go_simp
           refine ⟨⟨undef,fun u=>⟨rfl,KS5.out u⟩⟩,hK _ ?_⟩
           clear hK K))
      refine lW ?_
      intro w5 zu
      obtain ⟨N5,O5⟩:=KQ.out _ zu
      clear u1 u2 u3 f0 f1 f2 f3 f4 f5 g0 g1 g2 g3 g4 g5 KS0 PU KS2 KS3 KS4 KS5 KQ HV zu hne
      obtain⟨n',hn'⟩:=aq (bi S cu cg now dir n)
      rw [<-hn']at N5 mC
      have UZ:n'.data=n.data:=by rw[hn'];rfl
      have Ju:n'.af=n.af:=by rw[hn'];rfl
      have Jv:=zH hn'
      have Z2:=zH UZ
      have Rh:cY w4 B [fR]:=by
        intro b hb
        rw [List.mem_singleton]at hb
        subst hb
        exact ⟨by have:=h.1;omega,N4.fT (by decide)⟩
      have Nu:∀b∈g.list,b∉[fR]:=by
        intro b hb
        simp only[bJ.list,List.mem_cons,List.not_mem_nil,or_false]at hb
        rw [List.mem_singleton]
        rcases hb with rfl|rfl|rfl|rfl<;>omega
      have Jw:Ext w w4:=E0.trans E4
      have K5:ep w5 B g S:=(h.ext Jw).only O5 Rh Nu
      have xZ:ax w5 B n' A c:=((hn.ext Jw).only O5 Rh).same Ju
      have xN:=rY.only O5 Rh
      have M5:=O5.has M4 (by simpa using FP)
      have Z4:Only g.list w w5:=(Only.av Jw).trans O5 (by intro b hb;rw[List.mem_singleton]at hb;right;omega)
      have E5:Ext w w5:=O5.after Jw (by intro b hb;rw[List.mem_singleton]at hb;omega)
      clear hn' UZ Ju
      go_wp2_with (refine aO rfl _ rfl fR n' A c rfl N5 ?_)
      refine (Fm B g S n' A c _ K5 xZ HO.out.live.roots HO.out.live.ag HO.out.live.eight HO.out.live.aC (by have:=HO.out.live.last;omega) (by omega) (by rw[Z2.out];exact kM)).mono ?_
      rintro e w6 ⟨rfl,K6,O6⟩
      obtain⟨e6,Jy⟩:=aq (ey S n')
      have aU:ey S n'=0->mf S n'=S.last+1:=fun h0=>by unfold mf;rw[if_pos h0]
      obtain⟨no,ql⟩:=aq (mf S n')
      rw [<-Jy,<-ql]at aU
      rw [<-Jy]at mC
      rw [<-Jy,<-ql]
      have rR:=zH aU
      have Mt:=zH Jy
      have M6:=O6.has M5 (by simp only[bJ.list,List.mem_cons,List.not_mem_nil,or_false];omega)
      have rZ:=xN.only O6 K5.apart
      have U0:=Z4.then O6
      clear aU ql Jy
      by_cases hz:e6=0
      · have t2:(e6 == 0)=true:=by simpa using hz
        have NR:(e6 != 0)=false:=by simpa using hz
        have HZ:=zH hz
        have CC:w6.cell? ⟨CB,11,none⟩=some (.slice A2 m.af.length k2):=M6.cell 11
        have kz:=M6.lt
        clear hz
        go_wp2_with fail
        refine (DW A2 m.af k2 nm no _ rZ.af.af rZ.nil xY.out.1 rZ.cap rZ.max (by have:=xY.out.2;omega)).mono ?_
        rintro e w7 ⟨v7,rfl,hown,U1⟩
        rw [qi _ _ _ xY.out.1]at hown
        obtain ⟨A7,c7,rfl,q1,q2,q3,q4⟩:=hown.D2 (B:=B)
        obtain⟨T,hT⟩:=aq (aQ S n')
        rw [<-hT]at K6
        have Ri:aD T.nodes T.last:=by rw[hT];exact pL HO.out.live _
        obtain ⟨L7,Mu⟩:∃L,L=dq m.af (nm,no):=⟨_,rfl⟩
        rw [<-Mu]at q1 q3|-
        have Rj:Hid (Calls Tryz.prog 126 #[.pointer (some ⟨g.bW,0,none⟩),.int .i64 dir,.int .i64 now,.slice A7 L7.length c7] w7 (Cz w7 B g (cI T dir now L7))):=tF B g T dir now A7 L7 c7 w7 (K6.ext U1) Ri q3 q1 q2 q4
        have HT:=zH hT
        have U2:=zH Mu
        clear CC kz hown q1 q2 q3 q4 hT Mu
        go_wp2_with fail
        refine Rj.out.mono ?_
        rintro e w8 ⟨rfl,K8,O8⟩
        go_wp2_with fail
        go_ret2
        have e1:bC S cu cg now dir nm n=0:=by rw[mC.out];exact HZ.out
        have e2:cZ S cu cg now dir nm n=no:=by unfold cZ;rw[if_pos e1];exact (rR.out HZ.out).symm
        have e3:aW S cu cg now dir nm n=cI T dir now L7:=by
          unfold aW
          rw [if_pos e1,HT.out,U2.out,<-Jv.out,Cq.out,rR.out HZ.out]
        refine ⟨by rw[e1,e2];rfl,by rw[e3];exact K8,(U0.ext U1).then O8⟩
      · have t2:(e6 == 0)=false:=by simpa using hz
        have NR:(e6 != 0)=true:=by simpa using hz
        have HZ:=zH hz
        clear hz
        go_wp2_with fail
        go_ret2
        have e1:bC S cu cg now dir nm n=e6:=mC.out
        have e2:cZ S cu cg now dir nm n=0:=by unfold cZ;rw[if_neg (by rw[e1];exact HZ.out)]
        have e3:aW S cu cg now dir nm n=S:=by unfold aW;rw[if_neg (by rw[e1];exact HZ.out)]
        have e4:aQ S n'=S:=by unfold aQ;rw[if_neg (by rw[<-Mt.out];exact HZ.out)]
        rw [e4]at K6
        exact ⟨by rw[e1,e2];rfl,by rw[e3];exact K6,U0⟩
    · have t1:(v == 0)=false:=by simpa using qF
      have vr:(v != 0)=true:=by simpa using qF
      have hE:Hid (bC S cu cg now dir nm n=7):=by show _=_;rw[cF.out,if_pos qF]
      clear cF qF
      go_wp2_with fail
      go_ret2
      exact HS.out _ _ (ja.out.trans E4) hE.out (by decide)
  · have t0:(x == 0)=false:=by simpa using hx0
    have oN:(x != 0)=true:=by simpa using hx0
    have hE:Hid (bC S cu cg now dir nm n=x):=by show _=_;rw[hm.out,if_pos hx0]
    have HX:=zH hx0
    clear hm hx0
    go_wp2_with fail
    go_ret2
    exact HS.out _ _ (ja.out.trans nN) hE.out HX.out
end
open Go.ChangeShapes Go.WideShapes Go.ChangeAt Go.RowKit
theorem FQ (B:Nat) (g:bJ) (S:aa) (cu cg now no dir:Int) (nm:List UInt8) (w:World) (h:ep w B g S) (O:Ok S) :
  Calls Tryz.prog 98 #[.pointer (some ⟨g.bW,0,none⟩),.agg #[cu,cg],.int .i64 now,.int .i64 no,.int .i64 dir,bs nm] w (vu w B g (eW S cu cg now no dir nm) (eV S cu cg no dir nm)):=by
 obtain⟨W0,aY⟩:=aq (w.alloc (.cells #[cu,cg] 27));have E0:Ext w W0:=by rw[aY];exact (Ext.refl _).alloc _
 have C0:Has W0 w.heap.size (.cells #[cu,cg] 27):=by rw[aY];exact Has.new w _
 have HO:=zH O;have hm:Hid (eV S cu cg no dir nm=if ¬aV S cu cg dir nm=0 then aV S cu cg dir nm else if aK S.nodes no=false then 5 else if (ac S.nodes no).kind=1 then 4
  else if ¬bk (ac S.nodes dir).af nm=0 then 7 else if ¬(ac S.nodes no).dev=(ac S.nodes dir).dev then 11 else if 1000<=(ac S.nodes no).ah then 18 else 0):=by show _=_;rfl
 have hp:Hid (aV S cu cg dir nm=0->cU S cu cg dir nm=ac S.nodes dir/\aK S.nodes dir=true):=fun h0=>⟨kS h0,(aE h0).1⟩
 have HS:Hid (∀(w':World) (x:Int),Ext w w'->eV S cu cg no dir nm=x->x≠0->vu w B g (eW S cu cg now no dir nm) (eV S cu cg no dir nm) (.returned (.int .i64 x)) w'):=by
  show ∀(w':World) (x:Int),_;intro w' x hE hx h0;rw [hx];exact fg h hE (by unfold eW;rw[if_neg (by rw[hx];exact h0)])
 clear O;go_enter Tryz.func98,Tryz.ntmps98;go_upto_region 1 with fail;rw [<-aY];clear aY;have x0:W0.cell? ⟨w.heap.size,0,none⟩=some (.int .i64 cu):=C0.cell 0;have x1:W0.cell? ⟨w.heap.size,1,none⟩=some (.int .i64 cg):=C0.cell 1;have xz:=C0.lt;go_wp2_with fail;refine (tE B g S cu cg dir nm _ (h.ext E0) HO.out.live.ag).mono ?_;rintro e w2 ⟨A2,k2,rfl,ir,b2⟩;obtain⟨m,hmm⟩:=aq (cU S cu cg dir nm);obtain⟨x,hx⟩:=aq (aV S cu cg dir nm);rw [<-hmm]at ir hp;rw [<-hx]at hm hp;rw [<-hmm,<-hx];obtain⟨W3,dg⟩:=aq (w2.alloc (.cells #[m.no,m.dev,m.kind,m.mode,m.uid,m.gid,m.mtime,m.ctime,m.ah,m.up,bs m.data,.slice A2 m.af.length k2] 58));obtain ⟨x_,yb⟩:∃b,b=w2.heap.size:=⟨_,rfl⟩;have km:Ext w2 W3:=by rw[dg];exact (Ext.refl _).alloc _
 have M3:Has W3 x_ (.cells #[m.no,m.dev,m.kind,m.mode,m.uid,m.gid,m.mtime,m.ctime,m.ah,m.up,bs m.data,.slice A2 m.af.length k2] 58):=by rw[dg,yb];exact Has.new _ _
 have E3:Ext w W3:=E0.trans (b2.trans km);have pg:=ir.ext km;have U3:w.heap.size<=x_:=by rw[yb];exact (E0.trans b2).size
 clear x0 x1 xz hmm hx C0;go_upto_region 2 with fail;rw [<-dg];rw [<-yb];clear dg yb
 by_cases hx0:x=0
 ·have t0:(x == 0)=true:=by simpa using hx0
  have oN:(x != 0)=false:=by simpa using hx0
  obtain ⟨oc,hid⟩:=hp.out hx0;have cF:Hid (eV S cu cg no dir nm=if aK S.nodes no=false then 5 else if (ac S.nodes no).kind=1 then 4 else if ¬bk m.af nm=0 then 7 else if ¬(ac S.nodes no).dev=m.dev then 11 else if 1000<=(ac S.nodes no).ah then 18 else 0):=by
   show _=_;rw[hm.out,if_neg (by simpa using hx0),<-oc]
  have Cq:=zH oc;have hen:=HO.out.bH dir;rw [<-oc]at hen;have xY:=zH hen;obtain ⟨_,_,cd,h3,_⟩:=id (h.ext E3);have v0:W3.cell? ⟨g.bW,0,none⟩=some (.pointer (some ⟨g.bT,0,none⟩)):=h3.cell 0;have z1:=h3.lt;clear hm hp hx0 oc hid hen h3;go_wp2_with fail;refine (fU B g.bT g.bM S.nodes S.last no _ (h.ext E3).2.1).mono ?_;rintro e w4 ⟨A4,k4,rfl,rY,b4⟩;obtain⟨n,hn⟩:=aq (ac S.nodes no);obtain⟨i,hi⟩:=aq (aK S.nodes no);have hlk:aK S.nodes no=true->1<=(ac S.nodes no).ah/\(ac S.nodes no).ah<=1000:=fun hi=>HO.out.ah _ (aj hi).2.2
  rw [<-hn,<-hi]at hlk;rw [<-hn]at rY cF;rw [<-hi]at cF;rw [<-hn,<-hi];have Z5:=zH hlk;obtain⟨W5,lj⟩:=aq (w4.alloc (.cells #[n.no,n.dev,n.kind,n.mode,n.uid,n.gid,n.mtime,n.ctime,n.ah,n.up,bs n.data,.slice A4 n.af.length k4] 58));obtain ⟨mP,qG⟩:∃b,b=w4.heap.size:=⟨_,rfl⟩;have Mv:Ext w4 W5:=by rw[lj];exact (Ext.refl _).alloc _
  have N5:Has W5 mP (.cells #[n.no,n.dev,n.kind,n.mode,n.uid,n.gid,n.mtime,n.ctime,n.ah,n.up,bs n.data,.slice A4 n.af.length k4] 58):=by rw[lj,qG];exact Has.new _ _
  have NS:Ext W3 W5:=b4.trans Mv;have M5:=M3.ext NS;have xN:=pg.ext NS;have xZ:=rY.ext Mv;have E5:=E3.trans NS;have U4:W3.heap.size<=mP:=by rw[qG];exact b4.size
  have Z6:x_<mP:=by have:=M3.lt;omega
  have u9:=zH hn;have HI:=zH hi;clear v0 z1 hn hi M3 pg rY E3 hlk;go_upto_region 5 with fail;rw [<-lj];rw [<-qG];clear lj qG
  cases i
  ·have hE:Hid (eV S cu cg no dir nm=5):=by show _=_;rw[cF.out];rfl
   clear cF;go_wp2_with fail;go_ret;exact HS.out _ _ E5 hE.out (by decide)
  have NQ:W5.cell? ⟨mP,2,none⟩=some (.int .i64 n.kind):=N5.cell 2;have kz:=N5.lt
  by_cases c1:n.kind=1
  ·have t1:(n.kind == 1)=true:=by simpa using c1
   have hE:Hid (eV S cu cg no dir nm=4):=by show _=_;rw[cF.out,if_neg (by decide),if_pos c1]
   clear cF;go_wp2_with fail;go_ret;exact HS.out _ _ E5 hE.out (by decide)
  have t1:(n.kind == 1)=false:=by simpa using c1
  have CC:W5.cell? ⟨x_,11,none⟩=some (.slice A2 m.af.length k2):=M5.cell 11;have Z7:=M5.lt;have Hk:=zH c1;clear c1;go_wp2_with fail;refine (pk A2 m.af k2 nm _ xN.af.af xY.out.1 (by have:=xY.out.2;omega)).mono ?_;rw [kT xY.out.1];rintro e w6 ⟨rfl,b6⟩;obtain⟨v,hv⟩:=aq (bk m.af nm);rw [<-hv]at cF;rw [<-hv];have N6:=N5.ext b6;have M6:=M5.ext b6;have rZ:=xN.ext b6;have Jz:=xZ.ext b6;have E6:=E5.trans b6;clear hv NQ kz CC Z7 N5 M5 xN xZ
  by_cases c2:v=0
  case neg =>
   have t2:(v == 0)=false:=by simpa using c2
   have NR:(v != 0)=true:=by simpa using c2
   have hE:Hid (eV S cu cg no dir nm=7):=by show _=_;rw[cF.out,if_neg (by decide),if_neg Hk.out,if_pos c2]
   clear cF c2;go_wp2_with fail;go_ret;exact HS.out _ _ E6 hE.out (by decide)
  have t2:(v == 0)=true:=by simpa using c2
  have NR:(v != 0)=false:=by simpa using c2
  have y1:w6.cell? ⟨mP,1,none⟩=some (.int .i64 n.dev):=N6.cell 1;have y2:w6.cell? ⟨x_,1,none⟩=some (.int .i64 m.dev):=M6.cell 1;have y3:w6.cell? ⟨mP,8,none⟩=some (.int .i64 n.ah):=N6.cell 8;have yz:=N6.lt;have Yk:=M6.lt;have qE:=zH (show ¬¬v=0 by simpa using c2);clear c2
  by_cases c3:n.dev=m.dev
  case neg =>
   have t3:(n.dev == m.dev)=false:=by simpa using c3
   have Z8:(n.dev != m.dev)=true:=by simpa using c3
   have hE:Hid (eV S cu cg no dir nm=11):=by show _=_;rw[cF.out,if_neg (by decide),if_neg Hk.out,if_neg qE.out,if_pos c3]
   clear cF c3;go_wp2_with fail;go_ret;exact HS.out _ _ E6 hE.out (by decide)
  have t3:(n.dev == m.dev)=true:=by simpa using c3
  have Z8:(n.dev != m.dev)=false:=by simpa using c3
  have U5:=zH (show ¬¬n.dev=m.dev by simpa using c3);clear c3
  by_cases c4:1000<=n.ah
  ·have t4:decide (1000<=n.ah)=true:=decide_eq_true c4
   have hE:Hid (eV S cu cg no dir nm=18):=by show _=_;rw[cF.out,if_neg (by decide),if_neg Hk.out,if_neg qE.out,if_neg U5.out,if_pos c4]
   clear cF c4;go_wp2_with fail;go_ret;exact HS.out _ _ E6 hE.out (by decide)
  have t4:decide (1000<=n.ah)=false:=decide_eq_false c4;have hE:Hid (eV S cu cg no dir nm=0):=by show _=_;rw[cF.out,if_neg (by decide),if_neg Hk.out,if_neg qE.out,if_neg U5.out,if_neg c4]
  have i_:=(Z5.out (by trivial)).1;have y4:IntKind.i64.wrap (n.ah+1)=n.ah+1:=bQ (by omega) (by omega);have yf:∀i,w6.frozen? ⟨mP,i,none⟩=false:=fun i=>(N6.free i).trans (by simp)
  have y7:w6.cell? ⟨mP,7,none⟩=some (.int .i64 n.ctime):=N6.cell 7;obtain ⟨n',hn'⟩:∃n':ai,n'={n with ah:=n.ah+1,ctime:=now}:=⟨_,rfl⟩;have Jv:=zH hn';clear cF c4 i_ hn';go_upto_region 17 with fail;obtain⟨V,hV⟩:=aq ((w6.setCell ⟨mP,8,none⟩ (.int .i64 (n.ah+1))).setCell ⟨mP,7,none⟩ (.int .i64 now));rw [<-hV];have NV:Has V mP (.cells #[.int .i64 (n').no,.int .i64 (n').dev,.int .i64 (n').kind,.int .i64 (n').mode,.int .i64 (n').uid,.int .i64 (n').gid,.int .i64 (n').mtime,.int .i64 (n').ctime,.int .i64 (n').ah,.int .i64 (n').up,.string (bs (n').data),.slice A4 (n').af.length k4] 58):=by rw[hV,Jv.out];exact (N6.setCell 8 _).setCell 7 _
  have OV:Only [mP] w6 V:=by rw[hV];exact (Only.setCell _ _ _ _).then (Only.setCell _ _ _ _)
  have U6:cY w6 B [mP]:=by
   intro b hb;rw [List.mem_singleton]at hb;subst hb;exact ⟨by have:=h.1;have:=h.lt.1;have:=E0.size;have:=NS.size;omega,N6.fT (by decide)⟩
  have EV:Ext w V:=OV.after E6 (by intro b hb;rw[List.mem_singleton]at hb;omega);have KV:=h.ext EV;have MV:=OV.has M6 (by rw[List.mem_singleton];omega);have xO:=rZ.only OV U6;have Rk:ax V B n' A4 k4:=(Jz.only OV U6).same (by rw[Jv.out]);clear hV y1 y2 y3 y4 yf y7 yz Yk N6 M6 rZ Jz;obtain ⟨_,_,cdV,Rg,_⟩:=id KV;have v0:V.cell? ⟨g.bW,0,none⟩=some (.pointer (some ⟨g.bT,0,none⟩)):=Rg.cell 0;have vz:=Rg.lt;obtain ⟨x0,x1,x2,x3,x4,x5,x6,x7,x8,x9,rO,rP⟩:=NV.dP;have zN:=NV.lt;clear Rg;go_still_tail 5,(by kernel_rfl);change wpList _ _ _ _ _ V.drew;go_wp2_with fail;have ED:Ext V V.drew:=(Ext.refl _).drew;refine (mL B g S n' A4 k4 _ (KV.ext ED) HO.out.live.aC (Rk.ext ED)).mono ?_;rintro e w7 ⟨rfl,K7,O7⟩;have JA:x_∉g.list:=by
   have UY:=h.lt;simp only[bJ.list,List.mem_cons,List.not_mem_nil,or_false];omega
  have M7:=O7.has (MV.ext ED) JA;have xH:=(xO.ext ED).only O7 (KV.ext ED).apart;have Z9:Only g.list w w7:=Only.pre (EV.trans ED) O7;obtain⟨T,hT⟩:=aq (aJ S n');rw [<-hT]at K7;have Ri:aD T.nodes T.last:=by rw[hT];exact HO.out.live.aC.set _
  have HT:=zH hT;have CC:w7.cell? ⟨x_,11,none⟩=some (.slice A2 m.af.length k2):=M7.cell 11;have kz:=M7.lt;clear v0 vz x0 x1 x2 x3 x4 x5 x6 x7 x8 x9 rO rP zN hT;go_wp2_with fail;refine (DW A2 m.af k2 nm no _ xH.af.af xH.nil xY.out.1 xH.cap xH.max (by have:=xY.out.2;omega)).mono ?_;rintro e w8 ⟨v8,rfl,hown,Em⟩;rw [qi _ _ _ xY.out.1]at hown;obtain ⟨A8,c8,rfl,q1,q2,q3,q4⟩:=hown.D2 (B:=B);obtain ⟨L8,Rl⟩:∃L,L=dq m.af (nm,no):=⟨_,rfl⟩;rw [<-Rl]at q1 q3|-;have Rj:Hid (Calls Tryz.prog 126 #[.pointer (some ⟨g.bW,0,none⟩),.int .i64 dir,.int .i64 now,.slice A8 L8.length c8] w8 (Cz w8 B g (cI T dir now L8))):=tF B g T dir now A8 L8 c8 w8 (K7.ext Em) Ri q3 q1 q2 q4;have Z_:=zH Rl;clear CC kz hown q1 q2 q3 q4 Rl;go_wp2_with fail;refine Rj.out.mono ?_;rintro e w9 ⟨rfl,K9,O9⟩;go_wp2_with fail;go_ret;rw [hE.out];have e3:eW S cu cg now no dir nm=cI T dir now L8:=by
   unfold eW cy;rw [if_pos hE.out,HT.out,Z_.out,Jv.out,u9.out,Cq.out]
  exact ⟨rfl,by rw[e3];exact K9,(Z9.ext Em).then O9⟩
 ·have t0:(x == 0)=false:=by simpa using hx0
  have oN:(x != 0)=true:=by simpa using hx0
  have hE:Hid (eV S cu cg no dir nm=x):=by show _=_;rw[hm.out,if_pos hx0]
  have HX:=zH hx0;clear hm hx0;go_wp2_with fail;go_ret;exact HS.out _ _ E3 hE.out HX.out
theorem oO (B:Nat) (g:cE) (S:aa) (X:cQ) (cu cg no:Int) (w:World) (h:gU w B g S X) (mB:S.nodes.length<=1000000) (hu:aD S.nodes S.last) :
  Calls Tryz.prog 92 #[.pointer (some ⟨g.bF,0,none⟩),.agg #[cu,cg],.int .i64 no] w (aH w (.int .i64 (dW S cu no))):=by
 have E0:Ext w (w.alloc (.cells #[cu,cg] 27)):=(Ext.refl _).alloc _;have hm:Hid (dW S cu no=if aK S.nodes no=false then 5 else if gO cu (ac S.nodes no).uid=false then 4 else 0):=by show _=_;rfl
 have hz:aK S.nodes no=false->(ac S.nodes no).no=0:=fun hi=>by rw[(aZ hi).1];rfl
 have hz2:aK S.nodes no=true->(ac S.nodes no).no≠0:=fun hi=>by rw[(aj hi).2.1];have:=(hu.2 _ (aj hi).2.2).1;rw[(aj hi).2.1]at this;omega
 go_enter Tryz.func92,Tryz.ntmps92;go_wp2_with fail;refine (fc B g S X no _ (h.ext E0) mB hu).mono ?_;rintro e w2 ⟨A,c,rfl,ir,b2⟩;have C2:=(Has.new w (.cells #[cu,cg] 27)).ext b2;have E2:=E0.trans b2;obtain⟨m,hmm⟩:=aq (ac S.nodes no);obtain⟨i,hi⟩:=aq (aK S.nodes no);rw [<-hmm]at ir hm hz hz2;rw [<-hi]at hm hz hz2;rw [<-hmm];obtain⟨W3,dg⟩:=aq (w2.alloc (.cells #[m.no,m.dev,m.kind,m.mode,m.uid,m.gid,m.mtime,m.ctime,m.ah,m.up,bs m.data,.slice A m.af.length c] 58));obtain ⟨b7,vB⟩:∃b,b=w2.heap.size:=⟨_,rfl⟩;have km:Ext w2 W3:=by rw[dg];exact (Ext.refl _).alloc _
 have N3:Has W3 b7 (.cells #[m.no,m.dev,m.kind,m.mode,m.uid,m.gid,m.mtime,m.ctime,m.ah,m.up,bs m.data,.slice A m.af.length c] 58):=by rw[dg,vB];exact Has.new _ _
 have C3:=C2.ext km;have E3:=E2.trans km;have HZ:=zH hz;have Rm:=zH hz2;clear hmm hi hz hz2;go_upto_region 2 with fail;rw [<-dg];rw [<-vB];clear dg vB;have k0:W3.cell? ⟨b7,0,none⟩=some (.int .i64 m.no):=N3.cell 0;have kz:=N3.lt
 cases i
 ·have t0:(m.no == 0)=true:=by simpa using HZ.out rfl
  have hE:Hid (dW S cu no=5):=by show _=_;rw[hm.out];rfl
  clear hm;go_wp2_with fail;go_ret;exact aH.mk (aA hE.out.symm) E3
 ·have t0:(m.no == 0)=false:=by simpa using Rm.out rfl
  obtain⟨u,zx⟩:=aq (gO cu m.uid);rw [<-zx]at hm;have HU:=zH zx;have c0:W3.cell? ⟨w.heap.size,0,none⟩=some (.int .i64 cu):=C3.cell 0;have c1:W3.cell? ⟨w.heap.size,1,none⟩=some (.int .i64 cg):=C3.cell 1;have zc:=C3.lt;clear zx;go_wp2_with (refine aO rfl _ rfl b7 m A c rfl N3 ?_);refine (Fx cu cg _ _ _ _ m.uid _ _ _ _ _ _ _ _).mono ?_;rw [<-HU.out];rintro e w4 ⟨rfl,b4⟩
  cases u
  ·have hE:Hid (dW S cu no=4):=by show _=_;rw[hm.out];rfl
   clear hm;go_wp2_with fail;go_ret;exact aH.mk (aA hE.out.symm) (E3.trans b4)
  ·have hE:Hid (dW S cu no=0):=by show _=_;rw[hm.out];rfl
   clear hm;go_wp2_with fail;go_ret;exact aH.mk (aA hE.out.symm) (E3.trans b4)
theorem FR (B:Nat) (g:cE) (S:aa) (X:cQ) (cu cg no mode:Int) (w:World) (h:gU w B g S X) (mB:S.nodes.length<=1000000) (hu:aD S.nodes S.last) :
  Calls Tryz.prog 56 #[.pointer (some ⟨g.bF,0,none⟩),.agg #[cu,cg],.int .i64 no,.int .i64 mode] w (Cv w B g (dX S cu X.now no mode) X (eN S cu no mode)):=by
 have E0:Ext w (w.alloc (.cells #[cu,cg] 27)):=(Ext.refl _).alloc _;have hm:Hid (eN S cu no mode=if dW S cu no≠0 then dW S cu no else if mode<0\/1023<mode\/(ac S.nodes no).kind=3 then 1 else 0):=by show _=_;rfl
 have oa:Hid (dW S cu no=0->aK S.nodes no=true):=fun h0=>(gv h0).1
 have HS:Hid (∀(w':World) (x:Int),Ext w w'->eN S cu no mode=x->x≠0->Cv w B g (dX S cu X.now no mode) X (eN S cu no mode) (.returned (.int .i64 x)) w'):=by
  show ∀(w':World) (x:Int),_;intro w' x hE hx hx0;rw [hx];exact qB h hE (by unfold dX;rw[if_neg (by rw[hx];exact hx0)])
 go_enter Tryz.func56,Tryz.ntmps56;go_wp2_with fail;refine (oO B g S X cu cg no _ (h.ext E0) mB hu).mono ?_;rintro e w1 ⟨rfl,b1⟩;have E1:=E0.trans b1;have C1:=(Has.new w (.cells #[cu,cg] 27)).ext b1;obtain⟨x,hx⟩:=aq (dW S cu no);rw [<-hx]at hm oa;rw [<-hx];clear hx
 by_cases hx0:x=0
 ·have t0 : (x == 0)=true:=by simpa using hx0
  have oN:(x != 0)=false:=by simpa using hx0
  have HN:=zH ((aj (oa.out hx0)).2.1);have i6:Hid (eN S cu no mode=if mode<0\/1023<mode\/(ac S.nodes no).kind=3 then 1 else 0):=by show _=_;rw[hm.out,if_neg (by simpa using hx0)]
  clear hm oa hx0;have EG:=E1;go_wp2_with fail;refine (fc B g S X no _ (h.ext EG) mB hu).mono ?_;rintro e w2 ⟨A,c,rfl,ir,b2⟩;have E2:=EG.trans b2;obtain⟨m,hmm⟩:=aq (ac S.nodes no);rw [<-hmm]at ir HN i6;rw [<-hmm];have HM:=zH hmm;have nw:w2.cell? ⟨g.bF,3,none⟩=some (.int .i64 X.now):=by obtain⟨_,_,_,k,_⟩:=h.ext E2;exact k.cell 3
  have nz:=(h.ext E2).lt.1;clear hmm
  by_cases c1:mode<0
  ·have t1:decide (mode<0)=true:=decide_eq_true c1
   have hE:Hid (eN S cu no mode=1):=by show _=_;rw[i6.out,if_pos (.inl c1)]
   clear i6 c1;go_wp2_with fail;go_ret;exact HS.out _ _ (E2.alloc _) hE.out (by decide)
  ·have t1:decide (mode<0)=false:=decide_eq_false c1
   by_cases c2:1023<mode
   ·have t2:decide (1023<mode)=true:=decide_eq_true c2
    have hE:Hid (eN S cu no mode=1):=by show _=_;rw[i6.out,if_pos (.inr (.inl c2))]
    clear i6 c1 c2;go_wp2_with fail;go_ret;exact HS.out _ _ (E2.alloc _) hE.out (by decide)
   ·have t2:decide (1023<mode)=false:=decide_eq_false c2
    by_cases c3:m.kind=3
    ·have t3:(m.kind == 3)=true:=by simpa using c3
     have hE:Hid (eN S cu no mode=1):=by show _=_;rw[i6.out,if_pos (.inr (.inr c3))]
     clear i6 c1 c2 c3;go_wp2_with fail;go_ret;exact HS.out _ _ (E2.alloc _) hE.out (by decide)
    ·have t3:(m.kind == 3)=false:=by simpa using c3
     have hE:Hid (eN S cu no mode=0):=by show _=_;rw[i6.out,if_neg (by rintro (g'|g'|g')<;>contradiction)]
     clear i6 c1 c2 c3;go_upto_region 9 with fail;obtain ⟨n,hn⟩:∃n:ai,n={m with mode:=mode,ctime:=X.now}:=⟨_,rfl⟩;obtain⟨V,hV⟩:=aq (w2.alloc (.cells #[n.no,n.dev,n.kind,n.mode,n.uid,n.gid,n.mtime,n.ctime,n.ah,n.up,bs n.data,.slice A n.af.length c] 58));have lI:=hV;rw [hn]at lI;rw [<-lI];have NV:Has V w2.heap.size (.cells #[n.no,n.dev,n.kind,n.mode,n.uid,n.gid,n.mtime,n.ctime,n.ah,n.up,bs n.data,.slice A n.af.length c] 58):=by rw[hV];exact Has.new _ _
     have EV:Ext w V:=by rw[hV];exact E2.alloc _
     have xO:ax V B n A c:=((ir.ext (by rw[hV];exact (Ext.refl _).alloc _)).same (by rw[hn]));have u9:=zH hn;clear hV lI hn nw nz;go_wp2_with (refine aO rfl _ rfl w2.heap.size n A c rfl NV ?_);refine (mH B g S X n A c _ (h.ext EV) mB hu xO).mono ?_;rintro e w5 ⟨rfl,K5,O5⟩;go_wp2_with fail;go_ret;rw [hE.out];refine ⟨rfl,?_,Only.pre EV O5⟩;have:dX S cu X.now no mode=aJ S n:=by unfold dX;rw[if_pos hE.out,u9.out,HM.out]
     rw [this];exact K5
 ·have t0:(x == 0)=false:=by simpa using hx0
  have oN:(x != 0)=true:=by simpa using hx0
  have hE:Hid (eN S cu no mode=x):=by show _=_;rw[hm.out,if_pos hx0]
  have HX:=zH hx0;clear hm oa hx0;go_wp2_with fail;go_ret;exact HS.out _ _ E1 hE.out HX.out
theorem CD (B:Nat) (g:cE) (S:aa) (X:cQ) (cu cg no uid gid:Int) (w:World) (h:gU w B g S X) (mB:S.nodes.length<=1000000) (hu:aD S.nodes S.last) :
  Calls Tryz.prog 55 #[.pointer (some ⟨g.bF,0,none⟩),.agg #[cu,cg],.int .i64 no,.int .i64 uid,.int .i64 gid] w (Cv w B g (fj S cu X.now no uid gid) X (fF S cu no uid gid)):=by
 have E0:Ext w (w.alloc (.cells #[cu,cg] 27)):=(Ext.refl _).alloc _;have hm:Hid (fF S cu no uid gid=if dW S cu no≠0 then dW S cu no else if ¬cu=0 then 4 else if mK uid gid=false then 1 else 0):=by show _=_;rfl
 have oa:Hid (dW S cu no=0->aK S.nodes no=true):=fun h0=>(gv h0).1
 have HS:Hid (∀(w':World) (x:Int),Ext w w'->fF S cu no uid gid=x->x≠0->Cv w B g (fj S cu X.now no uid gid) X (fF S cu no uid gid) (.returned (.int .i64 x)) w'):=by
  show ∀(w':World) (x:Int),_;intro w' x hE hx hx0;rw [hx];exact qB h hE (by unfold fj;rw[if_neg (by rw[hx];exact hx0)])
 go_enter Tryz.func55,Tryz.ntmps55;go_wp2_with fail;refine (oO B g S X cu cg no _ (h.ext E0) mB hu).mono ?_;rintro e w1 ⟨rfl,b1⟩;have E1:=E0.trans b1;have C1:=(Has.new w (.cells #[cu,cg] 27)).ext b1;obtain⟨x,hx⟩:=aq (dW S cu no);rw [<-hx]at hm oa;rw [<-hx];clear hx
 by_cases hx0:x=0
 ·have t0:(x == 0)=true:=by simpa using hx0
  have oN:(x != 0)=false:=by simpa using hx0
  have HN:=zH ((aj (oa.out hx0)).2.1);have i6:Hid (fF S cu no uid gid=if ¬cu=0 then 4 else if mK uid gid=false then 1 else 0):=by show _=_;rw[hm.out,if_neg (by simpa using hx0)]
  clear hm oa hx0;have k0:w1.cell? ⟨w.heap.size,0,none⟩=some (.int .i64 cu):=C1.cell 0;have kz:=C1.lt
  by_cases c1:cu=0
  ·have t1:(cu == 0)=true:=by simpa using c1
   have vr:(cu != 0)=false:=by simpa using c1
   obtain⟨u,zx⟩:=aq (mK uid gid);rw [<-zx]at i6;have HU:=zH zx;have cF:Hid (fF S cu no uid gid=if u=false then 1 else 0):=by show _=_;rw[i6.out,if_neg (by simpa using c1)]
   clear i6 c1 zx;go_wp2_with fail;refine (Fw uid gid _).mono ?_;rw [<-HU.out];rintro e w1' ⟨rfl,PD⟩;have EG:=E1.trans PD;clear k0 kz
   cases u
   ·have hE:Hid (fF S cu no uid gid=1):=by show _=_;rw[cF.out];rfl
    clear cF;go_wp2_with fail;go_ret;exact HS.out _ _ EG hE.out (by decide)
   ·have hE:Hid (fF S cu no uid gid=0):=by show _=_;rw[cF.out];rfl
    clear cF;go_wp2_with fail;refine (fc B g S X no _ (h.ext EG) mB hu).mono ?_;rintro e w2 ⟨A,c,rfl,ir,b2⟩;have E2:=EG.trans b2;obtain⟨m,hmm⟩:=aq (ac S.nodes no);rw [<-hmm]at ir HN;rw [<-hmm];have HM:=zH hmm;have nw:w2.cell? ⟨g.bF,3,none⟩=some (.int .i64 X.now):=by obtain⟨_,_,_,k,_⟩:=h.ext E2;exact k.cell 3
    have nz:=(h.ext E2).lt.1;clear hmm;go_upto_region 12 with fail;obtain ⟨n,hn⟩:∃n:ai,n={m with uid:=uid,gid:=gid,ctime:=X.now}:=⟨_,rfl⟩;obtain⟨V,hV⟩:=aq (w2.alloc (.cells #[n.no,n.dev,n.kind,n.mode,n.uid,n.gid,n.mtime,n.ctime,n.ah,n.up,bs n.data,.slice A n.af.length c] 58));have lI:=hV;rw [hn]at lI;rw [<-lI];have NV:Has V w2.heap.size (.cells #[n.no,n.dev,n.kind,n.mode,n.uid,n.gid,n.mtime,n.ctime,n.ah,n.up,bs n.data,.slice A n.af.length c] 58):=by rw[hV];exact Has.new _ _
    have EV:Ext w V:=by rw[hV];exact E2.alloc _
    have xO:ax V B n A c:=((ir.ext (by rw[hV];exact (Ext.refl _).alloc _)).same (by rw[hn]));have u9:=zH hn;clear hV lI hn nw nz;go_wp2_with (refine aO rfl _ rfl w2.heap.size n A c rfl NV ?_);refine (mH B g S X n A c _ (h.ext EV) mB hu xO).mono ?_;rintro e w5 ⟨rfl,K5,O5⟩;go_wp2_with fail;go_ret;rw [hE.out];refine ⟨rfl,?_,Only.pre EV O5⟩;have:fj S cu X.now no uid gid=aJ S n:=by unfold fj;rw[if_pos hE.out,u9.out,HM.out]
    rw [this];exact K5
  ·have t1:(cu == 0)=false:=by simpa using c1
   have vr:(cu != 0)=true:=by simpa using c1
   have hE:Hid (fF S cu no uid gid=4):=by show _=_;rw[i6.out,if_pos c1]
   clear i6 c1;go_wp2_with fail;go_ret;exact HS.out _ _ E1 hE.out (by decide)
 ·have t0:(x == 0)=false:=by simpa using hx0
  have oN:(x != 0)=true:=by simpa using hx0
  have hE:Hid (fF S cu no uid gid=x):=by show _=_;rw[hm.out,if_pos hx0]
  have HX:=zH hx0;clear hm oa hx0;go_wp2_with fail;go_ret;exact HS.out _ _ E1 hE.out HX.out
theorem FT (B:Nat) (g:cE) (S:aa) (X:cQ) (cu cg no mt:Int) (w:World) (h:gU w B g S X) (mB:S.nodes.length<=1000000) (hu:aD S.nodes S.last) :
  Calls Tryz.prog 57 #[.pointer (some ⟨g.bF,0,none⟩),.agg #[cu,cg],.int .i64 no,.int .i64 mt] w (Cv w B g (ef S cu X.now no mt) X (fq S cu no mt)):=by
 have E0:Ext w (w.alloc (.cells #[cu,cg] 27)):=(Ext.refl _).alloc _;have hm:Hid (fq S cu no mt=if dW S cu no≠0 then dW S cu no else if mt<0\/253402300799<mt then 1 else 0):=by show _=_;rfl
 have oa:Hid (dW S cu no=0->aK S.nodes no=true):=fun h0=>(gv h0).1
 have HS:Hid (∀(w':World) (x:Int),Ext w w'->fq S cu no mt=x->x≠0->Cv w B g (ef S cu X.now no mt) X (fq S cu no mt) (.returned (.int .i64 x)) w'):=by
  show ∀(w':World) (x:Int),_;intro w' x hE hx hx0;rw [hx];exact qB h hE (by unfold ef;rw[if_neg (by rw[hx];exact hx0)])
 go_enter Tryz.func57,Tryz.ntmps57;go_wp2_with fail;refine (oO B g S X cu cg no _ (h.ext E0) mB hu).mono ?_;rintro e w1 ⟨rfl,b1⟩;have E1:=E0.trans b1;have C1:=(Has.new w (.cells #[cu,cg] 27)).ext b1;obtain⟨x,hx⟩:=aq (dW S cu no);rw [<-hx]at hm oa;rw [<-hx];clear hx
 by_cases hx0:x=0
 ·have t0:(x == 0)=true:=by simpa using hx0
  have oN:(x != 0)=false:=by simpa using hx0
  have HN:=zH ((aj (oa.out hx0)).2.1);have i6:Hid (fq S cu no mt=if mt<0\/253402300799<mt then 1 else 0):=by show _=_;rw[hm.out,if_neg (by simpa using hx0)]
  clear hm oa hx0;have EG:=E1
  by_cases c1:mt<0
  ·have t1:decide (mt<0)=true:=decide_eq_true c1
   have hE:Hid (fq S cu no mt=1):=by show _=_;rw[i6.out,if_pos (.inl c1)]
   clear i6 c1;go_wp2_with fail;go_ret;exact HS.out _ _ E1 hE.out (by decide)
  ·have t1:decide (mt<0)=false:=decide_eq_false c1
   by_cases c2:253402300799<mt
   ·have t2:decide (253402300799<mt)=true:=decide_eq_true c2
    have hE:Hid (fq S cu no mt=1):=by show _=_;rw[i6.out,if_pos (.inr c2)]
    clear i6 c1 c2;go_wp2_with fail;go_ret;exact HS.out _ _ E1 hE.out (by decide)
   ·have t2:decide (253402300799<mt)=false:=decide_eq_false c2
    have hE:Hid (fq S cu no mt=0):=by show _=_;rw[i6.out,if_neg (by rintro (g'|g')<;>contradiction)]
    clear i6 c1 c2;go_wp2_with fail;refine (fc B g S X no _ (h.ext EG) mB hu).mono ?_;rintro e w2 ⟨A,c,rfl,ir,b2⟩;have E2:=EG.trans b2;obtain⟨m,hmm⟩:=aq (ac S.nodes no);rw [<-hmm]at ir HN;rw [<-hmm];have HM:=zH hmm;have nw:w2.cell? ⟨g.bF,3,none⟩=some (.int .i64 X.now):=by obtain⟨_,_,_,k,_⟩:=h.ext E2;exact k.cell 3
    have nz:=(h.ext E2).lt.1;clear hmm;go_upto_region 9 with fail;obtain ⟨n,hn⟩:∃n:ai,n={m with mtime:=mt,ctime:=X.now}:=⟨_,rfl⟩;obtain⟨V,hV⟩:=aq (w2.alloc (.cells #[n.no,n.dev,n.kind,n.mode,n.uid,n.gid,n.mtime,n.ctime,n.ah,n.up,bs n.data,.slice A n.af.length c] 58));have lI:=hV;rw [hn]at lI;rw [<-lI];have NV:Has V w2.heap.size (.cells #[n.no,n.dev,n.kind,n.mode,n.uid,n.gid,n.mtime,n.ctime,n.ah,n.up,bs n.data,.slice A n.af.length c] 58):=by rw[hV];exact Has.new _ _
    have EV:Ext w V:=by rw[hV];exact E2.alloc _
    have xO:ax V B n A c:=((ir.ext (by rw[hV];exact (Ext.refl _).alloc _)).same (by rw[hn]));have u9:=zH hn;clear hV lI hn nw nz;go_wp2_with (refine aO rfl _ rfl w2.heap.size n A c rfl NV ?_);refine (mH B g S X n A c _ (h.ext EV) mB hu xO).mono ?_;rintro e w5 ⟨rfl,K5,O5⟩;go_wp2_with fail;go_ret;rw [hE.out];refine ⟨rfl,?_,Only.pre EV O5⟩;have:ef S cu X.now no mt=aJ S n:=by unfold ef;rw[if_pos hE.out,u9.out,HM.out]
    rw [this];exact K5
 ·have t0:(x == 0)=false:=by simpa using hx0
  have oN:(x != 0)=true:=by simpa using hx0
  have hE:Hid (fq S cu no mt=x):=by show _=_;rw[hm.out,if_pos hx0]
  have HX:=zH hx0;clear hm oa hx0;go_wp2_with fail;go_ret;exact HS.out _ _ E1 hE.out HX.out
def bf (S:aa) (cu cg no kind want:Int):Int:=
 if aK S.nodes no=false then 5
 else if (ac S.nodes no).kind=kind then (if fy cu cg (ac S.nodes no).uid (ac S.nodes no).gid (ac S.nodes no).mode want=false then 6 else 0)
 else if kind=1 then 9 else if (ac S.nodes no).kind=1 then 8 else 1
def aT (S:aa) (cu cg no kind want:Int):ai:=if bf S cu cg no kind want=0 then ac S.nodes no else ae
def PV (w:World) (B:Nat) (S:aa) (cu cg no kind want:Int) (e:Ending) (w':World):Prop:=
 ∃ A c,e=.returned (.tuple #[.agg #[.int .i64 (aT S cu cg no kind want).no,.int .i64 (aT S cu cg no kind want).dev,.int .i64 (aT S cu cg no kind want).kind,.int .i64 (aT S cu cg no kind want).mode,.int .i64 (aT S cu cg no kind want).uid,.int .i64 (aT S cu cg no kind want).gid,.int .i64 (aT S cu cg no kind want).mtime,.int .i64 (aT S cu cg no kind want).ctime,.int .i64 (aT S cu cg no kind want).ah,.int .i64 (aT S cu cg no kind want).up,.string (bs (aT S cu cg no kind want).data),.slice A (aT S cu cg no kind want).af.length c],.int .i64 (bf S cu cg no kind want)])/\ax w' B (aT S cu cg no kind want) A c/\Ext w w'
theorem nr (B:Nat) (g:bJ) (S:aa) (cu cg no kind want:Int) (w:World) (h:ep w B g S) (hd:0<S.ag.length) :
  Calls Tryz.prog 129 #[.pointer (some ⟨g.bW,0,none⟩),.agg #[cu,cg],.int .i64 no,.int .i64 kind,.int .i64 want] w (PV w B S cu cg no kind want):=by
 have h0:=h;obtain ⟨h1,h2,cd,h3,h4⟩:=h;have jF:((S.ag.length:Int) == 0)=false:=by simpa using (show ¬(S.ag.length:Int)=0 by omega)
 have E0:Ext w ((w.alloc (.cells #[cu,cg] 27)).alloc (.cells #[.int .i64 0,.int .i64 0,.int .i64 0,.int .i64 0,.int .i64 0,.int .i64 0,.int .i64 0,.int .i64 0,.int .i64 0,.int .i64 0,.string ⟨#[]⟩,.slice none 0 0] 58)):=((Ext.refl _).alloc _).alloc _;go_enter Tryz.func129,Tryz.ntmps129;go_wp2_with fail;refine (lw B g S _ (h0.ext E0) hd).mono ?_;rintro e w1 ⟨rfl,b1⟩;have E1:=E0.trans b1;have R0:=Has.new (w.alloc (.cells #[cu,cg] 27)) (.cells #[ae.no,ae.dev,ae.kind,ae.mode,ae.uid,ae.gid,ae.mtime,ae.ctime,ae.ah,ae.up,bs ae.data,.slice none ae.af.length 0] 58);rw [World.size_alloc]at R0;have R1:=R0.ext b1;have C1:=((Has.new w (.cells #[cu,cg] 27)).alloc (.cells #[.int .i64 0,.int .i64 0,.int .i64 0,.int .i64 0,.int .i64 0,.int .i64 0,.int .i64 0,.int .i64 0,.int .i64 0,.int .i64 0,.string ⟨#[]⟩,.slice none 0 0] 58)).ext b1;have v0:w1.cell? ⟨g.bW,0,none⟩=some (.pointer (some ⟨g.bT,0,none⟩)):=(h3.ext E1).cell 0;have z1:=(h3.ext E1).lt;go_wp2_with fail;refine (fU B g.bT g.bM S.nodes S.last no _ (h2.ext E1)).mono ?_;rintro e w2 ⟨A2,k2,rfl,ir,b2⟩;have R2:=R1.ext b2;have C2:=C1.ext b2;have hm:Hid (bf S cu cg no kind want=if aK S.nodes no=false then 5
  else if (ac S.nodes no).kind=kind then (if fy cu cg (ac S.nodes no).uid (ac S.nodes no).gid (ac S.nodes no).mode want=false then 6 else 0)
  else if kind=1 then 9 else if (ac S.nodes no).kind=1 then 8 else 1):=by show _=_;rfl
 have cF:Hid (aT S cu cg no kind want=if bf S cu cg no kind want=0 then ac S.nodes no else ae):=by show _=_;rfl
 obtain⟨m,hmm⟩:=aq (ac S.nodes no);rw [<-hmm]at ir hm cF|-;obtain⟨W3,dg⟩:=aq (w2.alloc (.cells #[m.no,m.dev,m.kind,m.mode,m.uid,m.gid,m.mtime,m.ctime,m.ah,m.up,bs m.data,.slice A2 m.af.length k2] 58));have km:Ext w2 W3:=by rw[dg];exact (Ext.refl _).alloc _
 have N3:Has W3 w2.heap.size (.cells #[m.no,m.dev,m.kind,m.mode,m.uid,m.gid,m.mtime,m.ctime,m.ah,m.up,bs m.data,.slice A2 m.af.length k2] 58):=by rw[dg];exact Has.new _ _
 have R3:=R2.ext km;have C3:=C2.ext km;have E3:Ext w W3:=(E1.trans b2).trans km;obtain⟨b8,fP⟩:=aq w2.heap.size;obtain⟨i,hi⟩:=aq (aK S.nodes no);rw [<-hi]at hm|-;clear hmm hi R1 C1 R2 C2 v0;go_upto_region 4 with fail;rw [<-dg];rw [<-fP]at N3|-;have pg:=ir.ext km;clear dg fP km;have HS:Hid (∀(w5 w6:World) (x:Int),Ext w w5->Only [w.heap.size+1] w5 w6->bf S cu cg no kind want=x->x≠0->PV w B S cu cg no kind want (.returned (.tuple #[.agg #[ae.no,ae.dev,ae.kind,ae.mode,ae.uid,ae.gid,ae.mtime,ae.ctime,ae.ah,ae.up,bs ae.data,.slice none ae.af.length 0],.int .i64 x])) w6):=by
  show ∀(w5 w6:World) (x:Int),_;intro w5 w6 x hE hO hx hx0;have hN:aT S cu cg no kind want=ae:=by rw[cF.out,if_neg (by rw[hx];exact hx0)]
  exact ⟨none,0,by rw[hx,hN],by rw[hN];exact ax.zero _ _,hO.after hE (by simp)⟩
 have NQ:W3.cell? ⟨b8,2,none⟩=some (.int .i64 m.kind):=N3.cell 2;have kz:=N3.lt
 cases i
 ·have hE:Hid (bf S cu cg no kind want=5):=by show _=_;rw[hm.out];rfl
  clear hm;go_wp2_with (refine ay rfl _ _ rfl (w.heap.size+1) ae none 0 rfl rfl R3 ?_;intro w9 R9 O9);refine bodyPost_ret (v:=.tuple #[.agg #[ae.no,ae.dev,ae.kind,ae.mode,ae.uid,ae.gid,ae.mtime,ae.ctime,ae.ah,ae.up,bs ae.data,.slice none ae.af.length 0],.int .i64 5]) (dm Tryz.results129 _ _ (w.heap.size+1) ae none 0 _ rfl rfl R9) rfl ?_;exact HS.out _ _ _ E3 O9 hE.out (by decide)
 ·by_cases c1:m.kind=kind
  ·have t1:(m.kind == kind)=true:=by simpa using c1
   have vr:(m.kind != kind)=false:=by simpa using c1
   obtain⟨u,zx⟩:=aq (fy cu cg m.uid m.gid m.mode want);have mC:Hid (bf S cu cg no kind want=if u=false then 6 else 0):=by show _=_;rw[hm.out,if_neg (by decide),if_pos c1,zx]
   have HU:=zH zx;have x0:W3.cell? ⟨w.heap.size,0,none⟩=some (.int .i64 cu):=C3.cell 0;have x1:W3.cell? ⟨w.heap.size,1,none⟩=some (.int .i64 cg):=C3.cell 1;have xz:=C3.lt;clear hm zx c1;obtain ⟨n0,n1,n2,n3,n4,n5,n6,n7,n8,n9,CE,zT⟩:=N3.dP;go_wp2_with fail;refine (qy cu cg _ _ _ m.mode m.uid m.gid _ _ _ _ _ _ want _).mono ?_;rw [<-HU.out];rintro e w5 ⟨rfl,b5⟩;have R5:=R3.ext b5;have N5:=N3.ext b5;have E5:=E3.trans b5;have abY:w5.cell? ⟨b8,2,none⟩=some (.int .i64 m.kind):=N5.cell 2;have abZ:=N5.lt;clear x0 x1 xz NQ kz R3 N3 n0 n1 n2 n3 n4 n5 n6 n7 n8 n9 CE zT
   cases u
   ·have hE:Hid (bf S cu cg no kind want=6):=by show _=_;rw[mC.out];rfl
    clear mC;go_wp2_with (refine ay rfl _ _ rfl (w.heap.size+1) ae none 0 rfl rfl R5 ?_;intro w9 R9 O9);refine bodyPost_ret (v:=.tuple #[.agg #[ae.no,ae.dev,ae.kind,ae.mode,ae.uid,ae.gid,ae.mtime,ae.ctime,ae.ah,ae.up,bs ae.data,.slice none ae.af.length 0],.int .i64 6]) (dm Tryz.results129 _ _ (w.heap.size+1) ae none 0 _ rfl rfl R9) rfl ?_;exact HS.out _ _ _ E5 O9 hE.out (by decide)
   ·have hE:Hid (bf S cu cg no kind want=0):=by show _=_;rw[mC.out];rfl
    have hN:Hid (aT S cu cg no kind want=m):=by show _=_;rw[cF.out,hE.out];rfl
    clear mC;go_wp2_with (first|(refine aO rfl _ rfl b8 m A2 k2 rfl N5 ?_)|(refine ay rfl _ _ rfl (w.heap.size+1) m A2 k2 rfl rfl R5 ?_;intro w6 R6 O6));refine bodyPost_ret (v:=.tuple #[.agg #[m.no,m.dev,m.kind,m.mode,m.uid,m.gid,m.mtime,m.ctime,m.ah,m.up,bs m.data,.slice A2 m.af.length k2],.int .i64 0]) (dm Tryz.results129 _ _ (w.heap.size+1) m A2 k2 _ rfl rfl R6) rfl ?_;have rZ:ax w6 B m A2 k2:=((pg.ext b5).only O6 (by
     intro b hb;rw [List.mem_singleton]at hb;subst hb;exact ⟨by have:=h0.1;have:=h0.lt.1;omega,R5.fT (by decide)⟩))
    exact ⟨A2,k2,by rw[hE.out,hN.out],by rw[hN.out];exact rZ,O6.after E5 (by simp)⟩
  ·have t1:(m.kind == kind)=false:=by simpa using c1
   have vr:(m.kind != kind)=true:=by simpa using c1
   by_cases c2:kind=1
   ·have t2:(kind == 1)=true:=by simpa using c2
    have hE:Hid (bf S cu cg no kind want=9):=by show _=_;rw[hm.out,if_neg (by decide),if_neg c1,if_pos c2]
    clear hm c1 c2;go_wp2_with (refine ay rfl _ _ rfl (w.heap.size+1) ae none 0 rfl rfl R3 ?_;intro w9 R9 O9);refine bodyPost_ret (v:=.tuple #[.agg #[ae.no,ae.dev,ae.kind,ae.mode,ae.uid,ae.gid,ae.mtime,ae.ctime,ae.ah,ae.up,bs ae.data,.slice none ae.af.length 0],.int .i64 9]) (dm Tryz.results129 _ _ (w.heap.size+1) ae none 0 _ rfl rfl R9) rfl ?_;exact HS.out _ _ _ E3 O9 hE.out (by decide)
   ·have t2:(kind == 1)=false:=by simpa using c2
    by_cases c3:m.kind=1
    ·have t3:(m.kind == 1)=true:=by simpa using c3
     have hE:Hid (bf S cu cg no kind want=8):=by show _=_;rw[hm.out,if_neg (by decide),if_neg c1,if_neg c2,if_pos c3]
     clear hm c1 c2 c3;go_wp2_with (refine ay rfl _ _ rfl (w.heap.size+1) ae none 0 rfl rfl R3 ?_;intro w9 R9 O9);refine bodyPost_ret (v:=.tuple #[.agg #[ae.no,ae.dev,ae.kind,ae.mode,ae.uid,ae.gid,ae.mtime,ae.ctime,ae.ah,ae.up,bs ae.data,.slice none ae.af.length 0],.int .i64 8]) (dm Tryz.results129 _ _ (w.heap.size+1) ae none 0 _ rfl rfl R9) rfl ?_;exact HS.out _ _ _ E3 O9 hE.out (by decide)
    ·have t3:(m.kind == 1)=false:=by simpa using c3
     have hE:Hid (bf S cu cg no kind want=1):=by show _=_;rw[hm.out,if_neg (by decide),if_neg c1,if_neg c2,if_neg c3]
     clear hm c1 c2 c3;go_wp2_with (refine ay rfl _ _ rfl (w.heap.size+1) ae none 0 rfl rfl R3 ?_;intro w9 R9 O9);refine bodyPost_ret (v:=.tuple #[.agg #[ae.no,ae.dev,ae.kind,ae.mode,ae.uid,ae.gid,ae.mtime,ae.ctime,ae.ah,ae.up,bs ae.data,.slice none ae.af.length 0],.int .i64 1]) (dm Tryz.results129 _ _ (w.heap.size+1) ae none 0 _ rfl rfl R9) rfl ?_;exact HS.out _ _ _ E3 O9 hE.out (by decide)
def iz (S:aa) (cu cg dir:Int) (nm:List UInt8):Int:=
 if bf S cu cg dir 1 1=0 then (if bk (aT S cu cg dir 1 1).af nm=0 then 5 else 0) else bf S cu cg dir 1 1
def kH (S:aa) (cu cg dir:Int) (nm:List UInt8):Int:=if iz S cu cg dir nm=0 then ar S.ag (bk (aT S cu cg dir 1 1).af nm) else 0
theorem dC.aT {c:Nat} {S:aa} (h:dC c S) (cu cg no kind want:Int):iH (aT S cu cg no kind want).af/\(Proofs.YtblbohcaphcobaaGreatDoor.aT S cu cg no kind want).af.length<=c:=by
 unfold Proofs.YtblbohcaphcobaaGreatDoor.aT;split
 ·exact h.ac no
 ·exact⟨List.Pairwise.nil,Nat.zero_le _⟩
theorem FU {c:Nat} (B:Nat) (g:bJ) (S:aa) (cu cg dir:Int) (nm:List UInt8) (w:World) (h:ep w B g S) (T:dC c S) (hc:c<=1000000) (_hl:S.last<=100000) :
  Calls Tryz.prog 131 #[.pointer (some ⟨g.bW,0,none⟩),.agg #[cu,cg],.int .i64 dir,bs nm] w (aH w (.tuple #[.int .i64 (kH S cu cg dir nm),.int .i64 (iz S cu cg dir nm)])):=by
 have E0:Ext w (w.alloc (.cells #[cu,cg] 27)):=(Ext.refl _).alloc _;go_enter Tryz.func131,Tryz.ntmps131;go_wp2_with fail;refine (nr B g S cu cg dir 1 1 _ (h.ext E0) T.ag).mono ?_;rintro e w1 ⟨A,k,rfl,CG,b1⟩;have tI:=T.aT cu cg dir 1 1;have hE:Hid (iz S cu cg dir nm=if bf S cu cg dir 1 1=0 then (if bk (aT S cu cg dir 1 1).af nm=0 then 5 else 0) else bf S cu cg dir 1 1):=by show _=_;rfl
 have hN:Hid (kH S cu cg dir nm=if iz S cu cg dir nm=0 then ar S.ag (bk (aT S cu cg dir 1 1).af nm) else 0):=by show _=_;rfl
 obtain⟨m,hm⟩:=aq (aT S cu cg dir 1 1);obtain⟨x,hx⟩:=aq (bf S cu cg dir 1 1);rw [<-hm]at CG tI hE hN|-;rw [<-hx]at hE|-;have HR:=zH tI;obtain ⟨W2,du⟩:∃W,W=w1.alloc (.cells #[m.no,m.dev,m.kind,m.mode,m.uid,m.gid,m.mtime,m.ctime,m.ah,m.up,bs m.data,.slice A m.af.length k] 58):=⟨_,rfl⟩;obtain ⟨b8,fP⟩:∃b,b=w1.heap.size:=⟨_,rfl⟩;have N2:Has W2 b8 (.cells #[m.no,m.dev,m.kind,m.mode,m.uid,m.gid,m.mtime,m.ctime,m.ah,m.up,bs m.data,.slice A m.af.length k] 58):=by rw[du,fP];exact Has.new _ _
 have CH:Ext w1 W2:=by rw[du];exact (Ext.refl _).alloc _
 have HX:=zH ((E0.trans b1).trans CH);have ir:=CG.ext CH;clear hm hx tI CG CH;go_upto_region 2 with fail;rw [<-du,<-fP];clear du fP
 by_cases c0:x=0
 case neg =>
  have t0:(x == 0)=false:=by simpa using c0
  have oN:(x != 0)=true:=by simpa using c0
  have e1:Hid (iz S cu cg dir nm=x/\kH S cu cg dir nm=0):=by
   have h1:iz S cu cg dir nm=x:=by rw[hE.out,if_neg c0]
   exact zH ⟨h1,by rw[hN.out,h1,if_neg c0]⟩
  clear c0;go_wp2_with fail;go_ret2;exact aH.mk (by rw[e1.out.1,e1.out.2];rfl) HX.out
 have t0:(x == 0)=true:=by simpa using c0
 have oN:(x != 0)=false:=by simpa using c0
 have Jl:W2.cell? ⟨b8,11,none⟩=some (.slice A m.af.length k):=N2.cell 11;have yz:=N2.lt;have C0:=zH c0;clear c0;go_wp2_with fail;refine (pk A m.af k nm _ ir.af.af HR.out.1 (by have:=HR.out.2;omega)).mono ?_;rw [kT HR.out.1];rintro e w3 ⟨rfl,b3⟩;obtain⟨no,aU⟩:=aq (bk m.af nm);rw [<-aU]at hE hN|-;clear aU Jl yz
 by_cases c1:no=0
 ·have t1:(no == 0)=true:=by simpa using c1
  have e1:Hid (iz S cu cg dir nm=5/\kH S cu cg dir nm=0):=by
   have h1:iz S cu cg dir nm=5:=by rw[hE.out,if_pos C0.out,if_pos c1]
   exact zH ⟨h1,by rw[hN.out,h1,if_neg (by decide)]⟩
  clear c1;go_wp2_with fail;go_ret2;exact aH.mk (by rw[e1.out.1,e1.out.2];rfl) (HX.out.trans b3)
 ·have t1:(no == 0)=false:=by simpa using c1
  have e1:Hid (iz S cu cg dir nm=0/\kH S cu cg dir nm=ar S.ag no):=by
   have h1:iz S cu cg dir nm=0:=by rw[hE.out,if_pos C0.out,if_neg c1]
   exact zH ⟨h1,by rw[hN.out,h1,if_pos rfl]⟩
  clear c1;go_wp2_with fail;refine (gu B g S _ _ (h.ext (HX.out.trans b3)) (by have:=T.ag;omega) (by have:=T.eight;omega)).mono ?_;rintro e w4 ⟨rfl,b4⟩;go_wp2_with fail;go_ret2;exact aH.mk (by rw[e1.out.1,e1.out.2];rfl) ((HX.out.trans b3).trans b4)
theorem zU {c:Nat} (B:Nat) (g:bJ) (S:aa) (no:Int) (w:World) (h:ep w B g S) (T:dC c S) (_hl:S.last<=100000) :
  Calls Tryz.prog 102 #[.pointer (some ⟨g.bW,0,none⟩),.int .i64 no] w (aH w (.tuple #[.string (bs (aT S 0 0 no 3 0).data),.int .i64 (bf S 0 0 no 3 0)])):=by
 have E0:Ext w w:=Ext.refl _;go_enter Tryz.func102,Tryz.ntmps102;go_wp2_with fail;refine (nr B g S 0 0 no 3 0 _ (h.ext E0) T.ag).mono ?_;rintro e w1 ⟨A,k,rfl,CG,b1⟩;obtain⟨m,hm⟩:=aq (aT S 0 0 no 3 0);obtain⟨x,hx⟩:=aq (bf S 0 0 no 3 0);rw [<-hm,<-hx];obtain ⟨W2,du⟩:∃W,W=w1.alloc (.cells #[m.no,m.dev,m.kind,m.mode,m.uid,m.gid,m.mtime,m.ctime,m.ah,m.up,bs m.data,.slice A m.af.length k] 58):=⟨_,rfl⟩;obtain ⟨b8,fP⟩:∃b,b=w1.heap.size:=⟨_,rfl⟩;have N2:Has W2 b8 (.cells #[m.no,m.dev,m.kind,m.mode,m.uid,m.gid,m.mtime,m.ctime,m.ah,m.up,bs m.data,.slice A m.af.length k] 58):=by rw[du,fP];exact Has.new _ _
 have CH:Ext w1 W2:=by rw[du];exact (Ext.refl _).alloc _
 have HX:=zH ((E0.trans b1).trans CH);have oo:=zH hm;have PX:=zH hx;clear hm hx CG CH;go_upto_region 2 with fail;rw [<-du,<-fP];clear du fP;have yV:W2.cell? ⟨b8,10,none⟩=some (.string (bs m.data)):=N2.cell 10;have yz:=N2.lt;go_wp2_with fail;go_ret2;exact aH.mk (by rw[<-oo.out,<-PX.out];rfl) HX.out
theorem FV {c:Nat} (B:Nat) (g:bJ) (S:aa) (cu cg no:Int) (w:World) (h:ep w B g S) (T:dC c S) (_hl:S.last<=100000) :
  Calls Tryz.prog 100 #[.pointer (some ⟨g.bW,0,none⟩),.agg #[cu,cg],.int .i64 no] w (aH w (.tuple #[.string (bs (aT S cu cg no 2 4).data),.int .i64 (bf S cu cg no 2 4)])):=by
 have E0:Ext w (w.alloc (.cells #[cu,cg] 27)):=(Ext.refl _).alloc _;go_enter Tryz.func100,Tryz.ntmps100;go_wp2_with fail;refine (nr B g S cu cg no 2 4 _ (h.ext E0) T.ag).mono ?_;rintro e w1 ⟨A,k,rfl,CG,b1⟩;obtain⟨m,hm⟩:=aq (aT S cu cg no 2 4);obtain⟨x,hx⟩:=aq (bf S cu cg no 2 4);rw [<-hm,<-hx];obtain ⟨W2,du⟩:∃W,W=w1.alloc (.cells #[m.no,m.dev,m.kind,m.mode,m.uid,m.gid,m.mtime,m.ctime,m.ah,m.up,bs m.data,.slice A m.af.length k] 58):=⟨_,rfl⟩;obtain ⟨b8,fP⟩:∃b,b=w1.heap.size:=⟨_,rfl⟩;have N2:Has W2 b8 (.cells #[m.no,m.dev,m.kind,m.mode,m.uid,m.gid,m.mtime,m.ctime,m.ah,m.up,bs m.data,.slice A m.af.length k] 58):=by rw[du,fP];exact Has.new _ _
 have CH:Ext w1 W2:=by rw[du];exact (Ext.refl _).alloc _
 have HX:=zH ((E0.trans b1).trans CH);have oo:=zH hm;have PX:=zH hx;clear hm hx CG CH;go_upto_region 2 with fail;rw [<-du,<-fP];clear du fP;have yV:W2.cell? ⟨b8,10,none⟩=some (.string (bs m.data)):=N2.cell 10;have yz:=N2.lt;go_wp2_with fail;go_ret2;exact aH.mk (by rw[<-oo.out,<-PX.out];rfl) HX.out
end Go.Proofs.YtblbohcaphcobaaGreatDoor
