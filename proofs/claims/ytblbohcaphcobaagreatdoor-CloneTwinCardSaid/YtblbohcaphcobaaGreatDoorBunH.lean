import Derived.Test.YtblbohcaphcobaaGreatDoorBunG
import Derived.Test.YtblbohcaphcobaaGreatDoorBunE
import Derived.Test.YtblbohcaphcobaaGreatDoorBunD
import Derived.Test.YtblbohcaphcobaaGreatDoorBunC
set_option maxHeartbeats 8000000
set_option maxRecDepth 100000
namespace Go.Proofs.YtblbohcaphcobaaGreatDoor
section
def aZ (S:ac) (cu cg dir:Int) (nm:List UInt8):Int:=
 if aQ S.nodes dir=false then 5 else if ¬(aa S.nodes dir).kind=1 then 9 else if ¬cj nm=0 then cj nm
 else if fL cu cg (aa S.nodes dir).uid (aa S.nodes dir).gid (aa S.nodes dir).mode 3=false then 6 else 0
def cY (S:ac) (cu cg dir:Int) (nm:List UInt8):ai:=if aZ S cu cg dir nm=0 then aa S.nodes dir else ag
def cv (S:ac) (dir now:Int) (l:List ax):ai:={aa S.nodes dir with ae:=l,mtime:=now,ctime:=now}
def cI (S:ac) (dir now:Int) (l:List ax):ac:=aK S (cv S dir now l)
def bA (S:ac) (cu cg now dir:Int) (n:ai):ai:={n with dev:=(aa S.nodes dir).dev,uid:=cu,gid:=cg,mtime:=now,ctime:=now,ah:=1}
def bL (S:ac) (cu cg now dir:Int) (nm:List UInt8) (n:ai):Int:=
 if ¬aZ S cu cg dir nm=0 then aZ S cu cg dir nm else if ¬aO (aa S.nodes dir).ae nm=0 then 7 else eO S (bA S cu cg now dir n)
def dh (S:ac) (cu cg now dir:Int) (nm:List UInt8) (n:ai):Int:=if bL S cu cg now dir nm n=0 then S.last+1 else 0
def aX (S:ac) (cu cg now dir:Int) (nm:List UInt8) (n:ai):ac:=
 if bL S cu cg now dir nm n=0 then cI (bj S (bA S cu cg now dir n)) dir now (dk (aa S.nodes dir).ae (nm,S.last+1)) else S
def dV (mode dir:Int):ai:={ag with kind:=1,mode:=mode,up:=dir}
def cx (mode:Int) (data:List UInt8):ai:={ag with kind:=2,mode:=mode,data:=data}
def ep (text:List UInt8):ai:={ag with kind:=3,mode:=511,data:=text}
def lO (mode:Int):Int:=if mode<0\/1023<mode then 1 else 0
def gw (mode dl:Int):Int:=if mode<0\/1023<mode then 1 else if 1048576<dl then 3 else 0
def kP (text:List UInt8):Int:=if text=[]\/hasB text 0=true then 1 else if 4096<text.length then 13 else 0
def fQ (p e:Int):Int:=if ¬p=0 then p else e
def ig (p n:Int):Int:=if ¬p=0 then 0 else n
def dM (p:Int) (S T:ac):ac:=if ¬p=0 then S else T
def eP (S:ac) (cu cg no dir:Int) (nm:List UInt8):Int:=
 if ¬aZ S cu cg dir nm=0 then aZ S cu cg dir nm else if aQ S.nodes no=false then 5 else if (aa S.nodes no).kind=1 then 4
 else if ¬aO (aa S.nodes dir).ae nm=0 then 7 else if ¬(aa S.nodes no).dev=(aa S.nodes dir).dev then 11 else if 1000<=(aa S.nodes no).ah then 18 else 0
def bH (S:ac) (now no:Int):ai:={aa S.nodes no with ah:=(aa S.nodes no).ah+1,ctime:=now}
def dW (S:ac) (cu cg now no dir:Int) (nm:List UInt8):ac:=
 if eP S cu cg no dir nm=0 then cI (aK S (bH S now no)) dir now (dk (aa S.nodes dir).ae (nm,no)) else S
theorem aR {S:ac} {cu cg dir:Int} {nm:List UInt8} (h:aZ S cu cg dir nm=0):aQ S.nodes dir=true/\(aa S.nodes dir).kind=1/\cj nm=0:=by
 unfold aZ at h;split at h
 ·cases h
 ·rename_i h1
  split at h
  ·cases h
  ·rename_i h2
   split at h
   ·rename_i h3;exact absurd h h3
   ·rename_i h3
    exact ⟨by simpa using h1,Decidable.not_not.1 h2,Decidable.not_not.1 h3⟩
theorem k8 {S:ac} {cu cg dir:Int} {nm:List UInt8} (h:aZ S cu cg dir nm=0):cY S cu cg dir nm=aa S.nodes dir:=by unfold cY;rw[if_pos h]
theorem gx {S:ac} {cu cg now dir:Int} {nm:List UInt8} {n:ai} (h:bL S cu cg now dir nm n=0):aZ S cu cg dir nm=0/\aO (aa S.nodes dir).ae nm=0/\eO S (bA S cu cg now dir n)=0:=by
 unfold bL at h;split at h
 ·rename_i h1;exact absurd h h1
 ·rename_i h1
  split at h
  ·cases h
  ·rename_i h2;exact⟨Decidable.not_not.1 h1,Decidable.not_not.1 h2,h⟩
theorem jw {S:ac} (_hu:aI S.nodes S.last) (n:ai) {no:Int} (hi:aQ S.nodes no=true):aa (bj S n).nodes no=aa S.nodes no/\aQ (bj S n).nodes no=true:=by
 obtain ⟨_,e,hm⟩:=aj hi;unfold bj;split
 ·have hmem:aa S.nodes no∈S.nodes++[{n with no:=S.last+1}]:=List.mem_append_left _ hm
  obtain ⟨k,hk,ek⟩:=List.getElem_of_mem hm;have Rn:eY (S.nodes++[{n with no:=S.last+1}]) no=some (aa S.nodes no):=by
   unfold eY;rw [List.find?_append];have:=(aj hi).1;unfold eY at this;rw [this];rfl
  exact ⟨by show Option.getD (eY _ no) ag=_;rw[Rn];rfl,by show Option.isSome (eY _ no)=true;rw[Rn];rfl⟩
 ·exact⟨rfl,hi⟩
theorem qX {c:Nat} {S:ac} (h:dI c S) {cu cg now dir:Int} {nm:List UInt8} {n:ai} (he:n.ae=[]) (hd:n.data.length<=1048576) (hk:n.kind=1->n.up=dir) (hm:0<=n.mode/\n.mode<=1023):dI (c+1) (aX S cu cg now dir nm n):=by
 unfold aX;split
 ·rename_i h0
  obtain ⟨hp,hf,mN⟩:=gx h0;obtain ⟨hi,oL,hc⟩:=aR hp;obtain ⟨e1,e2⟩:=jw h.aC (bA S cu cg now dir n) hi;obtain ⟨_,bc,hmem⟩:=aj hi;unfold cI cv;rw [e1];refine Kb h (d:={aa S.nodes dir with ae:=dk (aa S.nodes dir).ae (nm,S.last+1),mtime:=now,ctime:=now}) (nm:=nm) ?_ ?_ oL ?_ ?_ (h.mh (aa S.nodes dir) hmem oL) (h.on (aa S.nodes dir) hmem).2 ?_ ?_ (pQ hc) he hd rfl ?_ ?_ ⟨hm.1,hm.2,rfl⟩ mN
  ·show aQ S.nodes (aa S.nodes dir).no=true;rw[bc];exact hi
  ·show (aa S.nodes (aa S.nodes dir).no).kind=1;rw[bc];exact oL
  ·show _=(aa S.nodes (aa S.nodes dir).no).dev;rw[bc]
  ·show _=(aa S.nodes (aa S.nodes dir).no).up;rw[bc]
  ·show _=dk (aa S.nodes (aa S.nodes dir).no).ae _;rw[bc]
  ·show aO (aa S.nodes (aa S.nodes dir).no).ae nm=0;rw[bc];exact hf
  ·intro gG
   exact ⟨rfl,(hk gG).trans bc.symm⟩
  ·show _=(aa S.nodes (aa S.nodes dir).no).mode;rw[bc]
 ·exact gu h (by omega)
theorem xh {c c':Nat} {k k':Int} {S:ac} (h:mW c k S) (vV:k=0\/k=k') {dir now:Int} {l:List ax} (hi:aQ S.nodes dir=true) (oL:(aa S.nodes dir).kind=1) (Sn:c<=c') (hr:iR l) (hn:∀x∈l,x.1≠[]/\x.1.length<=255) (hp:∀x∈l,1<=x.2/\x.2<=S.last) (hs:l.length<=c')
  (hx:∀x∈l,Vu S (aa S.nodes dir).no (aa S.nodes dir).dev x.2) (keep:∀q∈S.nodes,q.kind=1->q.no≠k'->q.up=dir->q.no≠dir->∃x∈l,x.2=q.no):mW c' k' (cI S dir now l):=by
 obtain ⟨_,bc,hmem⟩:=aj hi;have hb:=h.bits _ hmem;refine pT h vV (n:=cv S dir now l) ?_ Sn ?_ ?_ ?_ (fun _=>h.mh (aa S.nodes dir) hmem oL) hr hn hp hs (h.on (aa S.nodes dir) hmem).2 hb hx ?_
 ·show aQ S.nodes (aa S.nodes dir).no=true;rw[bc];exact hi
 ·show _=(aa S.nodes (aa S.nodes dir).no).kind;rw[bc];rfl
 ·show _=(aa S.nodes (aa S.nodes dir).no).dev;rw[bc];rfl
 ·show _=(aa S.nodes (aa S.nodes dir).no).up;rw[bc];rfl
 ·intro q hq ub AL xf tU
  have e:(cv S dir now l).no=dir:=bc;rw [e]at xf tU;exact keep q hq ub AL xf tU
theorem ii {S:ac} {cu cg no dir:Int} {nm:List UInt8} (h:eP S cu cg no dir nm=0):aZ S cu cg dir nm=0/\aQ S.nodes no=true/\¬(aa S.nodes no).kind=1/\aO (aa S.nodes dir).ae nm=0/\(aa S.nodes no).dev=(aa S.nodes dir).dev/\(aa S.nodes no).ah<1000:=by
 unfold eP at h;split at h
 ·rename_i h1;exact absurd h h1
 ·rename_i h1
  split at h
  ·cases h
  ·rename_i h2
   split at h
   ·cases h
   ·rename_i h3
    split at h
    ·cases h
    ·rename_i h4
     split at h
     ·cases h
     ·rename_i h5
      split at h
      ·cases h
      ·rename_i h6
       exact ⟨Decidable.not_not.1 h1,by simpa using h2,h3,Decidable.not_not.1 h4,Decidable.not_not.1 h5,by omega⟩
theorem jH {S:ac} {n:ai} {no:Int} (hne:no≠n.no):aa (aK S n).nodes no=aa S.nodes no/\aQ (aK S n).nodes no=aQ S.nodes no:=by
 have : eY (bn S.nodes n) no=eY S.nodes no:=by
  unfold eY bn
  induction S.nodes with
  | nil=>rfl
  | cons m ms ih =>
   rw [List.map_cons,List.find?_cons,List.find?_cons]
   by_cases e:m.no=n.no
   ·have e1:(m.no == n.no)=true:=by simpa using e
    have e2:(n.no == no)=false:=by simpa using Ne.symm hne
    have e3:(m.no == no)=false:=by rw[e];exact e2
    rw [if_pos e1,e2,e3];exact ih
   ·have e1:¬(m.no == n.no)=true:=by simpa using e
    rw [if_neg e1]
    cases (m.no == no)
    ·exact ih
    ·rfl
 exact ⟨by show Option.getD (eY (bn S.nodes n) no) ag=_;rw[this];rfl,by show Option.isSome (eY (bn S.nodes n) no)=_;rw[this];rfl⟩
theorem xi {l:List ax} {nm:List UInt8} (hp:∀x∈l,1<=x.2) (hf:aO l nm=0):∀x∈l,x.1≠nm:=by
 intro x hx e;unfold aO at hf
 cases hg:l.find? (fun x=>x.1 == nm) with
 | none=>have:=List.find?_eq_none.1 hg x hx;simp at this;exact this e
 | some y =>
  rw [hg]at hf;have:=hp y (List.mem_of_find?_eq_some hg);simp only at hf;omega
theorem GG {l:List ax} {x:ax} (h:∀y∈l,y.1≠x.1):∀y∈l,y∈dk l x:=by
 intro y hy;unfold dk iw i6;simp only[List.mem_append,List.mem_filter,List.mem_singleton];rcases l8 y.1 x.1 with g|g|g
 ·exact .inl (.inl ⟨hy,g⟩)
 ·exact absurd g (h y hy)
 ·exact .inr ⟨hy,g⟩
theorem Kq {c:Nat} {S:ac} (h:dI c S) (cu cg now no dir:Int) (nm:List UInt8):dI (c+1) (dW S cu cg now no dir nm):=by
 unfold dW;split
 ·rename_i h0
  obtain ⟨hp,hi,hk,hf,hv,hl⟩:=ii h0;obtain ⟨hid,oL,hc⟩:=aR hp;obtain ⟨_,bc,hmem⟩:=aj hi;obtain ⟨_,lr,jq⟩:=aj hid;have hb:=h.bits _ hmem;have hne:dir≠no:=fun e=>by subst e;exact hk oL
  have e0:(bH S now no).no=no:=bc;have h1:dI c (aK S (bH S now no)):=by
   have e1:∀{P:ai->Prop},P (aa S.nodes no)->P (aa S.nodes (bH S now no).no):=fun hp=>by rw[e0];exact hp
   refine pT h (.inl rfl) (by rw[e0];exact hi) (Nat.le_refl _) (e1 (P:=fun m=>(bH S now no).kind=m.kind) rfl) (e1 (P:=fun m=>(bH S now no).dev=m.dev) rfl) (e1 (P:=fun m=>(bH S now no).up=m.up) rfl) (fun gG=>absurd gG hk) (h.mF (aa S.nodes no) hmem) (h.names (aa S.nodes no) hmem) (h.pos (aa S.nodes no) hmem) (h.small (aa S.nodes no) hmem) (h.on (aa S.nodes no) hmem).2
    ⟨hb.1,hb.2.1,by show 1<=(aa S.nodes no).ah+1;omega,by show (aa S.nodes no).ah+1<=1000;omega⟩ (fun x hx=>h.zB (aa S.nodes no) hmem x hx) (fun q hq ub _ xf tU=>?_)
   rcases h.wh q hq ub with⟨_,u2⟩|⟨_,_,m,hm,u3,u4,_⟩
   ·exact absurd (u2.symm.trans xf) tU
   ·have:=gJ h.aC hm hmem (by rw[u3,xf,e0,bc])
    subst this;exact absurd u4 hk
  obtain ⟨g1,g2⟩:=jH (S:=S) (n:=bH S now no) (no:=dir) (by rw[e0];exact hne);have hx0:=xi (fun x hx=>(h.pos _ jq x hx).1) hf;have De:=h.aC.2 _ hmem;rw [bc]at De;refine xh h1 (.inl rfl) (by rw[g2];exact hid) (by rw[g1];exact oL) (Nat.le_succ _) (wO _ (h.mF _ jq)) (fun x hx=>?_) (fun x hx=>?_) ?_ (fun x hx=>?_) (fun q hq ub _ xf tU=>?_)
  ·rcases gX hx with hx|rfl
   ·exact h.names _ jq x hx
   ·exact pQ hc
  ·rcases gX hx with hx|rfl
   ·exact h.pos _ jq x hx
   ·exact De
  ·have:=pJ (aa S.nodes dir).ae (nm,no)
   have:=h.small _ jq;omega
  ·rw [g1]
   rcases gX hx with hx|rfl
   ·have:=h1.zB (aa S.nodes dir) (ua jq (by rw[e0,lr];exact hne)) x hx
    exact this
   ·refine ⟨by rw[lr];exact fun e=>hne e.symm,fun d hd e=>?_,fun q hq e=>?_⟩
    ·obtain ⟨j,hj,rfl⟩:=List.getElem_of_mem hd
     obtain ⟨m,hm,o1,o2,_⟩:=h.fc j hj;have:=gJ h.aC hm hmem (by rw[o1,bc];exact e.symm);subst this;exact hk o2
    ·rcases aM hq with⟨hq,tU⟩|rfl
     ·exact absurd e (by rw[e0]at tU;exact tU)
     ·exact hv
  ·rcases aM hq with⟨hq,_⟩|rfl
   ·rcases h.wh q hq ub with⟨_,u2⟩|⟨_,_,m,hm,u3,_,_,x,hx,u6⟩
    ·exact absurd (u2.symm.trans xf) tU
    ·have:=gJ h.aC hm jq (by rw[u3,xf,lr])
     subst this;exact ⟨x,GG hx0 x hx,u6⟩
   ·exact absurd ub hk
 ·exact gu h (by omega)
open Go.ChangeShapes Go.WideShapes Go.ChangeAt Go.RowKit
def yE (w:World) (B:Nat) (S:ac) (cu cg dir:Int) (nm:List UInt8) (e:Ending) (w':World):Prop:=
 ∃ A c,e=.returned (.tuple #[.agg #[.int .i64 (cY S cu cg dir nm).no,.int .i64 (cY S cu cg dir nm).dev,.int .i64 (cY S cu cg dir nm).kind,.int .i64 (cY S cu cg dir nm).mode,.int .i64 (cY S cu cg dir nm).uid,.int .i64 (cY S cu cg dir nm).gid,.int .i64 (cY S cu cg dir nm).mtime,.int .i64 (cY S cu cg dir nm).ctime,.int .i64 (cY S cu cg dir nm).ah,.int .i64 (cY S cu cg dir nm).up,.string (bs (cY S cu cg dir nm).data),.slice A (cY S cu cg dir nm).ae.length c],.int .i64 (aZ S cu cg dir nm)])/\ay w' B (cY S cu cg dir nm) A c/\Ext w w'
theorem ui (B:Nat) (g:bQ) (S:ac) (cu cg dir:Int) (nm:List UInt8) (w:World) (h:eD w B g S) (hd:0<S.af.length) :
  Calls Tryz.prog 124 #[.pointer (some ⟨g.bW,0,none⟩),.agg #[cu,cg],.int .i64 dir,bs nm] w (yE w B S cu cg dir nm):=by
 have h0:=h;obtain ⟨h1,h2,cd,h3,h4⟩:=h;have jF:((S.af.length:Int) == 0)=false:=by simpa using (show ¬(S.af.length:Int)=0 by omega)
 have E0:Ext w ((w.alloc (.cells #[cu,cg] 27)).alloc (.cells #[.int .i64 0,.int .i64 0,.int .i64 0,.int .i64 0,.int .i64 0,.int .i64 0,.int .i64 0,.int .i64 0,.int .i64 0,.int .i64 0,.string ⟨#[]⟩,.slice none 0 0] 58)):=((Ext.refl _).alloc _).alloc _;go_enter Tryz.func124,Tryz.ntmps124;go_wp2_with fail;refine (lI B g S _ (h0.ext E0) hd).mono ?_;rintro e w1 ⟨rfl,b1⟩;have E1:=E0.trans b1;have R0:=Has.new (w.alloc (.cells #[cu,cg] 27)) (.cells #[ag.no,ag.dev,ag.kind,ag.mode,ag.uid,ag.gid,ag.mtime,ag.ctime,ag.ah,ag.up,bs ag.data,.slice none ag.ae.length 0] 58);rw [World.size_alloc]at R0;have R1:=R0.ext b1;have C1:=((Has.new w (.cells #[cu,cg] 27)).alloc (.cells #[.int .i64 0,.int .i64 0,.int .i64 0,.int .i64 0,.int .i64 0,.int .i64 0,.int .i64 0,.int .i64 0,.int .i64 0,.int .i64 0,.string ⟨#[]⟩,.slice none 0 0] 58)).ext b1;have v0:w1.cell? ⟨g.bW,0,none⟩=some (.pointer (some ⟨g.bT,0,none⟩)):=(h3.ext E1).cell 0;have z1:=(h3.ext E1).lt;go_wp2_with fail;refine (fP B g.bT g.bM S.nodes S.last dir _ (h2.ext E1)).mono ?_;rintro e w2 ⟨A2,k2,rfl,iC,b2⟩;have R2:=R1.ext b2;have C2:=C1.ext b2;have hm:Hid (aZ S cu cg dir nm=if aQ S.nodes dir=false then 5 else if ¬(aa S.nodes dir).kind=1 then 9 else if ¬cj nm=0 then cj nm
  else if fL cu cg (aa S.nodes dir).uid (aa S.nodes dir).gid (aa S.nodes dir).mode 3=false then 6 else 0):=by show _=_;rfl
 have cL:Hid (cY S cu cg dir nm=if aZ S cu cg dir nm=0 then aa S.nodes dir else ag):=by show _=_;rfl
 obtain⟨m,hmm⟩:=ar (aa S.nodes dir);rw [<-hmm]at iC hm cL|-;obtain⟨W3,du⟩:=ar (w2.alloc (.cells #[m.no,m.dev,m.kind,m.mode,m.uid,m.gid,m.mtime,m.ctime,m.ah,m.up,bs m.data,.slice A2 m.ae.length k2] 58));have kD:Ext w2 W3:=by rw[du];exact (Ext.refl _).alloc _
 have N3:Has W3 w2.heap.size (.cells #[m.no,m.dev,m.kind,m.mode,m.uid,m.gid,m.mtime,m.ctime,m.ah,m.up,bs m.data,.slice A2 m.ae.length k2] 58):=by rw[du];exact Has.new _ _
 have R3:=R2.ext kD;have C3:=C2.ext kD;have E3:Ext w W3:=(E1.trans b2).trans kD;obtain⟨b8,fZ⟩:=ar w2.heap.size;obtain⟨i,hi⟩:=ar (aQ S.nodes dir);rw [<-hi]at hm|-;obtain⟨ck,SV⟩:=ar (cj nm);rw [<-SV]at hm;have HCK:=zH SV;clear v0 hmm hi SV R1 C1 R2 C2;go_upto_region 4 with fail;rw [<-du];rw [<-fZ]at N3|-;clear du fZ;go_wp2_with fail;refine (CV (bs nm) _).mono ?_;rw [show (bs nm).data.toList=nm from kV nm,<-HCK.out];rintro e w4 ⟨rfl,b4⟩;have R4:=R3.ext b4;have C4:=C3.ext b4;have N4:=N3.ext b4;have E4:=E3.trans b4;have sJ:=(iC.ext kD).ext b4;clear R3 C3 N3 E3 b4;have HS:Hid (∀(w5 w6:World) (x:Int),Ext w w5->Only [w.heap.size+1] w5 w6->aZ S cu cg dir nm=x->x≠0->yE w B S cu cg dir nm (.returned (.tuple #[.agg #[ag.no,ag.dev,ag.kind,ag.mode,ag.uid,ag.gid,ag.mtime,ag.ctime,ag.ah,ag.up,bs ag.data,.slice none ag.ae.length 0],.int .i64 x])) w6):=by
  show ∀(w5 w6:World) (x:Int),_;intro w5 w6 x hE hO hx hx0;have hN:cY S cu cg dir nm=ag:=by rw[cL.out,if_neg (by rw[hx];exact hx0)]
  exact ⟨none,0,by rw[hx,hN],by rw[hN];exact ay.zero _ _,hO.after hE (by simp)⟩
 cases i
 ·have hE:Hid (aZ S cu cg dir nm=5):=by show _=_;rw[hm.out];rfl
  clear hm;go_wp2_with (refine az rfl _ _ rfl (w.heap.size+1) ag none 0 rfl rfl R4 ?_;intro w5 R5 O5);refine bodyPost_ret (v:=.tuple #[.agg #[ag.no,ag.dev,ag.kind,ag.mode,ag.uid,ag.gid,ag.mtime,ag.ctime,ag.ah,ag.up,bs ag.data,.slice none ag.ae.length 0],.int .i64 5]) (dx Tryz.results124 _ _ (w.heap.size+1) ag none 0 _ rfl rfl R5) rfl ?_;exact HS.out _ _ _ E4 O5 hE.out (by decide)
 ·have Px : w4.cell? ⟨b8,2,none⟩=some (.int .i64 m.kind):=N4.cell 2
  have kz:=N4.lt
  by_cases c1:m.kind=1
  ·have t1 : (m.kind == 1)=true:=by simpa using c1
   have we:(m.kind != 1)=false:=by simpa using c1
   by_cases c2:ck=0
   ·have t2:(ck == 0)=true:=by simpa using c2
    have Py:(ck != 0)=false:=by simpa using c2
    obtain⟨u,hu⟩:=ar (fL cu cg m.uid m.gid m.mode 3);have mM:Hid (aZ S cu cg dir nm=if u=false then 6 else 0):=by show _=_;rw[hm.out,if_neg (by decide),if_neg (by simpa using c1),if_neg (by simpa using c2),hu]
    have HU:=zH hu;have x0:w4.cell? ⟨w.heap.size,0,none⟩=some (.int .i64 cu):=C4.cell 0;have x1:w4.cell? ⟨w.heap.size,1,none⟩=some (.int .i64 cg):=C4.cell 1;have xz:=C4.lt;clear hm hu c1 c2;go_wp2_with (refine aP rfl _ rfl b8 m A2 k2 rfl N4 ?_);refine (qU cu cg _ _ _ m.mode m.uid m.gid _ _ _ _ _ _ 3 _).mono ?_;rw [<-HU.out];rintro e w5 ⟨rfl,b5⟩;have R5:=R4.ext b5;have N5:=N4.ext b5;have E5:=E4.trans b5;clear x0 x1 xz Px kz R4 N4
    cases u
    ·have hE:Hid (aZ S cu cg dir nm=6):=by show _=_;rw[mM.out];rfl
     clear mM;go_wp2_with (refine az rfl _ _ rfl (w.heap.size+1) ag none 0 rfl rfl R5 ?_;intro w6 R6 O5);refine bodyPost_ret (v:=.tuple #[.agg #[ag.no,ag.dev,ag.kind,ag.mode,ag.uid,ag.gid,ag.mtime,ag.ctime,ag.ah,ag.up,bs ag.data,.slice none ag.ae.length 0],.int .i64 6]) (dx Tryz.results124 _ _ (w.heap.size+1) ag none 0 _ rfl rfl R6) rfl ?_;exact HS.out _ _ _ E5 O5 hE.out (by decide)
    ·have hE:Hid (aZ S cu cg dir nm=0):=by show _=_;rw[mM.out];rfl
     have hN:Hid (cY S cu cg dir nm=m):=by show _=_;rw[cL.out,hE.out];rfl
     clear mM;go_wp2_with (first|(refine aP rfl _ rfl b8 m A2 k2 rfl N5 ?_)|(refine az rfl _ _ rfl (w.heap.size+1) m A2 k2 rfl rfl R5 ?_;intro w6 R6 O6));refine bodyPost_ret (v:=.tuple #[.agg #[m.no,m.dev,m.kind,m.mode,m.uid,m.gid,m.mtime,m.ctime,m.ah,m.up,bs m.data,.slice A2 m.ae.length k2],.int .i64 0]) (dx Tryz.results124 _ _ (w.heap.size+1) m A2 k2 _ rfl rfl R6) rfl ?_;have sK:ay w6 B m A2 k2:=((sJ.ext b5).only O6 (by
      intro b hb;rw [List.mem_singleton]at hb;subst hb;exact ⟨by have:=h1;have:=h0.lt.1;omega,R5.gi (by decide)⟩))
     exact ⟨A2,k2,by rw[hE.out,hN.out],by rw[hN.out];exact sK,O6.after E5 (by simp)⟩
   ·have t2:(ck == 0)=false:=by simpa using c2
    have Py:(ck != 0)=true:=by simpa using c2
    have hE:Hid (aZ S cu cg dir nm=ck):=by show _=_;rw[hm.out,if_neg (by decide),if_neg (by simpa using c1),if_pos c2]
    have qY:=zH c2;clear hm c1 c2;go_wp2_with (refine az rfl _ _ rfl (w.heap.size+1) ag none 0 rfl rfl R4 ?_;intro w5 R5 O5);refine bodyPost_ret (v:=.tuple #[.agg #[ag.no,ag.dev,ag.kind,ag.mode,ag.uid,ag.gid,ag.mtime,ag.ctime,ag.ah,ag.up,bs ag.data,.slice none ag.ae.length 0],.int .i64 ck]) (dx Tryz.results124 _ _ (w.heap.size+1) ag none 0 _ rfl rfl R5) rfl ?_;exact HS.out _ _ _ E4 O5 hE.out qY.out
  ·have t1:(m.kind == 1)=false:=by simpa using c1
   have we:(m.kind != 1)=true:=by simpa using c1
   have hE:Hid (aZ S cu cg dir nm=9):=by show _=_;rw[hm.out,if_neg (by decide),if_pos c1]
   clear hm c1;go_wp2_with (refine az rfl _ _ rfl (w.heap.size+1) ag none 0 rfl rfl R4 ?_;intro w5 R5 O5);refine bodyPost_ret (v:=.tuple #[.agg #[ag.no,ag.dev,ag.kind,ag.mode,ag.uid,ag.gid,ag.mtime,ag.ctime,ag.ah,ag.up,bs ag.data,.slice none ag.ae.length 0],.int .i64 9]) (dx Tryz.results124 _ _ (w.heap.size+1) ag none 0 _ rfl rfl R5) rfl ?_;exact HS.out _ _ _ E4 O5 hE.out (by decide)
def Df (w:World) (B:Nat) (g:bQ) (T:ac) (e:Ending) (w':World):Prop:=e=.returned (.tuple #[])/\eD w' B g T/\Only g.list w w'
def Dg (w:World) (B:Nat) (g:cJ) (T:ac) (X:cM) (e:Ending) (w':World):Prop:=e=.returned (.tuple #[])/\gV w' B g T X/\Only g.list w w'
theorem uj (B:Nat) (g:bQ) (S:ac) (dir now:Int) (A:Option Addr) (l:List ax) (cap:Nat) (w:World) (h:eD w B g S) (hu:aI S.nodes S.last) (hl:kW w B A l) (hc1:l.length<=cap) (EB:cap<=maxLen) (Z5:A=none->cap=0) :
  Calls Tryz.prog 126 #[.pointer (some ⟨g.bW,0,none⟩),.int .i64 dir,.int .i64 now,.slice A l.length cap] w (Df w B g (cI S dir now l)):=by
 have h0:=h;obtain ⟨_,_,cd,h3,_⟩:=id h;have v0:w.cell? ⟨g.bW,0,none⟩=some (.pointer (some ⟨g.bT,0,none⟩)):=h3.cell 0;have z1:=h3.lt;have HL:=zH hl;obtain⟨L,hL⟩:=ar l.length;rw [<-hL];have GH:=zH hL;have HU:=zH hu;clear h3 hl hL hu;go_enter Tryz.func126,Tryz.ntmps126;go_wp2_with fail;refine (fP B g.bT g.bM S.nodes S.last dir _ h0.2.1).mono ?_;rintro e w2 ⟨A2,k2,rfl,iC,b2⟩;obtain⟨m,hmm⟩:=ar (aa S.nodes dir);rw [<-hmm]at iC|-;have HM:=zH hmm;obtain⟨W3,du⟩:=ar (w2.alloc (.cells #[m.no,m.dev,m.kind,m.mode,m.uid,m.gid,m.mtime,m.ctime,m.ah,m.up,bs m.data,.slice A2 m.ae.length k2] 58));have kD:Ext w2 W3:=by rw[du];exact (Ext.refl _).alloc _
 obtain⟨b8,fZ⟩:=ar w2.heap.size;have N3:Has W3 b8 (.cells #[m.no,m.dev,m.kind,m.mode,m.uid,m.gid,m.mtime,m.ctime,m.ah,m.up,bs m.data,.slice A2 m.ae.length k2] 58):=by rw[du,fZ];exact Has.new _ _
 have E3:Ext w W3:=b2.trans kD;have vQ:w.heap.size<=b8:=by rw[fZ];exact b2.size
 clear v0 hmm;go_upto_region 1 with fail;rw [<-du];rw [<-fZ];clear du fZ;have Gx:W3.cell? ⟨b8,11,none⟩=some (.slice A2 m.ae.length k2):=N3.cell 11;have y6:W3.cell? ⟨b8,6,none⟩=some (.int .i64 m.mtime):=N3.cell 6;have y7:W3.cell? ⟨b8,7,none⟩=some (.int .i64 m.ctime):=N3.cell 7;have yf:∀i,W3.frozen? ⟨b8,i,none⟩=false:=fun i=>(N3.free i).trans (by simp)
 have yz:=N3.lt;obtain ⟨n,hn⟩:∃n:ai,n={m with ae:=l,mtime:=now,ctime:=now}:=⟨_,rfl⟩;have HN:=zH hn;clear hn;go_upto_region 2 with fail;obtain⟨V,hV⟩:=ar (((W3.setCell ⟨b8,11,none⟩ (.slice A L cap)).setCell ⟨b8,6,none⟩ (.int .i64 now)).setCell ⟨b8,7,none⟩ (.int .i64 now));rw [<-hV];have NV:Has V b8 (.cells #[n.no,n.dev,n.kind,n.mode,n.uid,n.gid,n.mtime,n.ctime,n.ah,n.up,bs n.data,.slice A n.ae.length cap] 58):=by rw[hV,HN.out,GH.out];exact ((N3.setCell 11 _).setCell 6 _).setCell 7 _
 have OV:Only [b8] W3 V:=by rw[hV];exact ((Only.setCell _ _ _ _).then (Only.setCell _ _ _ _)).then (Only.setCell _ _ _ _)
 have EV:Ext w V:=OV.after E3 (by intro x hx;rw[List.mem_singleton]at hx;omega);have KV:=h0.ext EV;have yx:ay V B n A cap:=by
  refine ⟨?_,by rw[HN.out];exact hc1,EB,Z5⟩;rw [HN.out];exact HL.out.ext EV
 clear hV Gx y6 y7 yf yz;obtain ⟨_,_,cdV,SW,_⟩:=id KV;have v0:V.cell? ⟨g.bW,0,none⟩=some (.pointer (some ⟨g.bT,0,none⟩)):=SW.cell 0;have vz:=SW.lt;obtain ⟨x0,x1,x2,x3,x4,x5,x6,x7,x8,x9,sy,sA⟩:=NV.dS;have zN:=NV.lt;clear SW;go_still_tail 5,(by kernel_rfl);change wpList _ _ _ _ _ V.drew;go_wp2_with fail;have ED:Ext V V.drew:=(Ext.refl _).drew;refine (mV B g S n A cap _ (KV.ext ED) HU.out (yx.ext ED)).mono ?_;rintro e w8 ⟨rfl,K8,O8⟩;go_wp2_with fail;go_end0;have e2:cI S dir now l=aK S n:=by unfold cI cv;rw[HN.out,HM.out]
 exact ⟨rfl,by rw[e2];exact K8,Only.pre (EV.trans ED) O8⟩
theorem uk (B:Nat) (g:cJ) (S:ac) (X:cM) (dir:Int) (A:Option Addr) (l:List ax) (cap:Nat) (w:World) (h:gV w B g S X) (lJ:S.nodes.length<=1000000) (hu:aI S.nodes S.last) (hl:kW w B A l) (hc1:l.length<=cap) (EB:cap<=maxLen) (Z5:A=none->cap=0) :
  Calls Tryz.prog 120 #[.pointer (some ⟨g.bF,0,none⟩),.int .i64 dir,.slice A l.length cap] w (Dg w B g (cI S dir X.now l) X):=by
 have HL:=zH hl;obtain⟨L,hL⟩:=ar l.length;rw [<-hL];have GH:=zH hL;have HU:=zH hu;clear hl hL hu;go_enter Tryz.func120,Tryz.ntmps120;go_wp2_with fail;refine (eZ B g S X dir _ h lJ HU.out).mono ?_;rintro e w2 ⟨A2,k2,rfl,iC,b2⟩;obtain⟨m,hmm⟩:=ar (aa S.nodes dir);rw [<-hmm]at iC|-;have HM:=zH hmm;obtain⟨W3,du⟩:=ar (w2.alloc (.cells #[m.no,m.dev,m.kind,m.mode,m.uid,m.gid,m.mtime,m.ctime,m.ah,m.up,bs m.data,.slice A2 m.ae.length k2] 58));have kD:Ext w2 W3:=by rw[du];exact (Ext.refl _).alloc _
 obtain⟨b8,fZ⟩:=ar w2.heap.size;have N3:Has W3 b8 (.cells #[m.no,m.dev,m.kind,m.mode,m.uid,m.gid,m.mtime,m.ctime,m.ah,m.up,bs m.data,.slice A2 m.ae.length k2] 58):=by rw[du,fZ];exact Has.new _ _
 have E3:Ext w W3:=b2.trans kD;have vQ:w.heap.size<=b8:=by rw[fZ];exact b2.size
 clear hmm;go_upto_region 1 with fail;rw [<-du];rw [<-fZ];clear du fZ;have Gx:W3.cell? ⟨b8,11,none⟩=some (.slice A2 m.ae.length k2):=N3.cell 11;have y6:W3.cell? ⟨b8,6,none⟩=some (.int .i64 m.mtime):=N3.cell 6;have y7:W3.cell? ⟨b8,7,none⟩=some (.int .i64 m.ctime):=N3.cell 7;have yf:∀i,W3.frozen? ⟨b8,i,none⟩=false:=fun i=>(N3.free i).trans (by simp)
 have yz:=N3.lt;have nw:W3.cell? ⟨g.bF,3,none⟩=some (.int .i64 X.now):=by obtain⟨_,_,_,k,_⟩:=h.ext E3;exact k.cell 3
 have nz:=(h.ext E3).lt.1;have hlt:=h.lt.1;have WH:(b8=g.bF)=False:=eq_false (by omega);have Kr:(g.bF=b8)=False:=eq_false (by omega);obtain ⟨n,hn⟩:∃n:ai,n={m with ae:=l,mtime:=X.now,ctime:=X.now}:=⟨_,rfl⟩;have HN:=zH hn;clear hn;go_upto_region 4 with fail;obtain⟨V,hV⟩:=ar (((W3.setCell ⟨b8,11,none⟩ (.slice A L cap)).setCell ⟨b8,6,none⟩ (.int .i64 X.now)).setCell ⟨b8,7,none⟩ (.int .i64 X.now));rw [<-hV];have NV:Has V b8 (.cells #[n.no,n.dev,n.kind,n.mode,n.uid,n.gid,n.mtime,n.ctime,n.ah,n.up,bs n.data,.slice A n.ae.length cap] 58):=by rw[hV,HN.out,GH.out];exact ((N3.setCell 11 _).setCell 6 _).setCell 7 _
 have OV:Only [b8] W3 V:=by rw[hV];exact ((Only.setCell _ _ _ _).then (Only.setCell _ _ _ _)).then (Only.setCell _ _ _ _)
 have EV:Ext w V:=OV.after E3 (by intro x hx;rw[List.mem_singleton]at hx;omega);have yx:ay V B n A cap:=by
  refine ⟨?_,by rw[HN.out];exact hc1,EB,Z5⟩;rw [HN.out];exact HL.out.ext EV
 clear hV Gx y6 y7 yf yz nw nz WH Kr;go_wp2_with (refine aP rfl _ rfl b8 n A cap rfl NV ?_);refine (mR B g S X n A cap _ (h.ext EV) lJ HU.out yx).mono ?_;rintro e w5 ⟨rfl,K5,O5⟩;go_wp2_with fail;go_end0;have e2:cI S dir X.now l=aK S n:=by unfold cI cv;rw[HN.out,HM.out]
 exact ⟨rfl,by rw[e2];exact K5,Only.pre EV O5⟩
attribute [local irreducible] gv
attribute [local go_sem] fh
theorem pY {S:ac} (h:Live S) (n:ai):aI (bj S n).nodes (bj S n).last:=by
 unfold bj;split
 ·exact h.aC.add {n with no:=S.last+1} rfl (by have:=h.last;omega)
 ·exact h.aC
structure Ok (S:ac):Prop where
 live:Live S
 ae:∀n∈S.nodes,iR n.ae/\n.ae.length<=100000
 ah:∀n∈S.nodes,1<=n.ah/\n.ah<=1000
theorem dI.ok {c:Nat} {S:ac} (h:dI c S) (hc:c<=100000):Ok S:=⟨h.live,fun n hn=>⟨h.mF n hn,by have:=h.small n hn;omega⟩,fun n hn=>(h.bits n hn).2.2⟩
theorem Ok.cG {S:ac} (h:Ok S) (no:Int):iR (aa S.nodes no).ae/\(aa S.nodes no).ae.length<=100000:=by
 cases hi:aQ S.nodes no
 ·rw[(aV hi).1];exact⟨List.Pairwise.nil,Nat.zero_le _⟩
 ·exact h.ae _ (aj hi).2.2
theorem k_ {l:List ax} {nm:List UInt8} (hr:iR l):numOf l nm=aO l nm:=by
 unfold aO numOf
 cases hh:has l nm
 ·have:l.find? (·.1 == nm)=none:=by
   rw [List.find?_eq_none];intro x hx;unfold has at hh;rw [List.any_eq_false]at hh;exact hh x hx
  rw [this];rfl
 ·obtain ⟨hp,he⟩:=CG hr hh
  have:l.find? (·.1 == nm)=some l[pos l nm]:=by
   rw [List.find?_eq_some_iff_getElem];refine ⟨by simp[he],pos l nm,hp,rfl,fun j hj=>?_⟩;have h1:=zQ l nm j hj (by omega);unfold lt at h1;have:=wN h1;simp [this]
  rw [this];simp [List.getD_eq_getElem?_getD,List.getElem?_eq_getElem hp]
def sL (n:ai) (dev cu cg now:Int):Nat->ai
 | 0=>n
 | 1=>{n with dev:=dev}
 | 2=>{n with dev:=dev,uid:=cu}
 | 3=>{n with dev:=dev,uid:=cu,gid:=cg}
 | 4=>{n with dev:=dev,uid:=cu,gid:=cg,mtime:=now}
 | 5=>{n with dev:=dev,uid:=cu,gid:=cg,mtime:=now,ctime:=now}
 | _=>{n with dev:=dev,uid:=cu,gid:=cg,mtime:=now,ctime:=now,ah:=1}
def yF (w:World) (B:Nat) (g:bQ) (S:ac) (cu cg now dir:Int) (nm:List UInt8) (n:ai) (e:Ending) (w':World):Prop:=
 e = .returned (.tuple #[.int .i64 (dh S cu cg now dir nm n),.int .i64 (bL S cu cg now dir nm n)])/\eD w' B g (aX S cu cg now dir nm n)/\Only g.list w w'
theorem GI {w w':World} {B:Nat} {g:bQ} {S:ac} {cu cg now dir x:Int} {nm:List UInt8} {n:ai} (h:eD w B g S) (hE:Ext w w') (hx:bL S cu cg now dir nm n=x) (h0:x≠0):yF w B g S cu cg now dir nm n (.returned (.tuple #[.int .i64 0,.int .i64 x])) w':=by
 refine ⟨?_,?_,Only.aw hE⟩
 ·unfold dh;rw[hx,if_neg h0]
 ·unfold aX;rw[hx,if_neg h0];exact h.ext hE
theorem ul (B:Nat) (g:bQ) (S:ac) (cu cg now dir:Int) (nm:List UInt8) (n:ai) (A:Option Addr) (c:Nat) (w:World) (h:eD w B g S) (O:Ok S) (g_:S.last<=100000) (hn:ay w B n A c) (kT:n.data.length<=1000000000) :
    Calls Tryz.prog 128 #[.pointer (some ⟨g.bW,0,none⟩),.agg #[cu,cg],.int .i64 now,.int .i64 dir,bs nm,.agg #[n.no,n.dev,n.kind,n.mode,n.uid,n.gid,n.mtime,n.ctime,n.ah,n.up,bs n.data,.slice A n.ae.length c]] w (yF w B g S cu cg now dir nm n):=by
  obtain⟨W0,bg⟩:=ar ((w.alloc (.cells #[cu,cg] 27)).alloc (.cells #[n.no,n.dev,n.kind,n.mode,n.uid,n.gid,n.mtime,n.ctime,n.ah,n.up,bs n.data,.slice A n.ae.length c] 58))
  have E0:Ext w W0:=by rw[bg];exact ((Ext.refl _).alloc _).alloc _
  obtain ⟨b7,wm⟩:∃b,b=w.heap.size:=⟨_,rfl⟩
  have C0:Has W0 b7 (.cells #[cu,cg] 27):=by rw[bg,wm];exact (Has.new w _).alloc _
  have N0:Has W0 (b7+1) (.cells #[n.no,n.dev,n.kind,n.mode,n.uid,n.gid,n.mtime,n.ctime,n.ah,n.up,bs n.data,.slice A n.ae.length c] 58):=by
    rw [bg,wm]
    have:=Has.new (w.alloc (.cells #[cu,cg] 27)) (.cells #[n.no,n.dev,n.kind,n.mode,n.uid,n.gid,n.mtime,n.ctime,n.ah,n.up,bs n.data,.slice A n.ae.length c] 58)
    rwa [World.size_alloc]at this
  have aaA:w.heap.size+2<=W0.heap.size:=by rw[bg];simp
  have HO:=zH O
  have hm:Hid (bL S cu cg now dir nm n=if ¬aZ S cu cg dir nm=0 then aZ S cu cg dir nm else if ¬aO (aa S.nodes dir).ae nm=0 then 7 else eO S (bA S cu cg now dir n)):=by show _=_;rfl
  have hp:Hid (aZ S cu cg dir nm=0->cY S cu cg dir nm=aa S.nodes dir/\aQ S.nodes dir=true):=fun h0=>⟨k8 h0,(aR h0).1⟩
  have HS:Hid (∀(w':World) (x:Int),Ext w w'->bL S cu cg now dir nm n=x->x≠0->yF w B g S cu cg now dir nm n (.returned (.tuple #[.int .i64 0,.int .i64 x])) w'):=by
    show ∀(w':World) (x:Int),_
    exact fun w' x hE hx h0=>GI h hE hx h0
  have jm:=zH E0
  clear O
  go_enter Tryz.func128,Tryz.ntmps128
  go_upto_region 1 with fail
  rw [<-bg]
  rw [<-wm]
  have aaB:b7<=w.heap.size:=by omega
  have aaC:w.heap.size<=b7:=by omega
  clear bg wm
  have x0:W0.cell? ⟨b7,0,none⟩=some (.int .i64 cu):=C0.cell 0
  have x1:W0.cell? ⟨b7,1,none⟩=some (.int .i64 cg):=C0.cell 1
  have xz:=C0.lt
  go_wp2_with fail
  refine (ui B g S cu cg dir nm _ (h.ext E0) HO.out.live.af).mono ?_
  rintro e w2 ⟨A2,k2,rfl,iC,b2⟩
  obtain⟨m,hmm⟩:=ar (cY S cu cg dir nm)
  obtain⟨x,hx⟩:=ar (aZ S cu cg dir nm)
  rw [<-hmm]at iC hp
  rw [<-hx]at hm hp
  rw [<-hmm,<-hx]
  obtain⟨W3,du⟩:=ar (w2.alloc (.cells #[m.no,m.dev,m.kind,m.mode,m.uid,m.gid,m.mtime,m.ctime,m.ah,m.up,bs m.data,.slice A2 m.ae.length k2] 58))
  obtain ⟨Dh,yG⟩:∃b,b=w2.heap.size:=⟨_,rfl⟩
  have kD:Ext w2 W3:=by rw[du];exact (Ext.refl _).alloc _
  have M3:Has W3 Dh (.cells #[m.no,m.dev,m.kind,m.mode,m.uid,m.gid,m.mtime,m.ctime,m.ah,m.up,bs m.data,.slice A2 m.ae.length k2] 58):=by rw[du,yG];exact Has.new _ _
  have oo:Ext W0 W3:=b2.trans kD
  have C3:=C0.ext oo
  have N3:=N0.ext oo
  have pA:=iC.ext kD
  have WI:W0.heap.size<=Dh:=by rw[yG];exact b2.size
  clear x0 x1 xz hmm hx C0 N0
  go_upto_region 2 with fail
  rw [<-du]
  rw [<-yG]
  clear du yG
  by_cases hx0:x=0
  · have t0 : (x == 0)=true:=by simpa using hx0
    have oG:(x != 0)=false:=by simpa using hx0
    obtain ⟨oI,hid⟩:=hp.out hx0
    have cL:Hid (bL S cu cg now dir nm n=if ¬aO m.ae nm=0 then 7 else eO S (bA S cu cg now dir n)):=by show _=_;rw[hm.out,if_neg (by simpa using hx0),<-oI]
    have CZ:=zH oI
    have HID:=zH hid
    have hen:=HO.out.cG dir
    rw [<-oI]at hen
    have yH:=zH hen
    have Di:W3.cell? ⟨Dh,11,none⟩=some (.slice A2 m.ae.length k2):=M3.cell 11
    have kz:=M3.lt
    clear hm hp hx0 oI hid hen
    go_wp2_with fail
    refine (pE A2 m.ae k2 nm _ pA.ae.ae yH.out.1 (by have:=yH.out.2;omega)).mono ?_
    rw [k_ yH.out.1]
    rintro e w4 ⟨rfl,b4⟩
    obtain⟨v,hv⟩:=ar (aO m.ae nm)
    rw [<-hv]at cL
    rw [<-hv]
    have C4:=C3.ext b4
    have N4:=N3.ext b4
    have M4:=M3.ext b4
    have sJ:=pA.ext b4
    have E4:=oo.trans b4
    clear hv Di kz C3 N3 M3 pA oo b4
    by_cases qZ:v=0
    · have t1:(v == 0)=true:=by simpa using qZ
      have we:(v != 0)=false:=by simpa using qZ
      have mM:Hid (bL S cu cg now dir nm n=eO S (bA S cu cg now dir n)):=by show _=_;rw[cL.out,if_neg (by simpa using qZ)]
      clear cL qZ
      go_upto_region 6 with fail
      obtain ⟨f_,wo⟩:∃b,b=b7+1:=⟨_,rfl⟩
      rw [<-wo]at N4|-
      have WJ:f_<=b7+1:=by omega
      have WK:b7+1<=f_:=by omega
      clear wo
      have WL:=h.lt
      have s0:=E0.size
      have GJ:Dh≠f_:=by have:=b2.size;omega
      have sx:b7≠f_:=by omega
      obtain ⟨Ph,lu⟩:∃Ph:Nat->World->Prop,Ph=fun j w'=>Has w' f_ (.cells #[.int .i64 (sL n m.dev cu cg now j).no,.int .i64 (sL n m.dev cu cg now j).dev,.int .i64 (sL n m.dev cu cg now j).kind,.int .i64 (sL n m.dev cu cg now j).mode,.int .i64 (sL n m.dev cu cg now j).uid,.int .i64 (sL n m.dev cu cg now j).gid,.int .i64 (sL n m.dev cu cg now j).mtime,.int .i64 (sL n m.dev cu cg now j).ctime,.int .i64 (sL n m.dev cu cg now j).ah,.int .i64 (sL n m.dev cu cg now j).up,.string (bs (sL n m.dev cu cg now j).data),.slice A (sL n m.dev cu cg now j).ae.length c] 58)/\Only [f_] w4 w':=⟨_,rfl⟩
      have HV:Hid (Ph 0 w4.drew):=by show Ph 0 _;rw[lu];exact⟨N4.ext (Ext.refl _).drew,Only.aw (Ext.refl _).drew⟩
      have hne:Nonempty (Hp Ph):=⟨⟨0,_,HV.out⟩⟩
      have KQ:Hid (∀w',Ph 6 w'->Has w' f_ (.cells #[.int .i64 (bA S cu cg now dir n).no,.int .i64 (bA S cu cg now dir n).dev,.int .i64 (bA S cu cg now dir n).kind,.int .i64 (bA S cu cg now dir n).mode,.int .i64 (bA S cu cg now dir n).uid,.int .i64 (bA S cu cg now dir n).gid,.int .i64 (bA S cu cg now dir n).mtime,.int .i64 (bA S cu cg now dir n).ctime,.int .i64 (bA S cu cg now dir n).ah,.int .i64 (bA S cu cg now dir n).up,.string (bs (bA S cu cg now dir n).data),.slice A (bA S cu cg now dir n).ae.length c] 58)/\Only [f_] w4 w'):=by
        show ∀w',_
        intro w' hw
        rw [lu]at hw
        refine ⟨?_,hw.2⟩
        have:=hw.1
        rw [CZ.out]at this
        exact this
      have u1:∀u:Hp Ph,u.w.cell? ⟨Dh,1,none⟩=some (.int .i64 m.dev):=by
        rintro ⟨j,u,hu⟩
        rw [lu]at hu
        exact (hu.2.has M4 (by simpa using GJ)).cell 1
      have u2:∀u:Hp Ph,u.w.cell? ⟨b7,0,none⟩=some (.int .i64 cu):=by
        rintro ⟨j,u,hu⟩
        rw [lu]at hu
        exact (hu.2.has C4 (by simpa using sx)).cell 0
      have u3:∀u:Hp Ph,u.w.cell? ⟨b7,1,none⟩=some (.int .i64 cg):=by
        rintro ⟨j,u,hu⟩
        rw [lu]at hu
        exact (hu.2.has C4 (by simpa using sx)).cell 1
      have f0:∀u:Wc (Ph 0),u.w.cell? ⟨f_,1,none⟩=some (.int .i64 n.dev):=by
        rintro ⟨u,hu⟩
        rw [lu]at hu
        exact hu.1.cell 1
      have g0:∀u:Wc (Ph 0),u.w.frozen? ⟨f_,1,none⟩=false:=by
        rintro ⟨u,hu⟩
        rw [lu]at hu
        exact (hu.1.free 1).trans (by simp)
      have KS0:Hid (∀u:Wc (Ph 0),Ph 1 (u.w.setCell ⟨f_,1,none⟩ (.int .i64 m.dev))):=by
        show ∀u:Wc (Ph 0),_
        rintro ⟨u,hu⟩
        dsimp only
        rw [lu]at hu|-
        exact ⟨hu.1.setCell 1 _,hu.2.then (Only.setCell _ _ _ _)⟩
      have f1:∀u:Wc (Ph 1),u.w.cell? ⟨f_,4,none⟩=some (.int .i64 n.uid):=by
        rintro ⟨u,hu⟩
        rw [lu]at hu
        exact hu.1.cell 4
      have g1:∀u:Wc (Ph 1),u.w.frozen? ⟨f_,4,none⟩=false:=by
        rintro ⟨u,hu⟩
        rw [lu]at hu
        exact (hu.1.free 4).trans (by simp)
      have NM:Hid (∀u:Wc (Ph 1),Ph 2 (u.w.setCell ⟨f_,4,none⟩ (.int .i64 cu))):=by
        show ∀u:Wc (Ph 1),_
        rintro ⟨u,hu⟩
        dsimp only
        rw [lu]at hu|-
        exact ⟨hu.1.setCell 4 _,hu.2.then (Only.setCell _ _ _ _)⟩
      have f2:∀u:Wc (Ph 2),u.w.cell? ⟨f_,5,none⟩=some (.int .i64 n.gid):=by
        rintro ⟨u,hu⟩
        rw [lu]at hu
        exact hu.1.cell 5
      have g2:∀u:Wc (Ph 2),u.w.frozen? ⟨f_,5,none⟩=false:=by
        rintro ⟨u,hu⟩
        rw [lu]at hu
        exact (hu.1.free 5).trans (by simp)
      have Z6:Hid (∀u:Wc (Ph 2),Ph 3 (u.w.setCell ⟨f_,5,none⟩ (.int .i64 cg))):=by
        show ∀u:Wc (Ph 2),_
        rintro ⟨u,hu⟩
        dsimp only
        rw [lu]at hu|-
        exact ⟨hu.1.setCell 5 _,hu.2.then (Only.setCell _ _ _ _)⟩
      have f3:∀u:Wc (Ph 3),u.w.cell? ⟨f_,6,none⟩=some (.int .i64 n.mtime):=by
        rintro ⟨u,hu⟩
        rw [lu]at hu
        exact hu.1.cell 6
      have g3:∀u:Wc (Ph 3),u.w.frozen? ⟨f_,6,none⟩=false:=by
        rintro ⟨u,hu⟩
        rw [lu]at hu
        exact (hu.1.free 6).trans (by simp)
      have KS3:Hid (∀u:Wc (Ph 3),Ph 4 (u.w.setCell ⟨f_,6,none⟩ (.int .i64 now))):=by
        show ∀u:Wc (Ph 3),_
        rintro ⟨u,hu⟩
        dsimp only
        rw [lu]at hu|-
        exact ⟨hu.1.setCell 6 _,hu.2.then (Only.setCell _ _ _ _)⟩
      have f4:∀u:Wc (Ph 4),u.w.cell? ⟨f_,7,none⟩=some (.int .i64 n.ctime):=by
        rintro ⟨u,hu⟩
        rw [lu]at hu
        exact hu.1.cell 7
      have g4:∀u:Wc (Ph 4),u.w.frozen? ⟨f_,7,none⟩=false:=by
        rintro ⟨u,hu⟩
        rw [lu]at hu
        exact (hu.1.free 7).trans (by simp)
      have KS4:Hid (∀u:Wc (Ph 4),Ph 5 (u.w.setCell ⟨f_,7,none⟩ (.int .i64 now))):=by
        show ∀u:Wc (Ph 4),_
        rintro ⟨u,hu⟩
        dsimp only
        rw [lu]at hu|-
        exact ⟨hu.1.setCell 7 _,hu.2.then (Only.setCell _ _ _ _)⟩
      have f5:∀u:Wc (Ph 5),u.w.cell? ⟨f_,8,none⟩=some (.int .i64 n.ah):=by
        rintro ⟨u,hu⟩
        rw [lu]at hu
        exact hu.1.cell 8
      have g5:∀u:Wc (Ph 5),u.w.frozen? ⟨f_,8,none⟩=false:=by
        rintro ⟨u,hu⟩
        rw [lu]at hu
        exact (hu.1.free 8).trans (by simp)
      have KS5:Hid (∀u:Wc (Ph 5),Ph 6 (u.w.setCell ⟨f_,8,none⟩ (.int .i64 1))):=by
        show ∀u:Wc (Ph 5),_
        rintro ⟨u,hu⟩
        dsimp only
        rw [lu]at hu|-
        exact ⟨hu.1.setCell 8 _,hu.2.then (Only.setCell _ _ _ _)⟩
      clear lu
      refine ic Ph [9,11,13,15,17,19] (by kernel_rfl) (by kernel_rfl) (by kernel_rfl) HV.out ?_
      repeat (first
        | (refine kv (by kernel_rfl) (fun K hK=>?_)
           go_simp
           refine hK _ ?_
           clear hK K)
        | (refine dQ 0 (by kernel_rfl) rfl (fun K hK=>?_)
           go_simp
           refine ⟨⟨undef,fun u=>⟨rfl,KS0.out u⟩⟩,hK _ ?_⟩
           clear hK K)
        | (refine dQ 1 (by kernel_rfl) rfl (fun K hK=>?_)
           go_simp
           refine ⟨⟨undef,fun u=>⟨rfl,NM.out u⟩⟩,hK _ ?_⟩
           clear hK K)
        | (refine dQ 2 (by kernel_rfl) rfl (fun K hK=>?_)
           go_simp
           refine ⟨⟨undef,fun u=>⟨rfl,Z6.out u⟩⟩,hK _ ?_⟩
           clear hK K)
        | (refine dQ 3 (by kernel_rfl) rfl (fun K hK=>?_)
           go_simp
           refine ⟨⟨undef,fun u=>⟨rfl,KS3.out u⟩⟩,hK _ ?_⟩
           clear hK K)
        | (refine dQ 4 (by kernel_rfl) rfl (fun K hK=>?_)
           go_simp
           refine ⟨⟨undef,fun u=>⟨rfl,KS4.out u⟩⟩,hK _ ?_⟩
           clear hK K)
        | (refine dQ 5 (by kernel_rfl) rfl (fun K hK=>?_)
           go_simp
           refine ⟨⟨undef,fun u=>⟨rfl,KS5.out u⟩⟩,hK _ ?_⟩
           clear hK K))
      refine ml ?_
      intro w5 Ah
      obtain ⟨N5,O5⟩:=KQ.out _ Ah
      clear u1 u2 u3 f0 f1 f2 f3 f4 f5 g0 g1 g2 g3 g4 g5 KS0 NM Z6 KS3 KS4 KS5 KQ HV Ah hne
      obtain⟨n',hn'⟩:=ar (bA S cu cg now dir n)
      rw [<-hn']at N5 mM
      have WM:n'.data=n.data:=by rw[hn'];rfl
      have Ks:n'.ae=n.ae:=by rw[hn'];rfl
      have Kt:=zH hn'
      have HDN:=zH WM
      have SX:dg w4 B [f_]:=by
        intro b hb
        rw [List.mem_singleton]at hb
        subst hb
        exact ⟨by have:=h.1;omega,N4.gi (by decide)⟩
      have Pb:∀b∈g.list,b∉[f_]:=by
        intro b hb
        simp only[bQ.list,List.mem_cons,List.not_mem_nil,or_false]at hb
        rw [List.mem_singleton]
        rcases hb with rfl|rfl|rfl|rfl<;>omega
      have Ku:Ext w w4:=E0.trans E4
      have K5:eD w5 B g S:=(h.ext Ku).only O5 SX Pb
      have yI:ay w5 B n' A c:=((hn.ext Ku).only O5 SX).same Ks
      have yw:=sJ.only O5 SX
      have M5:=O5.has M4 (by simpa using GJ)
      have Ow5:Only g.list w w5:=(Only.aw Ku).trans O5 (by intro b hb;rw[List.mem_singleton]at hb;right;omega)
      have E5:Ext w w5:=O5.after Ku (by intro b hb;rw[List.mem_singleton]at hb;omega)
      clear hn' WM Ks
      go_wp2_with (refine aP rfl _ rfl f_ n' A c rfl N5 ?_)
      refine (Gc B g S n' A c _ K5 yI HO.out.live.roots HO.out.live.af HO.out.live.eight HO.out.live.aC (by have:=HO.out.live.last;omega) (by omega) (by rw[HDN.out];exact kT)).mono ?_
      rintro e w6 ⟨rfl,K6,O6⟩
      obtain⟨e6,Kv⟩:=ar (eO S n')
      have bc:eO S n'=0->mz S n'=S.last+1:=fun h0=>by unfold mz;rw[if_pos h0]
      obtain⟨no,qI⟩:=ar (mz S n')
      rw [<-Kv,<-qI]at bc
      rw [<-Kv]at mM
      rw [<-Kv,<-qI]
      have sC:=zH bc
      have NN:=zH Kv
      have M6:=O6.has M5 (by simp only[bQ.list,List.mem_cons,List.not_mem_nil,or_false];omega)
      have sK:=yw.only O6 K5.apart
      have WN:=Ow5.then O6
      clear bc qI Kv
      by_cases hz:e6=0
      · have t2:(e6 == 0)=true:=by simpa using hz
        have Py:(e6 != 0)=false:=by simpa using hz
        have HZ:=zH hz
        have Di:w6.cell? ⟨Dh,11,none⟩=some (.slice A2 m.ae.length k2):=M6.cell 11
        have kz:=M6.lt
        clear hz
        go_wp2_with fail
        refine (EE A2 m.ae k2 nm no _ sK.ae.ae sK.nil yH.out.1 sK.cap sK.max (by have:=yH.out.2;omega)).mono ?_
        rintro e w7 ⟨v7,rfl,hown,WO⟩
        rw [qG _ _ _ yH.out.1]at hown
        obtain ⟨A7,c7,rfl,q1,q2,q3,q4⟩:=hown.EJ (B:=B)
        obtain⟨T,hT⟩:=ar (bj S n')
        rw [<-hT]at K6
        have SY:aI T.nodes T.last:=by rw[hT];exact pY HO.out.live _
        obtain ⟨L7,NP⟩:∃L,L=dk m.ae (nm,no):=⟨_,rfl⟩
        rw [<-NP]at q1 q3|-
        have SZ:Hid (Calls Tryz.prog 126 #[.pointer (some ⟨g.bW,0,none⟩),.int .i64 dir,.int .i64 now,.slice A7 L7.length c7] w7 (Df w7 B g (cI T dir now L7))):=uj B g T dir now A7 L7 c7 w7 (K6.ext WO) SY q3 q1 q2 q4
        have HT:=zH hT
        have WP:=zH NP
        clear Di kz hown q1 q2 q3 q4 hT NP
        go_wp2_with fail
        refine SZ.out.mono ?_
        rintro e w8 ⟨rfl,K8,O8⟩
        go_wp2_with fail
        go_ret2
        have e1:bL S cu cg now dir nm n=0:=by rw[mM.out];exact HZ.out
        have e2:dh S cu cg now dir nm n=no:=by unfold dh;rw[if_pos e1];exact (sC.out HZ.out).symm
        have e3:aX S cu cg now dir nm n=cI T dir now L7:=by
          unfold aX
          rw [if_pos e1,HT.out,WP.out,<-Kt.out,CZ.out,sC.out HZ.out]
        refine ⟨by rw[e1,e2];rfl,by rw[e3];exact K8,(WN.ext WO).then O8⟩
      · have t2:(e6 == 0)=false:=by simpa using hz
        have Py:(e6 != 0)=true:=by simpa using hz
        have HZ:=zH hz
        clear hz
        go_wp2_with fail
        go_ret2
        have e1:bL S cu cg now dir nm n=e6:=mM.out
        have e2:dh S cu cg now dir nm n=0:=by unfold dh;rw[if_neg (by rw[e1];exact HZ.out)]
        have e3:aX S cu cg now dir nm n=S:=by unfold aX;rw[if_neg (by rw[e1];exact HZ.out)]
        have e4:bj S n'=S:=by unfold bj;rw[if_neg (by rw[<-NN.out];exact HZ.out)]
        rw [e4]at K6
        exact ⟨by rw[e1,e2];rfl,by rw[e3];exact K6,WN⟩
    · have t1:(v == 0)=false:=by simpa using qZ
      have we:(v != 0)=true:=by simpa using qZ
      have hE:Hid (bL S cu cg now dir nm n=7):=by show _=_;rw[cL.out,if_pos qZ]
      clear cL qZ
      go_wp2_with fail
      go_ret2
      exact HS.out _ _ (jm.out.trans E4) hE.out (by decide)
  · have t0:(x == 0)=false:=by simpa using hx0
    have oG:(x != 0)=true:=by simpa using hx0
    have hE:Hid (bL S cu cg now dir nm n=x):=by show _=_;rw[hm.out,if_pos hx0]
    have HX:=zH hx0
    clear hm hx0
    go_wp2_with fail
    go_ret2
    exact HS.out _ _ (jm.out.trans oo) hE.out HX.out
end
open Go.ChangeShapes Go.WideShapes Go.ChangeAt Go.RowKit
theorem GK (B:Nat) (g:bQ) (S:ac) (cu cg now no dir:Int) (nm:List UInt8) (w:World) (h:eD w B g S) (O:Ok S) :
  Calls Tryz.prog 98 #[.pointer (some ⟨g.bW,0,none⟩),.agg #[cu,cg],.int .i64 now,.int .i64 no,.int .i64 dir,bs nm] w (wg w B g (dW S cu cg now no dir nm) (eP S cu cg no dir nm)):=by
 obtain⟨W0,bg⟩:=ar (w.alloc (.cells #[cu,cg] 27));have E0:Ext w W0:=by rw[bg];exact (Ext.refl _).alloc _
 have C0:Has W0 w.heap.size (.cells #[cu,cg] 27):=by rw[bg];exact Has.new w _
 have HO:=zH O;have hm:Hid (eP S cu cg no dir nm=if ¬aZ S cu cg dir nm=0 then aZ S cu cg dir nm else if aQ S.nodes no=false then 5 else if (aa S.nodes no).kind=1 then 4
  else if ¬aO (aa S.nodes dir).ae nm=0 then 7 else if ¬(aa S.nodes no).dev=(aa S.nodes dir).dev then 11 else if 1000<=(aa S.nodes no).ah then 18 else 0):=by show _=_;rfl
 have hp:Hid (aZ S cu cg dir nm=0->cY S cu cg dir nm=aa S.nodes dir/\aQ S.nodes dir=true):=fun h0=>⟨k8 h0,(aR h0).1⟩
 have HS:Hid (∀(w':World) (x:Int),Ext w w'->eP S cu cg no dir nm=x->x≠0->wg w B g (dW S cu cg now no dir nm) (eP S cu cg no dir nm) (.returned (.int .i64 x)) w'):=by
  show ∀(w':World) (x:Int),_;intro w' x hE hx h0;rw [hx];exact fB h hE (by unfold dW;rw[if_neg (by rw[hx];exact h0)])
 clear O;go_enter Tryz.func98,Tryz.ntmps98;go_upto_region 1 with fail;rw [<-bg];clear bg;have x0:W0.cell? ⟨w.heap.size,0,none⟩=some (.int .i64 cu):=C0.cell 0;have x1:W0.cell? ⟨w.heap.size,1,none⟩=some (.int .i64 cg):=C0.cell 1;have xz:=C0.lt;go_wp2_with fail;refine (ui B g S cu cg dir nm _ (h.ext E0) HO.out.live.af).mono ?_;rintro e w2 ⟨A2,k2,rfl,iC,b2⟩;obtain⟨m,hmm⟩:=ar (cY S cu cg dir nm);obtain⟨x,hx⟩:=ar (aZ S cu cg dir nm);rw [<-hmm]at iC hp;rw [<-hx]at hm hp;rw [<-hmm,<-hx];obtain⟨W3,du⟩:=ar (w2.alloc (.cells #[m.no,m.dev,m.kind,m.mode,m.uid,m.gid,m.mtime,m.ctime,m.ah,m.up,bs m.data,.slice A2 m.ae.length k2] 58));obtain ⟨yJ,yK⟩:∃b,b=w2.heap.size:=⟨_,rfl⟩;have kD:Ext w2 W3:=by rw[du];exact (Ext.refl _).alloc _
 have M3:Has W3 yJ (.cells #[m.no,m.dev,m.kind,m.mode,m.uid,m.gid,m.mtime,m.ctime,m.ah,m.up,bs m.data,.slice A2 m.ae.length k2] 58):=by rw[du,yK];exact Has.new _ _
 have E3:Ext w W3:=E0.trans (b2.trans kD);have pA:=iC.ext kD;have WQ:w.heap.size<=yJ:=by rw[yK];exact (E0.trans b2).size
 clear x0 x1 xz hmm hx C0;go_upto_region 2 with fail;rw [<-du];rw [<-yK];clear du yK
 by_cases hx0:x=0
 ·have t0:(x == 0)=true:=by simpa using hx0
  have oG:(x != 0)=false:=by simpa using hx0
  obtain ⟨oI,hid⟩:=hp.out hx0;have cL:Hid (eP S cu cg no dir nm=if aQ S.nodes no=false then 5 else if (aa S.nodes no).kind=1 then 4 else if ¬aO m.ae nm=0 then 7 else if ¬(aa S.nodes no).dev=m.dev then 11 else if 1000<=(aa S.nodes no).ah then 18 else 0):=by
   show _=_;rw[hm.out,if_neg (by simpa using hx0),<-oI]
  have CZ:=zH oI;have hen:=HO.out.cG dir;rw [<-oI]at hen;have yH:=zH hen;obtain ⟨_,_,cd,h3,_⟩:=id (h.ext E3);have v0:W3.cell? ⟨g.bW,0,none⟩=some (.pointer (some ⟨g.bT,0,none⟩)):=h3.cell 0;have z1:=h3.lt;clear hm hp hx0 oI hid hen h3;go_wp2_with fail;refine (fP B g.bT g.bM S.nodes S.last no _ (h.ext E3).2.1).mono ?_;rintro e w4 ⟨A4,k4,rfl,sJ,b4⟩;obtain⟨n,hn⟩:=ar (aa S.nodes no);obtain⟨i,hi⟩:=ar (aQ S.nodes no);have hlk:aQ S.nodes no=true->1<=(aa S.nodes no).ah/\(aa S.nodes no).ah<=1000:=fun hi=>HO.out.ah _ (aj hi).2.2
  rw [<-hn,<-hi]at hlk;rw [<-hn]at sJ cL;rw [<-hi]at cL;rw [<-hn,<-hi];have HLK:=zH hlk;obtain⟨W5,kL⟩:=ar (w4.alloc (.cells #[n.no,n.dev,n.kind,n.mode,n.uid,n.gid,n.mtime,n.ctime,n.ah,n.up,bs n.data,.slice A4 n.ae.length k4] 58));obtain ⟨m_,q_⟩:∃b,b=w4.heap.size:=⟨_,rfl⟩;have NQ:Ext w4 W5:=by rw[kL];exact (Ext.refl _).alloc _
  have N5:Has W5 m_ (.cells #[n.no,n.dev,n.kind,n.mode,n.uid,n.gid,n.mtime,n.ctime,n.ah,n.up,bs n.data,.slice A4 n.ae.length k4] 58):=by rw[kL,q_];exact Has.new _ _
  have Pz:Ext W3 W5:=b4.trans NQ;have M5:=M3.ext Pz;have yw:=pA.ext Pz;have yI:=sJ.ext NQ;have E5:=E3.trans Pz;have WR:W3.heap.size<=m_:=by rw[q_];exact b4.size
  have aaD:yJ<m_:=by have:=M3.lt;omega
  have vS:=zH hn;have HI:=zH hi;clear v0 z1 hn hi M3 pA sJ E3 hlk;go_upto_region 5 with fail;rw [<-kL];rw [<-q_];clear kL q_
  cases i
  ·have hE:Hid (eP S cu cg no dir nm=5):=by show _=_;rw[cL.out];rfl
   clear cL;go_wp2_with fail;go_ret;exact HS.out _ _ E5 hE.out (by decide)
  have Px:W5.cell? ⟨m_,2,none⟩=some (.int .i64 n.kind):=N5.cell 2;have kz:=N5.lt
  by_cases c1:n.kind=1
  ·have t1:(n.kind == 1)=true:=by simpa using c1
   have hE:Hid (eP S cu cg no dir nm=4):=by show _=_;rw[cL.out,if_neg (by decide),if_pos c1]
   clear cL;go_wp2_with fail;go_ret;exact HS.out _ _ E5 hE.out (by decide)
  have t1:(n.kind == 1)=false:=by simpa using c1
  have Di:W5.cell? ⟨yJ,11,none⟩=some (.slice A2 m.ae.length k2):=M5.cell 11;have kz2:=M5.lt;have IY:=zH c1;clear c1;go_wp2_with fail;refine (pE A2 m.ae k2 nm _ yw.ae.ae yH.out.1 (by have:=yH.out.2;omega)).mono ?_;rw [k_ yH.out.1];rintro e w6 ⟨rfl,b6⟩;obtain⟨v,hv⟩:=ar (aO m.ae nm);rw [<-hv]at cL;rw [<-hv];have N6:=N5.ext b6;have M6:=M5.ext b6;have sK:=yw.ext b6;have Kw:=yI.ext b6;have E6:=E5.trans b6;clear hv Px kz Di kz2 N5 M5 yw yI
  by_cases c2:v=0
  case neg =>
   have t2:(v == 0)=false:=by simpa using c2
   have Py:(v != 0)=true:=by simpa using c2
   have hE:Hid (eP S cu cg no dir nm=7):=by show _=_;rw[cL.out,if_neg (by decide),if_neg IY.out,if_pos c2]
   clear cL c2;go_wp2_with fail;go_ret;exact HS.out _ _ E6 hE.out (by decide)
  have t2:(v == 0)=true:=by simpa using c2
  have Py:(v != 0)=false:=by simpa using c2
  have y1:w6.cell? ⟨m_,1,none⟩=some (.int .i64 n.dev):=N6.cell 1;have y2:w6.cell? ⟨yJ,1,none⟩=some (.int .i64 m.dev):=M6.cell 1;have y3:w6.cell? ⟨m_,8,none⟩=some (.int .i64 n.ah):=N6.cell 8;have yz:=N6.lt;have Z7:=M6.lt;have qY:=zH (show ¬¬v=0 by simpa using c2);clear c2
  by_cases c3:n.dev=m.dev
  case neg =>
   have t3:(n.dev == m.dev)=false:=by simpa using c3
   have t3b:(n.dev != m.dev)=true:=by simpa using c3
   have hE:Hid (eP S cu cg no dir nm=11):=by show _=_;rw[cL.out,if_neg (by decide),if_neg IY.out,if_neg qY.out,if_pos c3]
   clear cL c3;go_wp2_with fail;go_ret;exact HS.out _ _ E6 hE.out (by decide)
  have t3:(n.dev == m.dev)=true:=by simpa using c3
  have t3b:(n.dev != m.dev)=false:=by simpa using c3
  have WS:=zH (show ¬¬n.dev=m.dev by simpa using c3);clear c3
  by_cases c4:1000<=n.ah
  ·have t4:decide (1000<=n.ah)=true:=decide_eq_true c4
   have hE:Hid (eP S cu cg no dir nm=18):=by show _=_;rw[cL.out,if_neg (by decide),if_neg IY.out,if_neg qY.out,if_neg WS.out,if_pos c4]
   clear cL c4;go_wp2_with fail;go_ret;exact HS.out _ _ E6 hE.out (by decide)
  have t4:decide (1000<=n.ah)=false:=decide_eq_false c4;have hE:Hid (eP S cu cg no dir nm=0):=by show _=_;rw[cL.out,if_neg (by decide),if_neg IY.out,if_neg qY.out,if_neg WS.out,if_neg c4]
  have g_:=(HLK.out (by trivial)).1;have y4:IntKind.i64.wrap (n.ah+1)=n.ah+1:=bV (by omega) (by omega);have yf:∀i,w6.frozen? ⟨m_,i,none⟩=false:=fun i=>(N6.free i).trans (by simp)
  have y7:w6.cell? ⟨m_,7,none⟩=some (.int .i64 n.ctime):=N6.cell 7;obtain ⟨n',hn'⟩:∃n':ai,n'={n with ah:=n.ah+1,ctime:=now}:=⟨_,rfl⟩;have Kt:=zH hn';clear cL c4 g_ hn';go_upto_region 17 with fail;obtain⟨V,hV⟩:=ar ((w6.setCell ⟨m_,8,none⟩ (.int .i64 (n.ah+1))).setCell ⟨m_,7,none⟩ (.int .i64 now));rw [<-hV];have NV:Has V m_ (.cells #[.int .i64 (n').no,.int .i64 (n').dev,.int .i64 (n').kind,.int .i64 (n').mode,.int .i64 (n').uid,.int .i64 (n').gid,.int .i64 (n').mtime,.int .i64 (n').ctime,.int .i64 (n').ah,.int .i64 (n').up,.string (bs (n').data),.slice A4 (n').ae.length k4] 58):=by rw[hV,Kt.out];exact (N6.setCell 8 _).setCell 7 _
  have OV:Only [m_] w6 V:=by rw[hV];exact (Only.setCell _ _ _ _).then (Only.setCell _ _ _ _)
  have WT:dg w6 B [m_]:=by
   intro b hb;rw [List.mem_singleton]at hb;subst hb;exact ⟨by have:=h.1;have:=h.lt.1;have:=E0.size;have:=Pz.size;omega,N6.gi (by decide)⟩
  have EV:Ext w V:=OV.after E6 (by intro b hb;rw[List.mem_singleton]at hb;omega);have KV:=h.ext EV;have MV:=OV.has M6 (by rw[List.mem_singleton];omega);have yx:=sK.only OV WT;have S4:ay V B n' A4 k4:=(Kw.only OV WT).same (by rw[Kt.out]);clear hV y1 y2 y3 y4 yf y7 yz Z7 N6 M6 sK Kw;obtain ⟨_,_,cdV,SW,_⟩:=id KV;have v0:V.cell? ⟨g.bW,0,none⟩=some (.pointer (some ⟨g.bT,0,none⟩)):=SW.cell 0;have vz:=SW.lt;obtain ⟨x0,x1,x2,x3,x4,x5,x6,x7,x8,x9,sy,sA⟩:=NV.dS;have zN:=NV.lt;clear SW;go_still_tail 5,(by kernel_rfl);change wpList _ _ _ _ _ V.drew;go_wp2_with fail;have ED:Ext V V.drew:=(Ext.refl _).drew;refine (mV B g S n' A4 k4 _ (KV.ext ED) HO.out.live.aC (S4.ext ED)).mono ?_;rintro e w7 ⟨rfl,K7,O7⟩;have Kx:yJ∉g.list:=by
   have WL:=h.lt;simp only[bQ.list,List.mem_cons,List.not_mem_nil,or_false];omega
  have M7:=O7.has (MV.ext ED) Kx;have tK:=(yx.ext ED).only O7 (KV.ext ED).apart;have Ow7:Only g.list w w7:=Only.pre (EV.trans ED) O7;obtain⟨T,hT⟩:=ar (aK S n');rw [<-hT]at K7;have SY:aI T.nodes T.last:=by rw[hT];exact HO.out.live.aC.set _
  have HT:=zH hT;have Di:w7.cell? ⟨yJ,11,none⟩=some (.slice A2 m.ae.length k2):=M7.cell 11;have kz:=M7.lt;clear v0 vz x0 x1 x2 x3 x4 x5 x6 x7 x8 x9 sy sA zN hT;go_wp2_with fail;refine (EE A2 m.ae k2 nm no _ tK.ae.ae tK.nil yH.out.1 tK.cap tK.max (by have:=yH.out.2;omega)).mono ?_;rintro e w8 ⟨v8,rfl,hown,Fa⟩;rw [qG _ _ _ yH.out.1]at hown;obtain ⟨A8,c8,rfl,q1,q2,q3,q4⟩:=hown.EJ (B:=B);obtain ⟨L8,S6⟩:∃L,L=dk m.ae (nm,no):=⟨_,rfl⟩;rw [<-S6]at q1 q3|-;have SZ:Hid (Calls Tryz.prog 126 #[.pointer (some ⟨g.bW,0,none⟩),.int .i64 dir,.int .i64 now,.slice A8 L8.length c8] w8 (Df w8 B g (cI T dir now L8))):=uj B g T dir now A8 L8 c8 w8 (K7.ext Fa) SY q3 q1 q2 q4;have HL8:=zH S6;clear Di kz hown q1 q2 q3 q4 S6;go_wp2_with fail;refine SZ.out.mono ?_;rintro e w9 ⟨rfl,K9,O9⟩;go_wp2_with fail;go_ret;rw [hE.out];have e3:dW S cu cg now no dir nm=cI T dir now L8:=by
   unfold dW bH;rw [if_pos hE.out,HT.out,HL8.out,Kt.out,vS.out,CZ.out]
  exact ⟨rfl,by rw[e3];exact K9,(Ow7.ext Fa).then O9⟩
 ·have t0:(x == 0)=false:=by simpa using hx0
  have oG:(x != 0)=true:=by simpa using hx0
  have hE:Hid (eP S cu cg no dir nm=x):=by show _=_;rw[hm.out,if_pos hx0]
  have HX:=zH hx0;clear hm hx0;go_wp2_with fail;go_ret;exact HS.out _ _ E3 hE.out HX.out
theorem oY (B:Nat) (g:cJ) (S:ac) (X:cM) (cu cg no:Int) (w:World) (h:gV w B g S X) (lJ:S.nodes.length<=1000000) (hu:aI S.nodes S.last) :
  Calls Tryz.prog 92 #[.pointer (some ⟨g.bF,0,none⟩),.agg #[cu,cg],.int .i64 no] w (aH w (.int .i64 (ew S cu no))):=by
 have E0:Ext w (w.alloc (.cells #[cu,cg] 27)):=(Ext.refl _).alloc _;have hm:Hid (ew S cu no=if aQ S.nodes no=false then 5 else if gW cu (aa S.nodes no).uid=false then 4 else 0):=by show _=_;rfl
 have hz:aQ S.nodes no=false->(aa S.nodes no).no=0:=fun hi=>by rw[(aV hi).1];rfl
 have hz2:aQ S.nodes no=true->(aa S.nodes no).no≠0:=fun hi=>by rw[(aj hi).2.1];have:=(hu.2 _ (aj hi).2.2).1;rw[(aj hi).2.1]at this;omega
 go_enter Tryz.func92,Tryz.ntmps92;go_wp2_with fail;refine (eZ B g S X no _ (h.ext E0) lJ hu).mono ?_;rintro e w2 ⟨A,c,rfl,iC,b2⟩;have C2:=(Has.new w (.cells #[cu,cg] 27)).ext b2;have E2:=E0.trans b2;obtain⟨m,hmm⟩:=ar (aa S.nodes no);obtain⟨i,hi⟩:=ar (aQ S.nodes no);rw [<-hmm]at iC hm hz hz2;rw [<-hi]at hm hz hz2;rw [<-hmm];obtain⟨W3,du⟩:=ar (w2.alloc (.cells #[m.no,m.dev,m.kind,m.mode,m.uid,m.gid,m.mtime,m.ctime,m.ah,m.up,bs m.data,.slice A m.ae.length c] 58));obtain ⟨b7,wm⟩:∃b,b=w2.heap.size:=⟨_,rfl⟩;have kD:Ext w2 W3:=by rw[du];exact (Ext.refl _).alloc _
 have N3:Has W3 b7 (.cells #[m.no,m.dev,m.kind,m.mode,m.uid,m.gid,m.mtime,m.ctime,m.ah,m.up,bs m.data,.slice A m.ae.length c] 58):=by rw[du,wm];exact Has.new _ _
 have C3:=C2.ext kD;have E3:=E2.trans kD;have HZ:=zH hz;have S7:=zH hz2;clear hmm hi hz hz2;go_upto_region 2 with fail;rw [<-du];rw [<-wm];clear du wm;have k0:W3.cell? ⟨b7,0,none⟩=some (.int .i64 m.no):=N3.cell 0;have kz:=N3.lt
 cases i
 ·have t0:(m.no == 0)=true:=by simpa using HZ.out rfl
  have hE:Hid (ew S cu no=5):=by show _=_;rw[hm.out];rfl
  clear hm;go_wp2_with fail;go_ret;exact aH.mk (aB hE.out.symm) E3
 ·have t0:(m.no == 0)=false:=by simpa using S7.out rfl
  obtain⟨u,Ak⟩:=ar (gW cu m.uid);rw [<-Ak]at hm;have HU:=zH Ak;have c0:W3.cell? ⟨w.heap.size,0,none⟩=some (.int .i64 cu):=C3.cell 0;have c1:W3.cell? ⟨w.heap.size,1,none⟩=some (.int .i64 cg):=C3.cell 1;have zc:=C3.lt;clear Ak;go_wp2_with (refine aP rfl _ rfl b7 m A c rfl N3 ?_);refine (Gm cu cg _ _ _ _ m.uid _ _ _ _ _ _ _ _).mono ?_;rw [<-HU.out];rintro e w4 ⟨rfl,b4⟩
  cases u
  ·have hE:Hid (ew S cu no=4):=by show _=_;rw[hm.out];rfl
   clear hm;go_wp2_with fail;go_ret;exact aH.mk (aB hE.out.symm) (E3.trans b4)
  ·have hE:Hid (ew S cu no=0):=by show _=_;rw[hm.out];rfl
   clear hm;go_wp2_with fail;go_ret;exact aH.mk (aB hE.out.symm) (E3.trans b4)
theorem GL (B:Nat) (g:cJ) (S:ac) (X:cM) (cu cg no mode:Int) (w:World) (h:gV w B g S X) (lJ:S.nodes.length<=1000000) (hu:aI S.nodes S.last) :
  Calls Tryz.prog 56 #[.pointer (some ⟨g.bF,0,none⟩),.agg #[cu,cg],.int .i64 no,.int .i64 mode] w (Db w B g (d_ S cu X.now no mode) X (eJ S cu no mode)):=by
 have E0:Ext w (w.alloc (.cells #[cu,cg] 27)):=(Ext.refl _).alloc _;have hm:Hid (eJ S cu no mode=if ew S cu no≠0 then ew S cu no else if mode<0\/1023<mode\/(aa S.nodes no).kind=3 then 1 else 0):=by show _=_;rfl
 have oH:Hid (ew S cu no=0->aQ S.nodes no=true):=fun h0=>(gI h0).1
 have HS:Hid (∀(w':World) (x:Int),Ext w w'->eJ S cu no mode=x->x≠0->Db w B g (d_ S cu X.now no mode) X (eJ S cu no mode) (.returned (.int .i64 x)) w'):=by
  show ∀(w':World) (x:Int),_;intro w' x hE hx hx0;rw [hx];exact qW h hE (by unfold d_;rw[if_neg (by rw[hx];exact hx0)])
 go_enter Tryz.func56,Tryz.ntmps56;go_wp2_with fail;refine (oY B g S X cu cg no _ (h.ext E0) lJ hu).mono ?_;rintro e w1 ⟨rfl,b1⟩;have E1:=E0.trans b1;have C1:=(Has.new w (.cells #[cu,cg] 27)).ext b1;obtain⟨x,hx⟩:=ar (ew S cu no);rw [<-hx]at hm oH;rw [<-hx];clear hx
 by_cases hx0:x=0
 ·have t0 : (x == 0)=true:=by simpa using hx0
  have oG:(x != 0)=false:=by simpa using hx0
  have HN:=zH ((aj (oH.out hx0)).2.1);have jl:Hid (eJ S cu no mode=if mode<0\/1023<mode\/(aa S.nodes no).kind=3 then 1 else 0):=by show _=_;rw[hm.out,if_neg (by simpa using hx0)]
  clear hm oH hx0;have EG:=E1;go_wp2_with fail;refine (eZ B g S X no _ (h.ext EG) lJ hu).mono ?_;rintro e w2 ⟨A,c,rfl,iC,b2⟩;have E2:=EG.trans b2;obtain⟨m,hmm⟩:=ar (aa S.nodes no);rw [<-hmm]at iC HN jl;rw [<-hmm];have HM:=zH hmm;have nw:w2.cell? ⟨g.bF,3,none⟩=some (.int .i64 X.now):=by obtain⟨_,_,_,k,_⟩:=h.ext E2;exact k.cell 3
  have nz:=(h.ext E2).lt.1;clear hmm
  by_cases c1:mode<0
  ·have t1:decide (mode<0)=true:=decide_eq_true c1
   have hE:Hid (eJ S cu no mode=1):=by show _=_;rw[jl.out,if_pos (.inl c1)]
   clear jl c1;go_wp2_with fail;go_ret;exact HS.out _ _ (E2.alloc _) hE.out (by decide)
  ·have t1:decide (mode<0)=false:=decide_eq_false c1
   by_cases c2:1023<mode
   ·have t2:decide (1023<mode)=true:=decide_eq_true c2
    have hE:Hid (eJ S cu no mode=1):=by show _=_;rw[jl.out,if_pos (.inr (.inl c2))]
    clear jl c1 c2;go_wp2_with fail;go_ret;exact HS.out _ _ (E2.alloc _) hE.out (by decide)
   ·have t2:decide (1023<mode)=false:=decide_eq_false c2
    by_cases c3:m.kind=3
    ·have t3:(m.kind == 3)=true:=by simpa using c3
     have hE:Hid (eJ S cu no mode=1):=by show _=_;rw[jl.out,if_pos (.inr (.inr c3))]
     clear jl c1 c2 c3;go_wp2_with fail;go_ret;exact HS.out _ _ (E2.alloc _) hE.out (by decide)
    ·have t3:(m.kind == 3)=false:=by simpa using c3
     have hE:Hid (eJ S cu no mode=0):=by show _=_;rw[jl.out,if_neg (by rintro (g'|g'|g')<;>contradiction)]
     clear jl c1 c2 c3;go_upto_region 9 with fail;obtain ⟨n,hn⟩:∃n:ai,n={m with mode:=mode,ctime:=X.now}:=⟨_,rfl⟩;obtain⟨V,hV⟩:=ar (w2.alloc (.cells #[n.no,n.dev,n.kind,n.mode,n.uid,n.gid,n.mtime,n.ctime,n.ah,n.up,bs n.data,.slice A n.ae.length c] 58));have lZ:=hV;rw [hn]at lZ;rw [<-lZ];have NV:Has V w2.heap.size (.cells #[n.no,n.dev,n.kind,n.mode,n.uid,n.gid,n.mtime,n.ctime,n.ah,n.up,bs n.data,.slice A n.ae.length c] 58):=by rw[hV];exact Has.new _ _
     have EV:Ext w V:=by rw[hV];exact E2.alloc _
     have yx:ay V B n A c:=((iC.ext (by rw[hV];exact (Ext.refl _).alloc _)).same (by rw[hn]));have vS:=zH hn;clear hV lZ hn nw nz;go_wp2_with (refine aP rfl _ rfl w2.heap.size n A c rfl NV ?_);refine (mR B g S X n A c _ (h.ext EV) lJ hu yx).mono ?_;rintro e w5 ⟨rfl,K5,O5⟩;go_wp2_with fail;go_ret;rw [hE.out];refine ⟨rfl,?_,Only.pre EV O5⟩;have:d_ S cu X.now no mode=aK S n:=by unfold d_;rw[if_pos hE.out,vS.out,HM.out]
     rw [this];exact K5
 ·have t0:(x == 0)=false:=by simpa using hx0
  have oG:(x != 0)=true:=by simpa using hx0
  have hE:Hid (eJ S cu no mode=x):=by show _=_;rw[hm.out,if_pos hx0]
  have HX:=zH hx0;clear hm oH hx0;go_wp2_with fail;go_ret;exact HS.out _ _ E1 hE.out HX.out
theorem Dj (B:Nat) (g:cJ) (S:ac) (X:cM) (cu cg no uid gid:Int) (w:World) (h:gV w B g S X) (lJ:S.nodes.length<=1000000) (hu:aI S.nodes S.last) :
  Calls Tryz.prog 55 #[.pointer (some ⟨g.bF,0,none⟩),.agg #[cu,cg],.int .i64 no,.int .i64 uid,.int .i64 gid] w (Db w B g (ey S cu X.now no uid gid) X (fu S cu no uid gid)):=by
 have E0:Ext w (w.alloc (.cells #[cu,cg] 27)):=(Ext.refl _).alloc _;have hm:Hid (fu S cu no uid gid=if ew S cu no≠0 then ew S cu no else if ¬cu=0 then 4 else if mU uid gid=false then 1 else 0):=by show _=_;rfl
 have oH:Hid (ew S cu no=0->aQ S.nodes no=true):=fun h0=>(gI h0).1
 have HS:Hid (∀(w':World) (x:Int),Ext w w'->fu S cu no uid gid=x->x≠0->Db w B g (ey S cu X.now no uid gid) X (fu S cu no uid gid) (.returned (.int .i64 x)) w'):=by
  show ∀(w':World) (x:Int),_;intro w' x hE hx hx0;rw [hx];exact qW h hE (by unfold ey;rw[if_neg (by rw[hx];exact hx0)])
 go_enter Tryz.func55,Tryz.ntmps55;go_wp2_with fail;refine (oY B g S X cu cg no _ (h.ext E0) lJ hu).mono ?_;rintro e w1 ⟨rfl,b1⟩;have E1:=E0.trans b1;have C1:=(Has.new w (.cells #[cu,cg] 27)).ext b1;obtain⟨x,hx⟩:=ar (ew S cu no);rw [<-hx]at hm oH;rw [<-hx];clear hx
 by_cases hx0:x=0
 ·have t0:(x == 0)=true:=by simpa using hx0
  have oG:(x != 0)=false:=by simpa using hx0
  have HN:=zH ((aj (oH.out hx0)).2.1);have jl:Hid (fu S cu no uid gid=if ¬cu=0 then 4 else if mU uid gid=false then 1 else 0):=by show _=_;rw[hm.out,if_neg (by simpa using hx0)]
  clear hm oH hx0;have k0:w1.cell? ⟨w.heap.size,0,none⟩=some (.int .i64 cu):=C1.cell 0;have kz:=C1.lt
  by_cases c1:cu=0
  ·have t1:(cu == 0)=true:=by simpa using c1
   have we:(cu != 0)=false:=by simpa using c1
   obtain⟨u,Ak⟩:=ar (mU uid gid);rw [<-Ak]at jl;have HU:=zH Ak;have cL:Hid (fu S cu no uid gid=if u=false then 1 else 0):=by show _=_;rw[jl.out,if_neg (by simpa using c1)]
   clear jl c1 Ak;go_wp2_with fail;refine (Gl uid gid _).mono ?_;rw [<-HU.out];rintro e w1' ⟨rfl,Sm⟩;have EG:=E1.trans Sm;clear k0 kz
   cases u
   ·have hE:Hid (fu S cu no uid gid=1):=by show _=_;rw[cL.out];rfl
    clear cL;go_wp2_with fail;go_ret;exact HS.out _ _ EG hE.out (by decide)
   ·have hE:Hid (fu S cu no uid gid=0):=by show _=_;rw[cL.out];rfl
    clear cL;go_wp2_with fail;refine (eZ B g S X no _ (h.ext EG) lJ hu).mono ?_;rintro e w2 ⟨A,c,rfl,iC,b2⟩;have E2:=EG.trans b2;obtain⟨m,hmm⟩:=ar (aa S.nodes no);rw [<-hmm]at iC HN;rw [<-hmm];have HM:=zH hmm;have nw:w2.cell? ⟨g.bF,3,none⟩=some (.int .i64 X.now):=by obtain⟨_,_,_,k,_⟩:=h.ext E2;exact k.cell 3
    have nz:=(h.ext E2).lt.1;clear hmm;go_upto_region 12 with fail;obtain ⟨n,hn⟩:∃n:ai,n={m with uid:=uid,gid:=gid,ctime:=X.now}:=⟨_,rfl⟩;obtain⟨V,hV⟩:=ar (w2.alloc (.cells #[n.no,n.dev,n.kind,n.mode,n.uid,n.gid,n.mtime,n.ctime,n.ah,n.up,bs n.data,.slice A n.ae.length c] 58));have lZ:=hV;rw [hn]at lZ;rw [<-lZ];have NV:Has V w2.heap.size (.cells #[n.no,n.dev,n.kind,n.mode,n.uid,n.gid,n.mtime,n.ctime,n.ah,n.up,bs n.data,.slice A n.ae.length c] 58):=by rw[hV];exact Has.new _ _
    have EV:Ext w V:=by rw[hV];exact E2.alloc _
    have yx:ay V B n A c:=((iC.ext (by rw[hV];exact (Ext.refl _).alloc _)).same (by rw[hn]));have vS:=zH hn;clear hV lZ hn nw nz;go_wp2_with (refine aP rfl _ rfl w2.heap.size n A c rfl NV ?_);refine (mR B g S X n A c _ (h.ext EV) lJ hu yx).mono ?_;rintro e w5 ⟨rfl,K5,O5⟩;go_wp2_with fail;go_ret;rw [hE.out];refine ⟨rfl,?_,Only.pre EV O5⟩;have:ey S cu X.now no uid gid=aK S n:=by unfold ey;rw[if_pos hE.out,vS.out,HM.out]
    rw [this];exact K5
  ·have t1:(cu == 0)=false:=by simpa using c1
   have we:(cu != 0)=true:=by simpa using c1
   have hE:Hid (fu S cu no uid gid=4):=by show _=_;rw[jl.out,if_pos c1]
   clear jl c1;go_wp2_with fail;go_ret;exact HS.out _ _ E1 hE.out (by decide)
 ·have t0:(x == 0)=false:=by simpa using hx0
  have oG:(x != 0)=true:=by simpa using hx0
  have hE:Hid (fu S cu no uid gid=x):=by show _=_;rw[hm.out,if_pos hx0]
  have HX:=zH hx0;clear hm oH hx0;go_wp2_with fail;go_ret;exact HS.out _ _ E1 hE.out HX.out
theorem GM (B:Nat) (g:cJ) (S:ac) (X:cM) (cu cg no mt:Int) (w:World) (h:gV w B g S X) (lJ:S.nodes.length<=1000000) (hu:aI S.nodes S.last) :
  Calls Tryz.prog 57 #[.pointer (some ⟨g.bF,0,none⟩),.agg #[cu,cg],.int .i64 no,.int .i64 mt] w (Db w B g (ee S cu X.now no mt) X (fw S cu no mt)):=by
 have E0:Ext w (w.alloc (.cells #[cu,cg] 27)):=(Ext.refl _).alloc _;have hm:Hid (fw S cu no mt=if ew S cu no≠0 then ew S cu no else if mt<0\/253402300799<mt then 1 else 0):=by show _=_;rfl
 have oH:Hid (ew S cu no=0->aQ S.nodes no=true):=fun h0=>(gI h0).1
 have HS:Hid (∀(w':World) (x:Int),Ext w w'->fw S cu no mt=x->x≠0->Db w B g (ee S cu X.now no mt) X (fw S cu no mt) (.returned (.int .i64 x)) w'):=by
  show ∀(w':World) (x:Int),_;intro w' x hE hx hx0;rw [hx];exact qW h hE (by unfold ee;rw[if_neg (by rw[hx];exact hx0)])
 go_enter Tryz.func57,Tryz.ntmps57;go_wp2_with fail;refine (oY B g S X cu cg no _ (h.ext E0) lJ hu).mono ?_;rintro e w1 ⟨rfl,b1⟩;have E1:=E0.trans b1;have C1:=(Has.new w (.cells #[cu,cg] 27)).ext b1;obtain⟨x,hx⟩:=ar (ew S cu no);rw [<-hx]at hm oH;rw [<-hx];clear hx
 by_cases hx0:x=0
 ·have t0:(x == 0)=true:=by simpa using hx0
  have oG:(x != 0)=false:=by simpa using hx0
  have HN:=zH ((aj (oH.out hx0)).2.1);have jl:Hid (fw S cu no mt=if mt<0\/253402300799<mt then 1 else 0):=by show _=_;rw[hm.out,if_neg (by simpa using hx0)]
  clear hm oH hx0;have EG:=E1
  by_cases c1:mt<0
  ·have t1:decide (mt<0)=true:=decide_eq_true c1
   have hE:Hid (fw S cu no mt=1):=by show _=_;rw[jl.out,if_pos (.inl c1)]
   clear jl c1;go_wp2_with fail;go_ret;exact HS.out _ _ E1 hE.out (by decide)
  ·have t1:decide (mt<0)=false:=decide_eq_false c1
   by_cases c2:253402300799<mt
   ·have t2:decide (253402300799<mt)=true:=decide_eq_true c2
    have hE:Hid (fw S cu no mt=1):=by show _=_;rw[jl.out,if_pos (.inr c2)]
    clear jl c1 c2;go_wp2_with fail;go_ret;exact HS.out _ _ E1 hE.out (by decide)
   ·have t2:decide (253402300799<mt)=false:=decide_eq_false c2
    have hE:Hid (fw S cu no mt=0):=by show _=_;rw[jl.out,if_neg (by rintro (g'|g')<;>contradiction)]
    clear jl c1 c2;go_wp2_with fail;refine (eZ B g S X no _ (h.ext EG) lJ hu).mono ?_;rintro e w2 ⟨A,c,rfl,iC,b2⟩;have E2:=EG.trans b2;obtain⟨m,hmm⟩:=ar (aa S.nodes no);rw [<-hmm]at iC HN;rw [<-hmm];have HM:=zH hmm;have nw:w2.cell? ⟨g.bF,3,none⟩=some (.int .i64 X.now):=by obtain⟨_,_,_,k,_⟩:=h.ext E2;exact k.cell 3
    have nz:=(h.ext E2).lt.1;clear hmm;go_upto_region 9 with fail;obtain ⟨n,hn⟩:∃n:ai,n={m with mtime:=mt,ctime:=X.now}:=⟨_,rfl⟩;obtain⟨V,hV⟩:=ar (w2.alloc (.cells #[n.no,n.dev,n.kind,n.mode,n.uid,n.gid,n.mtime,n.ctime,n.ah,n.up,bs n.data,.slice A n.ae.length c] 58));have lZ:=hV;rw [hn]at lZ;rw [<-lZ];have NV:Has V w2.heap.size (.cells #[n.no,n.dev,n.kind,n.mode,n.uid,n.gid,n.mtime,n.ctime,n.ah,n.up,bs n.data,.slice A n.ae.length c] 58):=by rw[hV];exact Has.new _ _
    have EV:Ext w V:=by rw[hV];exact E2.alloc _
    have yx:ay V B n A c:=((iC.ext (by rw[hV];exact (Ext.refl _).alloc _)).same (by rw[hn]));have vS:=zH hn;clear hV lZ hn nw nz;go_wp2_with (refine aP rfl _ rfl w2.heap.size n A c rfl NV ?_);refine (mR B g S X n A c _ (h.ext EV) lJ hu yx).mono ?_;rintro e w5 ⟨rfl,K5,O5⟩;go_wp2_with fail;go_ret;rw [hE.out];refine ⟨rfl,?_,Only.pre EV O5⟩;have:ee S cu X.now no mt=aK S n:=by unfold ee;rw[if_pos hE.out,vS.out,HM.out]
    rw [this];exact K5
 ·have t0:(x == 0)=false:=by simpa using hx0
  have oG:(x != 0)=true:=by simpa using hx0
  have hE:Hid (fw S cu no mt=x):=by show _=_;rw[hm.out,if_pos hx0]
  have HX:=zH hx0;clear hm oH hx0;go_wp2_with fail;go_ret;exact HS.out _ _ E1 hE.out HX.out
def bf (S:ac) (cu cg no kind want:Int):Int:=
 if aQ S.nodes no=false then 5
 else if (aa S.nodes no).kind=kind then (if fL cu cg (aa S.nodes no).uid (aa S.nodes no).gid (aa S.nodes no).mode want=false then 6 else 0)
 else if kind=1 then 9 else if (aa S.nodes no).kind=1 then 8 else 1
def aS (S:ac) (cu cg no kind want:Int):ai:=if bf S cu cg no kind want=0 then aa S.nodes no else ag
def Ro (w:World) (B:Nat) (S:ac) (cu cg no kind want:Int) (e:Ending) (w':World):Prop:=
 ∃ A c,e=.returned (.tuple #[.agg #[.int .i64 (aS S cu cg no kind want).no,.int .i64 (aS S cu cg no kind want).dev,.int .i64 (aS S cu cg no kind want).kind,.int .i64 (aS S cu cg no kind want).mode,.int .i64 (aS S cu cg no kind want).uid,.int .i64 (aS S cu cg no kind want).gid,.int .i64 (aS S cu cg no kind want).mtime,.int .i64 (aS S cu cg no kind want).ctime,.int .i64 (aS S cu cg no kind want).ah,.int .i64 (aS S cu cg no kind want).up,.string (bs (aS S cu cg no kind want).data),.slice A (aS S cu cg no kind want).ae.length c],.int .i64 (bf S cu cg no kind want)])/\ay w' B (aS S cu cg no kind want) A c/\Ext w w'
theorem nN (B:Nat) (g:bQ) (S:ac) (cu cg no kind want:Int) (w:World) (h:eD w B g S) (hd:0<S.af.length) :
  Calls Tryz.prog 129 #[.pointer (some ⟨g.bW,0,none⟩),.agg #[cu,cg],.int .i64 no,.int .i64 kind,.int .i64 want] w (Ro w B S cu cg no kind want):=by
 have h0:=h;obtain ⟨h1,h2,cd,h3,h4⟩:=h;have jF:((S.af.length:Int) == 0)=false:=by simpa using (show ¬(S.af.length:Int)=0 by omega)
 have E0:Ext w ((w.alloc (.cells #[cu,cg] 27)).alloc (.cells #[.int .i64 0,.int .i64 0,.int .i64 0,.int .i64 0,.int .i64 0,.int .i64 0,.int .i64 0,.int .i64 0,.int .i64 0,.int .i64 0,.string ⟨#[]⟩,.slice none 0 0] 58)):=((Ext.refl _).alloc _).alloc _;go_enter Tryz.func129,Tryz.ntmps129;go_wp2_with fail;refine (lI B g S _ (h0.ext E0) hd).mono ?_;rintro e w1 ⟨rfl,b1⟩;have E1:=E0.trans b1;have R0:=Has.new (w.alloc (.cells #[cu,cg] 27)) (.cells #[ag.no,ag.dev,ag.kind,ag.mode,ag.uid,ag.gid,ag.mtime,ag.ctime,ag.ah,ag.up,bs ag.data,.slice none ag.ae.length 0] 58);rw [World.size_alloc]at R0;have R1:=R0.ext b1;have C1:=((Has.new w (.cells #[cu,cg] 27)).alloc (.cells #[.int .i64 0,.int .i64 0,.int .i64 0,.int .i64 0,.int .i64 0,.int .i64 0,.int .i64 0,.int .i64 0,.int .i64 0,.int .i64 0,.string ⟨#[]⟩,.slice none 0 0] 58)).ext b1;have v0:w1.cell? ⟨g.bW,0,none⟩=some (.pointer (some ⟨g.bT,0,none⟩)):=(h3.ext E1).cell 0;have z1:=(h3.ext E1).lt;go_wp2_with fail;refine (fP B g.bT g.bM S.nodes S.last no _ (h2.ext E1)).mono ?_;rintro e w2 ⟨A2,k2,rfl,iC,b2⟩;have R2:=R1.ext b2;have C2:=C1.ext b2;have hm:Hid (bf S cu cg no kind want=if aQ S.nodes no=false then 5
  else if (aa S.nodes no).kind=kind then (if fL cu cg (aa S.nodes no).uid (aa S.nodes no).gid (aa S.nodes no).mode want=false then 6 else 0)
  else if kind=1 then 9 else if (aa S.nodes no).kind=1 then 8 else 1):=by show _=_;rfl
 have cL:Hid (aS S cu cg no kind want=if bf S cu cg no kind want=0 then aa S.nodes no else ag):=by show _=_;rfl
 obtain⟨m,hmm⟩:=ar (aa S.nodes no);rw [<-hmm]at iC hm cL|-;obtain⟨W3,du⟩:=ar (w2.alloc (.cells #[m.no,m.dev,m.kind,m.mode,m.uid,m.gid,m.mtime,m.ctime,m.ah,m.up,bs m.data,.slice A2 m.ae.length k2] 58));have kD:Ext w2 W3:=by rw[du];exact (Ext.refl _).alloc _
 have N3:Has W3 w2.heap.size (.cells #[m.no,m.dev,m.kind,m.mode,m.uid,m.gid,m.mtime,m.ctime,m.ah,m.up,bs m.data,.slice A2 m.ae.length k2] 58):=by rw[du];exact Has.new _ _
 have R3:=R2.ext kD;have C3:=C2.ext kD;have E3:Ext w W3:=(E1.trans b2).trans kD;obtain⟨b8,fZ⟩:=ar w2.heap.size;obtain⟨i,hi⟩:=ar (aQ S.nodes no);rw [<-hi]at hm|-;clear hmm hi R1 C1 R2 C2 v0;go_upto_region 4 with fail;rw [<-du];rw [<-fZ]at N3|-;have pA:=iC.ext kD;clear du fZ kD;have HS:Hid (∀(w5 w6:World) (x:Int),Ext w w5->Only [w.heap.size+1] w5 w6->bf S cu cg no kind want=x->x≠0->Ro w B S cu cg no kind want (.returned (.tuple #[.agg #[ag.no,ag.dev,ag.kind,ag.mode,ag.uid,ag.gid,ag.mtime,ag.ctime,ag.ah,ag.up,bs ag.data,.slice none ag.ae.length 0],.int .i64 x])) w6):=by
  show ∀(w5 w6:World) (x:Int),_;intro w5 w6 x hE hO hx hx0;have hN:aS S cu cg no kind want=ag:=by rw[cL.out,if_neg (by rw[hx];exact hx0)]
  exact ⟨none,0,by rw[hx,hN],by rw[hN];exact ay.zero _ _,hO.after hE (by simp)⟩
 have Px:W3.cell? ⟨b8,2,none⟩=some (.int .i64 m.kind):=N3.cell 2;have kz:=N3.lt
 cases i
 ·have hE:Hid (bf S cu cg no kind want=5):=by show _=_;rw[hm.out];rfl
  clear hm;go_wp2_with (refine az rfl _ _ rfl (w.heap.size+1) ag none 0 rfl rfl R3 ?_;intro w9 R9 O9);refine bodyPost_ret (v:=.tuple #[.agg #[ag.no,ag.dev,ag.kind,ag.mode,ag.uid,ag.gid,ag.mtime,ag.ctime,ag.ah,ag.up,bs ag.data,.slice none ag.ae.length 0],.int .i64 5]) (dx Tryz.results129 _ _ (w.heap.size+1) ag none 0 _ rfl rfl R9) rfl ?_;exact HS.out _ _ _ E3 O9 hE.out (by decide)
 ·by_cases c1:m.kind=kind
  ·have t1:(m.kind == kind)=true:=by simpa using c1
   have we:(m.kind != kind)=false:=by simpa using c1
   obtain⟨u,Ak⟩:=ar (fL cu cg m.uid m.gid m.mode want);have mM:Hid (bf S cu cg no kind want=if u=false then 6 else 0):=by show _=_;rw[hm.out,if_neg (by decide),if_pos c1,Ak]
   have HU:=zH Ak;have x0:W3.cell? ⟨w.heap.size,0,none⟩=some (.int .i64 cu):=C3.cell 0;have x1:W3.cell? ⟨w.heap.size,1,none⟩=some (.int .i64 cg):=C3.cell 1;have xz:=C3.lt;clear hm Ak c1;obtain ⟨n0,n1,n2,n3,n4,n5,n6,n7,n8,n9,Dk,AU⟩:=N3.dS;go_wp2_with fail;refine (qU cu cg _ _ _ m.mode m.uid m.gid _ _ _ _ _ _ want _).mono ?_;rw [<-HU.out];rintro e w5 ⟨rfl,b5⟩;have R5:=R3.ext b5;have N5:=N3.ext b5;have E5:=E3.trans b5;have ab4:w5.cell? ⟨b8,2,none⟩=some (.int .i64 m.kind):=N5.cell 2;have ab5:=N5.lt;clear x0 x1 xz Px kz R3 N3 n0 n1 n2 n3 n4 n5 n6 n7 n8 n9 Dk AU
   cases u
   ·have hE:Hid (bf S cu cg no kind want=6):=by show _=_;rw[mM.out];rfl
    clear mM;go_wp2_with (refine az rfl _ _ rfl (w.heap.size+1) ag none 0 rfl rfl R5 ?_;intro w9 R9 O9);refine bodyPost_ret (v:=.tuple #[.agg #[ag.no,ag.dev,ag.kind,ag.mode,ag.uid,ag.gid,ag.mtime,ag.ctime,ag.ah,ag.up,bs ag.data,.slice none ag.ae.length 0],.int .i64 6]) (dx Tryz.results129 _ _ (w.heap.size+1) ag none 0 _ rfl rfl R9) rfl ?_;exact HS.out _ _ _ E5 O9 hE.out (by decide)
   ·have hE:Hid (bf S cu cg no kind want=0):=by show _=_;rw[mM.out];rfl
    have hN:Hid (aS S cu cg no kind want=m):=by show _=_;rw[cL.out,hE.out];rfl
    clear mM;go_wp2_with (first|(refine aP rfl _ rfl b8 m A2 k2 rfl N5 ?_)|(refine az rfl _ _ rfl (w.heap.size+1) m A2 k2 rfl rfl R5 ?_;intro w6 R6 O6));refine bodyPost_ret (v:=.tuple #[.agg #[m.no,m.dev,m.kind,m.mode,m.uid,m.gid,m.mtime,m.ctime,m.ah,m.up,bs m.data,.slice A2 m.ae.length k2],.int .i64 0]) (dx Tryz.results129 _ _ (w.heap.size+1) m A2 k2 _ rfl rfl R6) rfl ?_;have sK:ay w6 B m A2 k2:=((pA.ext b5).only O6 (by
     intro b hb;rw [List.mem_singleton]at hb;subst hb;exact ⟨by have:=h0.1;have:=h0.lt.1;omega,R5.gi (by decide)⟩))
    exact ⟨A2,k2,by rw[hE.out,hN.out],by rw[hN.out];exact sK,O6.after E5 (by simp)⟩
  ·have t1:(m.kind == kind)=false:=by simpa using c1
   have we:(m.kind != kind)=true:=by simpa using c1
   by_cases c2:kind=1
   ·have t2:(kind == 1)=true:=by simpa using c2
    have hE:Hid (bf S cu cg no kind want=9):=by show _=_;rw[hm.out,if_neg (by decide),if_neg c1,if_pos c2]
    clear hm c1 c2;go_wp2_with (refine az rfl _ _ rfl (w.heap.size+1) ag none 0 rfl rfl R3 ?_;intro w9 R9 O9);refine bodyPost_ret (v:=.tuple #[.agg #[ag.no,ag.dev,ag.kind,ag.mode,ag.uid,ag.gid,ag.mtime,ag.ctime,ag.ah,ag.up,bs ag.data,.slice none ag.ae.length 0],.int .i64 9]) (dx Tryz.results129 _ _ (w.heap.size+1) ag none 0 _ rfl rfl R9) rfl ?_;exact HS.out _ _ _ E3 O9 hE.out (by decide)
   ·have t2:(kind == 1)=false:=by simpa using c2
    by_cases c3:m.kind=1
    ·have t3:(m.kind == 1)=true:=by simpa using c3
     have hE:Hid (bf S cu cg no kind want=8):=by show _=_;rw[hm.out,if_neg (by decide),if_neg c1,if_neg c2,if_pos c3]
     clear hm c1 c2 c3;go_wp2_with (refine az rfl _ _ rfl (w.heap.size+1) ag none 0 rfl rfl R3 ?_;intro w9 R9 O9);refine bodyPost_ret (v:=.tuple #[.agg #[ag.no,ag.dev,ag.kind,ag.mode,ag.uid,ag.gid,ag.mtime,ag.ctime,ag.ah,ag.up,bs ag.data,.slice none ag.ae.length 0],.int .i64 8]) (dx Tryz.results129 _ _ (w.heap.size+1) ag none 0 _ rfl rfl R9) rfl ?_;exact HS.out _ _ _ E3 O9 hE.out (by decide)
    ·have t3:(m.kind == 1)=false:=by simpa using c3
     have hE:Hid (bf S cu cg no kind want=1):=by show _=_;rw[hm.out,if_neg (by decide),if_neg c1,if_neg c2,if_neg c3]
     clear hm c1 c2 c3;go_wp2_with (refine az rfl _ _ rfl (w.heap.size+1) ag none 0 rfl rfl R3 ?_;intro w9 R9 O9);refine bodyPost_ret (v:=.tuple #[.agg #[ag.no,ag.dev,ag.kind,ag.mode,ag.uid,ag.gid,ag.mtime,ag.ctime,ag.ah,ag.up,bs ag.data,.slice none ag.ae.length 0],.int .i64 1]) (dx Tryz.results129 _ _ (w.heap.size+1) ag none 0 _ rfl rfl R9) rfl ?_;exact HS.out _ _ _ E3 O9 hE.out (by decide)
def iH (S:ac) (cu cg dir:Int) (nm:List UInt8):Int:=
 if bf S cu cg dir 1 1=0 then (if aO (aS S cu cg dir 1 1).ae nm=0 then 5 else 0) else bf S cu cg dir 1 1
def lc (S:ac) (cu cg dir:Int) (nm:List UInt8):Int:=if iH S cu cg dir nm=0 then ak S.af (aO (aS S cu cg dir 1 1).ae nm) else 0
theorem dI.aS {c:Nat} {S:ac} (h:dI c S) (cu cg no kind want:Int):iR (aS S cu cg no kind want).ae/\(Proofs.YtblbohcaphcobaaGreatDoor.aS S cu cg no kind want).ae.length<=c:=by
 unfold Proofs.YtblbohcaphcobaaGreatDoor.aS;split
 ·exact h.aa no
 ·exact⟨List.Pairwise.nil,Nat.zero_le _⟩
theorem GN {c:Nat} (B:Nat) (g:bQ) (S:ac) (cu cg dir:Int) (nm:List UInt8) (w:World) (h:eD w B g S) (T:dI c S) (hc:c<=1000000) (_hl:S.last<=100000) :
  Calls Tryz.prog 131 #[.pointer (some ⟨g.bW,0,none⟩),.agg #[cu,cg],.int .i64 dir,bs nm] w (aH w (.tuple #[.int .i64 (lc S cu cg dir nm),.int .i64 (iH S cu cg dir nm)])):=by
 have E0:Ext w (w.alloc (.cells #[cu,cg] 27)):=(Ext.refl _).alloc _;go_enter Tryz.func131,Tryz.ntmps131;go_wp2_with fail;refine (nN B g S cu cg dir 1 1 _ (h.ext E0) T.af).mono ?_;rintro e w1 ⟨A,k,rfl,Dl,b1⟩;have um:=T.aS cu cg dir 1 1;have hE:Hid (iH S cu cg dir nm=if bf S cu cg dir 1 1=0 then (if aO (aS S cu cg dir 1 1).ae nm=0 then 5 else 0) else bf S cu cg dir 1 1):=by show _=_;rfl
 have hN:Hid (lc S cu cg dir nm=if iH S cu cg dir nm=0 then ak S.af (aO (aS S cu cg dir 1 1).ae nm) else 0):=by show _=_;rfl
 obtain⟨m,hm⟩:=ar (aS S cu cg dir 1 1);obtain⟨x,hx⟩:=ar (bf S cu cg dir 1 1);rw [<-hm]at Dl um hE hN|-;rw [<-hx]at hE|-;have HR:=zH um;obtain ⟨W2,dF⟩:∃W,W=w1.alloc (.cells #[m.no,m.dev,m.kind,m.mode,m.uid,m.gid,m.mtime,m.ctime,m.ah,m.up,bs m.data,.slice A m.ae.length k] 58):=⟨_,rfl⟩;obtain ⟨b8,fZ⟩:∃b,b=w1.heap.size:=⟨_,rfl⟩;have N2:Has W2 b8 (.cells #[m.no,m.dev,m.kind,m.mode,m.uid,m.gid,m.mtime,m.ctime,m.ah,m.up,bs m.data,.slice A m.ae.length k] 58):=by rw[dF,fZ];exact Has.new _ _
 have Dm:Ext w1 W2:=by rw[dF];exact (Ext.refl _).alloc _
 have HX:=zH ((E0.trans b1).trans Dm);have iC:=Dl.ext Dm;clear hm hx um Dl Dm;go_upto_region 2 with fail;rw [<-dF,<-fZ];clear dF fZ
 by_cases c0:x=0
 case neg =>
  have t0:(x == 0)=false:=by simpa using c0
  have oG:(x != 0)=true:=by simpa using c0
  have e1:Hid (iH S cu cg dir nm=x/\lc S cu cg dir nm=0):=by
   have h1:iH S cu cg dir nm=x:=by rw[hE.out,if_neg c0]
   exact zH ⟨h1,by rw[hN.out,h1,if_neg c0]⟩
  clear c0;go_wp2_with fail;go_ret2;exact aH.mk (by rw[e1.out.1,e1.out.2];rfl) HX.out
 have t0:(x == 0)=true:=by simpa using c0
 have oG:(x != 0)=false:=by simpa using c0
 have Gx:W2.cell? ⟨b8,11,none⟩=some (.slice A m.ae.length k):=N2.cell 11;have yz:=N2.lt;have C0:=zH c0;clear c0;go_wp2_with fail;refine (pE A m.ae k nm _ iC.ae.ae HR.out.1 (by have:=HR.out.2;omega)).mono ?_;rw [k_ HR.out.1];rintro e w3 ⟨rfl,b3⟩;obtain⟨no,bc⟩:=ar (aO m.ae nm);rw [<-bc]at hE hN|-;clear bc Gx yz
 by_cases c1:no=0
 ·have t1:(no == 0)=true:=by simpa using c1
  have e1:Hid (iH S cu cg dir nm=5/\lc S cu cg dir nm=0):=by
   have h1:iH S cu cg dir nm=5:=by rw[hE.out,if_pos C0.out,if_pos c1]
   exact zH ⟨h1,by rw[hN.out,h1,if_neg (by decide)]⟩
  clear c1;go_wp2_with fail;go_ret2;exact aH.mk (by rw[e1.out.1,e1.out.2];rfl) (HX.out.trans b3)
 ·have t1:(no == 0)=false:=by simpa using c1
  have e1:Hid (iH S cu cg dir nm=0/\lc S cu cg dir nm=ak S.af no):=by
   have h1:iH S cu cg dir nm=0:=by rw[hE.out,if_pos C0.out,if_neg c1]
   exact zH ⟨h1,by rw[hN.out,h1,if_pos rfl]⟩
  clear c1;go_wp2_with fail;refine (gH B g S _ _ (h.ext (HX.out.trans b3)) (by have:=T.af;omega) (by have:=T.eight;omega)).mono ?_;rintro e w4 ⟨rfl,b4⟩;go_wp2_with fail;go_ret2;exact aH.mk (by rw[e1.out.1,e1.out.2];rfl) ((HX.out.trans b3).trans b4)
theorem AV {c:Nat} (B:Nat) (g:bQ) (S:ac) (no:Int) (w:World) (h:eD w B g S) (T:dI c S) (_hl:S.last<=100000) :
  Calls Tryz.prog 102 #[.pointer (some ⟨g.bW,0,none⟩),.int .i64 no] w (aH w (.tuple #[.string (bs (aS S 0 0 no 3 0).data),.int .i64 (bf S 0 0 no 3 0)])):=by
 have E0:Ext w w:=Ext.refl _;go_enter Tryz.func102,Tryz.ntmps102;go_wp2_with fail;refine (nN B g S 0 0 no 3 0 _ (h.ext E0) T.af).mono ?_;rintro e w1 ⟨A,k,rfl,Dl,b1⟩;obtain⟨m,hm⟩:=ar (aS S 0 0 no 3 0);obtain⟨x,hx⟩:=ar (bf S 0 0 no 3 0);rw [<-hm,<-hx];obtain ⟨W2,dF⟩:∃W,W=w1.alloc (.cells #[m.no,m.dev,m.kind,m.mode,m.uid,m.gid,m.mtime,m.ctime,m.ah,m.up,bs m.data,.slice A m.ae.length k] 58):=⟨_,rfl⟩;obtain ⟨b8,fZ⟩:∃b,b=w1.heap.size:=⟨_,rfl⟩;have N2:Has W2 b8 (.cells #[m.no,m.dev,m.kind,m.mode,m.uid,m.gid,m.mtime,m.ctime,m.ah,m.up,bs m.data,.slice A m.ae.length k] 58):=by rw[dF,fZ];exact Has.new _ _
 have Dm:Ext w1 W2:=by rw[dF];exact (Ext.refl _).alloc _
 have HX:=zH ((E0.trans b1).trans Dm);have oM:=zH hm;have Rp:=zH hx;clear hm hx Dl Dm;go_upto_region 2 with fail;rw [<-dF,<-fZ];clear dF fZ;have zD:W2.cell? ⟨b8,10,none⟩=some (.string (bs m.data)):=N2.cell 10;have yz:=N2.lt;go_wp2_with fail;go_ret2;exact aH.mk (by rw[<-oM.out,<-Rp.out];rfl) HX.out
theorem GP {c:Nat} (B:Nat) (g:bQ) (S:ac) (cu cg no:Int) (w:World) (h:eD w B g S) (T:dI c S) (_hl:S.last<=100000) :
  Calls Tryz.prog 100 #[.pointer (some ⟨g.bW,0,none⟩),.agg #[cu,cg],.int .i64 no] w (aH w (.tuple #[.string (bs (aS S cu cg no 2 4).data),.int .i64 (bf S cu cg no 2 4)])):=by
 have E0:Ext w (w.alloc (.cells #[cu,cg] 27)):=(Ext.refl _).alloc _;go_enter Tryz.func100,Tryz.ntmps100;go_wp2_with fail;refine (nN B g S cu cg no 2 4 _ (h.ext E0) T.af).mono ?_;rintro e w1 ⟨A,k,rfl,Dl,b1⟩;obtain⟨m,hm⟩:=ar (aS S cu cg no 2 4);obtain⟨x,hx⟩:=ar (bf S cu cg no 2 4);rw [<-hm,<-hx];obtain ⟨W2,dF⟩:∃W,W=w1.alloc (.cells #[m.no,m.dev,m.kind,m.mode,m.uid,m.gid,m.mtime,m.ctime,m.ah,m.up,bs m.data,.slice A m.ae.length k] 58):=⟨_,rfl⟩;obtain ⟨b8,fZ⟩:∃b,b=w1.heap.size:=⟨_,rfl⟩;have N2:Has W2 b8 (.cells #[m.no,m.dev,m.kind,m.mode,m.uid,m.gid,m.mtime,m.ctime,m.ah,m.up,bs m.data,.slice A m.ae.length k] 58):=by rw[dF,fZ];exact Has.new _ _
 have Dm:Ext w1 W2:=by rw[dF];exact (Ext.refl _).alloc _
 have HX:=zH ((E0.trans b1).trans Dm);have oM:=zH hm;have Rp:=zH hx;clear hm hx Dl Dm;go_upto_region 2 with fail;rw [<-dF,<-fZ];clear dF fZ;have zD:W2.cell? ⟨b8,10,none⟩=some (.string (bs m.data)):=N2.cell 10;have yz:=N2.lt;go_wp2_with fail;go_ret2;exact aH.mk (by rw[<-oM.out,<-Rp.out];rfl) HX.out
end Go.Proofs.YtblbohcaphcobaaGreatDoor
