import Derived.Test.YtpibnfdolojpcaaGreatBunG
import Derived.Test.YtpibnfdolojpcaaGreatBunE
import Derived.Test.YtpibnfdolojpcaaGreatBunD
import Derived.Test.YtpibnfdolojpcaaGreatBunC
set_option maxHeartbeats 8000000
set_option maxRecDepth 100000
namespace Go.Proofs.YtpibnfdolojpcaaGreat
open Go.Proofs.Tryz
open Go.ChangeShapes Go.WideShapes Go.ChangeAt Go.RowKit
variable {S:ag} {nm:List UInt8} {dir cu cg now no:Int} {c:Nat} {n:ak} {l:List aK}
section
def bn (S:ag) (cu cg dir:Int) (nm:List UInt8):Int:=
 if aW S.nodes dir=false then 5 else if ¬(aa S.nodes dir).kind=1 then 9 else if ¬cU nm=0 then cU nm
 else if fh cu cg (aa S.nodes dir).uid (aa S.nodes dir).gid (aa S.nodes dir).mode 3=false then 6 else 0
def dG (S:ag) (cu cg dir:Int) (nm:List UInt8):ak:=if bn S cu cg dir nm=0 then aa S.nodes dir else aj
def jd (S:ag) (dir now:Int) (l:List aK):ak:={aa S.nodes dir with ah:=l,mtime:=now,ctime:=now}
def dC (S:ag) (dir now:Int) (l:List aK):ag:=aV S (jd S dir now l)
def cV (S:ag) (cu cg now dir:Int) (n:ak):ak:={n with dev:=(aa S.nodes dir).dev,uid:=cu,gid:=cg,mtime:=now,ctime:=now,ar:=1}
def dq (S:ag) (cu cg now dir:Int) (nm:List UInt8) (n:ak):Int:=
 if ¬bn S cu cg dir nm=0 then bn S cu cg dir nm else if ¬aY (aa S.nodes dir).ah nm=0 then 7 else gp S (cV S cu cg now dir n)
def eG (S:ag) (cu cg now dir:Int) (nm:List UInt8) (n:ak):Int:=if dq S cu cg now dir nm n=0 then S.last+1 else 0
def cM (S:ag) (cu cg now dir:Int) (nm:List UInt8) (n:ak):ag:=
 if dq S cu cg now dir nm n=0 then dC (cC S (cV S cu cg now dir n)) dir now (fC (aa S.nodes dir).ah (nm,S.last+1)) else S
def fx (mode dir:Int):ak:={aj with kind:=1,mode:=mode,up:=dir}
def dy (mode:Int) (data:List UInt8):ak:={aj with kind:=2,mode:=mode,data:=data}
def fL (text:List UInt8):ak:={aj with kind:=3,mode:=511,data:=text}
def qv (mode:Int):Int:=if mode<0\/1023<mode then 1 else 0
def jI (mode dl:Int):Int:=if mode<0\/1023<mode then 1 else if 1048576<dl then 3 else 0
def n_ (text:List UInt8):Int:=if text=[]\/hasB text 0=true then 1 else if 4096<text.length then 13 else 0
def jS (p e:Int):Int:=if ¬p=0 then p else e
def lg (p n:Int):Int:=if ¬p=0 then 0 else n
def gI (p:Int) (S T:ag):ag:=if ¬p=0 then S else T
def h_ (S:ag) (cu cg no dir:Int) (nm:List UInt8):Int:=
 if ¬bn S cu cg dir nm=0 then bn S cu cg dir nm else if aW S.nodes no=false then 5 else if (aa S.nodes no).kind=1 then 4
 else if ¬aY (aa S.nodes dir).ah nm=0 then 7 else if ¬(aa S.nodes no).dev=(aa S.nodes dir).dev then 11 else if 1000<=(aa S.nodes no).ar then 18 else 0
def eH (S:ag) (now no:Int):ak:={aa S.nodes no with ar:=(aa S.nodes no).ar+1,ctime:=now}
def jl (S:ag) (cu cg now no dir:Int) (nm:List UInt8):ag:=
 if h_ S cu cg no dir nm=0 then dC (aV S (eH S now no)) dir now (fC (aa S.nodes dir).ah (nm,no)) else S
theorem a_ (h:bn S cu cg dir nm=0):aW S.nodes dir=true/\(aa S.nodes dir).kind=1/\cU nm=0:=by
 unfold bn at h;split at h
 ·cases h
 ·rename_i h1
  split at h
  ·cases h
  ·rename_i h2
   split at h
   ·rename_i h3;exact absurd h h3
   ·rename_i h3
    exact⟨by simpa using h1,bR.1 h2,bR.1 h3⟩
theorem kI (h:bn S cu cg dir nm=0):dG S cu cg dir nm=aa S.nodes dir:=by unfold dG;rw[af h]
theorem lM (h:dq S cu cg now dir nm n=0):bn S cu cg dir nm=0/\aY (aa S.nodes dir).ah nm=0/\gp S (cV S cu cg now dir n)=0:=by
 unfold dq at h;split at h
 ·rename_i h1;exact absurd h h1
 ·rename_i h1
  split at h
  ·cases h
  ·rename_i h2;exact⟨bR.1 h1,bR.1 h2,h⟩
theorem na (_hu:aQ S.nodes S.last) (n:ak) (hi:aW S.nodes no=true):aa (cC S n).nodes no=aa S.nodes no/\aW (cC S n).nodes no=true:=by
 obtain⟨_,e,hm⟩:=ap hi;unfold cC;split
 ·have hmem:aa S.nodes no∈S.nodes++[{n with no:=S.last+1}]:=kj _ hm
  obtain ⟨k,hk,ek⟩:=mj hm;have Zv:gF (S.nodes++[{n with no:=S.last+1}]) no=some (aa S.nodes no):=by
   unfold gF;rw[v_];have:=(ap hi).1;unfold gF at this;rw[this];rfl
  exact⟨by show Option.getD (gF _ no) aj=_;rw[Zv];rfl,by show Option.isSome (gF _ no)=true;rw[Zv];rfl⟩
 ·exact⟨rfl,hi⟩
theorem wZ (h:eB c S) (he:n.ah=[]) (hd:n.data.length<=1048576) (hk:n.kind=1->n.up=dir) (hm:0<=n.mode/\n.mode<=1023):eB (c+1) (cM S cu cg now dir nm n):=by
 unfold cM;split
 ·rename_i h0
  obtain⟨hp,hf,q_⟩:=lM h0;obtain⟨hi,Cc,hc⟩:=a_ hp;obtain⟨e1,e2⟩:=na h.bL (cV S cu cg now dir n) hi;obtain⟨_,bB,hmem⟩:=ap hi;unfold dC jd;rw[e1];refine SY h (d:={aa S.nodes dir with ah:=fC (aa S.nodes dir).ah (nm,S.last+1),mtime:=now,ctime:=now}) (nm:=nm) ?_ ?_ Cc ?_ ?_ (h.qs (aa S.nodes dir) hmem Cc) (h.on (aa S.nodes dir) hmem).2 ?_ ?_ (uS hc) he hd rfl ?_ ?_ ⟨hm.1,hm.2,rfl⟩ q_
  ·show aW S.nodes (aa S.nodes dir).no=true;rw[bB];exact hi
  ·show (aa S.nodes (aa S.nodes dir).no).kind=1;rw[bB];exact Cc
  ·show _=(aa S.nodes (aa S.nodes dir).no).dev;rw[bB]
  ·show _=(aa S.nodes (aa S.nodes dir).no).up;rw[bB]
  ·show _=fC (aa S.nodes (aa S.nodes dir).no).ah _;rw[bB]
  ·show aY (aa S.nodes (aa S.nodes dir).no).ah nm=0;rw[bB];exact hf
  ·intro mq
   exact⟨rfl,(hk mq).trans bB.symm⟩
  ·show _=(aa S.nodes (aa S.nodes dir).no).mode;rw[bB]
 ·exact iz h (by omega)
theorem CV {c':Nat} {k k':Int} (h:rO c k S) (rC:k=0\/k=k') (hi:aW S.nodes dir=true) (Cc:(aa S.nodes dir).kind=1) (NK:c<=c') (hr:jQ l) (hn:∀x∈l,x.1≠[]/\x.1.length<=255) (hp:∀x∈l,1<=x.2/\x.2<=S.last) (hs:l.length<=c')
  (hx:∀x∈l,Kin S (aa S.nodes dir).no (aa S.nodes dir).dev x.2) (keep:∀q∈S.nodes,q.kind=1->q.no≠k'->q.up=dir->q.no≠dir->∃x∈l,x.2=q.no):rO c' k' (dC S dir now l):=by
 obtain⟨_,bB,hmem⟩:=ap hi;have hb:=h.bits _ hmem;refine uV h rC (n:=jd S dir now l) ?_ NK ?_ ?_ ?_ (fun _=>h.qs (aa S.nodes dir) hmem Cc) hr hn hp hs (h.on (aa S.nodes dir) hmem).2 hb hx ?_
 ·show aW S.nodes (aa S.nodes dir).no=true;rw[bB];exact hi
 ·show _=(aa S.nodes (aa S.nodes dir).no).kind;rw[bB];rfl
 ·show _=(aa S.nodes (aa S.nodes dir).no).dev;rw[bB];rfl
 ·show _=(aa S.nodes (aa S.nodes dir).no).up;rw[bB];rfl
 ·intro q hq Al GW CT Ab
  have e:(jd S dir now l).no=dir:=bB;rw[e]at CT Ab;exact keep q hq Al GW CT Ab
theorem nN (h:h_ S cu cg no dir nm=0):bn S cu cg dir nm=0/\aW S.nodes no=true/\¬(aa S.nodes no).kind=1/\aY (aa S.nodes dir).ah nm=0/\(aa S.nodes no).dev=(aa S.nodes dir).dev/\(aa S.nodes no).ar<1000:=by
 unfold h_ at h;split at h
 ·rename_i h1;exact absurd h h1
 ·rename_i h1
  split at h
  ·cases h
  ·rename_i h2
   split at h
   ·cases h
   ·rename_i h3
    split at h
    ·cases h
    ·rename_i h4
     split at h
     ·cases h
     ·rename_i h5
      split at h
      ·cases h
      ·rename_i h6
       exact⟨bR.1 h1,by simpa using h2,h3,bR.1 h4,bR.1 h5,by omega⟩
theorem nO (hne:no≠n.no):aa (aV S n).nodes no=aa S.nodes no/\aW (aV S n).nodes no=aW S.nodes no:=by
 have : gF (cP S.nodes n) no=gF S.nodes no:=by
  unfold gF cP
  induction S.nodes with
  | nil=>rfl
  | cons m ms ih =>
   rw[dM,gD,gD]
   by_cases e:m.no=n.no
   ·have e1:(m.no == n.no)=true:=by simpa using e
    have e2:(n.no == no)=false:=by simpa using dA hne
    have e3:(m.no == no)=false:=by rw[e];exact e2
    rw[af e1,e2,e3];exact ih
   ·have e1:¬(m.no == n.no)=true:=by simpa using e
    rw[ac e1]
    cases (m.no == no)
    ·exact ih
    ·rfl
 exact⟨by show Option.getD (gF (cP S.nodes n) no) aj=_;rw[this];rfl,by show Option.isSome (gF (cP S.nodes n) no)=_;rw[this];rfl⟩
theorem CW (hp:∀x∈l,1<=x.2) (hf:aY l nm=0):∀x∈l,x.1≠nm:=by
 intro x hx e;unfold aY at hf
 cases hg:l.find? (fun x=>x.1 == nm) with
 | none=>have:=sW.1 hg x hx;simp at this;exact this e
 | some y =>
  rw[hg]at hf;have:=hp y (p5 hg);simp only at hf;omega
theorem OS {x:aK} (h:∀y∈l,y.1≠x.1):∀y∈l,y∈fC l x:=by
 intro y hy;unfold fC kZ lB;simp only[dn,gz,ax];rcases oJ y.1 x.1 with g|g|g
 ·exact .inl (.inl ⟨hy,g⟩)
 ·exact absurd g (h y hy)
 ·exact .inr ⟨hy,g⟩
theorem Tk (h:eB c S) (cu cg now no dir:Int) (nm:List UInt8):eB (c+1) (jl S cu cg now no dir nm):=by
 unfold jl;split
 ·rename_i h0
  obtain⟨hp,hi,hk,hf,hv,hl⟩:=nN h0;obtain⟨hid,Cc,hc⟩:=a_ hp;obtain⟨_,bB,hmem⟩:=ap hi;obtain⟨_,lr,jJ⟩:=ap hid;have hb:=h.bits _ hmem;have hne:dir≠no:=fun e=>by subst e;exact hk Cc
  have e0:(eH S now no).no=no:=bB;have h1:eB c (aV S (eH S now no)):=by
   have e1:∀{P:ak->Prop},P (aa S.nodes no)->P (aa S.nodes (eH S now no).no):=fun hp=>by rw[e0];exact hp
   refine uV h (.inl rfl) (by rw[e0];exact hi) (aE _) (e1 (P:=fun m=>(eH S now no).kind=m.kind) rfl) (e1 (P:=fun m=>(eH S now no).dev=m.dev) rfl) (e1 (P:=fun m=>(eH S now no).up=m.up) rfl) (fun mq=>absurd mq hk) (h.qO (aa S.nodes no) hmem) (h.names (aa S.nodes no) hmem) (h.pos (aa S.nodes no) hmem) (h.small (aa S.nodes no) hmem) (h.on (aa S.nodes no) hmem).2
    ⟨hb.1,hb.2.1,by show 1<=(aa S.nodes no).ar+1;omega,by show (aa S.nodes no).ar+1<=1000;omega⟩ (fun x hx=>h.FO (aa S.nodes no) hmem x hx) (fun q hq Al _ CT Ab=>?_)
   rcases h.Ca q hq Al with⟨_,u2⟩|⟨_,_,m,hm,u3,u4,_⟩
   ·exact absurd (u2.symm.trans CT) Ab
   ·have:=jz h.bL hm hmem (by rw[u3,CT,e0,bB])
    subst this;exact absurd u4 hk
  obtain⟨g1,g2⟩:=nO (S:=S) (n:=eH S now no) (no:=dir) (by rw[e0];exact hne);have aX:=CW (fun x hx=>(h.pos _ jJ x hx).1) hf;have Tm:=h.bL.2 _ hmem;rw[bB]at Tm;refine CV h1 (.inl rfl) (by rw[g2];exact hid) (by rw[g1];exact Cc) (Nat.le_succ _) (CB _ (h.qO _ jJ)) (fun x hx=>?_) (fun x hx=>?_) ?_ (fun x hx=>?_) (fun q hq Al _ CT Ab=>?_)
  ·rcases j6 hx with hx|rfl
   ·exact h.names _ jJ x hx
   ·exact uS hc
  ·rcases j6 hx with hx|rfl
   ·exact h.pos _ jJ x hx
   ·exact Tm
  ·have:=uA (aa S.nodes dir).ah (nm,no)
   have:=h.small _ jJ;omega
  ·rw [g1]
   rcases j6 hx with hx|rfl
   ·have:=h1.FO (aa S.nodes dir) (Ak jJ (by rw[e0,lr];exact hne)) x hx
    exact this
   ·refine ⟨by rw[lr];exact fun e=>hne e.symm,fun d hd e=>?_,fun q hq e=>?_⟩
    ·obtain ⟨j,hj,rfl⟩:=mj hd
     obtain⟨m,hm,o1,o2,_⟩:=h.ii j hj;have:=jz h.bL hm hmem (by rw[o1,bB];exact e.symm);subst this;exact hk o2
    ·rcases bq hq with⟨hq,Ab⟩|rfl
     ·exact absurd e (by rw[e0]at Ab;exact Ab)
     ·exact hv
  ·rcases bq hq with⟨hq,_⟩|rfl
   ·rcases h.Ca q hq Al with⟨_,u2⟩|⟨_,_,m,hm,u3,_,_,x,hx,u6⟩
    ·exact absurd (u2.symm.trans CT) Ab
    ·have:=jz h.bL hm jJ (by rw[u3,CT,lr])
     subst this;exact⟨x,OS aX x hx,u6⟩
   ·exact absurd Al hk
 ·exact iz h (by omega)
def EU (w:World) (B:Nat) (S:ag) (cu cg dir:Int) (nm:List UInt8) (e:Ending) (w':World):Prop:=
 ∃ A c,e=.returned (.tuple #[.agg #[.int .i64 (dG S cu cg dir nm).no,.int .i64 (dG S cu cg dir nm).dev,.int .i64 (dG S cu cg dir nm).kind,.int .i64 (dG S cu cg dir nm).mode,.int .i64 (dG S cu cg dir nm).uid,.int .i64 (dG S cu cg dir nm).gid,.int .i64 (dG S cu cg dir nm).mtime,.int .i64 (dG S cu cg dir nm).ctime,.int .i64 (dG S cu cg dir nm).ar,.int .i64 (dG S cu cg dir nm).up,.string (bs (dG S cu cg dir nm).data),.slice A (dG S cu cg dir nm).ah.length c],.int .i64 (bn S cu cg dir nm)])/\aD w' B (dG S cu cg dir nm) A c/\Ext w w'
theorem tP (B:Nat) (g:dL) (S:ag) (cu cg dir:Int) (nm:List UInt8) (w:World) (h:eL w B g S) (hd:0<S.ae.length) :
  Calls prog 193 #[((),g.bW),.agg #[cu,cg],dir,bs nm] w (EU w B S cu cg dir nm):=by
 have h0:=h;obtain⟨h1,h2,cd,h3,h4⟩:=h;have l8:((S.ae.length:Int) == 0)=false:=by simpa using (show ¬(S.ae.length:Int)=0 by omega)
 have E0:Ext w ((w.alloc (.cells #[cu,cg] 27)).alloc (.cells () 66)):=((Ext.refl _).alloc _).alloc _;go_in;go_wp2_with fail;refine (mY B g S _ (h0.ext E0) hd).mono ?_;rintro e w1 ⟨rfl,b1⟩;have E1:=E0.trans b1;have R0:=Has.new (w.alloc (.cells #[cu,cg] 27)) (.cells (aj,()) 66);rw[bi]at R0;have R1:=R0.ext b1;have C1:=((Has.new w (.cells #[cu,cg] 27)).alloc (.cells () 66)).ext b1;have v0:w1.cell? (g.bW,0)=some (.pointer (some ⟨g.bT,0,none⟩)):=(h3.ext E1).cell 0;have z1:=(h3.ext E1).lt;go_wp2_with fail;refine (fW B g.bT g.bM S.nodes S.last dir _ (h2.ext E1)).mono ?_;rintro e w2 ⟨A2,k2,rfl,gG,b2⟩;have R2:=R1.ext b2;have C2:=C1.ext b2;have hm:Hid (bn S cu cg dir nm=if aW S.nodes dir=false then 5 else if ¬(aa S.nodes dir).kind=1 then 9 else if ¬cU nm=0 then cU nm
  else if fh cu cg (aa S.nodes dir).uid (aa S.nodes dir).gid (aa S.nodes dir).mode 3=false then 6 else 0):=by show _=_;rfl
 have cq:Hid (dG S cu cg dir nm=if bn S cu cg dir nm=0 then aa S.nodes dir else aj):=by show _=_;rfl
 obtain⟨m,hmm⟩:=ai (aa S.nodes dir);rw[<-hmm]at gG hm cq|-;obtain⟨W3,cJ⟩:=ai (w2.alloc (.cells (m,A2,k2) 66));have iH:Ext w2 W3:=by rw[cJ];exact (Ext.refl _).alloc _
 have N3:Has W3 w2.heap.size (.cells (m,A2,k2) 66):=by rw[cJ];exact Has.new _ _
 have R3:=R2.ext iH;have C3:=C2.ext iH;have E3:Ext w W3:=(E1.trans b2).trans iH;obtain⟨b8,gH⟩:=ai w2.heap.size;obtain⟨i,hi⟩:=ai (aW S.nodes dir);rw[<-hi]at hm|-;obtain⟨ck,hck⟩:=ai (cU nm);rw[<-hck]at hm;have HCK:=zH hck;clear v0 hmm hi hck R1 C1 R2 C2;go_upto_region 4 with fail;rw[<-cJ];rw[<-gH]at N3|-;clear cJ gH;go_wp2_with fail;refine (J0 (bs nm) _).mono ?_;rw[show (bs nm).data.toList=nm from qa nm,<-HCK.o];rintro e w4 ⟨rfl,b4⟩;have R4:=R3.ext b4;have C4:=C3.ext b4;have N4:=N3.ext b4;have E4:=E3.trans b4;have tO:=(gG.ext iH).ext b4;clear R3 C3 N3 E3 b4;have HS:Hid (∀(w5 w6:World) (x:Int),Ext w w5->Only [w.heap.size+1] w5 w6->bn S cu cg dir nm=x->x≠0->EU w B S cu cg dir nm (.returned (.tuple #[.agg (aj,()),x])) w6):=by
  show ∀(w5 w6:World) (x:Int),_;intro w5 w6 x hE hO hx aX;have hN:dG S cu cg dir nm=aj:=by rw[cq.o,ac (by rw[hx];exact aX)]
  exact⟨none,0,by rw[hx,hN],by rw[hN];exact aD.zero _ _,hO.after hE (by simp)⟩
 cases i
 ·have hE:Hid (bn S cu cg dir nm=5):=by show _=_;rw[hm.o];rfl
  clear hm;go_wp2_with (refine aq rfl _ _ rfl (w.heap.size+1) aj none 0 rfl rfl R4 ?_;intro w5 R5 O5);refine aT (v:=.tuple #[.agg (aj,()),.int .i64 5]) (db results193 _ _ (w.heap.size+1) aj none 0 _ rfl rfl R5) rfl ?_;exact HS.o _ _ _ E4 O5 hE.o (by decide)
 ·have Kk:=aA N4 2 rfl
  have kz:=N4.lt
  by_cases c1:m.kind=1
  ·have t1 : (m.kind == 1)=true:=by simpa using c1
   have qo:(m.kind != 1)=false:=by simpa using c1
   by_cases c2:ck=0
   ·have t2:(ck == 0)=true:=by simpa using c2
    have Wb:(ck != 0)=false:=by simpa using c2
    obtain⟨u,hu⟩:=ai (fh cu cg m.uid m.gid m.mode 3);have mr:Hid (bn S cu cg dir nm=if u=false then 6 else 0):=by show _=_;rw[hm.o,ac (by decide),ac (by simpa using c1),ac (by simpa using c2),hu]
    have HU:=zH hu;have x0:=aA C4 0 rfl;have x1:=aA C4 1 rfl;have xz:=C4.lt;clear hm hu c1 c2;go_wp2_with (refine aB rfl _ rfl b8 m A2 k2 rfl N4 ?_);refine (pJ cu cg _ _ _ m.mode m.uid m.gid _ _ _ _ _ _ 3 _).mono ?_;rw[<-HU.o];rintro e w5 ⟨rfl,b5⟩;have R5:=R4.ext b5;have N5:=N4.ext b5;have E5:=E4.trans b5;clear x0 x1 xz Kk kz R4 N4
    cases u
    ·have hE:Hid (bn S cu cg dir nm=6):=by show _=_;rw[mr.o];rfl
     clear mr;go_wp2_with (refine aq rfl _ _ rfl (w.heap.size+1) aj none 0 rfl rfl R5 ?_;intro w6 R6 O5);refine aT (v:=.tuple #[.agg (aj,()),.int .i64 6]) (db results193 _ _ (w.heap.size+1) aj none 0 _ rfl rfl R6) rfl ?_;exact HS.o _ _ _ E5 O5 hE.o (by decide)
    ·have hE:Hid (bn S cu cg dir nm=0):=by show _=_;rw[mr.o];rfl
     have hN:Hid (dG S cu cg dir nm=m):=by show _=_;rw[cq.o,hE.o];rfl
     clear mr;go_wp2_with (first|(refine aB rfl _ rfl b8 m A2 k2 rfl N5 ?_)|(refine aq rfl _ _ rfl (w.heap.size+1) m A2 k2 rfl rfl R5 ?_;intro w6 R6 O6));refine aT (v:=.tuple #[.agg (m,A2,k2),()]) (db results193 _ _ (w.heap.size+1) m A2 k2 _ rfl rfl R6) rfl ?_;have uj:aD w6 B m A2 k2:=((tO.ext b5).only O6 (by
      intro b hb;rw[ax]at hb;subst hb;exact⟨by have:=h1;have:=h0.lt.1;omega,R5.fV (by decide)⟩))
     exact⟨A2,k2,by rw[hE.o,hN.o],by rw[hN.o];exact uj,O6.after E5 (by simp)⟩
   ·have t2:(ck == 0)=false:=by simpa using c2
    have Wb:(ck != 0)=true:=by simpa using c2
    have hE:Hid (bn S cu cg dir nm=ck):=by show _=_;rw[hm.o,ac (by decide),ac (by simpa using c1),af c2]
    have qw:=zH c2;clear hm c1 c2;go_wp2_with (refine aq rfl _ _ rfl (w.heap.size+1) aj none 0 rfl rfl R4 ?_;intro w5 R5 O5);refine aT (v:=.tuple #[.agg (aj,()),ck]) (db results193 _ _ (w.heap.size+1) aj none 0 _ rfl rfl R5) rfl ?_;exact HS.o _ _ _ E4 O5 hE.o qw.o
  ·have t1:(m.kind == 1)=false:=by simpa using c1
   have qo:(m.kind != 1)=true:=by simpa using c1
   have hE:Hid (bn S cu cg dir nm=9):=by show _=_;rw[hm.o,ac (by decide),af c1]
   clear hm c1;go_wp2_with (refine aq rfl _ _ rfl (w.heap.size+1) aj none 0 rfl rfl R4 ?_;intro w5 R5 O5);refine aT (v:=.tuple #[.agg (aj,()),.int .i64 9]) (db results193 _ _ (w.heap.size+1) aj none 0 _ rfl rfl R5) rfl ?_;exact HS.o _ _ _ E4 O5 hE.o (by decide)
def AF (w:World) (B:Nat) (g:dL) (T:ag) (e:Ending) (w':World):Prop:=e=.returned (.tuple #[])/\eL w' B g T/\Only g.list w w'
def AG (w:World) (B:Nat) (g:cI) (T:ag) (X:cY) (e:Ending) (w':World):Prop:=e=.returned (.tuple #[])/\gv w' B g T X/\Only g.list w w'
theorem tQ (B:Nat) (g:dL) (S:ag) (dir now:Int) (A:Option Addr) (l:List aK) (cap:Nat) (w:World) (h:eL w B g S) (hu:aQ S.nodes S.last) (hl:oq w B A l) (hc1:l.length<=cap) (yD:cap<=maxLen) (hc3:A=none->cap=0) :
  Calls prog 194 #[((),g.bW),dir,now,.slice A l.length cap] w (AF w B g (dC S dir now l)):=by
 have h0:=h;obtain⟨_,_,cd,h3,_⟩:=id h;have v0:=aA h3 0 rfl;have z1:=h3.lt;have HL:=zH hl;obtain⟨L,hL⟩:=ai l.length;rw[<-hL];have yt:=zH hL;have HU:=zH hu;clear h3 hl hL hu;go_in;go_wp2_with fail;refine (fW B g.bT g.bM S.nodes S.last dir _ h0.2.1).mono ?_;rintro e w2 ⟨A2,k2,rfl,gG,b2⟩;obtain⟨m,hmm⟩:=ai (aa S.nodes dir);rw[<-hmm]at gG|-;have HM:=zH hmm;obtain⟨W3,cJ⟩:=ai (w2.alloc (.cells (m,A2,k2) 66));have iH:Ext w2 W3:=by rw[cJ];exact (Ext.refl _).alloc _
 obtain⟨b8,gH⟩:=ai w2.heap.size;have N3:Has W3 b8 (.cells (m,A2,k2) 66):=by rw[cJ,gH];exact Has.new _ _
 have E3:Ext w W3:=b2.trans iH;have qY:w.heap.size<=b8:=by rw[gH];exact b2.size
 clear v0 hmm;go_upto_region 1 with fail;rw[<-cJ];rw[<-gH];clear cJ gH;have nL:=aA N3 11 rfl;have y6:=aA N3 6 rfl;have y7:=aA N3 7 rfl;have yf:∀i,W3.frozen? ⟨b8,i,none⟩=false:=fun i=>(N3.free i).trans (by simp)
 have yz:=N3.lt;obtain⟨n,hn⟩:∃n:ak,n={m with ah:=l,mtime:=now,ctime:=now}:=⟨_,rfl⟩;have HN:=zH hn;clear hn;go_upto_region 2 with fail;obtain⟨V,hV⟩:=ai (((W3.setCell (b8,11) (.slice A L cap)).setCell (b8,6) (.int .i64 now)).setCell (b8,7) (.int .i64 now));rw[<-hV];have NV:Has V b8 (.cells (n,A,cap) 66):=by rw[hV,HN.o,yt.o];exact ((N3.setCell 11 _).setCell 6 _).setCell 7 _
 have OV:Only [b8] W3 V:=by rw[hV];exact ((Only.setCell _ _ _ _).then (Only.setCell _ _ _ _)).then (Only.setCell _ _ _ _)
 have EV:Ext w V:=OV.after E3 (by intro x hx;rw[ax]at hx;omega);have KV:=h0.ext EV;have Ah:aD V B n A cap:=by
  refine⟨?_,by rw[HN.o];exact hc1,yD,hc3⟩;rw[HN.o];exact HL.o.ext EV
 clear hV nL y6 y7 yf yz;obtain⟨_,_,cdV,Tn,_⟩:=id KV;have v0:=aA Tn 0 rfl;have vz:=Tn.lt;obtain⟨x0,x1,x2,x3,x4,x5,x6,x7,x8,x9,kC,kn⟩:=NV.da;have zN:=NV.lt;clear Tn;go_still_tail 5,(by kernel_rfl);change wpList _ _ _ _ _ V.drew;go_wp2_with fail;have ED:Ext V V.drew:=(Ext.refl _).drew;refine (pL B g S n A cap _ (KV.ext ED) HU.o (Ah.ext ED)).mono ?_;rintro e w8 ⟨rfl,K8,O8⟩;go_wp2_with fail;go_end0;have e2:dC S dir now l=aV S n:=by unfold dC jd;rw[HN.o,HM.o]
 exact⟨rfl,by rw[e2];exact K8,Only.pre (EV.trans ED) O8⟩
theorem qx (B:Nat) (g:cI) (S:ag) (X:cY) (dir:Int) (A:Option Addr) (l:List aK) (cap:Nat) (w:World) (h:gv w B g S X) (nE:S.nodes.length<=1000000) (hu:aQ S.nodes S.last) (hl:oq w B A l) (hc1:l.length<=cap) (yD:cap<=maxLen) (hc3:A=none->cap=0) :
  Calls prog 166 #[((),g.bF),dir,.slice A l.length cap] w (AG w B g (dC S dir X.now l) X):=by
 have HL:=zH hl;obtain⟨L,hL⟩:=ai l.length;rw[<-hL];have yt:=zH hL;have HU:=zH hu;clear hl hL hu;go_in;go_wp2_with fail;refine (eE B g S X dir _ h nE HU.o).mono ?_;rintro e w2 ⟨A2,k2,rfl,gG,b2⟩;obtain⟨m,hmm⟩:=ai (aa S.nodes dir);rw[<-hmm]at gG|-;have HM:=zH hmm;obtain⟨W3,cJ⟩:=ai (w2.alloc (.cells (m,A2,k2) 66));have iH:Ext w2 W3:=by rw[cJ];exact (Ext.refl _).alloc _
 obtain⟨b8,gH⟩:=ai w2.heap.size;have N3:Has W3 b8 (.cells (m,A2,k2) 66):=by rw[cJ,gH];exact Has.new _ _
 have E3:Ext w W3:=b2.trans iH;have qY:w.heap.size<=b8:=by rw[gH];exact b2.size
 clear hmm;go_upto_region 1 with fail;rw[<-cJ];rw[<-gH];clear cJ gH;have nL:=aA N3 11 rfl;have y6:=aA N3 6 rfl;have y7:=aA N3 7 rfl;have yf:∀i,W3.frozen? ⟨b8,i,none⟩=false:=fun i=>(N3.free i).trans (by simp)
 have yz:=N3.lt;have nw:W3.cell? (g.bF,3)=some (.int .i64 X.now):=by obtain⟨_,_,_,k,_⟩:=h.ext E3;exact k.cell 3
 have nz:=(h.ext E3).lt.1;have hlt:=h.lt.1;have nbf:(b8=g.bF)=False:=ml (by omega);have Kl:(g.bF=b8)=False:=ml (by omega);obtain⟨n,hn⟩:∃n:ak,n={m with ah:=l,mtime:=X.now,ctime:=X.now}:=⟨_,rfl⟩;have HN:=zH hn;clear hn;go_upto_region 4 with fail;obtain⟨V,hV⟩:=ai (((W3.setCell (b8,11) (.slice A L cap)).setCell (b8,6) (.int .i64 X.now)).setCell (b8,7) (.int .i64 X.now));rw[<-hV];have NV:Has V b8 (.cells (n,A,cap) 66):=by rw[hV,HN.o,yt.o];exact ((N3.setCell 11 _).setCell 6 _).setCell 7 _
 have OV:Only [b8] W3 V:=by rw[hV];exact ((Only.setCell _ _ _ _).then (Only.setCell _ _ _ _)).then (Only.setCell _ _ _ _)
 have EV:Ext w V:=OV.after E3 (by intro x hx;rw[ax]at hx;omega);have Ah:aD V B n A cap:=by
  refine⟨?_,by rw[HN.o];exact hc1,yD,hc3⟩;rw[HN.o];exact HL.o.ext EV
 clear hV nL y6 y7 yf yz nw nz nbf Kl;go_wp2_with (refine aB rfl _ rfl b8 n A cap rfl NV ?_);refine (pu B g S X n A cap _ (h.ext EV) nE HU.o Ah).mono ?_;rintro e w5 ⟨rfl,K5,O5⟩;go_wp2_with fail;go_end0;have e2:dC S dir X.now l=aV S n:=by unfold dC jd;rw[HN.o,HM.o]
 exact⟨rfl,by rw[e2];exact K5,Only.pre EV O5⟩
attribute [local irreducible] jc
attribute [local go_sem] gW
theorem vc (h:Live S) (n:ak):aQ (cC S n).nodes (cC S n).last:=by
 unfold cC;split
 ·exact h.bL.add {n with no:=S.last+1} rfl (by have:=h.last;omega)
 ·exact h.bL
structure Ok (S:ag):Prop where
 live:Live S
 ah:∀n∈S.nodes,jQ n.ah/\n.ah.length<=100000
 ar:∀n∈S.nodes,1<=n.ar/\n.ar<=1000
theorem eB.ok (h:eB c S) (hc:c<=100000):Ok S:=⟨h.live,fun n hn=>⟨h.qO n hn,by have:=h.small n hn;omega⟩,fun n hn=>(h.bits n hn).2.2⟩
theorem Ok.bj (h:Ok S) (no:Int):jQ (aa S.nodes no).ah/\(aa S.nodes no).ah.length<=100000:=by
 cases hi:aW S.nodes no
 ·rw[(aP hi).1];exact⟨List.Pairwise.nil,bC _⟩
 ·exact h.ah _ (ap hi).2.2
theorem l_ (hr:jQ l):numOf l nm=aY l nm:=by
 unfold aY numOf
 cases hh:has l nm
 ·have:l.find? (·.1 == nm)=none:=by
   rw[sW];intro x hx;unfold has at hh;rw[Mj]at hh;exact hh x hx
  rw[this];rfl
 ·obtain ⟨hp,he⟩:=Es hr hh
  have:l.find? (·.1 == nm)=some l[pos l nm]:=by
   rw[DQ];refine⟨by simp[he],pos l nm,hp,rfl,fun j hj=>?_⟩;have h1:=Gb l nm j hj (by omega);unfold lt at h1;have:=rF h1;simp[this]
  rw[this];simp[iq hp]
def yu (n:ak) (dev cu cg now:Int):Nat->ak
 | 0=>n
 | 1=>{n with dev:=dev}
 | 2=>{n with dev:=dev,uid:=cu}
 | 3=>{n with dev:=dev,uid:=cu,gid:=cg}
 | 4=>{n with dev:=dev,uid:=cu,gid:=cg,mtime:=now}
 | 5=>{n with dev:=dev,uid:=cu,gid:=cg,mtime:=now,ctime:=now}
 | _=>{n with dev:=dev,uid:=cu,gid:=cg,mtime:=now,ctime:=now,ar:=1}
def EX (w:World) (B:Nat) (g:dL) (S:ag) (cu cg now dir:Int) (nm:List UInt8) (n:ak) (e:Ending) (w':World):Prop:=
 e = .returned (.tuple #[.int .i64 (eG S cu cg now dir nm n),.int .i64 (dq S cu cg now dir nm n)])/\eL w' B g (cM S cu cg now dir nm n)/\Only g.list w w'
theorem OT {w w':World} {B:Nat} {g:dL} {x:Int} (h:eL w B g S) (hE:Ext w w') (hx:dq S cu cg now dir nm n=x) (h0:x≠0):EX w B g S cu cg now dir nm n (.returned (.tuple #[(),x])) w':=by
 refine⟨?_,?_,Only.az hE⟩
 ·unfold eG;rw[hx,ac h0]
 ·unfold cM;rw[hx,ac h0];exact h.ext hE
theorem AH (B:Nat) (g:dL) (S:ag) (cu cg now dir:Int) (nm:List UInt8) (n:ak) (A:Option Addr) (c:Nat) (w:World) (h:eL w B g S) (O:Ok S) (jZ:S.last<=100000) (hn:aD w B n A c) (mP:n.data.length<=1000000000) :
  Calls prog 191 #[((),g.bW),.agg #[cu,cg],now,dir,bs nm,.agg (n,A,c)] w (EX w B g S cu cg now dir nm n):=by
 obtain⟨W0,aJ⟩:=ai ((w.alloc (.cells #[cu,cg] 27)).alloc (.cells (n,A,c) 66));have E0:Ext w W0:=by rw[aJ];exact ((Ext.refl _).alloc _).alloc _
 obtain⟨b7,uk⟩:=ai w.heap.size;have C0:Has W0 b7 (.cells #[cu,cg] 27):=by rw[aJ,uk];exact (Has.new w _).alloc _
 have N0:Has W0 (b7+1) (.cells (n,A,c) 66):=by
  rw[aJ,uk];have:=Has.new (w.alloc (.cells #[cu,cg] 27)) (.cells (n,A,c) 66)
  rwa [bi]at this
 have aej:w.heap.size+2<=W0.heap.size:=by rw[aJ];simp
 have HO:=zH O;have hm:Hid (dq S cu cg now dir nm n=if ¬bn S cu cg dir nm=0 then bn S cu cg dir nm else if ¬aY (aa S.nodes dir).ah nm=0 then 7 else gp S (cV S cu cg now dir n)):=by show _=_;rfl
 have hp:Hid (bn S cu cg dir nm=0->dG S cu cg dir nm=aa S.nodes dir/\aW S.nodes dir=true):=fun h0=>⟨kI h0,(a_ h0).1⟩
 have HS:Hid (∀(w':World) (x:Int),Ext w w'->dq S cu cg now dir nm n=x->x≠0->EX w B g S cu cg now dir nm n (.returned (.tuple #[(),x])) w'):=by
  show ∀(w':World) (x:Int),_;exact fun w' x hE hx h0=>OT h hE hx h0
 have lC:=zH E0;clear O;go_in;go_upto_region 1 with fail;rw[<-aJ];rw[<-uk];have aek:b7<=w.heap.size:=by omega
 have ace:w.heap.size<=b7:=by omega
 clear aJ uk;have x0:=aA C0 0 rfl;have x1:=aA C0 1 rfl;have xz:=C0.lt;go_wp2_with fail;refine (tP B g S cu cg dir nm _ (h.ext E0) HO.o.live.ae).mono ?_;rintro e w2 ⟨A2,k2,rfl,gG,b2⟩;obtain⟨m,hmm⟩:=ai (dG S cu cg dir nm);obtain⟨x,hx⟩:=ai (bn S cu cg dir nm);rw[<-hmm]at gG hp;rw[<-hx]at hm hp;rw[<-hmm,<-hx];obtain⟨W3,cJ⟩:=ai (w2.alloc (.cells (m,A2,k2) 66));obtain⟨OU,w_⟩:=ai w2.heap.size;have iH:Ext w2 W3:=by rw[cJ];exact (Ext.refl _).alloc _
 have M3:Has W3 OU (.cells (m,A2,k2) 66):=by rw[cJ,w_];exact Has.new _ _
 have oR:Ext W0 W3:=b2.trans iH;have C3:=C0.ext oR;have N3:=N0.ext oR;have mE:=gG.ext iH;have Zw:W0.heap.size<=OU:=by rw[w_];exact b2.size
 clear x0 x1 xz hmm hx C0 N0;go_upto_region 2 with fail;rw[<-cJ];rw[<-w_];clear cJ w_
 by_cases aX:x=0
 ·have t0 : (x == 0)=true:=by simpa using aX
  have nK:(x != 0)=false:=by simpa using aX
  obtain⟨oX,hid⟩:=hp.o aX;have cq:Hid (dq S cu cg now dir nm n=if ¬aY m.ah nm=0 then 7 else gp S (cV S cu cg now dir n)):=by show _=_;rw[hm.o,ac (by simpa using aX),<-oX]
  have Ag:=zH oX;have HID:=zH hid;have hen:=HO.o.bj dir;rw[<-oX]at hen;have vg:=zH hen;have xR:=aA M3 11 rfl;have kz:=M3.lt;clear hm hp aX oX hid hen;go_wp2_with fail;refine (rA A2 m.ah k2 nm _ mE.ah.ah vg.o.1 (by have:=vg.o.2;omega)).mono ?_;rw[l_ vg.o.1];rintro e w4 ⟨rfl,b4⟩;obtain⟨v,hv⟩:=ai (aY m.ah nm);rw[<-hv]at cq;rw[<-hv];have C4:=C3.ext b4;have N4:=N3.ext b4;have M4:=M3.ext b4;have tO:=mE.ext b4;have E4:=oR.trans b4;clear hv xR kz C3 N3 M3 mE oR b4
  by_cases xa:v=0
  ·have t1:(v == 0)=true:=by simpa using xa
   have qo:(v != 0)=false:=by simpa using xa
   have mr:Hid (dq S cu cg now dir nm n=gp S (cV S cu cg now dir n)):=by show _=_;rw[cq.o,ac (by simpa using xa)]
   clear cq xa;go_upto_region 6 with fail;obtain⟨dI,fj⟩:=ai (b7+1);rw[<-fj]at N4|-;have acf:dI<=b7+1:=by omega
   have acg:b7+1<=dI:=by omega
   clear fj;have Rj:=h.lt;have s0:=E0.size;have G5:OU≠dI:=by have:=b2.size;omega
   have ww:b7≠dI:=by omega
   obtain⟨Ph,js⟩:∃Ph:Nat->World->Prop,Ph=fun j w'=>Has w' dI (.cells #[.int .i64 (yu n m.dev cu cg now j).no,.int .i64 (yu n m.dev cu cg now j).dev,.int .i64 (yu n m.dev cu cg now j).kind,.int .i64 (yu n m.dev cu cg now j).mode,.int .i64 (yu n m.dev cu cg now j).uid,.int .i64 (yu n m.dev cu cg now j).gid,.int .i64 (yu n m.dev cu cg now j).mtime,.int .i64 (yu n m.dev cu cg now j).ctime,.int .i64 (yu n m.dev cu cg now j).ar,.int .i64 (yu n m.dev cu cg now j).up,.string (bs (yu n m.dev cu cg now j).data),.slice A (yu n m.dev cu cg now j).ah.length c] 66)/\Only [dI] w4 w':=⟨_,rfl⟩
   have HV:Hid (Ph 0 w4.drew):=by show Ph 0 _;rw[js];exact⟨N4.ext (Ext.refl _).drew,Only.az (Ext.refl _).drew⟩
   have hne:Nonempty (Hp Ph):=⟨⟨0,_,HV.o⟩⟩;have KQ:Hid (∀w',Ph 6 w'->Has w' dI (.cells #[.int .i64 (cV S cu cg now dir n).no,.int .i64 (cV S cu cg now dir n).dev,.int .i64 (cV S cu cg now dir n).kind,.int .i64 (cV S cu cg now dir n).mode,.int .i64 (cV S cu cg now dir n).uid,.int .i64 (cV S cu cg now dir n).gid,.int .i64 (cV S cu cg now dir n).mtime,.int .i64 (cV S cu cg now dir n).ctime,.int .i64 (cV S cu cg now dir n).ar,.int .i64 (cV S cu cg now dir n).up,.string (bs (cV S cu cg now dir n).data),.slice A (cV S cu cg now dir n).ah.length c] 66)/\Only [dI] w4 w'):=by
    show ∀w',_;intro w' hw;rw[js]at hw;refine⟨?_,hw.2⟩;have:=hw.1;rw[Ag.o]at this;exact this
   have u1:∀u:Hp Ph,u.w.cell? (OU,1)=some (.int .i64 m.dev):=by
    rintro ⟨j,u,hu⟩;rw[js]at hu;exact (hu.2.has M4 (by simpa using G5)).cell 1
   have u2:∀u:Hp Ph,u.w.cell? (b7,0)=some (.int .i64 cu):=by
    rintro ⟨j,u,hu⟩;rw[js]at hu;exact (hu.2.has C4 (by simpa using ww)).cell 0
   have u3:∀u:Hp Ph,u.w.cell? (b7,1)=some (.int .i64 cg):=by
    rintro ⟨j,u,hu⟩;rw[js]at hu;exact (hu.2.has C4 (by simpa using ww)).cell 1
   have f0:∀u:Wc (Ph 0),u.w.cell? (dI,1)=some (.int .i64 n.dev):=by
    rintro ⟨u,hu⟩;rw[js]at hu;exact hu.1.cell 1
   have g0:∀u:Wc (Ph 0),u.w.frozen? (dI,1)=false:=by
    rintro ⟨u,hu⟩;rw[js]at hu;exact (hu.1.free 1).trans (by simp)
   have KS0:Hid (∀u:Wc (Ph 0),Ph 1 (u.w.setCell (dI,1) (.int .i64 m.dev))):=by
    show ∀u:Wc (Ph 0),_;rintro ⟨u,hu⟩;dsimp only;rw[js]at hu|-;exact⟨hu.1.setCell 1 _,hu.2.then (Only.setCell _ _ _ _)⟩
   have f1:∀u:Wc (Ph 1),u.w.cell? (dI,4)=some (.int .i64 n.uid):=by
    rintro ⟨u,hu⟩;rw[js]at hu;exact hu.1.cell 4
   have g1:∀u:Wc (Ph 1),u.w.frozen? (dI,4)=false:=by
    rintro ⟨u,hu⟩;rw[js]at hu;exact (hu.1.free 4).trans (by simp)
   have KS1:Hid (∀u:Wc (Ph 1),Ph 2 (u.w.setCell (dI,4) (.int .i64 cu))):=by
    show ∀u:Wc (Ph 1),_;rintro ⟨u,hu⟩;dsimp only;rw[js]at hu|-;exact⟨hu.1.setCell 4 _,hu.2.then (Only.setCell _ _ _ _)⟩
   have f2:∀u:Wc (Ph 2),u.w.cell? (dI,5)=some (.int .i64 n.gid):=by
    rintro ⟨u,hu⟩;rw[js]at hu;exact hu.1.cell 5
   have g2:∀u:Wc (Ph 2),u.w.frozen? (dI,5)=false:=by
    rintro ⟨u,hu⟩;rw[js]at hu;exact (hu.1.free 5).trans (by simp)
   have KS2:Hid (∀u:Wc (Ph 2),Ph 3 (u.w.setCell (dI,5) (.int .i64 cg))):=by
    show ∀u:Wc (Ph 2),_;rintro ⟨u,hu⟩;dsimp only;rw[js]at hu|-;exact⟨hu.1.setCell 5 _,hu.2.then (Only.setCell _ _ _ _)⟩
   have f3:∀u:Wc (Ph 3),u.w.cell? (dI,6)=some (.int .i64 n.mtime):=by
    rintro ⟨u,hu⟩;rw[js]at hu;exact hu.1.cell 6
   have g3:∀u:Wc (Ph 3),u.w.frozen? (dI,6)=false:=by
    rintro ⟨u,hu⟩;rw[js]at hu;exact (hu.1.free 6).trans (by simp)
   have KS3:Hid (∀u:Wc (Ph 3),Ph 4 (u.w.setCell (dI,6) (.int .i64 now))):=by
    show ∀u:Wc (Ph 3),_;rintro ⟨u,hu⟩;dsimp only;rw[js]at hu|-;exact⟨hu.1.setCell 6 _,hu.2.then (Only.setCell _ _ _ _)⟩
   have f4:∀u:Wc (Ph 4),u.w.cell? (dI,7)=some (.int .i64 n.ctime):=by
    rintro ⟨u,hu⟩;rw[js]at hu;exact hu.1.cell 7
   have g4:∀u:Wc (Ph 4),u.w.frozen? (dI,7)=false:=by
    rintro ⟨u,hu⟩;rw[js]at hu;exact (hu.1.free 7).trans (by simp)
   have KS4:Hid (∀u:Wc (Ph 4),Ph 5 (u.w.setCell (dI,7) (.int .i64 now))):=by
    show ∀u:Wc (Ph 4),_;rintro ⟨u,hu⟩;dsimp only;rw[js]at hu|-;exact⟨hu.1.setCell 7 _,hu.2.then (Only.setCell _ _ _ _)⟩
   have f5:∀u:Wc (Ph 5),u.w.cell? (dI,8)=some (.int .i64 n.ar):=by
    rintro ⟨u,hu⟩;rw[js]at hu;exact hu.1.cell 8
   have g5:∀u:Wc (Ph 5),u.w.frozen? (dI,8)=false:=by
    rintro ⟨u,hu⟩;rw[js]at hu;exact (hu.1.free 8).trans (by simp)
   have KS5:Hid (∀u:Wc (Ph 5),Ph 6 (u.w.setCell (dI,8) (.int .i64 1))):=by
    show ∀u:Wc (Ph 5),_;rintro ⟨u,hu⟩;dsimp only;rw[js]at hu|-;exact⟨hu.1.setCell 8 _,hu.2.then (Only.setCell _ _ _ _)⟩
   clear js;refine fw Ph [9,11,13,15,17,19] (by kernel_rfl) (by kernel_rfl) (by kernel_rfl) HV.o ?_
   repeat (first
    | (
      refine fK (by kernel_rfl) (fun K hK=>?_);go_simp;refine hK _ ?_;clear hK K)
    | (
      refine dh 0 (by kernel_rfl) rfl (fun K hK=>?_);go_simp;refine⟨⟨undef,fun u=>⟨rfl,KS0.o u⟩⟩,hK _ ?_⟩;clear hK K)
    | (
      refine dh 1 (by kernel_rfl) rfl (fun K hK=>?_);go_simp;refine⟨⟨undef,fun u=>⟨rfl,KS1.o u⟩⟩,hK _ ?_⟩;clear hK K)
    | (
      refine dh 2 (by kernel_rfl) rfl (fun K hK=>?_);go_simp;refine⟨⟨undef,fun u=>⟨rfl,KS2.o u⟩⟩,hK _ ?_⟩;clear hK K)
    | (
      refine dh 3 (by kernel_rfl) rfl (fun K hK=>?_);go_simp;refine⟨⟨undef,fun u=>⟨rfl,KS3.o u⟩⟩,hK _ ?_⟩;clear hK K)
    | (
      refine dh 4 (by kernel_rfl) rfl (fun K hK=>?_);go_simp;refine⟨⟨undef,fun u=>⟨rfl,KS4.o u⟩⟩,hK _ ?_⟩;clear hK K)
    | (
      refine dh 5 (by kernel_rfl) rfl (fun K hK=>?_);go_simp;refine⟨⟨undef,fun u=>⟨rfl,KS5.o u⟩⟩,hK _ ?_⟩;clear hK K))
   refine kq ?_;intro w5 Rc;obtain⟨N5,O5⟩:=KQ.o _ Rc;clear u1 u2 u3 f0 f1 f2 f3 f4 f5 g0 g1 g2 g3 g4 g5 KS0 KS1 KS2 KS3 KS4 KS5 KQ HV Rc hne;obtain⟨n',hn'⟩:=ai (cV S cu cg now dir n);rw[<-hn']at N5 mr;have Tp:n'.data=n.data:=by rw[hn'];rfl
   have xb:n'.ah=n.ah:=by rw[hn'];rfl
   have Cd:=zH hn';have HDN:=zH Tp;have ha4:dE w4 B [dI]:=by
    intro b hb;rw[ax]at hb;subst hb;exact⟨by have:=h.1;omega,N4.fV (by decide)⟩
   have MF:∀b∈g.list,b∉[dI]:=by
    intro b hb;simp only[dL.list,aR,bg,bh]at hb;rw[ax];rcases hb with rfl|rfl|rfl|rfl<;>omega
   have Tq:Ext w w4:=E0.trans E4;have K5:eL w5 B g S:=(h.ext Tq).only O5 ha4 MF;have rR:aD w5 B n' A c:=((hn.ext Tq).only O5 ha4).same xb;have EN:=tO.only O5 ha4;have M5:=O5.has M4 (by simpa using G5);have Ow5:Only g.list w w5:=(Only.az Tq).trans O5 (by intro b hb;rw[ax]at hb;right;omega);have E5:Ext w w5:=O5.after Tq (by intro b hb;rw[ax]at hb;omega);clear hn' Tp xb;go_wp2_with (refine aB rfl _ rfl dI n' A c rfl N5 ?_);refine (NU B g S n' A c _ K5 rR HO.o.live.roots HO.o.live.ae HO.o.live.eight HO.o.live.bL (by have:=HO.o.live.last;omega) (by omega) (by rw[HDN.o];exact mP)).mono ?_;rintro e w6 ⟨rfl,K6,O6⟩;obtain⟨e6,Ts⟩:=ai (gp S n');have bB:gp S n'=0->qI S n'=S.last+1:=fun h0=>by unfold qI;rw[af h0]
   obtain⟨no,wE⟩:=ai (qI S n');rw[<-Ts,<-wE]at bB;rw[<-Ts]at mr;rw[<-Ts,<-wE];have uh:=zH bB;have Km:=zH Ts;have M6:=O6.has M5 (by simp only[dL.list,aR,bg,bh];omega);have uj:=EN.only O6 K5.apart;have Ow6:=Ow5.then O6;clear bB wE Ts
   by_cases hz:e6=0
   ·have t2:(e6 == 0)=true:=by simpa using hz
    have Wb:(e6 != 0)=false:=by simpa using hz
    have HZ:=zH hz;have xR:=aA M6 11 rfl;have kz:=M6.lt;clear hz;go_wp2_with fail;refine (Mt A2 m.ah k2 nm no _ uj.ah.ah uj.nil vg.o.1 uj.cap uj.max (by have:=vg.o.2;omega)).mono ?_;rintro e w7 ⟨v7,rfl,hown,b7'⟩;rw[wA _ _ _ vg.o.1]at hown;obtain⟨A7,c7,rfl,q1,q2,q3,q4⟩:=hown.zS (B:=B);obtain⟨T,hT⟩:=ai (cC S n');rw[<-hT]at K6;have hTu:aQ T.nodes T.last:=by rw[hT];exact vc HO.o.live _
    obtain⟨L7,Wd⟩:=ai (fC m.ah (nm,no));rw[<-Wd]at q1 q3|-;have KTT:Hid (Calls prog 194 #[((),g.bW),dir,now,.slice A7 L7.length c7] w7 (AF w7 B g (dC T dir now L7))):=tQ B g T dir now A7 L7 c7 w7 (K6.ext b7') hTu q3 q1 q2 q4;have HT:=zH hT;have HL7:=zH Wd;clear xR kz hown q1 q2 q3 q4 hT Wd;go_wp2_with fail;refine KTT.o.mono ?_;rintro e w8 ⟨rfl,K8,O8⟩;go_wp2;go_ret2;have e1:dq S cu cg now dir nm n=0:=by rw[mr.o];exact HZ.o
    have e2:eG S cu cg now dir nm n=no:=by unfold eG;rw[af e1];exact (uh.o HZ.o).symm
    have e3:cM S cu cg now dir nm n=dC T dir now L7:=by
     unfold cM;rw[af e1,HT.o,HL7.o,<-Cd.o,Ag.o,uh.o HZ.o]
    refine⟨by rw[e1,e2];rfl,by rw[e3];exact K8,(Ow6.ext b7').then O8⟩
   ·have t2:(e6 == 0)=false:=by simpa using hz
    have Wb:(e6 != 0)=true:=by simpa using hz
    have HZ:=zH hz;clear hz;go_wp2;go_ret2;have e1:dq S cu cg now dir nm n=e6:=mr.o;have e2:eG S cu cg now dir nm n=0:=by unfold eG;rw[ac (by rw[e1];exact HZ.o)]
    have e3:cM S cu cg now dir nm n=S:=by unfold cM;rw[ac (by rw[e1];exact HZ.o)]
    have e4:cC S n'=S:=by unfold cC;rw[ac (by rw[<-Km.o];exact HZ.o)]
    rw[e4]at K6;exact⟨by rw[e1,e2];rfl,by rw[e3];exact K6,Ow6⟩
  ·have t1:(v == 0)=false:=by simpa using xa
   have qo:(v != 0)=true:=by simpa using xa
   have hE:Hid (dq S cu cg now dir nm n=7):=by show _=_;rw[cq.o,af xa]
   clear cq xa;go_wp2;go_ret2;exact HS.o _ _ (lC.o.trans E4) hE.o (by decide)
 ·have t0:(x == 0)=false:=by simpa using aX
  have nK:(x != 0)=true:=by simpa using aX
  have hE:Hid (dq S cu cg now dir nm n=x):=by show _=_;rw[hm.o,af aX]
  have HX:=zH aX;clear hm aX;go_wp2;go_ret2;exact HS.o _ _ (lC.o.trans oR) hE.o HX.o
end
theorem OW (B:Nat) (g:dL) (S:ag) (cu cg now no dir:Int) (nm:List UInt8) (w:World) (h:eL w B g S) (O:Ok S) :
  Calls prog 159 #[((),g.bW),.agg #[cu,cg],now,no,dir,bs nm] w (qq w B g (jl S cu cg now no dir nm) (h_ S cu cg no dir nm)):=by
 obtain⟨W0,aJ⟩:=ai (w.alloc (.cells #[cu,cg] 27));have E0:Ext w W0:=by rw[aJ];exact (Ext.refl _).alloc _
 have C0:Has W0 w.heap.size (.cells #[cu,cg] 27):=by rw[aJ];exact Has.new w _
 have HO:=zH O;have hm:Hid (h_ S cu cg no dir nm=if ¬bn S cu cg dir nm=0 then bn S cu cg dir nm else if aW S.nodes no=false then 5 else if (aa S.nodes no).kind=1 then 4
  else if ¬aY (aa S.nodes dir).ah nm=0 then 7 else if ¬(aa S.nodes no).dev=(aa S.nodes dir).dev then 11 else if 1000<=(aa S.nodes no).ar then 18 else 0):=by show _=_;rfl
 have hp:Hid (bn S cu cg dir nm=0->dG S cu cg dir nm=aa S.nodes dir/\aW S.nodes dir=true):=fun h0=>⟨kI h0,(a_ h0).1⟩
 have HS:Hid (∀(w':World) (x:Int),Ext w w'->h_ S cu cg no dir nm=x->x≠0->qq w B g (jl S cu cg now no dir nm) (h_ S cu cg no dir nm) (.returned (.int .i64 x)) w'):=by
  show ∀(w':World) (x:Int),_;intro w' x hE hx h0;rw[hx];exact fR h hE (by unfold jl;rw[ac (by rw[hx];exact h0)])
 clear O;go_in;go_upto_region 1 with fail;rw[<-aJ];clear aJ;have x0:=aA C0 0 rfl;have x1:=aA C0 1 rfl;have xz:=C0.lt;go_wp2_with fail;refine (tP B g S cu cg dir nm _ (h.ext E0) HO.o.live.ae).mono ?_;rintro e w2 ⟨A2,k2,rfl,gG,b2⟩;obtain⟨m,hmm⟩:=ai (dG S cu cg dir nm);obtain⟨x,hx⟩:=ai (bn S cu cg dir nm);rw[<-hmm]at gG hp;rw[<-hx]at hm hp;rw[<-hmm,<-hx];obtain⟨W3,cJ⟩:=ai (w2.alloc (.cells (m,A2,k2) 66));obtain⟨mG,sQ⟩:=ai w2.heap.size;have iH:Ext w2 W3:=by rw[cJ];exact (Ext.refl _).alloc _
 have M3:Has W3 mG (.cells (m,A2,k2) 66):=by rw[cJ,sQ];exact Has.new _ _
 have E3:Ext w W3:=E0.trans (b2.trans iH);have mE:=gG.ext iH;have ach:w.heap.size<=mG:=by rw[sQ];exact (E0.trans b2).size
 clear x0 x1 xz hmm hx C0;go_upto_region 2 with fail;rw[<-cJ];rw[<-sQ];clear cJ sQ
 by_cases aX:x=0
 ·have t0:(x == 0)=true:=by simpa using aX
  have nK:(x != 0)=false:=by simpa using aX
  obtain ⟨oX,hid⟩:=hp.o aX;have cq:Hid (h_ S cu cg no dir nm=if aW S.nodes no=false then 5 else if (aa S.nodes no).kind=1 then 4 else if ¬aY m.ah nm=0 then 7 else if ¬(aa S.nodes no).dev=m.dev then 11 else if 1000<=(aa S.nodes no).ar then 18 else 0):=by
   show _=_;rw[hm.o,ac (by simpa using aX),<-oX]
  have Ag:=zH oX;have hen:=HO.o.bj dir;rw[<-oX]at hen;have vg:=zH hen;obtain⟨_,_,cd,h3,_⟩:=id (h.ext E3);have v0:=aA h3 0 rfl;have z1:=h3.lt;clear hm hp aX oX hid hen h3;go_wp2_with fail;refine (fW B g.bT g.bM S.nodes S.last no _ (h.ext E3).2.1).mono ?_;rintro e w4 ⟨A4,k4,rfl,tO,b4⟩;obtain⟨n,hn⟩:=ai (aa S.nodes no);obtain⟨i,hi⟩:=ai (aW S.nodes no);have hlk:aW S.nodes no=true->1<=(aa S.nodes no).ar/\(aa S.nodes no).ar<=1000:=fun hi=>HO.o.ar _ (ap hi).2.2
  rw[<-hn,<-hi]at hlk;rw[<-hn]at tO cq;rw[<-hi]at cq;rw[<-hn,<-hi];have HLK:=zH hlk;obtain⟨W5,kT⟩:=ai (w4.alloc (.cells (n,A4,k4) 66));obtain⟨xS,xc⟩:=ai w4.heap.size;have We:Ext w4 W5:=by rw[kT];exact (Ext.refl _).alloc _
  have N5:Has W5 xS (.cells (n,A4,k4) 66):=by rw[kT,xc];exact Has.new _ _
  have Xv:Ext W3 W5:=b4.trans We;have M5:=M3.ext Xv;have EN:=mE.ext Xv;have rR:=tO.ext We;have E5:=E3.trans Xv;have aci:W3.heap.size<=xS:=by rw[xc];exact b4.size
  have ael:mG<xS:=by have:=M3.lt;omega
  have qP:=zH hn;have HI:=zH hi;clear v0 z1 hn hi M3 mE tO E3 hlk;go_upto_region 5 with fail;rw[<-kT];rw[<-xc];clear kT xc
  cases i
  ·have hE:Hid (h_ S cu cg no dir nm=5):=by show _=_;rw[cq.o];rfl
   clear cq;go_wp2;go_ret;exact HS.o _ _ E5 hE.o (by decide)
  have Kk:=aA N5 2 rfl;have kz:=N5.lt
  by_cases c1:n.kind=1
  ·have t1:(n.kind == 1)=true:=by simpa using c1
   have hE:Hid (h_ S cu cg no dir nm=4):=by show _=_;rw[cq.o,ac (by decide),af c1]
   clear cq;go_wp2;go_ret;exact HS.o _ _ E5 hE.o (by decide)
  have t1:(n.kind == 1)=false:=by simpa using c1
  have xR:=aA M5 11 rfl;have kz2:=M5.lt;have Ce:=zH c1;clear c1;go_wp2_with fail;refine (rA A2 m.ah k2 nm _ EN.ah.ah vg.o.1 (by have:=vg.o.2;omega)).mono ?_;rw[l_ vg.o.1];rintro e w6 ⟨rfl,b6⟩;obtain⟨v,hv⟩:=ai (aY m.ah nm);rw[<-hv]at cq;rw[<-hv];have N6:=N5.ext b6;have M6:=M5.ext b6;have uj:=EN.ext b6;have EY:=rR.ext b6;have E6:=E5.trans b6;clear hv Kk kz xR kz2 N5 M5 EN rR
  by_cases c2:v=0
  case neg =>
   have t2:(v == 0)=false:=by simpa using c2
   have Wb:(v != 0)=true:=by simpa using c2
   have hE:Hid (h_ S cu cg no dir nm=7):=by show _=_;rw[cq.o,ac (by decide),ac Ce.o,af c2]
   clear cq c2;go_wp2;go_ret;exact HS.o _ _ E6 hE.o (by decide)
  have t2:(v == 0)=true:=by simpa using c2
  have Wb:(v != 0)=false:=by simpa using c2
  have y1:=aA N6 1 rfl;have y2:=aA M6 1 rfl;have y3:=aA N6 8 rfl;have yz:=N6.lt;have yz2:=M6.lt;have qw:=zH (show ¬¬v=0 by simpa using c2);clear c2
  by_cases c3:n.dev=m.dev
  case neg =>
   have t3:(n.dev == m.dev)=false:=by simpa using c3
   have t3b:(n.dev != m.dev)=true:=by simpa using c3
   have hE:Hid (h_ S cu cg no dir nm=11):=by show _=_;rw[cq.o,ac (by decide),ac Ce.o,ac qw.o,af c3]
   clear cq c3;go_wp2;go_ret;exact HS.o _ _ E6 hE.o (by decide)
  have t3:(n.dev == m.dev)=true:=by simpa using c3
  have t3b:(n.dev != m.dev)=false:=by simpa using c3
  have HC3:=zH (show ¬¬n.dev=m.dev by simpa using c3);clear c3
  by_cases c4:1000<=n.ar
  ·have t4:decide (1000<=n.ar)=true:=cj c4
   have hE:Hid (h_ S cu cg no dir nm=18):=by show _=_;rw[cq.o,ac (by decide),ac Ce.o,ac qw.o,ac HC3.o,af c4]
   clear cq c4;go_wp2;go_ret;exact HS.o _ _ E6 hE.o (by decide)
  have t4:decide (1000<=n.ar)=false:=cG c4;have hE:Hid (h_ S cu cg no dir nm=0):=by show _=_;rw[cq.o,ac (by decide),ac Ce.o,ac qw.o,ac HC3.o,ac c4]
  have jZ:=(HLK.o (by trivial)).1;have y4:IntKind.i64.wrap (n.ar+1)=n.ar+1:=aU (by omega) (by omega);have yf:∀i,w6.frozen? ⟨xS,i,none⟩=false:=fun i=>(N6.free i).trans (by simp)
  have y7:=aA N6 7 rfl;obtain⟨n',hn'⟩:∃n':ak,n'={n with ar:=n.ar+1,ctime:=now}:=⟨_,rfl⟩;have Cd:=zH hn';clear cq c4 jZ hn';go_upto_region 17 with fail;obtain⟨V,hV⟩:=ai ((w6.setCell (xS,8) (.int .i64 (n.ar+1))).setCell (xS,7) (.int .i64 now));rw[<-hV];have NV:Has V xS (.cells #[.int .i64 (n').no,.int .i64 (n').dev,.int .i64 (n').kind,.int .i64 (n').mode,.int .i64 (n').uid,.int .i64 (n').gid,.int .i64 (n').mtime,.int .i64 (n').ctime,.int .i64 (n').ar,.int .i64 (n').up,.string (bs (n').data),.slice A4 (n').ah.length k4] 66):=by rw[hV,Cd.o];exact (N6.setCell 8 _).setCell 7 _
  have OV:Only [xS] w6 V:=by rw[hV];exact (Only.setCell _ _ _ _).then (Only.setCell _ _ _ _)
  have Kn:dE w6 B [xS]:=by
   intro b hb;rw[ax]at hb;subst hb;exact⟨by have:=h.1;have:=h.lt.1;have:=E0.size;have:=Xv.size;omega,N6.fV (by decide)⟩
  have EV:Ext w V:=OV.after E6 (by intro b hb;rw[ax]at hb;omega);have KV:=h.ext EV;have MV:=OV.has M6 (by rw[ax];omega);have Ah:=uj.only OV Kn;have aay:aD V B n' A4 k4:=(EY.only OV Kn).same (by rw[Cd.o]);clear hV y1 y2 y3 y4 yf y7 yz yz2 N6 M6 uj EY;obtain⟨_,_,cdV,Tn,_⟩:=id KV;have v0:=aA Tn 0 rfl;have vz:=Tn.lt;obtain⟨x0,x1,x2,x3,x4,x5,x6,x7,x8,x9,kC,kn⟩:=NV.da;have zN:=NV.lt;clear Tn;go_still_tail 5,(by kernel_rfl);change wpList _ _ _ _ _ V.drew;go_wp2_with fail;have ED:Ext V V.drew:=(Ext.refl _).drew;refine (pL B g S n' A4 k4 _ (KV.ext ED) HO.o.live.bL (aay.ext ED)).mono ?_;rintro e w7 ⟨rfl,K7,O7⟩;have Tt:mG∉g.list:=by
   have Rj:=h.lt;simp only[dL.list,aR,bg,bh];omega
  have M7:=O7.has (MV.ext ED) Tt;have wF:=(Ah.ext ED).only O7 (KV.ext ED).apart;have Wf:Only g.list w w7:=Only.pre (EV.trans ED) O7;obtain⟨T,hT⟩:=ai (aV S n');rw[<-hT]at K7;have hTu:aQ T.nodes T.last:=by rw[hT];exact HO.o.live.bL.set _
  have HT:=zH hT;have xR:=aA M7 11 rfl;have kz:=M7.lt;clear v0 vz x0 x1 x2 x3 x4 x5 x6 x7 x8 x9 kC kn zN hT;go_wp2_with fail;refine (Mt A2 m.ah k2 nm no _ wF.ah.ah wF.nil vg.o.1 wF.cap wF.max (by have:=vg.o.2;omega)).mono ?_;rintro e w8 ⟨v8,rfl,hown,MR⟩;rw[wA _ _ _ vg.o.1]at hown;obtain⟨A8,c8,rfl,q1,q2,q3,q4⟩:=hown.zS (B:=B);obtain⟨L8,hL8⟩:=ai (fC m.ah (nm,no));rw[<-hL8]at q1 q3|-;have KTT:Hid (Calls prog 194 #[((),g.bW),dir,now,.slice A8 L8.length c8] w8 (AF w8 B g (dC T dir now L8))):=tQ B g T dir now A8 L8 c8 w8 (K7.ext MR) hTu q3 q1 q2 q4;have HL8:=zH hL8;clear xR kz hown q1 q2 q3 q4 hL8;go_wp2_with fail;refine KTT.o.mono ?_;rintro e w9 ⟨rfl,K9,O9⟩;go_wp2;go_ret;rw[hE.o];have e3:jl S cu cg now no dir nm=dC T dir now L8:=by
   unfold jl eH;rw[af hE.o,HT.o,HL8.o,Cd.o,qP.o,Ag.o]
  exact⟨rfl,by rw[e3];exact K9,(Wf.ext MR).then O9⟩
 ·have t0:(x == 0)=false:=by simpa using aX
  have nK:(x != 0)=true:=by simpa using aX
  have hE:Hid (h_ S cu cg no dir nm=x):=by show _=_;rw[hm.o,af aX]
  have HX:=zH aX;clear hm aX;go_wp2;go_ret;exact HS.o _ _ E3 hE.o HX.o
theorem tR (B:Nat) (g:cI) (S:ag) (X:cY) (cu cg no:Int) (w:World) (h:gv w B g S X) (nE:S.nodes.length<=1000000) (hu:aQ S.nodes S.last) :
  Calls prog 127 #[((),g.bF),.agg #[cu,cg],no] w (aO w (.int .i64 (fD S cu no))):=by
 have E0:Ext w (w.alloc (.cells #[cu,cg] 27)):=(Ext.refl _).alloc _;have hm:Hid (fD S cu no=if aW S.nodes no=false then 5 else if fp cu (aa S.nodes no).uid=false then 4 else 0):=by show _=_;rfl
 have hz:aW S.nodes no=false->(aa S.nodes no).no=0:=fun hi=>by rw[(aP hi).1];rfl
 have hz2:aW S.nodes no=true->(aa S.nodes no).no≠0:=fun hi=>by rw[(ap hi).2.1];have:=(hu.2 _ (ap hi).2.2).1;rw[(ap hi).2.1]at this;omega
 go_in;go_wp2_with fail;refine (eE B g S X no _ (h.ext E0) nE hu).mono ?_;rintro e w2 ⟨A,c,rfl,gG,b2⟩;have C2:=(Has.new w (.cells #[cu,cg] 27)).ext b2;have E2:=E0.trans b2;obtain⟨m,hmm⟩:=ai (aa S.nodes no);obtain⟨i,hi⟩:=ai (aW S.nodes no);rw[<-hmm]at gG hm hz hz2;rw[<-hi]at hm hz hz2;rw[<-hmm];obtain⟨W3,cJ⟩:=ai (w2.alloc (.cells (m,A,c) 66));obtain⟨b7,uk⟩:=ai w2.heap.size;have iH:Ext w2 W3:=by rw[cJ];exact (Ext.refl _).alloc _
 have N3:Has W3 b7 (.cells (m,A,c) 66):=by rw[cJ,uk];exact Has.new _ _
 have C3:=C2.ext iH;have E3:=E2.trans iH;have HZ:=zH hz;have HZ2:=zH hz2;clear hmm hi hz hz2;go_upto_region 2 with fail;rw[<-cJ];rw[<-uk];clear cJ uk;have k0:=aA N3 0 rfl;have kz:=N3.lt
 cases i
 ·have t0:(m.no == 0)=true:=by simpa using HZ.o rfl
  have hE:Hid (fD S cu no=5):=by show _=_;rw[hm.o];rfl
  clear hm;go_wp2;go_ret;exact aO.mk (aS hE.o.symm) E3
 ·have t0:(m.no == 0)=false:=by simpa using HZ2.o rfl
  obtain⟨u,uJ⟩:=ai (fp cu m.uid);rw[<-uJ]at hm;have HU:=zH uJ;have c0:=aA C3 0 rfl;have c1:=aA C3 1 rfl;have zc:=C3.lt;clear uJ;go_wp2_with (refine aB rfl _ rfl b7 m A c rfl N3 ?_);refine (sA cu cg _ _ _ _ m.uid _ _ _ _ _ _ _ _).mono ?_;rw[<-HU.o];rintro e w4 ⟨rfl,b4⟩
  cases u
  ·have hE:Hid (fD S cu no=4):=by show _=_;rw[hm.o];rfl
   clear hm;go_wp2;go_ret;exact aO.mk (aS hE.o.symm) (E3.trans b4)
  ·have hE:Hid (fD S cu no=0):=by show _=_;rw[hm.o];rfl
   clear hm;go_wp2;go_ret;exact aO.mk (aS hE.o.symm) (E3.trans b4)
theorem OX (B:Nat) (g:cI) (S:ag) (X:cY) (cu cg no mode:Int) (w:World) (h:gv w B g S X) (nE:S.nodes.length<=1000000) (hu:aQ S.nodes S.last) :
  Calls prog 76 #[((),g.bF),.agg #[cu,cg],no,mode] w (Kh w B g (gx S cu X.now no mode) X (g_ S cu no mode)):=by
 have E0:Ext w (w.alloc (.cells #[cu,cg] 27)):=(Ext.refl _).alloc _;have hm:Hid (g_ S cu no mode=if fD S cu no≠0 then fD S cu no else if mode<0\/1023<mode\/(aa S.nodes no).kind=3 then 1 else 0):=by show _=_;rfl
 have tj:Hid (fD S cu no=0->aW S.nodes no=true):=fun h0=>(jy h0).1
 have HS:Hid (∀(w':World) (x:Int),Ext w w'->g_ S cu no mode=x->x≠0->Kh w B g (gx S cu X.now no mode) X (g_ S cu no mode) (.returned (.int .i64 x)) w'):=by
  show ∀(w':World) (x:Int),_;intro w' x hE hx aX;rw[hx];exact wY h hE (by unfold gx;rw[ac (by rw[hx];exact aX)])
 go_in;go_wp2_with fail;refine (tR B g S X cu cg no _ (h.ext E0) nE hu).mono ?_;rintro e w1 ⟨rfl,b1⟩;have E1:=E0.trans b1;have C1:=(Has.new w (.cells #[cu,cg] 27)).ext b1;obtain⟨x,hx⟩:=ai (fD S cu no);rw[<-hx]at hm tj;rw[<-hx];clear hx
 by_cases aX:x=0
 ·have t0 : (x == 0)=true:=by simpa using aX
  have nK:(x != 0)=false:=by simpa using aX
  have HN:=zH ((ap (tj.o aX)).2.1);have ig:Hid (g_ S cu no mode=if mode<0\/1023<mode\/(aa S.nodes no).kind=3 then 1 else 0):=by show _=_;rw[hm.o,ac (by simpa using aX)]
  clear hm tj aX;have EG:=E1;go_wp2_with fail;refine (eE B g S X no _ (h.ext EG) nE hu).mono ?_;rintro e w2 ⟨A,c,rfl,gG,b2⟩;have E2:=EG.trans b2;obtain⟨m,hmm⟩:=ai (aa S.nodes no);rw[<-hmm]at gG HN ig;rw[<-hmm];have HM:=zH hmm;have nw:w2.cell? (g.bF,3)=some (.int .i64 X.now):=by obtain⟨_,_,_,k,_⟩:=h.ext E2;exact k.cell 3
  have nz:=(h.ext E2).lt.1;clear hmm
  by_cases c1:mode<0
  ·have t1:decide (mode<0)=true:=cj c1
   have hE:Hid (g_ S cu no mode=1):=by show _=_;rw[ig.o,af (.inl c1)]
   clear ig c1;go_wp2;go_ret;exact HS.o _ _ (E2.alloc _) hE.o (by decide)
  ·have t1:decide (mode<0)=false:=cG c1
   by_cases c2:1023<mode
   ·have t2:decide (1023<mode)=true:=cj c2
    have hE:Hid (g_ S cu no mode=1):=by show _=_;rw[ig.o,af (.inr (.inl c2))]
    clear ig c1 c2;go_wp2;go_ret;exact HS.o _ _ (E2.alloc _) hE.o (by decide)
   ·have t2:decide (1023<mode)=false:=cG c2
    by_cases c3:m.kind=3
    ·have t3:(m.kind == 3)=true:=by simpa using c3
     have hE:Hid (g_ S cu no mode=1):=by show _=_;rw[ig.o,af (.inr (.inr c3))]
     clear ig c1 c2 c3;go_wp2;go_ret;exact HS.o _ _ (E2.alloc _) hE.o (by decide)
    ·have t3:(m.kind == 3)=false:=by simpa using c3
     have hE:Hid (g_ S cu no mode=0):=by show _=_;rw[ig.o,ac (by rintro (g'|g'|g')<;>contradiction)]
     clear ig c1 c2 c3;go_upto_region 9 with fail;obtain⟨n,hn⟩:∃n:ak,n={m with mode:=mode,ctime:=X.now}:=⟨_,rfl⟩;obtain⟨V,hV⟩:=ai (w2.alloc (.cells (n,A,c) 66));have oM:=hV;rw[hn]at oM;rw[<-oM];have NV:Has V w2.heap.size (.cells (n,A,c) 66):=by rw[hV];exact Has.new _ _
     have EV:Ext w V:=by rw[hV];exact E2.alloc _
     have Ah:aD V B n A c:=((gG.ext (by rw[hV];exact (Ext.refl _).alloc _)).same (by rw[hn]));have qP:=zH hn;clear hV oM hn nw nz;go_wp2_with (refine aB rfl _ rfl w2.heap.size n A c rfl NV ?_);refine (pu B g S X n A c _ (h.ext EV) nE hu Ah).mono ?_;rintro e w5 ⟨rfl,K5,O5⟩;go_wp2;go_ret;rw[hE.o];refine⟨rfl,?_,Only.pre EV O5⟩;have:gx S cu X.now no mode=aV S n:=by unfold gx;rw[af hE.o,qP.o,HM.o]
     rw[this];exact K5
 ·have t0:(x == 0)=false:=by simpa using aX
  have nK:(x != 0)=true:=by simpa using aX
  have hE:Hid (g_ S cu no mode=x):=by show _=_;rw[hm.o,af aX]
  have HX:=zH aX;clear hm tj aX;go_wp2;go_ret;exact HS.o _ _ E1 hE.o HX.o
theorem Ko (B:Nat) (g:cI) (S:ag) (X:cY) (cu cg no uid gid:Int) (w:World) (h:gv w B g S X) (nE:S.nodes.length<=1000000) (hu:aQ S.nodes S.last) :
  Calls prog 75 #[((),g.bF),.agg #[cu,cg],no,uid,gid] w (Kh w B g (iA S cu X.now no uid gid) X (iT S cu no uid gid)):=by
 have E0:Ext w (w.alloc (.cells #[cu,cg] 27)):=(Ext.refl _).alloc _;have hm:Hid (iT S cu no uid gid=if fD S cu no≠0 then fD S cu no else if ¬cu=0 then 4 else if rN uid gid=false then 1 else 0):=by show _=_;rfl
 have tj:Hid (fD S cu no=0->aW S.nodes no=true):=fun h0=>(jy h0).1
 have HS:Hid (∀(w':World) (x:Int),Ext w w'->iT S cu no uid gid=x->x≠0->Kh w B g (iA S cu X.now no uid gid) X (iT S cu no uid gid) (.returned (.int .i64 x)) w'):=by
  show ∀(w':World) (x:Int),_;intro w' x hE hx aX;rw[hx];exact wY h hE (by unfold iA;rw[ac (by rw[hx];exact aX)])
 go_in;go_wp2_with fail;refine (tR B g S X cu cg no _ (h.ext E0) nE hu).mono ?_;rintro e w1 ⟨rfl,b1⟩;have E1:=E0.trans b1;have C1:=(Has.new w (.cells #[cu,cg] 27)).ext b1;obtain⟨x,hx⟩:=ai (fD S cu no);rw[<-hx]at hm tj;rw[<-hx];clear hx
 by_cases aX:x=0
 ·have t0:(x == 0)=true:=by simpa using aX
  have nK:(x != 0)=false:=by simpa using aX
  have HN:=zH ((ap (tj.o aX)).2.1);have ig:Hid (iT S cu no uid gid=if ¬cu=0 then 4 else if rN uid gid=false then 1 else 0):=by show _=_;rw[hm.o,ac (by simpa using aX)]
  clear hm tj aX;have k0:=aA C1 0 rfl;have kz:=C1.lt
  by_cases c1:cu=0
  ·have t1:(cu == 0)=true:=by simpa using c1
   have qo:(cu != 0)=false:=by simpa using c1
   obtain⟨u,uJ⟩:=ai (rN uid gid);rw[<-uJ]at ig;have HU:=zH uJ;have cq:Hid (iT S cu no uid gid=if u=false then 1 else 0):=by show _=_;rw[ig.o,ac (by simpa using c1)]
   clear ig c1 uJ;go_wp2_with fail;refine (Oo uid gid _).mono ?_;rw[<-HU.o];rintro e w1' ⟨rfl,NF⟩;have EG:=E1.trans NF;clear k0 kz
   cases u
   ·have hE:Hid (iT S cu no uid gid=1):=by show _=_;rw[cq.o];rfl
    clear cq;go_wp2;go_ret;exact HS.o _ _ EG hE.o (by decide)
   ·have hE:Hid (iT S cu no uid gid=0):=by show _=_;rw[cq.o];rfl
    clear cq;go_wp2_with fail;refine (eE B g S X no _ (h.ext EG) nE hu).mono ?_;rintro e w2 ⟨A,c,rfl,gG,b2⟩;have E2:=EG.trans b2;obtain⟨m,hmm⟩:=ai (aa S.nodes no);rw[<-hmm]at gG HN;rw[<-hmm];have HM:=zH hmm;have nw:w2.cell? (g.bF,3)=some (.int .i64 X.now):=by obtain⟨_,_,_,k,_⟩:=h.ext E2;exact k.cell 3
    have nz:=(h.ext E2).lt.1;clear hmm;go_upto_region 12 with fail;obtain⟨n,hn⟩:∃n:ak,n={m with uid:=uid,gid:=gid,ctime:=X.now}:=⟨_,rfl⟩;obtain⟨V,hV⟩:=ai (w2.alloc (.cells (n,A,c) 66));have oM:=hV;rw[hn]at oM;rw[<-oM];have NV:Has V w2.heap.size (.cells (n,A,c) 66):=by rw[hV];exact Has.new _ _
    have EV:Ext w V:=by rw[hV];exact E2.alloc _
    have Ah:aD V B n A c:=((gG.ext (by rw[hV];exact (Ext.refl _).alloc _)).same (by rw[hn]));have qP:=zH hn;clear hV oM hn nw nz;go_wp2_with (refine aB rfl _ rfl w2.heap.size n A c rfl NV ?_);refine (pu B g S X n A c _ (h.ext EV) nE hu Ah).mono ?_;rintro e w5 ⟨rfl,K5,O5⟩;go_wp2;go_ret;rw[hE.o];refine⟨rfl,?_,Only.pre EV O5⟩;have:iA S cu X.now no uid gid=aV S n:=by unfold iA;rw[af hE.o,qP.o,HM.o]
    rw[this];exact K5
  ·have t1:(cu == 0)=false:=by simpa using c1
   have qo:(cu != 0)=true:=by simpa using c1
   have hE:Hid (iT S cu no uid gid=4):=by show _=_;rw[ig.o,af c1]
   clear ig c1;go_wp2;go_ret;exact HS.o _ _ E1 hE.o (by decide)
 ·have t0:(x == 0)=false:=by simpa using aX
  have nK:(x != 0)=true:=by simpa using aX
  have hE:Hid (iT S cu no uid gid=x):=by show _=_;rw[hm.o,af aX]
  have HX:=zH aX;clear hm tj aX;go_wp2;go_ret;exact HS.o _ _ E1 hE.o HX.o
theorem OY (B:Nat) (g:cI) (S:ag) (X:cY) (cu cg no mt:Int) (w:World) (h:gv w B g S X) (nE:S.nodes.length<=1000000) (hu:aQ S.nodes S.last) :
  Calls prog 77 #[((),g.bF),.agg #[cu,cg],no,mt] w (Kh w B g (iB S cu X.now no mt) X (jk S cu no mt)):=by
 have E0:Ext w (w.alloc (.cells #[cu,cg] 27)):=(Ext.refl _).alloc _;have hm:Hid (jk S cu no mt=if fD S cu no≠0 then fD S cu no else if mt<0\/253402300799<mt then 1 else 0):=by show _=_;rfl
 have tj:Hid (fD S cu no=0->aW S.nodes no=true):=fun h0=>(jy h0).1
 have HS:Hid (∀(w':World) (x:Int),Ext w w'->jk S cu no mt=x->x≠0->Kh w B g (iB S cu X.now no mt) X (jk S cu no mt) (.returned (.int .i64 x)) w'):=by
  show ∀(w':World) (x:Int),_;intro w' x hE hx aX;rw[hx];exact wY h hE (by unfold iB;rw[ac (by rw[hx];exact aX)])
 go_in;go_wp2_with fail;refine (tR B g S X cu cg no _ (h.ext E0) nE hu).mono ?_;rintro e w1 ⟨rfl,b1⟩;have E1:=E0.trans b1;have C1:=(Has.new w (.cells #[cu,cg] 27)).ext b1;obtain⟨x,hx⟩:=ai (fD S cu no);rw[<-hx]at hm tj;rw[<-hx];clear hx
 by_cases aX:x=0
 ·have t0:(x == 0)=true:=by simpa using aX
  have nK:(x != 0)=false:=by simpa using aX
  have HN:=zH ((ap (tj.o aX)).2.1);have ig:Hid (jk S cu no mt=if mt<0\/253402300799<mt then 1 else 0):=by show _=_;rw[hm.o,ac (by simpa using aX)]
  clear hm tj aX;have EG:=E1
  by_cases c1:mt<0
  ·have t1:decide (mt<0)=true:=cj c1
   have hE:Hid (jk S cu no mt=1):=by show _=_;rw[ig.o,af (.inl c1)]
   clear ig c1;go_wp2;go_ret;exact HS.o _ _ E1 hE.o (by decide)
  ·have t1:decide (mt<0)=false:=cG c1
   by_cases c2:253402300799<mt
   ·have t2:decide (253402300799<mt)=true:=cj c2
    have hE:Hid (jk S cu no mt=1):=by show _=_;rw[ig.o,af (.inr c2)]
    clear ig c1 c2;go_wp2;go_ret;exact HS.o _ _ E1 hE.o (by decide)
   ·have t2:decide (253402300799<mt)=false:=cG c2
    have hE:Hid (jk S cu no mt=0):=by show _=_;rw[ig.o,ac (by rintro (g'|g')<;>contradiction)]
    clear ig c1 c2;go_wp2_with fail;refine (eE B g S X no _ (h.ext EG) nE hu).mono ?_;rintro e w2 ⟨A,c,rfl,gG,b2⟩;have E2:=EG.trans b2;obtain⟨m,hmm⟩:=ai (aa S.nodes no);rw[<-hmm]at gG HN;rw[<-hmm];have HM:=zH hmm;have nw:w2.cell? (g.bF,3)=some (.int .i64 X.now):=by obtain⟨_,_,_,k,_⟩:=h.ext E2;exact k.cell 3
    have nz:=(h.ext E2).lt.1;clear hmm;go_upto_region 9 with fail;obtain⟨n,hn⟩:∃n:ak,n={m with mtime:=mt,ctime:=X.now}:=⟨_,rfl⟩;obtain⟨V,hV⟩:=ai (w2.alloc (.cells (n,A,c) 66));have oM:=hV;rw[hn]at oM;rw[<-oM];have NV:Has V w2.heap.size (.cells (n,A,c) 66):=by rw[hV];exact Has.new _ _
    have EV:Ext w V:=by rw[hV];exact E2.alloc _
    have Ah:aD V B n A c:=((gG.ext (by rw[hV];exact (Ext.refl _).alloc _)).same (by rw[hn]));have qP:=zH hn;clear hV oM hn nw nz;go_wp2_with (refine aB rfl _ rfl w2.heap.size n A c rfl NV ?_);refine (pu B g S X n A c _ (h.ext EV) nE hu Ah).mono ?_;rintro e w5 ⟨rfl,K5,O5⟩;go_wp2;go_ret;rw[hE.o];refine⟨rfl,?_,Only.pre EV O5⟩;have:iB S cu X.now no mt=aV S n:=by unfold iB;rw[af hE.o,qP.o,HM.o]
    rw[this];exact K5
 ·have t0:(x == 0)=false:=by simpa using aX
  have nK:(x != 0)=true:=by simpa using aX
  have hE:Hid (jk S cu no mt=x):=by show _=_;rw[hm.o,af aX]
  have HX:=zH aX;clear hm tj aX;go_wp2;go_ret;exact HS.o _ _ E1 hE.o HX.o
def cE (S:ag) (cu cg no kind want:Int):Int:=
 if aW S.nodes no=false then 5
 else if (aa S.nodes no).kind=kind then (if fh cu cg (aa S.nodes no).uid (aa S.nodes no).gid (aa S.nodes no).mode want=false then 6 else 0)
 else if kind=1 then 9 else if (aa S.nodes no).kind=1 then 8 else 1
def bV (S:ag) (cu cg no kind want:Int):ak:=if cE S cu cg no kind want=0 then aa S.nodes no else aj
def MS (w:World) (B:Nat) (S:ag) (cu cg no kind want:Int) (e:Ending) (w':World):Prop:=
 ∃ A c,e=.returned (.tuple #[.agg #[.int .i64 (bV S cu cg no kind want).no,.int .i64 (bV S cu cg no kind want).dev,.int .i64 (bV S cu cg no kind want).kind,.int .i64 (bV S cu cg no kind want).mode,.int .i64 (bV S cu cg no kind want).uid,.int .i64 (bV S cu cg no kind want).gid,.int .i64 (bV S cu cg no kind want).mtime,.int .i64 (bV S cu cg no kind want).ctime,.int .i64 (bV S cu cg no kind want).ar,.int .i64 (bV S cu cg no kind want).up,.string (bs (bV S cu cg no kind want).data),.slice A (bV S cu cg no kind want).ah.length c],.int .i64 (cE S cu cg no kind want)])/\aD w' B (bV S cu cg no kind want) A c/\Ext w w'
theorem CX (B:Nat) (g:dL) (S:ag) (cu cg no kind want:Int) (w:World) (h:eL w B g S) (hd:0<S.ae.length) :
  Calls prog 99 #[((),g.bW),.agg #[cu,cg],no,kind,want] w (MS w B S cu cg no kind want):=by
 have h0:=h;obtain⟨h1,h2,cd,h3,h4⟩:=h;have l8:((S.ae.length:Int) == 0)=false:=by simpa using (show ¬(S.ae.length:Int)=0 by omega)
 have E0:Ext w ((w.alloc (.cells #[cu,cg] 27)).alloc (.cells () 66)):=((Ext.refl _).alloc _).alloc _;go_in;go_wp2_with fail;refine (mY B g S _ (h0.ext E0) hd).mono ?_;rintro e w1 ⟨rfl,b1⟩;have E1:=E0.trans b1;have R0:=Has.new (w.alloc (.cells #[cu,cg] 27)) (.cells (aj,()) 66);rw[bi]at R0;have R1:=R0.ext b1;have C1:=((Has.new w (.cells #[cu,cg] 27)).alloc (.cells () 66)).ext b1;have v0:w1.cell? (g.bW,0)=some (.pointer (some ⟨g.bT,0,none⟩)):=(h3.ext E1).cell 0;have z1:=(h3.ext E1).lt;go_wp2_with fail;refine (fW B g.bT g.bM S.nodes S.last no _ (h2.ext E1)).mono ?_;rintro e w2 ⟨A2,k2,rfl,gG,b2⟩;have R2:=R1.ext b2;have C2:=C1.ext b2;have hm:Hid (cE S cu cg no kind want=if aW S.nodes no=false then 5
  else if (aa S.nodes no).kind=kind then (if fh cu cg (aa S.nodes no).uid (aa S.nodes no).gid (aa S.nodes no).mode want=false then 6 else 0)
  else if kind=1 then 9 else if (aa S.nodes no).kind=1 then 8 else 1):=by show _=_;rfl
 have cq:Hid (bV S cu cg no kind want=if cE S cu cg no kind want=0 then aa S.nodes no else aj):=by show _=_;rfl
 obtain⟨m,hmm⟩:=ai (aa S.nodes no);rw[<-hmm]at gG hm cq|-;obtain⟨W3,cJ⟩:=ai (w2.alloc (.cells (m,A2,k2) 66));have iH:Ext w2 W3:=by rw[cJ];exact (Ext.refl _).alloc _
 have N3:Has W3 w2.heap.size (.cells (m,A2,k2) 66):=by rw[cJ];exact Has.new _ _
 have R3:=R2.ext iH;have C3:=C2.ext iH;have E3:Ext w W3:=(E1.trans b2).trans iH;obtain⟨b8,gH⟩:=ai w2.heap.size;obtain⟨i,hi⟩:=ai (aW S.nodes no);rw[<-hi]at hm|-;clear hmm hi R1 C1 R2 C2 v0;go_upto_region 4 with fail;rw[<-cJ];rw[<-gH]at N3|-;have mE:=gG.ext iH;clear cJ gH iH;have HS:Hid (∀(w5 w6:World) (x:Int),Ext w w5->Only [w.heap.size+1] w5 w6->cE S cu cg no kind want=x->x≠0->MS w B S cu cg no kind want (.returned (.tuple #[.agg (aj,()),x])) w6):=by
  show ∀(w5 w6:World) (x:Int),_;intro w5 w6 x hE hO hx aX;have hN:bV S cu cg no kind want=aj:=by rw[cq.o,ac (by rw[hx];exact aX)]
  exact⟨none,0,by rw[hx,hN],by rw[hN];exact aD.zero _ _,hO.after hE (by simp)⟩
 have Kk:=aA N3 2 rfl;have kz:=N3.lt
 cases i
 ·have hE:Hid (cE S cu cg no kind want=5):=by show _=_;rw[hm.o];rfl
  clear hm;go_wp2_with (refine aq rfl _ _ rfl (w.heap.size+1) aj none 0 rfl rfl R3 ?_;intro w9 R9 O9);refine aT (v:=.tuple #[.agg (aj,()),.int .i64 5]) (db results99 _ _ (w.heap.size+1) aj none 0 _ rfl rfl R9) rfl ?_;exact HS.o _ _ _ E3 O9 hE.o (by decide)
 ·by_cases c1:m.kind=kind
  ·have t1:(m.kind == kind)=true:=by simpa using c1
   have qo:(m.kind != kind)=false:=by simpa using c1
   obtain⟨u,uJ⟩:=ai (fh cu cg m.uid m.gid m.mode want);have mr:Hid (cE S cu cg no kind want=if u=false then 6 else 0):=by show _=_;rw[hm.o,ac (by decide),af c1,uJ]
   have HU:=zH uJ;have x0:=aA C3 0 rfl;have x1:=aA C3 1 rfl;have xz:=C3.lt;clear hm uJ c1;obtain⟨n0,n1,n2,n3,n4,n5,n6,n7,n8,n9,OZ,Kq⟩:=N3.da;go_wp2_with fail;refine (pJ cu cg _ _ _ m.mode m.uid m.gid _ _ _ _ _ _ want _).mono ?_;rw[<-HU.o];rintro e w5 ⟨rfl,b5⟩;have R5:=R3.ext b5;have N5:=N3.ext b5;have E5:=E3.trans b5;have aem:=aA N5 2 rfl;have aen:=N5.lt;clear x0 x1 xz Kk kz R3 N3 n0 n1 n2 n3 n4 n5 n6 n7 n8 n9 OZ Kq
   cases u
   ·have hE:Hid (cE S cu cg no kind want=6):=by show _=_;rw[mr.o];rfl
    clear mr;go_wp2_with (refine aq rfl _ _ rfl (w.heap.size+1) aj none 0 rfl rfl R5 ?_;intro w9 R9 O9);refine aT (v:=.tuple #[.agg (aj,()),.int .i64 6]) (db results99 _ _ (w.heap.size+1) aj none 0 _ rfl rfl R9) rfl ?_;exact HS.o _ _ _ E5 O9 hE.o (by decide)
   ·have hE:Hid (cE S cu cg no kind want=0):=by show _=_;rw[mr.o];rfl
    have hN:Hid (bV S cu cg no kind want=m):=by show _=_;rw[cq.o,hE.o];rfl
    clear mr;go_wp2_with (first|(refine aB rfl _ rfl b8 m A2 k2 rfl N5 ?_)|(refine aq rfl _ _ rfl (w.heap.size+1) m A2 k2 rfl rfl R5 ?_;intro w6 R6 O6));refine aT (v:=.tuple #[.agg (m,A2,k2),()]) (db results99 _ _ (w.heap.size+1) m A2 k2 _ rfl rfl R6) rfl ?_;have uj:aD w6 B m A2 k2:=((mE.ext b5).only O6 (by
     intro b hb;rw[ax]at hb;subst hb;exact⟨by have:=h0.1;have:=h0.lt.1;omega,R5.fV (by decide)⟩))
    exact⟨A2,k2,by rw[hE.o,hN.o],by rw[hN.o];exact uj,O6.after E5 (by simp)⟩
  ·have t1:(m.kind == kind)=false:=by simpa using c1
   have qo:(m.kind != kind)=true:=by simpa using c1
   by_cases c2:kind=1
   ·have t2:(kind == 1)=true:=by simpa using c2
    have hE:Hid (cE S cu cg no kind want=9):=by show _=_;rw[hm.o,ac (by decide),ac c1,af c2]
    clear hm c1 c2;go_wp2_with (refine aq rfl _ _ rfl (w.heap.size+1) aj none 0 rfl rfl R3 ?_;intro w9 R9 O9);refine aT (v:=.tuple #[.agg (aj,()),.int .i64 9]) (db results99 _ _ (w.heap.size+1) aj none 0 _ rfl rfl R9) rfl ?_;exact HS.o _ _ _ E3 O9 hE.o (by decide)
   ·have t2:(kind == 1)=false:=by simpa using c2
    by_cases c3:m.kind=1
    ·have t3:(m.kind == 1)=true:=by simpa using c3
     have hE:Hid (cE S cu cg no kind want=8):=by show _=_;rw[hm.o,ac (by decide),ac c1,ac c2,af c3]
     clear hm c1 c2 c3;go_wp2_with (refine aq rfl _ _ rfl (w.heap.size+1) aj none 0 rfl rfl R3 ?_;intro w9 R9 O9);refine aT (v:=.tuple #[.agg (aj,()),.int .i64 8]) (db results99 _ _ (w.heap.size+1) aj none 0 _ rfl rfl R9) rfl ?_;exact HS.o _ _ _ E3 O9 hE.o (by decide)
    ·have t3:(m.kind == 1)=false:=by simpa using c3
     have hE:Hid (cE S cu cg no kind want=1):=by show _=_;rw[hm.o,ac (by decide),ac c1,ac c2,ac c3]
     clear hm c1 c2 c3;go_wp2_with (refine aq rfl _ _ rfl (w.heap.size+1) aj none 0 rfl rfl R3 ?_;intro w9 R9 O9);refine aT (v:=.tuple #[.agg (aj,()),.int .i64 1]) (db results99 _ _ (w.heap.size+1) aj none 0 _ rfl rfl R9) rfl ?_;exact HS.o _ _ _ E3 O9 hE.o (by decide)
theorem CY (B:Nat) (g:cI) (S:ag) (X:cY) (cu cg no kind want:Int) (w:World) (h:gv w B g S X) (hl:S.nodes.length<=1000000) (hu:aQ S.nodes S.last) :
  Calls prog 134 #[((),g.bF),.agg #[cu,cg],no,kind,want] w (MS w B S cu cg no kind want):=by
 have h0:=h;have E0:Ext w ((w.alloc (.cells #[cu,cg] 27)).alloc (.cells () 66)):=((Ext.refl _).alloc _).alloc _;go_in;go_wp2_with fail;have b1:=Ext.refl ((w.alloc (.cells #[cu,cg] 27)).alloc (.cells () 66));have E1:=E0;have R0:=Has.new (w.alloc (.cells #[cu,cg] 27)) (.cells (aj,()) 66);rw[bi]at R0;have R1:=R0.ext b1;have C1:=((Has.new w (.cells #[cu,cg] 27)).alloc (.cells () 66)).ext b1;refine (eE B g S X no _ (h.ext E1) hl hu).mono ?_;rintro e w2 ⟨A2,k2,rfl,gG,b2⟩;have R2:=R1.ext b2;have C2:=C1.ext b2;have hm:Hid (cE S cu cg no kind want=if aW S.nodes no=false then 5
  else if (aa S.nodes no).kind=kind then (if fh cu cg (aa S.nodes no).uid (aa S.nodes no).gid (aa S.nodes no).mode want=false then 6 else 0)
  else if kind=1 then 9 else if (aa S.nodes no).kind=1 then 8 else 1):=by show _=_;rfl
 have cq:Hid (bV S cu cg no kind want=if cE S cu cg no kind want=0 then aa S.nodes no else aj):=by show _=_;rfl
 have xT:Hid (((aa S.nodes no).no == 0)=!aW S.nodes no):=by
  refine zH ?_
  cases hi:aW S.nodes no
  ·rw[(aP hi).1];rfl
  ·have h1:=(hu.2 _ (ap hi).2.2).1
   simp;omega
 obtain⟨m,hmm⟩:=ai (aa S.nodes no);rw[<-hmm]at gG hm cq xT|-;obtain⟨W3,cJ⟩:=ai (w2.alloc (.cells (m,A2,k2) 66));have iH:Ext w2 W3:=by rw[cJ];exact (Ext.refl _).alloc _
 have N3:Has W3 w2.heap.size (.cells (m,A2,k2) 66):=by rw[cJ];exact Has.new _ _
 have R3:=R2.ext iH;have C3:=C2.ext iH;have E3:Ext w W3:=(E1.trans b2).trans iH;obtain⟨b8,gH⟩:=ai w2.heap.size;obtain⟨i,hi⟩:=ai (aW S.nodes no);rw[<-hi]at hm xT;clear hmm hi R1 C1 R2 C2;go_upto_region 2 with fail;rw[<-cJ];rw[<-gH]at N3|-;have mE:=gG.ext iH;clear cJ gH iH;have HS:Hid (∀(w5 w6:World) (x:Int),Ext w w5->Only [w.heap.size+1] w5 w6->cE S cu cg no kind want=x->x≠0->MS w B S cu cg no kind want (.returned (.tuple #[.agg (aj,()),x])) w6):=by
  show ∀(w5 w6:World) (x:Int),_;intro w5 w6 x hE hO hx aX;have hN:bV S cu cg no kind want=aj:=by rw[cq.o,ac (by rw[hx];exact aX)]
  exact⟨none,0,by rw[hx,hN],by rw[hN];exact aD.zero _ _,hO.after hE (by simp)⟩
 have k0':=aA N3 0 rfl;have Kk:=aA N3 2 rfl;have kz:=N3.lt
 cases i
 ·have hE:Hid (cE S cu cg no kind want=5):=by show _=_;rw[hm.o];rfl
  have tn:(m.no == 0)=true:=xT.o;clear hm;go_wp2_with (refine aq rfl _ _ rfl (w.heap.size+1) aj none 0 rfl rfl R3 ?_;intro w9 R9 O9);refine aT (v:=.tuple #[.agg (aj,()),.int .i64 5]) (db results134 _ _ (w.heap.size+1) aj none 0 _ rfl rfl R9) rfl ?_;exact HS.o _ _ _ E3 O9 hE.o (by decide)
 ·have tn : (m.no == 0)=false:=xT.o
  by_cases c1:m.kind=kind
  ·have t1:(m.kind == kind)=true:=by simpa using c1
   have qo:(m.kind != kind)=false:=by simpa using c1
   obtain⟨u,uJ⟩:=ai (fh cu cg m.uid m.gid m.mode want);have mr:Hid (cE S cu cg no kind want=if u=false then 6 else 0):=by show _=_;rw[hm.o,ac (by decide),af c1,uJ]
   have HU:=zH uJ;have x0:=aA C3 0 rfl;have x1:=aA C3 1 rfl;have xz:=C3.lt;clear hm uJ c1;go_wp2_with (refine aB rfl _ rfl b8 m A2 k2 rfl N3 ?_);refine (pK cu cg _ _ _ m.mode m.uid m.gid _ _ _ _ _ _ want _).mono ?_;rw[<-HU.o];rintro e w5 ⟨rfl,b5⟩;have R5:=R3.ext b5;have N5:=N3.ext b5;have E5:=E3.trans b5;have aem:=aA N5 2 rfl;have aen:=N5.lt;clear x0 x1 xz Kk kz R3 N3
   cases u
   ·have hE:Hid (cE S cu cg no kind want=6):=by show _=_;rw[mr.o];rfl
    clear mr;go_wp2_with (refine aq rfl _ _ rfl (w.heap.size+1) aj none 0 rfl rfl R5 ?_;intro w9 R9 O9);refine aT (v:=.tuple #[.agg (aj,()),.int .i64 6]) (db results134 _ _ (w.heap.size+1) aj none 0 _ rfl rfl R9) rfl ?_;exact HS.o _ _ _ E5 O9 hE.o (by decide)
   ·have hE:Hid (cE S cu cg no kind want=0):=by show _=_;rw[mr.o];rfl
    have hN:Hid (bV S cu cg no kind want=m):=by show _=_;rw[cq.o,hE.o];rfl
    clear mr;go_wp2_with (first|(refine aB rfl _ rfl b8 m A2 k2 rfl N5 ?_)|(refine aq rfl _ _ rfl (w.heap.size+1) m A2 k2 rfl rfl R5 ?_;intro w6 R6 O6));refine aT (v:=.tuple #[.agg (m,A2,k2),()]) (db results134 _ _ (w.heap.size+1) m A2 k2 _ rfl rfl R6) rfl ?_;have uj:aD w6 B m A2 k2:=((mE.ext b5).only O6 (by
     intro b hb;rw[ax]at hb;subst hb;exact⟨by have:=h0.1;have:=h0.lt.1;omega,R5.fV (by decide)⟩))
    exact⟨A2,k2,by rw[hE.o,hN.o],by rw[hN.o];exact uj,O6.after E5 (by simp)⟩
  ·have t1:(m.kind == kind)=false:=by simpa using c1
   have qo:(m.kind != kind)=true:=by simpa using c1
   by_cases c2:kind=1
   ·have t2:(kind == 1)=true:=by simpa using c2
    have hE:Hid (cE S cu cg no kind want=9):=by show _=_;rw[hm.o,ac (by decide),ac c1,af c2]
    clear hm c1 c2;go_wp2_with (refine aq rfl _ _ rfl (w.heap.size+1) aj none 0 rfl rfl R3 ?_;intro w9 R9 O9);refine aT (v:=.tuple #[.agg (aj,()),.int .i64 9]) (db results134 _ _ (w.heap.size+1) aj none 0 _ rfl rfl R9) rfl ?_;exact HS.o _ _ _ E3 O9 hE.o (by decide)
   ·have t2:(kind == 1)=false:=by simpa using c2
    by_cases c3:m.kind=1
    ·have t3:(m.kind == 1)=true:=by simpa using c3
     have hE:Hid (cE S cu cg no kind want=8):=by show _=_;rw[hm.o,ac (by decide),ac c1,ac c2,af c3]
     clear hm c1 c2 c3;go_wp2_with (refine aq rfl _ _ rfl (w.heap.size+1) aj none 0 rfl rfl R3 ?_;intro w9 R9 O9);refine aT (v:=.tuple #[.agg (aj,()),.int .i64 8]) (db results134 _ _ (w.heap.size+1) aj none 0 _ rfl rfl R9) rfl ?_;exact HS.o _ _ _ E3 O9 hE.o (by decide)
    ·have t3:(m.kind == 1)=false:=by simpa using c3
     have hE:Hid (cE S cu cg no kind want=1):=by show _=_;rw[hm.o,ac (by decide),ac c1,ac c2,ac c3]
     clear hm c1 c2 c3;go_wp2_with (refine aq rfl _ _ rfl (w.heap.size+1) aj none 0 rfl rfl R3 ?_;intro w9 R9 O9);refine aT (v:=.tuple #[.agg (aj,()),.int .i64 1]) (db results134 _ _ (w.heap.size+1) aj none 0 _ rfl rfl R9) rfl ?_;exact HS.o _ _ _ E3 O9 hE.o (by decide)
def eK (S:ag) (cu cg dir:Int) (nm:List UInt8):Int:=
 if cE S cu cg dir 1 1=0 then (if aY (bV S cu cg dir 1 1).ah nm=0 then 5 else 0) else cE S cu cg dir 1 1
def fE (S:ag) (cu cg dir:Int) (nm:List UInt8):Int:=if eK S cu cg dir nm=0 then aw S.ae (aY (bV S cu cg dir 1 1).ah nm) else 0
theorem eB.bV {c:Nat} {S:ag} (h:eB c S) (cu cg no kind want:Int):jQ (bV S cu cg no kind want).ah/\(Proofs.YtpibnfdolojpcaaGreat.bV S cu cg no kind want).ah.length<=c:=by
 unfold Proofs.YtpibnfdolojpcaaGreat.bV;split
 ·exact h.aa no
 ·exact⟨List.Pairwise.nil,bC _⟩
theorem O_ (B:Nat) (g:dL) (S:ag) (cu cg dir:Int) (nm:List UInt8) (w:World) (h:eL w B g S) (T:eB c S) (hc:c<=1000000) (_hl:S.last<=100000) :
  Calls prog 55 #[((),g.bW),.agg #[cu,cg],dir,bs nm] w (aO w (.tuple #[.int .i64 (fE S cu cg dir nm),.int .i64 (eK S cu cg dir nm)])):=by
 have E0:Ext w (w.alloc (.cells #[cu,cg] 27)):=(Ext.refl _).alloc _;go_in;go_wp2_with fail;refine (CX B g S cu cg dir 1 1 _ (h.ext E0) T.ae).mono ?_;rintro e w1 ⟨A,k,rfl,tS,b1⟩;have FQ:=T.bV cu cg dir 1 1;have hE:Hid (eK S cu cg dir nm=if cE S cu cg dir 1 1=0 then (if aY (bV S cu cg dir 1 1).ah nm=0 then 5 else 0) else cE S cu cg dir 1 1):=by show _=_;rfl
 have hN:Hid (fE S cu cg dir nm=if eK S cu cg dir nm=0 then aw S.ae (aY (bV S cu cg dir 1 1).ah nm) else 0):=by show _=_;rfl
 obtain⟨m,hm⟩:=ai (bV S cu cg dir 1 1);obtain⟨x,hx⟩:=ai (cE S cu cg dir 1 1);rw[<-hm]at tS FQ hE hN|-;rw[<-hx]at hE|-;have HR:=zH FQ;obtain⟨W2,dp⟩:=ai (w1.alloc (.cells (m,A,k) 66));obtain⟨b8,gH⟩:=ai w1.heap.size;have N2:Has W2 b8 (.cells (m,A,k) 66):=by rw[dp,gH];exact Has.new _ _
 have Pa:Ext w1 W2:=by rw[dp];exact (Ext.refl _).alloc _
 have HX:=zH ((E0.trans b1).trans Pa);have gG:=tS.ext Pa;clear hm hx FQ tS Pa;go_upto_region 2 with fail;rw[<-dp,<-gH];clear dp gH
 by_cases c0:x=0
 case neg =>
  have t0:(x == 0)=false:=by simpa using c0
  have nK:(x != 0)=true:=by simpa using c0
  have e1:Hid (eK S cu cg dir nm=x/\fE S cu cg dir nm=0):=by
   have h1:eK S cu cg dir nm=x:=by rw[hE.o,ac c0]
   exact zH ⟨h1,by rw[hN.o,h1,ac c0]⟩
  clear c0;go_wp2;go_ret2;exact aO.mk (by rw[e1.o.1,e1.o.2];rfl) HX.o
 have t0:(x == 0)=true:=by simpa using c0
 have nK:(x != 0)=false:=by simpa using c0
 have nL:=aA N2 11 rfl;have yz:=N2.lt;have C0:=zH c0;clear c0;go_wp2_with fail;refine (rA A m.ah k nm _ gG.ah.ah HR.o.1 (by have:=HR.o.2;omega)).mono ?_;rw[l_ HR.o.1];rintro e w3 ⟨rfl,b3⟩;obtain⟨no,bB⟩:=ai (aY m.ah nm);rw[<-bB]at hE hN|-;clear bB nL yz
 by_cases c1:no=0
 ·have t1:(no == 0)=true:=by simpa using c1
  have e1:Hid (eK S cu cg dir nm=5/\fE S cu cg dir nm=0):=by
   have h1:eK S cu cg dir nm=5:=by rw[hE.o,af C0.o,af c1]
   exact zH ⟨h1,by rw[hN.o,h1,ac (by decide)]⟩
  clear c1;go_wp2;go_ret2;exact aO.mk (by rw[e1.o.1,e1.o.2];rfl) (HX.o.trans b3)
 ·have t1:(no == 0)=false:=by simpa using c1
  have e1:Hid (eK S cu cg dir nm=0/\fE S cu cg dir nm=aw S.ae no):=by
   have h1:eK S cu cg dir nm=0:=by rw[hE.o,af C0.o,ac c1]
   exact zH ⟨h1,by rw[hN.o,h1,af rfl]⟩
  clear c1;go_wp2_with fail;refine (iZ B g S _ _ (h.ext (HX.o.trans b3)) (by have:=T.ae;omega) (by have:=T.eight;omega)).mono ?_;rintro e w4 ⟨rfl,b4⟩;go_wp2;go_ret2;exact aO.mk (by rw[e1.o.1,e1.o.2];rfl) ((HX.o.trans b3).trans b4)
theorem Pb (B:Nat) (g:cI) (S:ag) (X:cY) (cu cg dir:Int) (nm:List UInt8) (w:World) (h:gv w B g S X) (T:eB c S) (hc:c<=1000000) (hl:S.last<=100000) :
  Calls prog 90 #[((),g.bF),.agg #[cu,cg],dir,bs nm] w (aO w (.tuple #[.int .i64 (fE S cu cg dir nm),.int .i64 (eK S cu cg dir nm)])):=by
 have E0:Ext w (w.alloc (.cells #[cu,cg] 27)):=(Ext.refl _).alloc _;go_in;go_wp2_with fail;refine (CY B g S X cu cg dir 1 1 _ (h.ext E0) (by have:=T.count;omega) T.bL).mono ?_;rintro e w1 ⟨A,k,rfl,tS,b1⟩;have FQ:=T.bV cu cg dir 1 1;have hE:Hid (eK S cu cg dir nm=if cE S cu cg dir 1 1=0 then (if aY (bV S cu cg dir 1 1).ah nm=0 then 5 else 0) else cE S cu cg dir 1 1):=by show _=_;rfl
 have hN:Hid (fE S cu cg dir nm=if eK S cu cg dir nm=0 then aw S.ae (aY (bV S cu cg dir 1 1).ah nm) else 0):=by show _=_;rfl
 obtain⟨m,hm⟩:=ai (bV S cu cg dir 1 1);obtain⟨x,hx⟩:=ai (cE S cu cg dir 1 1);rw[<-hm]at tS FQ hE hN|-;rw[<-hx]at hE|-;have HR:=zH FQ;obtain⟨W2,dp⟩:=ai (w1.alloc (.cells (m,A,k) 66));obtain⟨b8,gH⟩:=ai w1.heap.size;have N2:Has W2 b8 (.cells (m,A,k) 66):=by rw[dp,gH];exact Has.new _ _
 have Pa:Ext w1 W2:=by rw[dp];exact (Ext.refl _).alloc _
 have HX:=zH ((E0.trans b1).trans Pa);have gG:=tS.ext Pa;clear hm hx FQ tS Pa;go_upto_region 2 with fail;rw[<-dp,<-gH];clear dp gH
 by_cases c0:x=0
 case neg =>
  have t0:(x == 0)=false:=by simpa using c0
  have nK:(x != 0)=true:=by simpa using c0
  have e1:Hid (eK S cu cg dir nm=x/\fE S cu cg dir nm=0):=by
   have h1:eK S cu cg dir nm=x:=by rw[hE.o,ac c0]
   exact zH ⟨h1,by rw[hN.o,h1,ac c0]⟩
  clear c0;go_wp2;go_ret2;exact aO.mk (by rw[e1.o.1,e1.o.2];rfl) HX.o
 have t0:(x == 0)=true:=by simpa using c0
 have nK:(x != 0)=false:=by simpa using c0
 have nL:=aA N2 11 rfl;have yz:=N2.lt;have C0:=zH c0;clear c0;go_wp2_with fail;refine (pD A m.ah k nm _ gG.ah.ah (by have:=HR.o.2;omega)).mono ?_
 skip
 rintro e w3 ⟨rfl,b3⟩;obtain⟨no,bB⟩:=ai (aY m.ah nm);rw[<-bB]at hE hN|-;clear bB nL yz
 by_cases c1:no=0
 ·have t1:(no == 0)=true:=by simpa using c1
  have e1:Hid (eK S cu cg dir nm=5/\fE S cu cg dir nm=0):=by
   have h1:eK S cu cg dir nm=5:=by rw[hE.o,af C0.o,af c1]
   exact zH ⟨h1,by rw[hN.o,h1,ac (by decide)]⟩
  clear c1;go_wp2;go_ret2;exact aO.mk (by rw[e1.o.1,e1.o.2];rfl) (HX.o.trans b3)
 ·have t1:(no == 0)=false:=by simpa using c1
  have e1:Hid (eK S cu cg dir nm=0/\fE S cu cg dir nm=aw S.ae no):=by
   have h1:eK S cu cg dir nm=0:=by rw[hE.o,af C0.o,ac c1]
   exact zH ⟨h1,by rw[hN.o,h1,af rfl]⟩
  clear c1;go_wp2_with fail;refine (iy B g S X _ _ (h.ext (HX.o.trans b3)) (by have:=T.eight;omega)).mono ?_;rintro e w4 ⟨rfl,b4⟩;go_wp2;go_ret2;exact aO.mk (by rw[e1.o.1,e1.o.2];rfl) ((HX.o.trans b3).trans b4)
end Go.Proofs.YtpibnfdolojpcaaGreat
