import Derived.Test.YtblbohcaphcobaaGreatDoorBunW
import Derived.Test.YtblbohcaphcobaaGreatDoorBunS
import Derived.Test.YtblbohcaphcobaaGreatDoorBunX
import Derived.Test.YtblbohcaphcobaaGreatDoorBunI
import Derived.Test.YtblbohcaphcobaaGreatDoorBunN
import Derived.Test.YtblbohcaphcobaaGreatDoorBunK
import Derived.Test.YtblbohcaphcobaaGreatDoorBunO
import Derived.Test.YtblbohcaphcobaaGreatDoorBunE
import Derived.Test.YtblbohcaphcobaaGreatDoorBunV
import Derived.Test.YtblbohcaphcobaaGreatDoorBunA
import Derived.Test.YtblbohcaphcobaaGreatDoorBunJ
import Derived.Test.YtblbohcaphcobaaGreatDoorShelf
import Derived.Shelf.SlicesQ.Reverse
import Derived.Deep.CutBlock
set_option maxHeartbeats 16000000
set_option maxRecDepth 100000
namespace Go.Proofs.YtblbohcaphcobaaGreatDoor
section
open Go.ChangeShapes Go.WideShapes Go.ChangeAt Go.RowKit
theorem Ng {c:Nat} {S:ac} (h:dI c S) {rows:List qC} (hB:cC S [([47],1)] [] rows):0<rows.length:=by
 have h1:aQ S.nodes (ak S.af 1)=true:=by
  rcases fG h.nt (show (0:Int)<1 by decide) with e|⟨k,hk,_,e2⟩
  ·rw [e]
   obtain ⟨m,hm,e1⟩:=h.first;rw [<-e1];exact (dy h.aC hm).2
  ·rw [e2]
   obtain ⟨m,hm,e1,_⟩:=h.fc (k+1) hk;rw [<-e1];exact (dy h.aC hm).2
 cases hB with
 | none h2 _=>rw[h1]at h2;cases h2
 | step _ _=>simp
theorem Em (a0 a1 a2 a3 a4 a5 a6 a7 a8 a9 Cu zA:Value) (w:World):(Instr.field 58 (.agg #[a0,a1,a2,a3,a4,a5,a6,a7,a8,a9,Cu,zA]) 2).run Tryz.prog w=.ok a2 w:=by kernel_rfl
def abB (w:World) (e:Ending) (w':World):Prop:=∃d:Int,e=.returned (.int .i64 d)/\Ext w w'
theorem QF {w:World} {B:Nat} {f:cJ} {s:aA} (h:RS w B f s) (k:iM 140 s.t) (a:Int) :
  Calls Tryz.prog 9 #[.pointer (some ⟨f.bF,0,none⟩),.int .i64 a] w (abB w):=by
 obtain ⟨rows,r,hB,hl,hr,hp⟩:=vq k;have hpos:=Ng k.dL.eE hB;have KR:=zH (xR h k rows hB hl hr hp);have hpl:=sm k.dL.eE k.dL.xo k.dL.kids.up hr hB (fun x hx=>by rw[List.mem_singleton]at hx;subst hx;exact hp);have lJ:s.t.nodes.length<=200:=by have:=k.dL.eE.count;have:=k.dL.last;omega
 have sC:=zH k.dL.eE.aC;obtain ⟨Xt,F⟩:=h.PG;have HF:=zH F;have KP:Hid (∀(u:World) (p:List UInt8),Ext w u->p.length<=1000000->Calls Tryz.prog 30 #[.pointer (some ⟨f.bF,0,none⟩),.agg #[.int .i64 0,.int .i64 0],bs p,.bool false] u (gZ u (dP s.t 0 0 p false))):=fun u p hu hp=>nk B f s.t Xt 0 0 p false u (F.ext hu) k.dL.eE (by omega) (by have:=k.dL.last;omega) hp
 have l6:=zH hpl;have HL:=zH hl;clear h F hB hl hr hp hpl;go_enter Tryz.func9,Tryz.ntmps9;go_wp2_with fail;refine KR.out.mono ?_;rintro e w1 ⟨v,rfl,hO,hE⟩;obtain ⟨A,cap,rfl,_,_,hat,_⟩:=hO.at_;obtain⟨n,hn⟩:=ar rows.length;rw [<-hn];have HN:=zH hn;have NT:=zH hat;have HE:=zH hE;rw [<-hn]at hpos;clear KR hO hE hn hat;have kT:n<=200:=by have:=HL.out;have:=HN.out;omega
 obtain ⟨q,hq⟩:∃q:Nat,((q:Nat):Int)=a % 18446744073709551616 % (n:Int):=⟨(a % 18446744073709551616 % (n:Int)).toNat,Int.toNat_of_nonneg (Int.emod_nonneg _ (by omega))⟩;have hqd:q<n:=by have:=Int.emod_lt_of_pos (a % 18446744073709551616) (show (0:Int)<n by omega);omega
 have y1:(IntKind.u64.wrap a).tmod (n:Int)=(q:Int):=by
  rw [jd,Int.tmod_eq_emod_of_nonneg (Int.emod_nonneg _ (by decide)),hq]
 have y2:IntKind.u64.wrap (n:Int)=(n:Int):=by rw[jd];omega
 have y4:IntKind.i64.wrap (q:Int)=(q:Int):=IntWalk.i64_in _ (by omega);have y4':IntKind.u64.wrap (q:Int)=(q:Int):=by rw[jd];omega
 have y6:(0:Int)<=(q:Int):=Int.natCast_nonneg _;have y7:(q:Int)<(n:Int):=by omega
 have y8:((n:Int) == 0)=false:=by simp;omega
 have y9:(n:Int)≠0:=by omega
 have hjl:q<rows.length:=by have:=HN.out;omega
 obtain ⟨g,o,rfl,hg,hc⟩:∃b o,A=some ⟨b,o,none⟩/\b<w1.heap.size/\w1.cell? ⟨b,o+q*10,none⟩=some (.string (bs rows[q].path)):=by
  rcases NT.out with h|⟨b,o,hA,hb,hc⟩
  ·rw[h]at hjl;cases hjl
  ·exact⟨b,o,hA,hb,hc q hjl 0 (by decide)⟩
 have Y_:=l6.out rows[q] (List.getElem_mem hjl);obtain⟨p,hp⟩:=ar (rows[q].path);rw [<-hp]at hc Y_;obtain⟨R,hR⟩:=ar (dP s.t 0 0 p false);have KF:=KP.out w1 p HE.out (by omega);rw [<-hR]at KF;have BM:Hid (Calls Tryz.prog 30 #[.pointer (some ⟨f.bF,0,none⟩),.agg #[.int .i64 0,.int .i64 0],bs p,.bool false] w1 (aH w1 (.tuple #[.agg #[.int .i64 R.1.dir,bs R.1.name,R.1.no,.bool R.1.eS],.int .i64 R.2]))):=KF;clear hq hqd hjl hp Y_ KF hR;go_wp2_with fail;refine BM.out.mono ?_;rintro e w2 ⟨rfl,b2⟩;go_upto_region 3 with fail;obtain ⟨W3,du⟩:∃W,W=w2.alloc (.cells #[.int .i64 R.1.dir,bs R.1.name,R.1.no,.bool R.1.eS] 89):=⟨_,rfl⟩;obtain ⟨b8,fZ⟩:∃b,b=w2.heap.size:=⟨_,rfl⟩;have E3:Ext w1 W3:=by rw[du];exact b2.alloc _
 have X3:Has W3 b8 (.cells #[.int .i64 R.1.dir,bs R.1.name,R.1.no,.bool R.1.eS] 89):=by rw[du,fZ];exact Has.new _ _
 rw [<-du,<-fZ];clear du fZ b2 hc y1 y2 y4 y4' y6 y7 y8 y9 hg BM;have x2:=X3.cell 2;have xz:=X3.lt;simp only[gA,gB,gC]at x2
 by_cases h5:R.2=0
 case neg =>
  have t5:(R.2 != 0)=true:=by simpa using h5
  clear h5;go_wp2_with fail;go_ret;exact ⟨_,rfl,HE.out.trans E3⟩
 case pos =>
  have t5:(R.2 != 0)=false:=by simpa using h5
  clear h5;obtain ⟨Ag,kg,okg,KGT⟩:=Av B f s.t Xt R.1.no W3 (HF.out.ext (HE.out.trans E3)) (by omega) sC.out;have HKG:=zH (KGT W3 (Ext.refl _));clear KGT okg;go_wp2_with fail;refine HKG.out.mono ?_;rintro e w4 ⟨rfl,E4⟩;have x2:=(X3.ext E4).cell 2;have xz:=(X3.ext E4).lt;simp only[gA,gB,gC]at x2;have hfk:=Em
  by_cases h6:(aa s.t.nodes R.1.no).kind=1
  ·have t6:((aa s.t.nodes R.1.no).kind != 1)=false:=by simpa using h6
   clear h6;go_wp2_with fail;go_ret;exact ⟨_,rfl,HE.out.trans (E3.trans E4)⟩
  ·have t6:((aa s.t.nodes R.1.no).kind != 1)=true:=by simpa using h6
   clear h6;go_wp2_with fail;go_ret;exact ⟨_,rfl,HE.out.trans (E3.trans E4)⟩
def jk (no:Int) (n:ai):Nat:=(n.ae.filter fun z=>z.2 == no).length
def ir (S:ac) (no:Int):Nat:=(S.nodes.map (jk no)).sum
structure Whole (S:ac):Prop where
 there:∀m∈S.nodes,∀z∈m.ae,aQ S.nodes z.2=true
 ah:∀m∈S.nodes,(ir S m.no:Int)<=m.ah
 fC:∀m∈S.nodes,∀z∈m.ae,cj z.1=0
theorem QG (f:ai->Nat) {ns:List ai} (hp:ns.Pairwise (fun a b=>a.no<b.no)) {n:ai} (hi:aQ ns n.no=true):((bn ns n).map f).sum+f (aa ns n.no)=(ns.map f).sum+f n:=by
 induction ns with
 | nil=>cases hi
 | cons a ns ih =>
  rw [List.pairwise_cons]at hp
  by_cases he:a.no=n.no
  ·have h1:bn ns n=ns:=xI fun m hm=>by have:=hp.1 m hm;omega
   have h2:aa (a::ns) n.no=a:=by unfold aa eY;rw[List.find?_cons];simp[he]
   have h3:bn (a::ns) n=n::bn ns n:=by unfold bn;rw[List.map_cons,if_pos (by simpa using he)]
   rw [h3,h1,h2,List.map_cons,List.sum_cons,List.map_cons,List.sum_cons];omega
  ·have hb:(a.no == n.no)=false:=by simpa using he
   have h2:aa (a::ns) n.no=aa ns n.no:=by unfold aa eY;rw[List.find?_cons,hb]
   have h4:aQ (a::ns) n.no=aQ ns n.no:=by unfold aQ eY;rw[List.find?_cons,hb]
   have h3:bn (a::ns) n=a::bn ns n:=by unfold bn;rw[List.map_cons,if_neg (by simpa using he)]
   have:=ih hp.2 (h4▸hi);rw [h2,h3,List.map_cons,List.sum_cons,List.map_cons,List.sum_cons];omega
theorem Ce (f:ai->Nat) (ns:List ai) (no:Int):((kJ ns no).map f).sum<=(ns.map f).sum:=by
 unfold kJ
 induction ns with
 | nil=>exact Nat.le_refl _
 | cons a ns ih =>
  rw [List.filter_cons];split
  ·rw[List.map_cons,List.sum_cons,List.map_cons,List.sum_cons];omega
  ·rw[List.map_cons,List.sum_cons];omega
theorem QH {S:ac} {m:ai} (hm:m∈S.nodes) {z:ax} (hz:z∈m.ae):1<=ir S z.2:=by
 have h1:1<=jk z.2 m:=by
  have:z∈m.ae.filter fun y=>y.2 == z.2:=List.mem_filter.2 ⟨hz,by simp⟩
  exact List.length_pos_of_mem this
 have : jk z.2 m<=(S.nodes.map (jk z.2)).sum:=by
  clear h1 hz
  generalize S.nodes=ns at hm
  induction ns with
  | nil=>cases hm
  | cons a ns ih =>
   rw [List.map_cons,List.sum_cons];rcases List.mem_cons.1 hm with rfl|hm
   ·omega
   ·have:=ih hm;omega
 unfold ir;omega
theorem vL {S:ac} {no:Int} (h:∀m∈S.nodes,∀z∈m.ae,z.2≠no):ir S no=0:=by
 unfold ir
 generalize S.nodes=ns at h
 induction ns with
 | nil=>rfl
 | cons a ns ih =>
  rw [List.map_cons,List.sum_cons,ih fun m hm=>h m (List.mem_cons_of_mem _ hm)];have:a.ae.filter (fun z=>z.2 == no)=[]:=by
   rw [List.filter_eq_nil_iff];intro z hz;have:=h a (List.mem_cons_self ..) z hz;simpa using this
  unfold jk;rw [this];rfl
theorem lX {S:ac} (hu:aI S.nodes S.last) {n:ai} (hi:aQ S.nodes n.no=true) (k:Int):ir (aK S n) k+jk k (aa S.nodes n.no)=ir S k+jk k n:=QG (jk k) hu.1 hi
theorem mv {S:ac} (h:Whole S) (hu:aI S.nodes S.last) {no:Int} (hi:aQ S.nodes no=true) {n:ai} (bc:n.no=no) (he:n.ae=(aa S.nodes no).ae) (hl:(aa S.nodes no).ah<=n.ah):Whole (aK S n):=by
 subst bc;obtain ⟨_,e1,hm0⟩:=aj hi;have hc:∀k,ir (aK S n) k=ir S k:=fun k=>by
  have h1:=lX hu hi k;have h2:jk k n=jk k (aa S.nodes n.no):=by unfold jk;rw[he]
  omega
 refine ⟨fun m hm z hz=>?_,fun m hm=>?_,fun m hm z hz=>?_⟩
 rotate_left 2
 ·rcases aM hm with⟨hm,_⟩|rfl
  ·exact h.fC m hm z hz
  ·exact h.fC _ hm0 z (by rw[<-he];exact hz)
 ·show aQ (bn S.nodes n) z.2=true
  rw [je];rcases aM hm with⟨hm,_⟩|rfl
  ·exact h.there m hm z hz
  ·exact h.there _ hm0 z (by rw[<-he];exact hz)
 ·rw [hc]
  rcases aM hm with⟨hm,_⟩|rfl
  ·exact h.ah m hm
  ·have:=h.ah _ hm0
   rw [e1]at this;omega
theorem QI (l:List ax) (x:ax) (no:Int):((dk l x).filter fun z=>z.2 == no).length<=(l.filter fun z=>z.2 == no).length+(if x.2=no then 1 else 0):=by
 have : ∀l:List ax,((iw l x.1).filter fun z=>z.2 == no).length+((i6 l x.1).filter fun z=>z.2 == no).length<=(l.filter fun z=>z.2 == no).length:=by
  intro l
  induction l with
  | nil=>simp[iw,i6]
  | cons y l ih =>
   unfold iw i6 at ih|-
   cases hb:bl y.1 x.1<;>cases hm:bl x.1 y.1<;>cases hp:(y.2 == no)
   all_goals first
    | (exfalso;have:=fA hb;rw[hm]at this;exact absurd this (by decide))
    | (simp only[List.filter_cons,hb,hm,hp,Bool.false_eq_true,↓reduceIte,List.length_cons]at ih|-;omega)
 have:=this l;unfold dk;rw [List.filter_append,List.filter_append,List.length_append,List.length_append];have h2:([x].filter fun z=>z.2 == no).length=if x.2=no then 1 else 0:=by
  rw [List.filter_cons,List.filter_nil]
  by_cases h:x.2=no
  ·rw[if_pos (by simpa using h),if_pos h];rfl
  ·rw[if_neg (by simpa using h),if_neg h];rfl
 omega
theorem Nh {ns:List ai} {n:ai} {no:Int} (h:aQ ns no=true\/n.no=no):aQ (ns++[n]) no=true:=by
 unfold aQ eY at *;rw [List.find?_append];rcases h with h|h
 ·cases hf:ns.find? (fun n=>n.no == no) with
  | none=>rw[hf]at h;cases h
  | some x=>rfl
 ·cases hf:ns.find? (fun n=>n.no == no) with
  | none=>simp[h]
  | some x=>rfl
theorem En (S:ac) (n:ai) (ds:List eC) (l:Int) (k:Int):ir ⟨S.nodes++[n],ds,l⟩ k=ir S k+jk k n:=by
 unfold ir;show ((S.nodes++[n]).map _).sum=_;rw [List.map_append,List.sum_append];simp
theorem xT {c:Nat} {S:ac} (hT:dI c S) (h:Whole S) {n:ai} (ds:List eC) (bc:n.no=S.last+1) (he:n.ae=[]) (hl:0<=n.ah):Whole ⟨S.nodes++[n],ds,S.last+1⟩/\∀k,ir ⟨S.nodes++[n],ds,S.last+1⟩ k=ir S k:=by
 have hc:∀k,ir ⟨S.nodes++[n],ds,S.last+1⟩ k=ir S k:=fun k=>by
  rw [En];have:jk k n=0:=by unfold jk;rw[he];rfl
  omega
 refine ⟨⟨fun m hm z hz=>?_,fun m hm=>?_,fun m hm z hz=>?_⟩,hc⟩
 rotate_left 2
 ·rcases List.mem_append.1 hm with hm|hm
  ·exact h.fC m hm z hz
  ·rw [List.mem_singleton]at hm
   subst hm;rw [he]at hz;cases hz
 ·refine Nh ?_
  rcases List.mem_append.1 hm with hm|hm
  ·exact .inl (h.there m hm z hz)
  ·rw [List.mem_singleton]at hm
   subst hm;rw [he]at hz;cases hz
 ·rw [hc]
  rcases List.mem_append.1 hm with hm|hm
  ·exact h.ah m hm
  ·rw [List.mem_singleton]at hm
   subst hm;have:ir S m.no=0:=vL fun q hq z hz=>by have:=(hT.pos q hq z hz).2;omega
   rw [this];exact hl
theorem xU {S:ac} (h:Whole S) (hu:aI S.nodes S.last) {dir now no:Int} {nm:List UInt8} {l:List ax} (hi:aQ S.nodes dir=true) (hl:l=(aa S.nodes dir).ae) (hn:aQ S.nodes no=true) (hsp:(ir S no:Int)+1<=(aa S.nodes no).ah) (SV:cj nm=0):Whole (cI S dir now (dk l (nm,no))):=by
 obtain ⟨_,e1,hm0⟩:=aj hi;obtain ⟨_,e2,cL⟩:=aj hn;obtain⟨M,hM⟩:=ar (cv S dir now (dk l (nm,no)));have kU:M.no=dir:=by rw[hM];exact e1
 have Fp:M.ae=dk l (nm,no):=by rw[hM];rfl
 have Ru:M.ah=(aa S.nodes dir).ah:=by rw[hM];rfl
 show Whole (aK S (cv S dir now (dk l (nm,no))));rw [<-hM];have hc:∀k,ir (aK S M) k<=ir S k+(if no=k then 1 else 0):=fun k=>by
  have h1:=lX hu (n:=M) (by rw[kU];exact hi) k;rw [kU]at h1;have h2:=QI l (nm,no) k;have h3:jk k M=((dk l (nm,no)).filter fun z=>z.2 == k).length:=by unfold jk;rw[Fp]
  have h4:jk k (aa S.nodes dir)=(l.filter fun z=>z.2 == k).length:=by unfold jk;rw[hl]
  have h5:(if (nm,no).2=k then 1 else 0)=(if no=k then 1 else 0:Nat):=rfl;omega
 refine ⟨fun m hm z hz=>?_,fun m hm=>?_,fun m hm z hz=>?_⟩
 rotate_left 2
 ·rcases aM hm with⟨hm,_⟩|rfl
  ·exact h.fC m hm z hz
  ·rw [Fp]at hz
   rcases gX hz with hz|rfl
   ·exact h.fC _ hm0 z (by rw[<-hl];exact hz)
   ·exact SV
 ·show aQ (bn S.nodes M) z.2=true
  rw [je];rcases aM hm with⟨hm,_⟩|rfl
  ·exact h.there m hm z hz
  ·rw [Fp]at hz
   rcases gX hz with hz|rfl
   ·exact h.there _ hm0 z (by rw[<-hl];exact hz)
   ·exact hn
 ·have h1:=hc m.no
  have key:∀q∈S.nodes,q.no=m.no->q.ah=m.ah->(ir (aK S M) m.no:Int)<=m.ah:=fun q hq a1 a2=>by
   have h2:=h.ah q hq;rw [a1,a2]at h2
   by_cases hk:no=m.no
   ·rw [if_pos hk]at h1
    have h3:aa S.nodes no=q:=gJ hu cL hq (by rw[e2,hk,a1]);rw [h3,a2,hk]at hsp;omega
   ·rw [if_neg hk]at h1
    omega
  rcases aM hm with⟨hm,_⟩|rfl
  ·exact key m hm rfl rfl
  ·exact key _ hm0 (e1.trans kU.symm) Ru.symm
theorem po {S:ac} {c:Nat} (hT:dI c S) (h:Whole S) (cu cg now dir:Int) (nm:List UInt8) (n:ai) (hn:n.ae=[]):Whole (aX S cu cg now dir nm n):=by
 unfold aX;split
 case isFalse=>exact h
 rename_i h0;obtain ⟨h1,_,h3⟩:=gx h0;obtain ⟨p1,p2,p3⟩:=aR h1;have mN:bj S (bA S cu cg now dir n)=⟨S.nodes++[{bA S cu cg now dir n with no:=S.last+1}],ja S.af (bA S cu cg now dir n).dev (aT (i_ S.af (bA S cu cg now dir n).dev).q (bC (bA S cu cg now dir n).kind (bA S cu cg now dir n).data.length) 1),S.last+1⟩:=by unfold bj;rw[if_pos h3]
 have hg:=jw hT.aC (bA S cu cg now dir n) p1;obtain ⟨N,hN⟩:∃N:ai,N={bA S cu cg now dir n with no:=S.last+1}:=⟨_,rfl⟩;have LP:N.no=S.last+1:=by rw[hN]
 have hNe:N.ae=[]:=by rw[hN];exact hn
 have Yj:N.ah=1:=by rw[hN];rfl
 rw [<-hN]at mN;have hmem:N∈(bj S (bA S cu cg now dir n)).nodes:=by rw[mN];exact List.mem_append_right _ (List.mem_singleton_self _)
 have hu:aI (bj S (bA S cu cg now dir n)).nodes (bj S (bA S cu cg now dir n)).last:=by
  rw [mN];exact hT.aC.add _ LP (by have:=hT.last;omega)
 obtain ⟨w1,w2⟩:=xT hT h (n:=N) (ja S.af (bA S cu cg now dir n).dev (aT (i_ S.af (bA S cu cg now dir n).dev).q (bC (bA S cu cg now dir n).kind (bA S cu cg now dir n).data.length) 1)) LP hNe (by omega);rw [<-mN]at w1 w2;obtain ⟨q1,q2⟩:=dy hu hmem;rw [LP]at q1 q2;refine xU w1 hu hg.2 (by rw[hg.1]) q2 ?_ p3;rw [w2,q1,Yj];have:ir S (S.last+1)=0:=vL fun q hq z hz=>by have:=(hT.pos q hq z hz).2;omega
 rw [this];decide
theorem rJ {S T:ac} {p:Int} (h:Whole S) (k:Whole T):Whole (dM p S T):=by unfold dM;split;exact h;exact k
theorem Eo {S:ac} {c:Nat} (hT:dI c S) (h:Whole S) (cu cg now no dir:Int) (nm:List UInt8):Whole (dW S cu cg now no dir nm):=by
 unfold dW;split
 case isFalse=>exact h
 rename_i h0;obtain ⟨hp,hi,hk,hf,hv,hl⟩:=ii h0;obtain ⟨hid,oL,hc⟩:=aR hp;obtain ⟨_,bc,hmem⟩:=aj hi;have hne:dir≠no:=fun e=>by subst e;exact hk oL
 have e0:(bH S now no).no=no:=bc;obtain ⟨g1,g2⟩:=jH (S:=S) (n:=bH S now no) (no:=dir) (by rw[e0];exact hne);have w1:Whole (aK S (bH S now no)):=mv h hT.aC hi e0 rfl (by show _<=(aa S.nodes no).ah+1;omega);have hu:aI (aK S (bH S now no)).nodes (aK S (bH S now no)).last:=hT.aC.set _;have pB:aQ (aK S (bH S now no)).nodes no=true:=by show aQ (bn S.nodes _) no=true;rw[je];exact hi
 have Pu:aa (aK S (bH S now no)).nodes no=bH S now no:=by
  have hm:bH S now no∈(aK S (bH S now no)).nodes:=by
   show _∈bn S.nodes _;unfold bn;rw [List.mem_map];exact ⟨_,hmem,by rw[if_pos (by simpa using bc.trans e0.symm)]⟩
  have:=(dy hu hm).1;rw [e0]at this;exact this
 refine xU w1 hu (by rw[g2];exact hid) (by rw[g1]) pB ?_ hc;rw [Pu];show _<=(aa S.nodes no).ah+1;have h1:=lX hT.aC (n:=bH S now no) (by rw[e0];exact hi) no;have h2:jk no (bH S now no)=jk no (aa S.nodes (bH S now no).no):=by rw[e0];rfl
 have h3:=h.ah _ hmem;rw [bc]at h3;omega
theorem Ep {S:ac} (h:Whole S) (ds:List eC) {no:Int} (hz:ir S no=0):Whole ⟨kJ S.nodes no,ds,S.last⟩:=by
 have hne:∀m∈S.nodes,∀z∈m.ae,z.2≠no:=fun m hm z hz2 e=>by
  have:=QH hm hz2;rw [e]at this;omega
 refine ⟨fun m hm z hz2=>?_,fun m hm=>?_,fun m hm z hz2=>h.fC m (dU hm).1 z hz2⟩
 ·obtain ⟨h1,_⟩:=dU hm
  have h2:=h.there m h1 z hz2;obtain ⟨_,i2,i3⟩:=aj h2;have:=mY (no:=no) i3 (by rw[i2];exact hne m h1 z hz2);unfold aQ eY;rw [List.find?_isSome];exact ⟨_,this,by simpa using i2⟩
 ·obtain ⟨h1,_⟩:=dU hm
  have h2:=h.ah m h1;have h3:ir ⟨kJ S.nodes no,ds,S.last⟩ m.no<=ir S m.no:=Ce _ _ _;omega
theorem Ni (l:List ax) (nm:List UInt8) (no:Int):((iu l nm).filter fun z=>z.2 == no).length<=(l.filter fun z=>z.2 == no).length:=by
 unfold iu;rw [List.filter_filter];have e:(fun z:ax=>(z.2 == no)&&!(z.1 == nm))=fun z=>(!(z.1 == nm))&&(z.2 == no):=by funext z;exact Bool.and_comm _ _
 rw [e,<-List.filter_filter];exact List.length_filter_le _ _
theorem Cf {l:List ax} {nm:List UInt8} {x:ax} (hx:x∈l) (he:x.1=nm):((iu l nm).filter fun z=>z.2 == x.2).length<(l.filter fun z=>z.2 == x.2).length:=by
 unfold iu;rw [List.filter_filter];have e:(fun z:ax=>(z.2 == x.2)&&!(z.1 == nm))=fun z=>(!(z.1 == nm))&&(z.2 == x.2):=by funext z;exact Bool.and_comm _ _
 rw [e,<-List.filter_filter];have hm:x∈l.filter fun z=>z.2 == x.2:=List.mem_filter.2 ⟨hx,by simp⟩
 generalize l.filter (fun z=>z.2 == x.2)=L at hm
 clear hx e
 induction L with
 | nil=>cases hm
 | cons a L ih =>
  rw [List.filter_cons];rcases List.mem_cons.1 hm with rfl|hm
  ·rw [if_neg (by simp[he])]
   have:=List.length_filter_le (fun z:ax=>!(z.1 == nm)) L;simp only[List.length_cons];omega
  ·have:=ih hm
   split<;>simp only[List.length_cons]<;>omega
theorem vM {c:Nat} {S:ac} (h:dI c S) (hW:Whole S) {cu cg now dir:Int} {nm:List UInt8} (hl:jR S cu cg dir nm=0):Whole (mA S now (aa S.nodes dir) (aa S.nodes (aO (aa S.nodes dir).ae nm)) nm):=by
 obtain ⟨z1,sw,_⟩:=gz hl;have hi:=(aR z1).1;obtain ⟨_,lr,jq⟩:=aj hi;obtain⟨no,hn⟩:=ar (aO (aa S.nodes dir).ae nm);rw [<-hn]at sw|-;obtain ⟨_,bc,hmem⟩:=aj sw;have hpos:=(h.aC.2 _ hmem).1;rw [bc]at hpos;obtain ⟨x,hx,hx1,hx2⟩:=uo (l:=(aa S.nodes dir).ae) (nm:=nm) (by rw[<-hn];omega);rw [<-hn]at hx2;have hK:=h.zB _ jq x hx;rw [hx2,lr]at hK;have hnd:no≠dir:=hK.1;obtain ⟨M,hM⟩:∃M:ai,M=cv S (aa S.nodes dir).no now (iu (aa S.nodes dir).ae nm):=⟨_,rfl⟩;have kU:M.no=dir:=by rw[hM,lr];exact lr
 have Fp:M.ae=iu (aa S.nodes dir).ae nm:=by rw[hM];rfl
 have Ru:M.ah=(aa S.nodes dir).ah:=by rw[hM,lr];rfl
 have hu1:aI (aK S M).nodes (aK S M).last:=h.aC.set _;have c1:∀k,ir (aK S M) k<=ir S k:=fun k=>by
  have h1:=lX h.aC (n:=M) (by rw[kU];exact hi) k;rw [kU]at h1;have h2:=Ni (aa S.nodes dir).ae nm k;have h3:jk k M=((iu (aa S.nodes dir).ae nm).filter fun z=>z.2 == k).length:=by unfold jk;rw[Fp]
  have h4:jk k (aa S.nodes dir)=((aa S.nodes dir).ae.filter fun z=>z.2 == k).length:=rfl;omega
 have c2:ir (aK S M) no<ir S no:=by
  have h1:=lX h.aC (n:=M) (by rw[kU];exact hi) no;rw [kU]at h1;have h2:=Cf hx hx1;rw [hx2]at h2;have h3:jk no M=((iu (aa S.nodes dir).ae nm).filter fun z=>z.2 == no).length:=by unfold jk;rw[Fp]
  have h4:jk no (aa S.nodes dir)=((aa S.nodes dir).ae.filter fun z=>z.2 == no).length:=rfl;omega
 have w1 : Whole (aK S M):=by
  refine ⟨fun m hm z hz=>?_,fun m hm=>?_,fun m hm z hz=>?_⟩
  rotate_left 2
  ·rcases aM hm with⟨hm,_⟩|rfl
   ·exact hW.fC m hm z hz
   ·rw [Fp]at hz
    exact hW.fC _ jq z (kE hz).1
  ·show aQ (bn S.nodes M) z.2=true
   rw [je];rcases aM hm with⟨hm,_⟩|rfl
   ·exact hW.there m hm z hz
   ·rw [Fp]at hz
    exact hW.there _ jq z (kE hz).1
  ·have h1:=c1 m.no
   rcases aM hm with⟨hm,_⟩|rfl
   ·have:=hW.ah m hm;omega
   ·have:=hW.ah _ jq
    rw [<-Ru,lr,<-kU]at this;omega
 have g1:aa (aK S M).nodes no=aa S.nodes no:=xk (by rw[kU];exact hnd);have i1:aQ (aK S M).nodes no=true:=by show aQ (bn S.nodes M) no=true;rw[je];exact sw
 obtain⟨n',hn'⟩:=ar (jI now (aa S.nodes no));have e1:n'.no=no:=by rw[hn'];exact bc
 have e2:n'.ae=(aa (aK S M).nodes no).ae:=by rw[hn',g1];rfl
 have e3:n'.ah=(aa S.nodes no).ah-1:=by rw[hn'];rfl
 have hL:=hW.ah _ hmem;rw [bc]at hL;have c3:∀k,ir (aK (aK S M) n') k=ir (aK S M) k:=fun k=>by
  have h1:=lX hu1 (n:=n') (by rw[e1];exact i1) k;rw [e1]at h1;have h2:jk k n'=jk k (aa (aK S M).nodes no):=by unfold jk;rw[e2]
  omega
 have w2 : Whole (aK (aK S M) n'):=by
  refine ⟨fun m hm z hz=>?_,fun m hm=>?_,fun m hm z hz=>?_⟩
  rotate_left 2
  ·rcases aM hm with⟨hm,_⟩|rfl
   ·exact w1.fC m hm z hz
   ·rw [e2]at hz
    exact w1.fC _ (aj i1).2.2 z hz
  ·show aQ (bn (aK S M).nodes n') z.2=true
   rw [je];rcases aM hm with⟨hm,_⟩|rfl
   ·exact w1.there m hm z hz
   ·rw [e2]at hz
    exact w1.there _ (aj i1).2.2 z hz
  ·rw [c3]
   rcases aM hm with⟨hm,_⟩|rfl
   ·exact w1.ah m hm
   ·rw [e1,e3]
    omega
 unfold mA cI;rw [<-hM];unfold na;rw [<-hn',bc];split
 ·unfold kO
  split
  ·exact Ep w2 _ (by rw[c3];omega)
  ·exact w2
 ·exact w2
theorem IC {S:ac} {c:Nat} (hT:dI c S) (h:Whole S) (cu cg now:Int) (x:jn) (hx:∀fr a aY b,x≠.rename fr a aY b) (hx2:∀no d,x≠.write no d):Whole (cF S cu cg now x):=by
 cases x with
 | bZ dir nm mode=>exact rJ h (po hT h _ _ _ _ _ _ rfl)
 | bB dir nm mode data=>exact rJ h (po hT h _ _ _ _ _ _ rfl)
 | symlink dir nm text=>exact rJ h (po hT h _ _ _ _ _ _ rfl)
 | link no dir nm=>exact Eo hT h _ _ _ _ _ _
 | unlink dir nm =>
  show Whole (jf S cu cg now dir nm);unfold jf;split
  ·rename_i h0
   unfold nO at h0;split at h0
   ·rename_i h1;exact absurd h0 h1
   ·rename_i h1
    obtain ⟨z1,z2,_,z4,z5⟩:=gz (Decidable.not_not.1 h1);rw [z4,z5];exact vM hT h (Decidable.not_not.1 h1)
  ·exact h
 | ux dir nm =>
  show Whole (kQ S cu cg now dir nm);unfold kQ;split
  ·rename_i h0
   unfold rc at h0;split at h0
   ·rename_i h1;exact absurd h0 h1
   ·rename_i h1
    obtain ⟨z1,z2,_,z4,z5⟩:=gz (Decidable.not_not.1 h1);rw [z4,z5];exact vM hT h (Decidable.not_not.1 h1)
  ·exact h
 | rename fr a aY b=>exact absurd rfl (hx fr a aY b)
 | write no d=>exact absurd rfl (hx2 no d)
 | dn no mode =>
  show Whole (d_ S cu now no mode);unfold d_;split
  ·rename_i h0
   unfold eJ at h0;split at h0
   ·rename_i h1;exact absurd h0 h1
   ·rename_i h1
    have hi:=fM (Decidable.not_not.1 h1);exact mv h hT.aC hi (aj hi).2.1 rfl (Int.le_refl _)
  ·exact h
 | cU no uid gid =>
  show Whole (ey S cu now no uid gid);unfold ey;split
  ·rename_i h0
   unfold fu at h0;split at h0
   ·rename_i h1;exact absurd h0 h1
   ·rename_i h1
    have hi:=fM (Decidable.not_not.1 h1);exact mv h hT.aC hi (aj hi).2.1 rfl (Int.le_refl _)
  ·exact h
 | dp no mt =>
  show Whole (ee S cu now no mt);unfold ee;split
  ·rename_i h0
   unfold fw at h0;split at h0
   ·rename_i h1;exact absurd h0 h1
   ·rename_i h1
    have hi:=fM (Decidable.not_not.1 h1);exact mv h hT.aC hi (aj hi).2.1 rfl (Int.le_refl _)
  ·exact h
theorem Cg {S:ac} {c:Nat} (hT:dI c S) (h:Whole S) (a b n:Int):Whole (ct S a b n):=by
 unfold ct;split
 ·exact (xT hT h (n:=bo S) _ rfl rfl (by show (0:Int)<=1;decide)).1
 ·exact h
theorem Ch (b n:Int):Whole (cr cE 0 b n):=by
 have mem:∀m∈(cr cE 0 b n).nodes,m=bo cE:=fun m hm=>by
  have hm':m∈[bo cE]:=hm
  rwa [List.mem_singleton]at hm'
 refine ⟨fun m hm z hz=>(by rw[mem m hm]at hz;cases hz),fun m hm=>?_,fun m hm z hz=>(by rw[mem m hm]at hz;cases hz)⟩;rw [vL (fun q hq z hz=>by rw[mem q hq]at hz;cases hz),mem m hm];decide
structure n_ (c:Nat) (S:ac):Prop where
 dL:fy c S
 who:Whole S
theorem n_.mono {c d:Nat} {S:ac} (h:n_ c S) (I1:c<=d):n_ d S:=⟨h.dL.mono I1,h.who⟩
theorem n_.lP {c:Nat} {S:ac} (h:n_ c S) (cu cg now:Int) (x:jn) (hx:∀fr a aY b,x≠.rename fr a aY b) (hx2:∀no d,x≠.write no d):n_ (c+1) (cF S cu cg now x):=⟨h.dL.lP _ _ _ _ hx,IC h.dL.eE h.who _ _ _ _ hx hx2⟩
theorem n_.ji {c:Nat} {S:ac} (h:n_ c S) (a b n:Int):n_ (c+1) (ct S a b n):=⟨h.dL.ji a b n,Cg h.dL.eE h.who a b n⟩
theorem n_.Ib {c:Nat} {S:ac} (h:n_ c S) (m:eA):n_ (c+2) (gF S m):=by
 unfold gF;split
 ·exact h.mono (by omega)
 ·split
  ·have h1:=h.lP 0 0 0 (rE S m) (fun _ _ _ _ e=>by cases e) (fun _ _ e=>by cases e)
   split
   ·exact h1.ji _ _ _
   ·exact h1.mono (by omega)
  ·exact (h.ji _ _ _).mono (by omega)
theorem n_.wF {c:Nat} {S:ac} (h:n_ c S) (l:List eA):n_ (c+2*l.length) (dX S l):=by
 unfold dX
 induction l generalizing c S with
 | nil=>exact h
 | cons m l ih =>
  rw [List.foldl_cons];have h1:n_ (c+2) (if mJ m=true then S else gF S m):=by
   split
   ·exact h.mono (by omega)
   ·exact h.Ib m
  exact (ih h1).mono (by rw[List.length_cons];omega)
theorem Ci {S:ac} {it:dJ} {x:jn} (h:gT S it=some x):(∀fr a aY b,x≠.rename fr a aY b)/\∀no d,x≠.write no d:=by
 unfold gT at h;split at h
 ·cases h
 split at h
 ·cases h
 split at h
 ·injection h with h;subst h;exact⟨fun _ _ _ _ e=>(by cases e),fun _ _ e=>(by cases e)⟩
 split at h
 ·injection h with h;subst h;exact⟨fun _ _ _ _ e=>(by cases e),fun _ _ e=>(by cases e)⟩
 split at h
 ·injection h with h;subst h;exact⟨fun _ _ _ _ e=>(by cases e),fun _ _ e=>(by cases e)⟩
 split at h
 ·split at h
  ·injection h with h;subst h;exact⟨fun _ _ _ _ e=>(by cases e),fun _ _ e=>(by cases e)⟩
  ·cases h
 ·cases h
theorem n_.DV {c:Nat} {S:ac} (h:n_ c S) (it:dJ):n_ (c+1) (iY S it):=by
 unfold iY;split
 ·rename_i x hx
  exact h.lP _ _ _ _ (Ci hx).1 (Ci hx).2
 ·exact h.mono (by omega)
theorem n_.uR {c:Nat} {S:ac} (h:n_ c S) (no:Int) (it:dJ):n_ (c+2) (fp S no it):=by
 unfold fp;split
 ·exact (h.lP 0 0 0 (.cU no it.uid it.gid) (fun _ _ _ _ e=>by cases e) (fun _ _ e=>by cases e)).lP 0 0 0 (.dn no it.mode) (fun _ _ _ _ e=>by cases e) (fun _ _ e=>by cases e)
 ·exact h.mono (by omega)
theorem n_.item {c:Nat} {p:ac×List Int} (h:n_ c p.1) (it:dJ):n_ (c+3) (sg p it).1:=(h.DV it).uR _ _
theorem n_.items {c:Nat} (l:List dJ) (p:ac×List Int) (h:n_ c p.1):n_ (c+3*l.length) (dD p l).1:=by
 unfold dD
 induction l generalizing c p with
 | nil=>exact h
 | cons m l ih =>
  rw [List.foldl_cons];exact (ih _ (h.item m)).mono (by rw[List.length_cons];omega)
theorem n_.times {c:Nat} (l:List (Int×dJ)) {S:ac} (h:n_ c S):n_ (c+l.length) (dN S l):=by
 unfold dN
 induction l generalizing c S with
 | nil=>exact h
 | cons x l ih =>
  rw [List.foldl_cons];have h1:n_ (c+1) (lU S x):=by
   unfold lU;split
   ·exact h.lP 0 0 0 (.dp x.1 x.2.mtime) (fun _ _ _ _ e=>by cases e) (fun _ _ e=>by cases e)
   ·exact h.mono (by omega)
  exact (ih h1).mono (by rw[List.length_cons];omega)
theorem Cj (ms:List eA) (is:List dJ):Whole (fD ms is):=by
 have a:=(n_.mk (.first (jL ms)) (Ch _ _)).wF ms;have b1:=n_.items is (dX (fX ms) ms,[]) a;exact (b1.times ((xH ms is).2.zip is)).who
section
variable {L cu cg now:Int} {S:ac} {c:Nat}
end
section
variable {L cu cg:Int} {c:Nat} {s:aA}
end
theorem Ck (keep:Bool) (cu cg aY:Int) (b:List UInt8) (s:aA) (x:aq) (l:List aq):vU keep cu cg aY b s (x::l)=if (jA keep cu cg ⟨s,[],[]⟩ x aY b).2≠0 then jA keep cu cg ⟨s,[],[]⟩ x aY b else Jd keep cu cg (jA keep cu cg ⟨s,[],[]⟩ x aY b).1 l:=rfl
end
section
theorem US {keep:Bool} {cu cg:Int} (l:List aq):∀{c n:Nat} {T:vT},Pl c T.s->c+3*T.late.length<=n->∃c',Pl c' (Jd keep cu cg T l).1.s/\c'+3*(Jd keep cu cg T l).1.late.length<=n+4*l.length:=by
 induction l with
 | nil=>intro c n T h hn;exact⟨c,h,by show c+3*T.late.length<=n+4*0;omega⟩
 | cons x l ih =>
  intro c n T h hn;obtain ⟨c1,h1,h2⟩:=vu (keep:=keep) (cu:=cu) (cg:=cg) h hn x (ap T.made x.dir) x.name;unfold Jd;split
  ·exact⟨c1,h1,by rw[List.length_cons];omega⟩
  ·obtain ⟨c2,h3,h4⟩:=ih h1 h2
   exact ⟨c2,h3,by rw[List.length_cons];omega⟩
theorem Nj {keep:Bool} {cu cg:Int} {M:List (Int×Int)} (l:List ai):∀{c:Nat} {s:aA},Pl c s->Pl (c+3*l.length) (lW keep cu cg M s l).1:=by
 induction l with
 | nil=>intro c s h;exact h
 | cons m l ih =>
  intro c s h;have h1:=(h.eV cu cg (lV keep cu cg (ap M m.no) m) vr).mono (show _<=c+3 by have:=zj keep cu cg (ap M m.no) m;omega);unfold lW;split
  ·exact h1.mono (by rw[List.length_cons];omega)
  ·exact (ih h1).mono (by rw[List.length_cons];omega)
theorem FF {c:Nat} {s:aA} (h:Pl c s) (keep:Bool) (cu cg aY:Int) (b:List UInt8) (l:List aq) (e:Int):Pl (c+4*l.length) (jM keep cu cg aY b s l e).1:=by
 have hA : ∃c',Pl c' (vU keep cu cg aY b s l).1.s/\c'+3*(vU keep cu cg aY b s l).1.late.length<=c+4*l.length:=by
  cases l with
  | nil=>exact⟨c,h,by show c+3*0<=c+4*0;omega⟩
  | cons x l =>
   rw [Ck];obtain ⟨c1,h1,h2⟩:=vu (keep:=keep) (cu:=cu) (cg:=cg) (T:=⟨s,[],[]⟩) (n:=c) h (by show c+3*0<=c;omega) x aY b;split
   ·exact⟨c1,h1,by rw[List.length_cons];omega⟩
   ·obtain ⟨c2,h3,h4⟩:=US (keep:=keep) (cu:=cu) (cg:=cg) l h1 h2
    exact ⟨c2,h3,by rw[List.length_cons];omega⟩
 obtain ⟨c',h1,h2⟩:=hA;unfold jM;split
 ·exact h.mono (by omega)
 split
 ·exact h1.mono (by omega)
 ·exact (Nj _ h1).mono (by rw[List.length_reverse];omega)
open Go.ChangeShapes Go.WideShapes Go.ChangeAt Go.RowKit
theorem PS.abC {w:World} {B b x:Nat} {g:bQ} {s:aA} {cs:Array Value} {t:TypeId} (h:PS w B b g s) (hx:Has w x (.cells cs t)) (h0:t≠66) (h1:t≠70) (h2:t≠113) (h3:t≠157):x∉b::g.list:=by
 obtain ⟨A,cap,k1,k2,_⟩:=h;intro hm;rcases List.mem_cons.1 hm with rfl|hm
 ·unfold Has at hx
  unfold eQ Has at k2;rw [hx]at k2;injection k2 with e;injection e with _ e;exact h0 e
 ·exact k1.iG hx h1 h2 h3 hm
attribute [local go_sem] Oper.semAt_some
def lv (s:aA) (cu cg:Int) (x:aq):Int:=if cu≠0/\((wB s (aa s.t.nodes x.no)).uid≠cu\/(wB s (aa s.t.nodes x.no)).gid≠cg) then 4 else 0
def rK (s:aA) (cu cg:Int):List aq->Int->Int
 | [],e=>e
 | x::l,e=>if lv s cu cg x≠0 then lv s cu cg x else rK s cu cg l e
theorem nI {s:aA} {cu cg:Int} (a r:List aq) (e:Int) (h:∀x∈a,lv s cu cg x=0):rK s cu cg (a++r) e=rK s cu cg r e:=by
 induction a with
 | nil=>rfl
 | cons x a ih =>
  show (if lv s cu cg x≠0 then lv s cu cg x else rK s cu cg (a++r) e)=rK s cu cg r e;rw [if_neg (by rw[h x (List.mem_cons_self ..)];decide)];exact ih fun y hy=>h y (List.mem_cons_of_mem _ hy)
theorem Nk {s:aA} {cu cg:Int} {l:List aq} {b:aq} {e:Int} {q:List (aq×Int)} {y:aq×Int} (h:q++[y] <+: told l b e) (hq:∀z∈q,z.2=0/\lv s cu cg z.1=0) :
  (y.2≠0->rK s cu cg l e=y.2)/\(y.2=0->lv s cu cg y.1≠0->rK s cu cg l e=lv s cu cg y.1):=by
 constructor
 ·intro hy
  obtain ⟨e1,_,e3⟩:=xG h hy;have hl:∀x∈l,lv s cu cg x=0:=fun x hx=>(hq (x,0) (by rw[e3];exact List.mem_map_of_mem hx)).2
  have:=nI l [] e hl;rw [List.append_nil]at this;rw [this,e1];rfl
 ·intro hy hne
  have hp : q++[y] <+: l.map fun x=>(x,(0:Int)):=by
   unfold told at h;split at h
   ·rw[List.append_nil]at h;exact h
   ·rename_i he
    rcases List.prefix_concat_iff.1 h with h1|h1
    ·have h2:=(List.append_inj' h1 rfl).2
     injection h2 with h2;rw [h2]at hy;exact absurd hy he
    ·exact h1
  obtain ⟨r,hr⟩:=hp;have hm:=congrArg (List.map Prod.fst) hr;have ei:(Prod.fst∘fun x:aq=>(x,(0:Int)))=id:=rfl;rw [List.map_map,ei,List.map_id,List.map_append,List.map_append]at hm;rw [<-hm,List.append_assoc,nI _ _ _ (fun x hx=>by
   obtain ⟨z,hz,rfl⟩:=List.mem_map.1 hx;exact (hq z hz).2)]
  show rK s cu cg (y.1::r.map Prod.fst) e=_;unfold rK;rw [if_pos hne]
def Es (W1:World) (N k b:Nat) (cu cg dir:Int) (nm:List UInt8) (s:aA) (O:List Nat) (pre:List (aq×Int)) (V:World):Prop:=
 Ext W1 V/\DS V k b cu cg dir nm/\(∀y∈pre,y.2=0/\lv s cu cg y.1=0)/\(∀x∈O,N<=x)/\N<=V.heap.size
theorem Es.bears {W1:World} {N k b:Nat} {cu cg dir:Int} {nm:List UInt8} {s:aA} (h1:W1.heap.size<=N) (h2:k+3<N):Bears N (Es W1 N k b cu cg dir nm s):=by
 rintro O pre V O' R V' ⟨a1,a2,a3,a4,a5⟩ o hR hO DK;have hL:∀x∈O++R,N<=x:=fun x hx=>by
  rcases List.mem_append.1 hx with hx|hx
  ·exact a4 x hx
  ·exact (hR x hx).1
 refine ⟨o.after a1 fun x hx=>by have:=hL x hx;omega,a2.only o fun x hx=>.inr (by have:=hL x hx;omega),a3,fun x hx=>?_,by have:=o.size;omega⟩;rcases hO x hx with e|e
 ·exact a4 x e
 ·omega
def UT (w:World) (b8:Nat) (cu cg:Int) (s:aA) (cc:Code) (pre:List (aq×Int)) (V:World):Prop:=
 cc=.ret/\Ext w V/\∃q y v,pre=q++[y]/\(∀z∈q,z.2=0/\lv s cu cg z.1=0)/\Has V b8 (.cells #[.int .i64 v] 40)/\((y.2≠0/\v=y.2)\/(y.2=0/\lv s cu cg y.1≠0/\v=lv s cu cg y.1))
theorem PS.UU {c:Nat} {w:World} {B b:Nat} {g:bQ} {s:aA} (h:PS w B b g s) (hs:fT c s) (hc:c<=900) (cu cg dir:Int) (nm:List UInt8) (l:List aq) (b0:aq) (e0:Int) (hT:qi s cu cg dir nm l b0 e0) (hlen:l.length<=1000) :
  Calls Tryz.prog 26 #[.pointer (some ⟨b,0,none⟩),.agg #[cu,cg],.int .i64 dir,bs nm] w (aH w (.int .i64 (rK s cu cg l e0))):=by
 refine (callsIn_wide (n:=4)).1 ?_;obtain⟨F,hF⟩:=ar Fence.wide;have hro:F.round=none:=by rw[hF];rfl
 have Lb:F.fn 26:=by rw[hF];trivial
 have JA:F.fn 33:=by rw[hF];trivial
 have hf3:F.fn 69:=by rw[hF];trivial
 have hf4:F.fn 12:=by rw[hF];trivial
 have KD:=fun (W:World)=>Ft F 3 JA hro b cu cg dir nm W
 have KST:Hid (∀(lb m:Nat) (u:World) (no:Int),Ext w u->CallsIn (F.inRound lb) m Tryz.prog 12 #[.pointer (some ⟨b,0,none⟩),.int .i64 no] u (aH u (.tuple #[gD (wB s (aa s.t.nodes no)),.int .i64 (dR s (cK s.t no))]))):=by
  show ∀_ _ _ _,_;intro lb m u no hu;rw [hF];exact CallsIn.inRound lb (callsIn_wide.2 ((h.ext hu).stat hs no))
 rw [<-hF];have HF:=zH hF;clear hF;refine callsIn_of_wp_marks Tryz.func26 rfl Lb ?_ hro;simp only[Tryz.ntmps26,List.size_toArray,List.length_cons,List.length_nil,Nat.reduceAdd,Nat.reduceSub,Array.replicate_succ,Array.replicate_zero,List.push_toArray,List.append_toArray,List.nil_append,List.cons_append];gi_wp2_with (gi_at_call 33;refine (KD _).mono ?_;rintro e w3 ⟨rfl,C3,E3,Z3⟩);obtain ⟨W1,b_⟩:∃V,V=((w.alloc (.cells #[.pointer (some ⟨b,0,none⟩)] 33)).alloc (.cells #[cu,cg] 27)).alloc (.cells #[.int .i64 0] 40):=⟨_,rfl⟩;obtain ⟨b4,uL⟩:∃x,x=w.heap.size:=⟨_,rfl⟩;obtain ⟨b5,jP⟩:∃x,x=w.heap.size+1:=⟨_,rfl⟩;obtain ⟨b8,fZ⟩:∃x,x=w.heap.size+1+1:=⟨_,rfl⟩;obtain ⟨k,hk⟩:∃x,x=w.heap.size+1+1+1:=⟨_,rfl⟩;have hs1:W1.heap.size=k:=by rw[b_,hk];simp
 have E1:Ext w W1:=by rw[b_];exact (((Ext.refl _).alloc _).alloc _).alloc _
 have H4:Has W1 b4 (.cells #[.pointer (some ⟨b,0,none⟩)] 33):=by
  rw [b_,uL];exact ((Has.new w _).alloc _).alloc _
 have H5:Has W1 b5 (.cells #[cu,cg] 27):=by
  rw [b_,jP];have:=Has.new (w.alloc (.cells #[.pointer (some ⟨b,0,none⟩)] 33)) (.cells #[cu,cg] 27);rw [World.size_alloc]at this;exact this.alloc _
 have H8:Has W1 b8 (.cells #[.int .i64 0] 40):=by
  rw [b_,fZ];have:=Has.new ((w.alloc (.cells #[.pointer (some ⟨b,0,none⟩)] 33)).alloc (.cells #[cu,cg] 27)) (.cells #[.int .i64 0] 40);simp only[World.size_alloc]at this;exact this
 rw [<-b_]at E3 C3 Z3;rw [hs1]at C3 Z3;rw [<-hk,<-fZ,<-jP,<-uL];obtain⟨N,hN⟩:=ar w3.heap.size;have aa7:N<=k+4:=by rw[hN,Z3];exact Nat.le_refl _
 have aa8:k+4<=N:=by rw[hN,Z3];exact Nat.le_refl _
 have l1:w.heap.size<=b4:=by omega
 have l2:b4<b5:=by omega
 have l3:b5<b8:=by omega
 have l4:b8<k:=by omega
 have aa9:W1.heap.size<=k:=by rw[hs1];exact Nat.le_refl _
 have HN:=zH hN;have zC:N<=w3.heap.size:=by rw[hN];exact Nat.le_refl _
 have RN:w3.heap.size<=N:=by rw[hN];exact Nat.le_refl _
 have Cx:=zH (h.ext E1);have BL:=zH E1;have Oz:=zH H4;have HH5:=zH H5;have Yb:=zH H8;have HTD:=zH hs.eE.af;have RI:(told l b0 e0).length<=1001:=by have:=uP l b0 e0;omega
 have KS:=BJ (c:=c) F HF.out (4-1) (by omega) B b g s hs hc k cu cg dir nm l b0 e0 hT hlen w3;clear b_ uL jP fZ hk H4 H5 H8 E1 h hs hT KD hs1 Z3 hN;refine qg hro (by omega) (gf:=69) (lb:=#[.pointer (some ⟨k,0,none⟩),.pointer (some ⟨k+1,0,none⟩),.pointer (some ⟨k+2,0,none⟩),.pointer (some ⟨k+3,0,none⟩)]) rfl hf3 (enters_of Tryz.func69 (by kernel_rfl) rfl) KS (Nat.le_refl _) (fun _=>rfl)
  (Es W1 N k b cu cg dir nm s)
  (UT w b8 cu cg s)
  (by rw[<-HN.out];exact Es.bears (by omega) (by omega))
  (by rintro cc pre V R V' ⟨a1,a2,q,y,v,a3,a4,a5,a6⟩ o hR;exact⟨a1,o.after a2 (fun x hx=>by have:=(hR x hx).1;omega),q,y,v,a3,a4,o.has a5 (fun hm=>by have:=(hR _ hm).1;omega),a6⟩)
  (fun O pre V hI=>⟨Cx.out.ext hI.1,hI.2.1⟩)
  ⟨E3,C3,fun y hy=>(by cases hy),fun x hx=>(by cases hx),zC⟩
  (fun x a' V=>∃Bx,N<=Bx/\Has V Bx (.cells #[.int .i64 x.1.dir,bs x.1.name,x.1.no,.int .i64 x.1.depth] 50)/\a'={tmps:=#[.pointer (some ⟨b,0,none⟩),.agg #[cu,cg],.int .i64 dir,.string (bs nm),.pointer (some ⟨b4,0,none⟩),.pointer (some ⟨b5,0,none⟩),undef,undef,.pointer (some ⟨b8,0,none⟩),.pointer (some ⟨Bx,0,none⟩),.int .i64 x.2,undef,undef,.pointer (some ⟨b,0,none⟩),.agg #[cu,cg],.int .i64 dir,.string (bs nm),.func (.func 69) #[] #[.pointer (some ⟨k,0,none⟩),.pointer (some ⟨k+1,0,none⟩),.pointer (some ⟨k+2,0,none⟩),.pointer (some ⟨k+3,0,none⟩)],.agg #[.int .i64 x.1.dir,bs x.1.name,x.1.no,.int .i64 x.1.depth],.int .i64 x.2,undef,undef,undef,undef,undef,undef,undef,undef,undef,undef,undef,undef,undef,undef,undef,undef,undef,undef,undef,undef,undef,undef,undef,undef,undef,undef,undef],defers:=[]})
  ?XQ ?assign ?body ?done ?stop
 case XQ =>
  rintro x a' V l o o' ⟨Bx,h1,h2,rfl⟩ hl ho hc';refine ⟨Bx,h1,?_,rfl⟩;have hne:Bx≠l:=fun e=>by subst e;unfold Has at h2;rw[h2]at ho;cases ho;cases hc'
  exact (World.putObj_heap_other hne).trans h2
 case assign =>
  rintro lp O pre x V K hI hG Hz hK;gi_wp2;refine hK _ _ ((KeepsOthers.alloc _ _).from _) ((Only.gS [] V _).Fm (fun b hb=>(Hz b hb).lt) (fun _ _=>by simp)) ?_ ⟨V.heap.size,hI.2.2.2.2,Has.new _ _,rfl⟩;exact (Es.bears (W1:=W1) (N:=N) (by omega) (by omega)) O pre V O [] _ hI (by rw[List.append_nil];exact Only.gS _ _ _) (fun r hr=>by cases hr) (fun x hx=>.inl hx) (fun x hx=>(Hz x hx).ext ((Ext.refl V).alloc _))
 case body =>
  rintro lp O pre x a' V hI ⟨Bx,hBx,L4,rfl⟩ hG Hz;rw [<-HN.out];have HI:=zH hI;have HOB:=zH Hz;obtain ⟨a1,_,a3,a4,a5⟩:=hI;have P0:=Cx.out.ext a1;have V4:=Oz.out.ext a1;have V5:=HH5.out.ext a1;have V8:=Yb.out.ext a1;have m8:∀y∈[b8],y=b8:=fun y hy=>by simpa using hy
  have HX:Hid (∀(V1:World) (v:Int),Only [b8] V V1->Has V1 b8 (.cells #[.int .i64 v] 40)->((x.2≠0/\v=x.2)\/(x.2=0/\lv s cu cg x.1≠0/\v=lv s cu cg x.1))->LK N (Es W1 N k b cu cg dir nm s) (UT w b8 cu cg s) O (pre++[x]) V .ret {tmps:=#[],defers:=[]} V1):=by
   show ∀_ _ _ _ _,_;intro V1 v o9 h9 hv;exact ⟨o9.lR (fun y hy=>.inl (by have:=m8 y hy;omega)),rfl,o9.after (BL.out.trans a1) (fun y hy=>by have:=m8 y hy;omega),pre,x,v,rfl,a3,h9,hv⟩
  have HZ:Hid (∀V1:World,Ext V V1->x.2=0->lv s cu cg x.1=0->LK N (Es W1 N k b cu cg dir nm s) (UT w b8 cu cg s) O (pre++[x]) V .normal {tmps:=#[],defers:=[]} V1):=by
   show ∀_ _ _ _,_;intro V1 hE h1 h2;refine ⟨(Only.aw (L:=[]) hE).lR (fun y hy=>by cases hy),(Only.aw (L:=[]) hE).Fm (fun y hy=>(HOB.out y hy).lt) (fun _ _=>by simp),a1.trans hE,HI.out.2.1.only (Only.aw (L:=[]) hE) (fun y hy=>by cases hy),fun y hy=>?_,a4,by have:=hE.size;omega⟩;rcases List.mem_append.1 hy with hy|hy
   ·exact a3 y hy
   ·rw[List.mem_singleton]at hy;subst hy;exact⟨h1,h2⟩
  by_cases hx0:x.2=0
  case neg =>
   have t0:(x.2 != 0)=true:=by simpa using hx0
   have c8:=V8.cell 0;have f8:=V8.free 0;have z8:=V8.lt;have H9:=zH (HX.out _ x.2 (Only.setCell _ _ _ _) (Has.setCell V8 0 _) (.inl ⟨hx0,rfl⟩));clear hx0 a1 a3 a4 a5 P0 V4 V5 V8 L4 hG Hz HX HZ;gi_wp2;exact H9.out
  have t0:(x.2 != 0)=false:=by simpa using hx0
  have se:=zH hx0;obtain⟨m,hm⟩:=ar (wB s (aa s.t.nodes x.1.no));have NM:Hid (∀j,CallsIn (F.inRound lp) j Tryz.prog 12 #[.pointer (some ⟨b,0,none⟩),x.1.no] V (aH V (.tuple #[gD m,.int .i64 (dR s (cK s.t x.1.no))]))):=by
   show ∀_,_;intro j;rw [hm];exact KST.out lp j V x.1.no (BL.out.trans a1)
  have HM:Hid (lv s cu cg x.1=if cu≠0/\(m.uid≠cu\/m.gid≠cg) then 4 else 0):=by
   show _=_;rw [hm];rfl
  unfold gD at NM;have c4:=V4.cell 0;have z4:=V4.lt;have y2:=L4.cell 2;have yz:=L4.lt;simp only[gA,gB,gC]at y2 c4;have HV5:=zH V5;have I6:=zH V8;clear hx0 hm a1 a3 a4 a5 P0 V4 V5 V8 L4 hG Hz;have abD:=zH (HM);have KEY:Hid (∀(E:Bool),(E=true↔cu≠0/\(m.uid≠cu\/m.gid≠cg))->(E=true->lv s cu cg x.1=4)/\(E=false->lv s cu cg x.1=0)):=by
   show ∀_,_;intro E hE;rw [HM.out];refine ⟨fun h=>if_pos (hE.1 h),fun h=>if_neg fun k=>?_⟩;have:=hE.2 k;rw [h]at this;cases this
  have hcu:(cu != 0)=decide (cu≠0):=by by_cases h:cu=0<;>simp[h]
  have Zd:(m.uid != cu)=decide (m.uid≠cu):=by by_cases h:m.uid=cu<;>simp[h]
  have Ze:(m.gid != cg)=decide (m.gid≠cg):=by by_cases h:m.gid=cg<;>simp[h]
  have HCU:=zH hcu;have Zf:=zH Zd;have Zg:=zH Ze;clear hcu Zd Ze HM abD;obtain ⟨P1,hP1⟩:∃P,P=decide (cu≠0):=⟨_,rfl⟩;obtain ⟨P2,zK⟩:∃P,P=decide (m.uid≠cu):=⟨_,rfl⟩;obtain ⟨P3,hP3⟩:∃P,P=decide (m.gid≠cg):=⟨_,rfl⟩;have e1:(cu != 0)=P1:=by rw[HCU.out,hP1]
  have e2:(m.uid != cu)=P2:=by rw[Zf.out,zK]
  have e3:(m.gid != cg)=P3:=by rw[Zg.out,hP3]
  have H4:Hid ((P1=true/\(P2=true\/P3=true))->lv s cu cg x.1=4):=by
   show _->_;intro h;refine (KEY.out true ⟨fun _=>⟨of_decide_eq_true (hP1.symm.trans h.1),h.2.imp (fun h=>of_decide_eq_true (zK.symm.trans h)) (fun h=>of_decide_eq_true (hP3.symm.trans h))⟩,fun _=>rfl⟩).1 rfl
  have H0:Hid ((P1=false\/(P2=false/\P3=false))->lv s cu cg x.1=0):=by
   show _->_;intro h;refine (KEY.out false ⟨(fun h=>by cases h),fun⟨a,b⟩=>?_⟩).2 rfl
   exfalso
   rcases h with h|⟨h1,h2⟩
   ·exact of_decide_eq_false (hP1.symm.trans h) a
   ·exact b.elim (of_decide_eq_false (zK.symm.trans h1)) (of_decide_eq_false (hP3.symm.trans h2))
  clear KEY HCU Zf Zg hP1 zK hP3
  cases P1 with
  | false =>
   have HC:=zH (H0.out (.inl rfl));clear H0 H4;gi_wp2_with (gi_at_call 12;refine (NM.out _).mono ?_;rintro e w2 ⟨rfl,b2⟩;have W5:=HV5.out.ext b2;have c5:=W5.cell 0;have UV:=W5.cell 1;have z5:=W5.lt;simp only[gA,gB,gC]at c5 UV);exact HZ.out _ (b2.alloc _) se.out HC.out
  | true =>
   cases P2 with
   | true =>
    have HC:=zH (H4.out ⟨rfl,.inl rfl⟩);clear H0 H4;gi_wp2_with (gi_at_call 12;refine (NM.out _).mono ?_;rintro e w2 ⟨rfl,b2⟩;have W5:=HV5.out.ext b2;have W8:=I6.out.ext b2;have c5:=W5.cell 0;have UV:=W5.cell 1;have z5:=W5.lt;have c8:=W8.cell 0;have f8:=W8.free 0;have z8:=W8.lt;simp only[gA,gB,gC]at c5 UV);exact HX.out _ 4 (((Only.aw (L:=[b8]) b2).then (Only.setCell _ _ _ _)).then (Only.gS _ _ _)) ((Has.setCell (I6.out.ext b2) 0 _).alloc _) (.inr ⟨se.out,by rw[HC.out];decide,HC.out.symm⟩)
   | false =>
    cases P3 with
    | true =>
     have HC:=zH (H4.out ⟨rfl,.inr rfl⟩);clear H0 H4;gi_wp2_with (gi_at_call 12;refine (NM.out _).mono ?_;rintro e w2 ⟨rfl,b2⟩;have W5:=HV5.out.ext b2;have W8:=I6.out.ext b2;have c5:=W5.cell 0;have UV:=W5.cell 1;have z5:=W5.lt;have c8:=W8.cell 0;have f8:=W8.free 0;have z8:=W8.lt;simp only[gA,gB,gC]at c5 UV);exact HX.out _ 4 (((Only.aw (L:=[b8]) b2).then (Only.setCell _ _ _ _)).then (Only.gS _ _ _)) ((Has.setCell (I6.out.ext b2) 0 _).alloc _) (.inr ⟨se.out,by rw[HC.out];decide,HC.out.symm⟩)
    | false =>
     have HC:=zH (H0.out (.inr ⟨rfl,rfl⟩));clear H0 H4;gi_wp2_with (gi_at_call 12;refine (NM.out _).mono ?_;rintro e w2 ⟨rfl,b2⟩;have W5:=HV5.out.ext b2;have c5:=W5.cell 0;have UV:=W5.cell 1;have z5:=W5.lt;simp only[gA,gB,gC]at c5 UV);exact HZ.out _ (b2.alloc _) se.out HC.out
 case done =>
  rintro D O xs V hD hxs hI hK;subst hxs;obtain ⟨a1,a2,a3,a4,a5⟩:=hI;obtain ⟨h0,hmap⟩:=xF (l:=l) (b:=b0) (e:=e0) (fun y hy=>(a3 y hy).1);have hE:rK s cu cg l e0=0:=by
   have:=nI (s:=s) (cu:=cu) (cg:=cg) l [] e0 (fun y hy=>by
    rw [<-hmap]at hy;obtain ⟨z,hz,rfl⟩:=List.mem_map.1 hy;exact (a3 z hz).2)
   rw [List.append_nil]at this;rw [this,h0];rfl
  have V8:=Yb.out.ext a1;have c8:=V8.cell 0;have f8:=V8.free 0;have z8:=V8.lt;have I6:=zH V8;have HK:=zH hK;have HQ:=zH hE;have Ux:=zH (BL.out.trans a1);clear a1 a2 a3 a4 a5 hK hE h0 hmap V8;gi_wp2;obtain⟨V2,lZ⟩:=ar (V.setCell ⟨b8,0,none⟩ (.int .i64 0));rw [<-lZ];have o2:Only [b8] V V2:=by rw[lZ];exact Only.setCell V b8 0 _
  have q8:Has V2 b8 (.cells #[.int .i64 0] 40):=by rw[lZ];exact Has.setCell I6.out 0 _
  have H7:=o2.has HK.out (by simp;omega);refine ⟨by simp,.inl ⟨_,_,rfl,run_takeDeferred H7,?_⟩⟩;have o3:Only [b8,D] V (V2.putObj D (.deferred none)):=(o2.mono (by simp)).then ((Only.putObj V2 D _).mono (by simp));have r8:=((Only.putObj V2 D (.deferred none)).has q8 (by simp;omega)).cell 0;have m8:∀y∈[b8,D],y=b8\/y=D:=fun y hy=>by simpa using hy
  refine ⟨.int .i64 0,by simp[results,Tryz.results26,go_sem,r8],?_⟩;exact aH.mk (by rw[HQ.out]) (o3.after Ux.out (fun y hy=>by rcases m8 y hy with e|e<;>omega))
 case stop =>
  rintro D cc pre V hD hp ⟨rfl,hE,q,y,v,rfl,hq,h8,hv⟩ hK;obtain ⟨e1,e2⟩:=Nk hp hq;have hve:v=rK s cu cg l e0:=by
   rcases hv with⟨k1,k2⟩|⟨k1,k2,k3⟩
   ·rw[k2];exact (e1 k1).symm
   ·rw[k3];exact (e2 k1 k2).symm
  have EV:=hE;gi_wp2;refine ⟨by simp,.inl ⟨_,_,rfl,run_takeDeferred hK,?_⟩⟩;have r8:=((Only.putObj V D (.deferred none)).has h8 (by simp;omega)).cell 0;refine ⟨.int .i64 v,by simp[results,Tryz.results26,go_sem,r8],?_⟩;exact aH.mk (by rw[hve]) ((Only.putObj V D _).after EV (fun x hx=>by simp at hx;omega))
end
section
open Go.ChangeShapes Go.WideShapes Go.ChangeAt Go.RowKit
def ID (S:ac):Nat->List dE->List Int->Option (List qC)
 | 0,_,_=>none
 | _+1,[],_=>some []
 | n+1,x::t,aC=>if aQ S.nodes (ak S.af x.2)=false then ID S n t aC else
  match ID S n (cy S x++t) (aC++[ak S.af x.2]) with|none=>none|some l=>some (pk S aC x::l)
theorem zt {S:ac}:∀{n:Nat} {t:List dE} {aC:List Int} {l:List qC},ID S n t aC=some l->cC S t aC l
 | 0,_,_,_,h=>by cases h
 | n+1,[],aC,l,h=>by injection h with h;subst h;exact .nil aC
 | n + 1,x::t,aC,l,h=>by
  unfold ID at h;split at h
  ·rename_i h1;exact .none h1 (zt h)
  ·rename_i h1
   split at h
   ·cases h
   ·rename_i r h2;injection h with h;subst h;exact .step (by simpa using h1) (zt h2)
def Nl:List dJ:=[⟨[47,100],1,488,0,0,7,[]⟩,⟨[47,100,47,121],2,0,5,0,0,[97,98,99]⟩,⟨[47,100,47,120],4,0,0,0,0,[47,100,47,121]⟩]
def UW:ac:=(Ek [] Nl).getD cE
theorem xV:fD [] Nl=UW:=IB (by kernel_rfl)
def wH:List aq:=[⟨1,[100],2,0⟩,⟨2,[120],3,1⟩,⟨2,[121],3,1⟩]
abbrev IG:aA:=⟨UW,0,0,[],false⟩
theorem xW:jh IG 0 0 1 [100]=⟨1,[100],2,0⟩/\jV IG 0 0 1 [100]=0:=⟨by kernel_rfl,by kernel_rfl⟩
theorem Nn:qi IG 0 0 1 [100] wH mB 0:=.inr ⟨xW.2,rfl,by
 rw [xW.1];exact vJ (n:=9) (r:=(wH,mB,0)) (by kernel_rfl)⟩
def qx:aA×Int:=jM true 0 0 1 [101] IG wH 0
theorem UX:qx.2=0:=by kernel_rfl
def rL:List qC:=(ID qx.1.t 20 [([47],1)] []).getD []
theorem Np:cC qx.1.t [([47],1)] [] rL:=zt (n:=20) (show ID qx.1.t 20 [([47],1)] []=some rL by kernel_rfl)
theorem FG:rL.length=7:=by kernel_rfl
theorem Zh:(rL[4]?).map (fun r=>(r.path,r.mtime,r.mode))=some ([47,101],7,488):=by kernel_rfl
theorem Zi:(rL[6]?).map (fun r=>(r.first,r.uid,r.data))=some (5,5,[97,98,99]):=by kernel_rfl
theorem pp:jh qx.1 5 0 1 [100]=⟨1,[100],2,0⟩/\jV qx.1 5 0 1 [100]=0/\qx.1.dead=false:=⟨by kernel_rfl,by kernel_rfl,by kernel_rfl⟩
theorem IH:qi qx.1 5 0 1 [100] wH mB 0:=.inr ⟨pp.2.1,pp.2.2,by
 rw [pp.1];exact vJ (n:=9) (r:=(wH,mB,0)) (by kernel_rfl)⟩
theorem QJ:rK qx.1 5 0 wH 0=4:=by kernel_rfl
theorem Nq:Pl 140 IG:=by
 have k:fy 140 UW:=by rw[<-xV];exact (xJ (by decide) (by decide)).dL
 exact ⟨k,Int.le_refl _,by decide,Nat.zero_le _⟩
theorem FH:Pl 152 qx.1:=FF Nq true 0 0 1 [101] wH 0
def Sd:Prop:=∀(c:Nat) (u:World) (B b:Nat) (g:bQ) (s:aA),PS u B b g s->Pl c s->c<=300->∀rows:List qC,cC s.t [([47],1)] [] rows->rows.length<=200 ->
 Calls Tryz.prog 25 #[.pointer (some ⟨b,0,none⟩)] u (fun e w'=>∃v,e=.returned v/\bJ fU w' u.heap.size v rows/\Ext u w')
theorem FI {α β:Type} {l:List α} {k:Nat} {f:α->β} {y:β} (h:(l[k]?).map f=some y):∃hk:k<l.length,f l[k]=y:=by
 cases hx:l[k]? with
 | none=>rw[hx]at h;cases h
 | some x =>
  rw [hx]at h;injection h with h;obtain ⟨hk,e⟩:=List.getElem?_eq_some_iff.1 hx;exact ⟨hk,by rw[e];exact h⟩
theorem QK (DR:Sd) (w:World):Calls Tryz.prog 6 #[] w (aH w (.bool true)):=by
 obtain ⟨W1,b_⟩:∃W,W=w.alloc (.cells (sP.cells Nl).toArray 80):=⟨_,rfl⟩;obtain ⟨b1,jZ⟩:∃b,b=w.heap.size:=⟨_,rfl⟩;have E1:Ext w W1:=by rw[b_];exact (Ext.refl _).alloc _
 have B1:Has W1 b1 (.cells (sP.cells Nl).toArray 80):=by rw[b_,jZ];exact Has.new _ _
 have KP:=zH (u_ none [] 0 (some ⟨b1,0,none⟩) Nl 3 W1 (.inl rfl) (dC.UO (R:=sP) B1) (by decide) (by decide) (fun m hm=>by cases hm) (by decide));have abE:w.alloc (.cells #[.string ⟨#[47,100]⟩,.int .i64 1,.int .i64 488,.int .i64 0,.int .i64 0,.int .i64 7,.string ⟨#[]⟩,.string ⟨#[47,100,47,121]⟩,.int .i64 2,.int .i64 0,.int .i64 5,.int .i64 0,.int .i64 0,.string ⟨#[97,98,99]⟩,.string ⟨#[47,100,47,120]⟩,.int .i64 4,.int .i64 0,.int .i64 0,.int .i64 0,.int .i64 0,.string ⟨#[47,100,47,121]⟩] 80)=W1:=by rw[b_];rfl
 clear b_;go_enter Tryz.func6,Tryz.ntmps6;go_wp2_with fail;rw [<-jZ];clear abE jZ B1;refine KP.out.mono ?_;rintro e w2 ⟨b,B,g,rfl,hB,P2,E2⟩;rw [xV]at P2;clear KP;have zM:=zH (E1.trans E2);have sH:Hid (∀x∈b::g.list,w.heap.size<=x):=fun x hx=>by
  have h1:=(P2.cV x hx).1;have h2:=E1.size;omega
 have K1:Hid (Calls Tryz.prog 10 #[.pointer (some ⟨b,0,none⟩),.agg #[.int .i64 0,.int .i64 0],.int .i64 1,.string ⟨#[100]⟩,.int .i64 1,.string ⟨#[101]⟩,.bool true] w2 (Qv w2 B b g qx.1 0)):=by
  show Calls _ _ _ _ _;have:=P2.FC Nq true 0 0 1 1 [100] [101] wH mB 0 Nn (by decide) (by decide);have e:(jM true 0 0 1 [101] IG wH 0).2=0:=UX;rw [e]at this;exact this
 have K2:Hid (∀u,PS u B b g qx.1->Calls Tryz.prog 25 #[.pointer (some ⟨b,0,none⟩)] u (fun e w'=>∃v,e=.returned v/\bJ fU w' u.heap.size v rL/\Ext u w')):=by
  show ∀_,_;intro u hu;exact DR 152 u B b g qx.1 hu FH (by decide) rL Np (by rw[FG];decide)
 have K3:Hid (∀u,PS u B b g qx.1->Calls Tryz.prog 26 #[.pointer (some ⟨b,0,none⟩),.agg #[.int .i64 5,.int .i64 0],.int .i64 1,.string ⟨#[100]⟩] u (aH u (.int .i64 4))):=by
  show ∀_,_;intro u hu;have:=hu.UU FH.jj (by decide) 5 0 1 [100] wH mB 0 IH (by decide);rw [QJ]at this;exact this
 clear P2 E1 E2;go_wp2_with fail;refine K1.out.mono ?_;rintro e w3 ⟨rfl,P3,O3⟩;clear K1;have RJ:=zH (O3.after zM.out sH.out);have Fw:=zH P3;clear P3 O3;go_wp2_with fail;refine (K2.out _ Fw.out).mono ?_;rintro e w4 ⟨v,rfl,O4,E4⟩;clear K2;have Uk:=zH (Fw.out.ext E4);have HE4:=zH (RJ.out.trans E4);obtain ⟨gb,cap,rfl,y0,y2,y5,z3,z8,z9,hgb⟩:∃gb cap,v=.slice (some ⟨gb,0,none⟩) 7 cap/\w4.cell? ⟨gb,40,none⟩=some (.string ⟨#[47,101]⟩)/\w4.cell? ⟨gb,42,none⟩=some (.int .i64 488)/\w4.cell? ⟨gb,45,none⟩=some (.int .i64 7)/\w4.cell? ⟨gb,63,none⟩=some (.int .i64 5)/\w4.cell? ⟨gb,68,none⟩=some (.int .i64 5)/\w4.cell? ⟨gb,69,none⟩=some (.string ⟨#[97,98,99]⟩)/\gb<w4.heap.size:=by
  obtain ⟨h4,e4⟩:=FI Zh;obtain ⟨h6,e6⟩:=FI Zi;rcases O4.cases with⟨_,e⟩|⟨gb,cap,cur,rfl,_,hg,_,_,hc⟩
  ·rw[e]at h4;cases h4
  ·injection e4 with a1 a2
   injection a2 with a2 a3;injection e6 with c1 c2;injection c2 with c2 c3;refine ⟨gb,cap,by rw[FG],?_,?_,?_,?_,?_,?_,hg.lt⟩
   ·have:=hc 4 h4 0 (by decide);rw[show 4*fU.k+0=40 from rfl]at this;rw[this];show some (Value.string (bs rL[4].path))=_;rw[a1];rfl
   ·have:=hc 4 h4 2 (by decide);rw[show 4*fU.k+2=42 from rfl]at this;rw[this];show some (Value.int .i64 rL[4].mode)=_;rw[a3]
   ·have:=hc 4 h4 5 (by decide);rw[show 4*fU.k+5=45 from rfl]at this;rw[this];show some (Value.int .i64 rL[4].mtime)=_;rw[a2]
   ·have:=hc 6 h6 3 (by decide);rw[show 6*fU.k+3=63 from rfl]at this;rw[this];show some (Value.int .i64 rL[6].uid)=_;rw[c2]
   ·have:=hc 6 h6 8 (by decide);rw[show 6*fU.k+8=68 from rfl]at this;rw[this];show some (Value.int .i64 rL[6].first)=_;rw[c1]
   ·have:=hc 6 h6 9 (by decide);rw[show 6*fU.k+9=69 from rfl]at this;rw[this];show some (Value.string (bs rL[6].data))=_;rw[c3];rfl
 have K4:=zH (K3.out _ Uk.out);clear O4 E4 K3;go_wp2_with fail;refine K4.out.mono ?_;rintro e w5 ⟨rfl,E5⟩;go_wp2_with fail;go_ret;exact aH.mk rfl (HE4.out.trans E5)
theorem xX {l:List Int} {x:Int} (k:List Int) (h:x∈l):ft (l++k) x=ft l x:=by
 induction l with
 | nil=>cases h
 | cons a l ih =>
  rw [List.cons_append,iP,iP]
  by_cases e:(a == x)=true
  ·rw[if_pos e,if_pos e]
  ·rw [if_neg e,if_neg e,ih (by
    rcases List.mem_cons.1 h with h|h
    ·exact absurd (by simp[h]) e
    ·exact h)]
theorem Et {l:List Int} {x:Int} (h:x∉l):ft l x=l.length:=by
 induction l with
 | nil=>rfl
 | cons a l ih =>
  rw [iP,if_neg (by intro e;exact h (by rw[beq_iff_eq]at e;rw[e];exact List.mem_cons_self ..)),ih (fun k=>h (List.mem_cons_of_mem _ k))];rfl
def pq (M:List (Int×Int)) (aC:List Int):Prop:=(∀x,(∃p∈M,p.1=x)↔x∈aC)/\∀x∈aC,ap M x=(ft aC x:Nat)
theorem pq.nil:pq [] []:=⟨fun x=>⟨fun⟨p,hp,_⟩=>(by cases hp),fun h=>(by cases h)⟩,fun x h=>by cases h⟩
theorem pq.old {M:List (Int×Int)} {aC:List Int} (h:pq M aC) {x:Int} (hx:x∈aC):pq M (aC++[x]):=by
 refine ⟨fun y=>(h.1 y).trans ⟨fun k=>List.mem_append_left _ k,fun k=>?_⟩,fun y hy=>?_⟩
 ·rcases List.mem_append.1 k with k|k
  ·exact k
  ·rw[List.mem_singleton]at k;rw[k];exact hx
 ·have hy:y∈aC:=by
   rcases List.mem_append.1 hy with k|k
   ·exact k
   ·rw[List.mem_singleton]at k;rw[k];exact hx
  rw [xX _ hy];exact h.2 y hy
theorem Cl {M:List (Int×Int)} {p:Int×Int} {x:Int}:ap (M++[p]) x=if (∃q∈M,q.1=x) then ap M x else if p.1=x then p.2 else 0:=by
 induction M with
 | nil =>
  rw [if_neg (by rintro⟨q,hq,_⟩;cases hq)];rfl
 | cons a M ih =>
  show (if a.1=x then a.2 else ap (M++[p]) x)=_
  by_cases e:a.1=x
  ·rw [if_pos e,if_pos ⟨a,List.mem_cons_self ..,e⟩]
   show _=if a.1=x then a.2 else ap M x
   rw [if_pos e]
  ·rw [if_neg e,ih]
   by_cases k:∃q∈M,q.1=x
   ·rw [if_pos k]
    obtain ⟨q,hq,eq⟩:=k;rw [if_pos ⟨q,List.mem_cons_of_mem _ hq,eq⟩];show _=if a.1=x then a.2 else ap M x
    rw [if_neg e]
   ·rw [if_neg k]
    have k2:¬∃q∈a::M,q.1=x:=fun⟨q,hq,eq⟩=>by
     rcases List.mem_cons.1 hq with rfl|hq
     ·exact e eq
     ·exact k ⟨q,hq,eq⟩
    rw [if_neg k2]
theorem pq.new {M:List (Int×Int)} {aC:List Int} (h:pq M aC) {x:Int} (hx:x∉aC):pq (M++[(x,(aC.length:Int))]) (aC++[x]):=by
 refine ⟨fun y=>⟨?_,?_⟩,fun y hy=>?_⟩
 ·rintro ⟨p,hp,e⟩
  rcases List.mem_append.1 hp with hp|hp
  ·exact List.mem_append_left _ ((h.1 y).1 ⟨p,hp,e⟩)
  ·rw[List.mem_singleton]at hp;subst hp;exact List.mem_append_right _ (by simp[<-e])
 ·intro hy
  rcases List.mem_append.1 hy with hy|hy
  ·obtain ⟨p,hp,e⟩:=(h.1 y).2 hy
   exact ⟨p,List.mem_append_left _ hp,e⟩
  ·rw [List.mem_singleton]at hy
   exact ⟨_,List.mem_append_right _ (List.mem_singleton.2 rfl),hy.symm⟩
 ·rw [Cl]
  by_cases k:y∈aC
  ·rw[if_pos ((h.1 y).2 k),xX _ k];exact h.2 y k
  ·rw [if_neg (fun q=>k ((h.1 y).1 q))]
   have:y=x:=by
    rcases List.mem_append.1 hy with q|q
    ·exact absurd q k
    ·simpa using q
   subst this;rw [if_pos rfl];have : ft (aC++[y]) y=aC.length:=by
    clear h k hy
    induction aC with
    | nil=>rw[List.nil_append,iP,if_pos (by simp)];rfl
    | cons a l ih =>
     rw [List.cons_append,iP,if_neg (by intro e;exact hx (by rw[beq_iff_eq]at e;rw[e];exact List.mem_cons_self ..)),ih (fun q=>hx (List.mem_cons_of_mem _ q))];rfl
   rw [this]
theorem pq.row {M:List (Int×Int)} {aC:List Int} (h:pq M aC) {x:Int}:((ft aC x:Nat):Int)=if x∈aC then ap M x else (aC.length:Int):=by
 split
 ·rename_i k;exact (h.2 x k).symm
 ·rename_i k;rw[Et k]
theorem QL {w:World} {bM:Nat} {es:Array MapEntry} {clock:Nat} {M:List (Int×Int)} (hm:Has w bM (.map es clock)) (h:jY es.toList M) {aC:List Int} (hf:pq M aC) (x:Int) :
  (Instr.lookup 94 (.map (some bM)) (.int .i64 x) true).run Tryz.prog w=.ok (.tuple #[.int .i64 (ap M x),.bool (decide (x∈aC))]) w:=by
 have hk:∀r,Instr.findNow (.int .i64) (.int .i64 x) es.toList 0=some r->(Instr.findKey 3 (.int .i64 x) es.toList).run Tryz.prog w=.ok r w:=fun r hr=>by
  unfold Instr.findKey;rw [Sem.run_bind,run_underlying Tryz.underlying3];simp [hr]
 have hz:(zeroValue 3).run Tryz.prog w=.ok (.int .i64 0) w:=by kernel_rfl
 rcases kw x es.toList M 0 h with⟨g1,g2⟩|⟨g1,k,g2⟩
 ·have hd:decide (x∈aC)=false:=decide_eq_false (fun q=>by obtain⟨p,hp,e⟩:=(hf.1 x).2 q;exact g1 p hp e)
  rw [vA g1,hd];simp [Instr.lookup,run_underlying Tryz.underlying94,MapKept.run_getObj_map hm,cT,hk _ g2,hz]
 ·have hd:decide (x∈aC)=true:=decide_eq_true ((hf.1 x).1 g1)
  rw [hd];simp [Instr.lookup,run_underlying Tryz.underlying94,MapKept.run_getObj_map hm,cT,hk _ g2]
theorem Nr {w:World} {bM:Nat} {es:Array MapEntry} {clock:Nat} {M:List (Int×Int)} (hm:Has w bM (.map es clock)) (h:jY es.toList M) {aC:List Int} (hf:pq M aC) {x:Int} (h0:x∉aC) (n:Int) :
  ∃ es' clock',(Instr.mapUpdate 94 (.map (some bM)) (.int .i64 x) (.int .i64 n)).run Tryz.prog w=.ok () (js w bM (.map es' clock'))/\jY es'.toList (M++[(x,n)]):=by
 have hk:∀r,Instr.findNow (.int .i64) (.int .i64 x) es.toList 0=some r->(Instr.findKey 3 (.int .i64 x) es.toList).run Tryz.prog w=.ok r w:=fun r hr=>by
  unfold Instr.findKey;rw [Sem.run_bind,run_underlying Tryz.underlying3];simp [hr]
 rcases kw x es.toList M 0 h with⟨g1,g2⟩|⟨g1,_⟩
 case inr=>exact absurd ((hf.1 x).1 g1) h0
 refine ⟨es.push ⟨.int .i64 x,.int .i64 n,clock⟩,clock+1,?_,?_⟩
 ·simp[Instr.mapUpdate,run_underlying Tryz.underlying94,MapKept.run_getObj_map hm,cT,hk _ g2,MapKept.run_setObj_map _ hm,Result.andThen,js]
 ·have hl:es.size=M.length:=by simpa using h.1
  refine ⟨by simp;simpa using h.1,fun j hj=>?_⟩;rw [List.length_append,List.length_singleton]at hj;rw [Array.getElem?_toList,Array.getElem?_push,hl]
  by_cases ej:j=M.length
  ·subst ej
   refine ⟨_,by rw[if_pos rfl],?_⟩;rw [List.getElem_append_right (Nat.le_refl _)];simp only[Nat.sub_self,List.getElem_singleton];exact ⟨trivial,trivial⟩
  ·obtain ⟨e',h1,h2,h3⟩:=h.2 j (by omega)
   rw [Array.getElem?_toList]at h1;refine ⟨e',by rw[if_neg ej];exact h1,?_⟩;rw [List.getElem_append_left (by omega)];exact ⟨h2,h3⟩
def marks (Ds:List Nat):List Deferred:=Ds.map fun D=>{target:=.collected D,args:=#[]}
def jB (w:World) (base:Nat) (Ds:List Nat):Prop:=Ds.Nodup/\∀D∈Ds,base<=D/\w.heap[D]?=some (.deferred (some []))
theorem jB.only {w w':World} {base:Nat} {Ds L:List Nat} (h:jB w base Ds) (o:Only L w w') (hL:∀D∈Ds,D∉L):jB w' base Ds:=
 ⟨h.1,fun D hD=>⟨(h.2 D hD).1,(o.block D (Array.getElem?_eq_some_iff.1 (h.2 D hD).2).1 (hL D hD)).trans (h.2 D hD).2⟩⟩
theorem jB.ext {w w':World} {base:Nat} {Ds:List Nat} (h:jB w base Ds) (o:Ext w w'):jB w' base Ds:=h.only (L:=[]) (Only.aw o) (fun _ _=>by simp)
theorem jB.mw {w:World} {base:Nat} {Ds:List Nat} (h:jB w base Ds) {b:Nat} {cs:Array Value} {t:TypeId} {fr:Nat×Nat} (hb:w.heap[b]?=some (.cells cs t fr)):b∉Ds:=fun k=>by
 have:=(h.2 b k).2;rw [hb]at this;cases this
theorem jB.Zj {w:World} {base:Nat} {Ds:List Nat} (h:jB w base Ds) {b cl:Nat} {es:Array MapEntry} (hb:w.heap[b]?=some (.map es cl)):b∉Ds:=fun k=>by
 have:=(h.2 b k).2;rw [hb]at this;cases this
theorem qy {F:Fence} {n:Nat} {P:Program} {fn:Func} {tmps:Array Value} {R:Ending->World->Prop} {base:Nat} {v:Value}:∀(Ds:List Nat) (w:World),jB w base Ds ->
  (∀w',Only Ds w w'->(results fn tmps).run P w'=.ok v w'/\R (.returned v) w')->LeavesInM F n P fn tmps R (marks Ds) .returning w
 | [],w,_,h=>by
  obtain ⟨h1,h2⟩:=h w (Only.refl _ _);exact ⟨v,h1,h2⟩
 | D :: Ds,w,hm,h=>by
  have hD:=(hm.2 D (List.mem_cons_self ..)).2;have hn:=List.nodup_cons.1 hm.1;refine ⟨by simp,.inl ⟨D,_,rfl,run_takeDeferred hD,qy Ds _ ⟨hn.2,fun E hE=>⟨(hm.2 E (List.mem_cons_of_mem _ hE)).1,?_⟩⟩ fun w' o=>h w' ?_⟩⟩
  ·have hne:E≠D:=fun e=>hn.1 (by rw[<-e];exact hE)
   exact (World.putObj_heap_other hne).trans (hm.2 E (List.mem_cons_of_mem _ hE)).2
  ·exact ((Only.putObj w D _).mono (fun x hx=>by rw[List.mem_singleton]at hx;rw[hx];exact List.mem_cons_self ..)).then (o.mono fun x hx=>List.mem_cons_of_mem _ hx)
open Go.ChangeShapes Go.WideShapes Go.ChangeAt Go.RowKit Go.Shelf
def dO:RowK dE:=⟨116,115,2,24,.agg #[.string ⟨#[]⟩,.int .i64 0],fun x=>[.string (bs x.1),.int .i64 x.2],by decide,Tryz.underlying116,by kernel_rfl,rfl,fun _=>rfl,fun x u hu=>by
 simp only[List.mem_cons,List.not_mem_nil,or_false]at hu;rcases hu with rfl|rfl<;>rfl,by decide⟩
def UY:Go.Shelf.Ren:=⟨fun | 35=>41|n=>n,fun | 0=>0 | 3=>3 | 4=>4 | 22=>116 | 23=>115|n=>n,fun n=>n⟩
theorem FJ:Go.Proofs.SlLaysE0.n35 Tryz.prog UY:={
 mixed:=by kernel_rfl
 f35:=⟨"slices.Reverse[[]ragpicker/dump.spot,ragpicker/dump.spot]",by decide,Tryz.func41.trans (congrArg some (by kernel_rfl))⟩
 t0:=Tryz.underlying0
 a0:=Tryz.isAgg0
 z0:=Tryz.sizeOf0
 v0:=Tryz.zeroValue0
 t3:=Tryz.underlying3
 a3:=Tryz.isAgg3
 z3:=Tryz.sizeOf3
 v3:=Tryz.zeroValue3
 t4:=Tryz.underlying4
 a4:=Tryz.isAgg4
 z4:=Tryz.sizeOf4
 v4:=Tryz.zeroValue4
 t22:=Tryz.underlying116
 a22:=Tryz.isAgg116
 z22:=Tryz.sizeOf116
 v22:=Tryz.zeroValue116}
theorem FK {l:List Value} {i:Nat} (h:i<l.length):l[i]?=some l[i]!:=by
 rw [List.getElem?_eq_getElem h,getElem!_pos l i h]
theorem pu (l:List dE) (j:Nat) (hj:j<l.length*2):(dO.cells l)[j]?=some (Go.Sort.flatK dO.enc 2 l.toArray)[j]!:=by
 have hi:j / 2<l.length:=by omega
 rw [Go.Sort.get_flatK _ _ _ _ (by simpa using hj)];have:=dO.nY l (j / 2) hi (j % 2) (by show j % 2<2;omega);rw [show j / 2*dO.k+j % 2=j by show j / 2*2+j % 2=j;omega]at this;rw [this,getElem!_pos l.toArray (j / 2) (by simpa using hi),List.getElem_toArray];exact FK (by rw[dO.len];show j % 2<2;omega)
theorem QM {w:World} {base g cap c2:Nat} {l1 l2:List dE} (h:bJ dO w base (.slice (some ⟨g,0,none⟩) (l1++l2).length cap) (l1++l2)) :
  Calls Tryz.prog 41 #[.slice (some ⟨g,l1.length*2,none⟩) l2.length c2] w (fun e w'=>e=.returned (.tuple #[])/\Only [g] w w'/\bJ dO w' base (.slice (some ⟨g,0,none⟩) (l1++l2.reverse).length cap) (l1++l2.reverse)):=by
 obtain ⟨g',cap',cur,hv,hb,hg,hn,hm,hs,ht⟩:∃g' cap' cur,Value.slice (some ⟨g,0,none⟩) (l1++l2).length cap=.slice (some ⟨g',0,none⟩) (l1++l2).length cap'/\base<=g'/\Has w g' (.cells cur dO.t)/\(l1++l2).length<=cap'/\cap'<=maxLen/\cur.size=cap'*dO.k/\cur.toList.take ((l1++l2).length*dO.k)=dO.cells (l1++l2):=by
  rcases h.2 with⟨e,_⟩|h2
  ·cases e
  ·exact h2
 injection hv with h1 _ h3;injection h1 with h1;injection h1 with h1;subst h1 h3;have hk:dO.k=2:=rfl;rw [hk]at hs ht;rw [List.length_append]at hn ht;have hc:∀j,j<(l1.length+l2.length)*2->cur[j]?=(dO.cells (l1++l2))[j]?:=fun j hj=>by
  rw [<-ht,List.getElem?_take_of_lt hj,Array.getElem?_toList]
 have g_:(dO.cells l1).length=l1.length*2:=dO.iL l1;have hH:Go.Sort.HoldsK dO.enc 2 w g (l1.length*2) l2.toArray:=by
  intro j hj;have hj:j<l2.length*2:=by simpa using hj
  rw [hg.cell,hg.free];refine ⟨?_,by simp⟩;rw [hc _ (by omega),dO.gP,List.getElem?_append_right (by omega),g_,show l1.length*2+j-l1.length*2=j by omega];exact pu l2 j hj
 have:=Go.Proofs.AnyQ.slices_Reverse FJ 2 Tryz.isAgg115 Tryz.sizeOf115 dO.enc (fun _=>rfl) dO.one g (l1.length*2) c2 l2.toArray w hH (by simp;unfold maxLen at hm;omega);refine this.mono ?_;rintro e w' ⟨rfl,n,rfl⟩;have abF:l2.toArray.reverse=l2.reverse.toArray:=by simp
 rw [abF];obtain⟨f,hf⟩:=ar (Go.Sort.putCells id (l1.length*2) (Go.Sort.flatK dO.enc 2 l2.reverse.toArray));have hw:Go.Sort.putRowK dO.enc 2 (Go.Sort.ahead w n) g (l1.length*2) l2.reverse.toArray=Go.Sort.mapBlock (Go.Sort.ahead w n) g f:=by rw[hf];rfl
 rw [hw];have hG:Has (Go.Sort.mapBlock (Go.Sort.ahead w n) g f) g (.cells (f cur) dO.t):=by
  show (w.heap.modify g (Go.Sort.onCells f))[g]?=_;rw [Array.getElem?_modify,if_pos rfl,show w.heap[g]?=some (.cells cur dO.t) from hg];rfl
 have VP:(f cur).size=cur.size:=by rw[hf];simp[Go.Sort.putCells]
 refine ⟨rfl,⟨rfl,rfl,rfl,?_,fun k _ hk=>?_⟩,dO.iL _,.inr ⟨g,cap,f cur,rfl,hb,hG,by simpa using hn,hm,by rw[VP,hk];exact hs,?_⟩⟩
 ·show w.heap.size<=(w.heap.modify g _).size
  simp
 ·show (w.heap.modify g _)[k]?=_
  rw [Array.getElem?_modify,if_neg (fun e=>hk (by simp[e]))]
 ·apply List.ext_getElem?
  intro j;have hlen:(l1++l2.reverse).length*dO.k=(l1.length+l2.length)*2:=by simp[hk]
  rw [hlen]
  by_cases hj:j<(l1.length+l2.length)*2
  ·rw [List.getElem?_take_of_lt hj,Array.getElem?_toList,hf]
   unfold Go.Sort.putCells;rw [Array.getElem?_mapIdx,hc j hj,dO.gP,dO.gP]
   by_cases hj1:j<l1.length*2
   ·rw [List.getElem?_append_left (by omega),List.getElem?_append_left (by omega)]
    rw [FK (by omega:j<(dO.cells l1).length)];simp only[Option.map_some];rw [if_neg (by omega)]
   ·rw [List.getElem?_append_right (by omega),List.getElem?_append_right (by omega),g_]
    rw [pu l2 _ (by omega),pu l2.reverse _ (by simp;omega)];simp only[Option.map_some];rw [if_pos ⟨by omega,by simp;omega⟩];rfl
  ·rw[List.getElem?_eq_none (by rw[List.length_take];omega),List.getElem?_eq_none (by rw[dO.iL,hlen];omega)]
attribute [local go_sem] Oper.semAt_some
def mE (W0:World) (base b9 gt:Nat) (l:List dE) (W:World):Prop:=
 Only [b9,gt] W0 W/\∃g cap,Has W b9 (.cells #[.slice (some ⟨g,0,none⟩) l.length cap] 116)/\bJ dO W base (.slice (some ⟨g,0,none⟩) l.length cap) l/\(g=gt\/W0.heap.size<=g)
theorem II {α:Type} (W0:World) (base b9 gt:Nat) (f:List α->List dE):OwnFrom W0.heap.size (fun pre W=>mE W0 base b9 gt (f pre) W):=by
 rintro s A B row ⟨o,g,cap,h9,hR,hg⟩ hgr hr;have o2:=Only.grown hgr;have hn:∀y cs t fr,A.heap[y]?=some (.cells cs t fr)->y∉row.toList:=fun y cs t fr hy hm=>by
  obtain ⟨_,ob,ho,hc⟩:=hr y (Option.mem_toList.1 hm);rw [hy]at ho;injection ho with ho;subst ho;cases hc
 refine ⟨o.trans o2 (fun x hx=>.inr (hr x (Option.mem_toList.1 hx)).1),g,cap,o2.has h9 (hn _ _ _ _ h9),hR.only o2 (fun y hy=>?_),hg⟩;obtain ⟨cs,fr,e⟩:=hR.tag hy;exact hn _ _ _ _ e
theorem mE.step {W0 W W1:World} {base b9 gt g cap:Nat} {l:List dE} (o:Only [b9,gt] W0 W) (h9:Has W b9 (.cells #[.slice (some ⟨g,0,none⟩) l.length cap] 116)) (hR:bJ dO W base (.slice (some ⟨g,0,none⟩) l.length cap) l) (hg:g=gt\/W0.heap.size<=g) (hb:base<=W0.heap.size) (tf:base<=b9) (hl:l.length<=2000000) (hE:Ext W W1) (x:dE) :
  ∃ g' cap' w2,(Builtin.append_ #[116,116] 116 #[.slice (some ⟨g,0,none⟩) l.length cap,.slice (some ⟨W1.heap.size,0,none⟩) 1 1]).run Tryz.prog (W1.alloc (.cells #[bs x.1,.int .i64 x.2] 115))=.ok (.slice (some ⟨g',0,none⟩) (l++[x]).length cap') w2/\Has w2 b9 (.cells #[.slice (some ⟨g,0,none⟩) l.length cap] 116)/\KeepsFrom W0.heap.size W (w2.setCell ⟨b9,0,none⟩ (.slice (some ⟨g',0,none⟩) (l++[x]).length cap'))/\Below base W (w2.setCell ⟨b9,0,none⟩ (.slice (some ⟨g',0,none⟩) (l++[x]).length cap'))/\mE W0 base b9 gt (l++[x]) (w2.setCell ⟨b9,0,none⟩ (.slice (some ⟨g',0,none⟩) (l++[x]).length cap')):=by
 have hz:W.heap.size<=W1.heap.size:=hE.size;have hz0:=o.size;obtain ⟨v',w2,hr,hO,hgr,hv⟩:=sf dO W1 (hR.ext hE) (by omega) x hl;obtain ⟨g',cap',rfl,hgb⟩:∃g' cap',v'=.slice (some ⟨g',0,none⟩) (l++[x]).length cap'/\base<=g':=by
  rcases hO.cases with⟨_,h⟩|⟨g',cap',_,h,h2,_⟩
  ·simp at h
  ·exact⟨g',cap',h,h2⟩
 have hn:g≠b9:=fun e=>eH hR h9 (by decide) (by rw[<-e];rfl)
 have NX:base<=g/\g<W.heap.size:=hR.lt rfl;have o1:Only [g] W1 w2:=(Only.gS _ _ _).then (Only.of_grownBy hgr (fun y hy=>by
  have:g=y:=by injection hy
  rw [this];exact List.mem_singleton.2 rfl))
 have Eu:=o1.has (h9.ext hE) (fun hm=>hn (List.mem_singleton.1 hm).symm);obtain ⟨cs,fr,MO⟩:=hR.tag (g:=g) rfl;have o2:Only [b9] w2 (w2.setCell ⟨b9,0,none⟩ (.slice (some ⟨g',0,none⟩) (l++[x]).length cap')):=Only.setCell _ _ _ _;have h93:Has (w2.setCell ⟨b9,0,none⟩ (.slice (some ⟨g',0,none⟩) (l++[x]).length cap')) b9 (.cells #[.slice (some ⟨g',0,none⟩) (l++[x]).length cap'] 116):=Has.setCell Eu 0 _;have hn':g'≠b9:=fun e=>eH hO Eu (by decide) (by rw[<-e];rfl)
 have Oo:=hO.only o2 (fun y hy hm=>by
  have:g'=y:=by injection hy
  exact hn' (this.trans (List.mem_singleton.1 hm)))
 obtain⟨W',hW'⟩:=ar (w2.setCell ⟨b9,0,none⟩ (.slice (some ⟨g',0,none⟩) (l++[x]).length cap'));rw [<-hW']at o2 h93 Oo;have oA:Only [g,b9] W W':=((Only.aw hE).then (o1.mono (fun y hy=>by rw[List.mem_singleton]at hy;rw[hy];simp))).then (o2.mono (fun y hy=>by rw[List.mem_singleton]at hy;rw[hy];simp));refine ⟨g',cap',w2,hr,Eu,?_⟩;rw [<-hW'];refine ⟨oA.lR (fun y hy=>.inr ?_),oA.below (by omega) (fun y hy=>?_),o.trans oA (fun y hy=>?_),g',cap',h93,Oo,?_⟩
 ·rcases List.mem_cons.1 hy with rfl|hy
  ·exact⟨_,MO,rfl⟩
  ·rw[List.mem_singleton]at hy;subst hy;exact⟨_,h9,rfl⟩
 ·rcases List.mem_cons.1 hy with rfl|hy
  ·exact NX.1
  ·rw[List.mem_singleton]at hy;subst hy;exact tf
 ·rcases List.mem_cons.1 hy with rfl|hy
  ·rcases hg with rfl|hg
   ·exact .inl (by simp)
   ·exact .inr hg
  ·rw[List.mem_singleton]at hy;subst hy;exact .inl (by simp)
 ·rcases hv with hv|hv
  ·have:g'=g:=by injection hv
   rw [this];exact hg
  ·have:g'=W1.heap.size+1:=by injection hv
   right;omega
theorem QN {w:World} {base g cap c2 o:Nat} {l1:List dE} (h:bJ dO w base (.slice (some ⟨g,0,none⟩) l1.length cap) l1) :
  Calls Tryz.prog 41 #[.slice (some ⟨g,o,none⟩) 0 c2] w (fun e w'=>e=.returned (.tuple #[])/\Only [g] w w'/\bJ dO w' base (.slice (some ⟨g,0,none⟩) l1.length cap) l1):=by
 obtain ⟨g',cap',cur,hv,hb,hg,hn,hm,hs,ht⟩:∃g' cap' cur,Value.slice (some ⟨g,0,none⟩) l1.length cap=.slice (some ⟨g',0,none⟩) l1.length cap'/\base<=g'/\Has w g' (.cells cur dO.t)/\l1.length<=cap'/\cap'<=maxLen/\cur.size=cap'*dO.k/\cur.toList.take (l1.length*dO.k)=dO.cells l1:=by
  rcases h.2 with⟨e,_⟩|h2
  ·cases e
  ·exact h2
 injection hv with h1 _ h3;injection h1 with h1;injection h1 with h1;subst h1 h3;have hH:Go.Sort.HoldsK dO.enc 2 w g o (#[]:Array dE):=by
  intro j hj;simp at hj
 have:=Go.Proofs.AnyQ.slices_Reverse FJ 2 Tryz.isAgg115 Tryz.sizeOf115 dO.enc (fun _=>rfl) dO.one g o c2 (#[]:Array dE) w hH (by simp);refine this.mono ?_;rintro e w' ⟨rfl,n,rfl⟩;obtain⟨f,hf⟩:=ar (Go.Sort.putCells id o (Go.Sort.flatK dO.enc 2 (#[]:Array dE).reverse));have hw:Go.Sort.putRowK dO.enc 2 (Go.Sort.ahead w n) g o (#[]:Array dE).reverse=Go.Sort.mapBlock (Go.Sort.ahead w n) g f:=by rw[hf];rfl
 rw [hw];have hfc:f cur=cur:=by
  rw [hf];apply Array.ext_getElem?;intro j;unfold Go.Sort.putCells;rw [Array.getElem?_mapIdx]
  cases cur[j]? with
  | none=>rfl
  | some u =>
   simp only[Option.map_some];rw [if_neg (by simp)]
 have hG:Has (Go.Sort.mapBlock (Go.Sort.ahead w n) g f) g (.cells (f cur) dO.t):=by
  show (w.heap.modify g (Go.Sort.onCells f))[g]?=_;rw [Array.getElem?_modify,if_pos rfl,show w.heap[g]?=some (.cells cur dO.t) from hg];rfl
 rw [hfc]at hG;refine ⟨rfl,⟨rfl,rfl,rfl,?_,fun k _ hk=>?_⟩,dO.iL _,.inr ⟨g,cap,cur,rfl,hb,hG,hn,hm,hs,ht⟩⟩
 ·show w.heap.size<=(w.heap.modify g _).size
  simp
 ·show (w.heap.modify g _)[k]?=_
  rw [Array.getElem?_modify,if_neg (fun e=>hk (by simp[e]))]
theorem UZ (F:Fence) (n:Nat) (hf:F.fn 75) (hro:F.round=none) (hn:1<=n) (Bs n₀ cap:Nat) (A:Option Addr) (es:List ax) (hlen:es.length<=1000000) (w:World) (zw:Bs<w.heap.size) (tE:n₀<=w.heap.size)
  (hc0:w.cell? ⟨Bs,0,none⟩=some (.slice A es.length cap)) (he:oB n₀ w A es) :
  SeqStopsK F n Tryz.prog 75 #[.pointer (some ⟨Bs,0,none⟩)] (fun y:{y:ax // y∈es}=>Jp y.1) (Below n₀) (fun ys=>ys=es.attach) (fun _=>True) es.length w:=by
 intro l J Jx W hW hJa _ hY h0;have zw:=(hW.cell (p:=⟨Bs,0,none⟩) zw).trans hc0;have hc:oB n₀ W A es:=he.below (hW.mono tE);have tE:n₀<=W.heap.size:=by have:=hW.size;omega
 obtain⟨m,hm⟩:=ar es.length;rw [<-hm]at zw hlen;have HM:=zH hm;clear hm hc0 he hW;show CallsIn F n _ _ #[.func (.yield l) #[] #[],.pointer (some ⟨Bs,0,none⟩)] W _;refine callsIn_of_wp Tryz.func75 rfl hf ?_ hro;simp only[Tryz.ntmps75,List.size_toArray,List.length_cons,List.length_nil,Nat.reduceAdd,Nat.reduceSub,Array.replicate_succ,Array.replicate_zero,List.push_toArray,List.append_toArray,List.nil_append,List.cons_append];gi_wp2;gi_loopw [7] (fun i wr=>∃k:Nat,k<=m/\i=.int .i64 k/\J (es.attach.take k) wr/\Below n₀ W wr/\W.heap.size<=wr.heap.size) (fun i _=>m-(intOf i).toNat)
 case atStart=>exact⟨0,Nat.zero_le _,rfl,h0,Below.refl _ _,Nat.le_refl _⟩
 case round =>
  obtain ⟨k,hk,rfl,Wg,NG,hsz⟩:=hrel
  by_cases hlt:k<m
  ·have dq:k<es.length:=by have:=HM.out;omega
   have VI:k<es.attach.length:=by rw[List.length_attach];exact dq
   obtain ⟨b,o,rfl,hb,hcs⟩:∃b o,A=some ⟨b,o,none⟩/\b<n₀/\∀k,(h:k<es.length)->wr.cell? ⟨b,o+k*2,none⟩=some (.string (bs es[k].1))/\wr.cell? ⟨b,o+k*2+1,none⟩=some (.int .i64 es[k].2):=by
    rcases hc.below NG with h|h
    ·rw[h]at dq;simp at dq
    ·exact h
   obtain ⟨ca,cb⟩:=hcs k dq;have lk:Hid (es.attach.take (k+1)=es.attach.take k++[es.attach[k]]):=List.take_succ_eq_append_getElem VI;have hpl:(es.attach.take k).length<es.length:=by rw[List.length_take,List.length_attach];omega
   rw [show es[k]=(es.attach[k]).1 by simp]at ca cb
   generalize es.attach[k]=y at ca cb lk
   obtain ⟨x,hx⟩:=y;dsimp only at ca cb;have OP:J (es.attach.take k) (wr.alloc (.cells #[bs x.1,.int .i64 x.2] 106)):=hJa _ wr _ none Wg (World.grownBy_alloc wr _ none) (fun r e=>by cases e);obtain ⟨fn,tmps,assign,body,hy,hR⟩:=hY _ ⟨x,hx⟩ _ OP hpl
   try dsimp only[Jp]at hy
   clear hcs hpl;gi_wp2;refine hR.mono ?_;rintro e W3 (⟨rfl,Jq,lF⟩|⟨rfl,tF⟩)
   ·gi_wp2
    go_roundw
    case rel=>exact⟨k+1,by omega,by simp,by rw[lk.out];exact Jq,(NG.alloc (by omega) _).trans lF,by have:=lF.size;simp at this;omega⟩
    case measure=>simp[intOf];omega
   ·gi_wp2
    refine bodyPost_ret (results_none rfl _ _ _) rfl ?_;exact ⟨⟨_,rfl⟩,.inr ⟨_,trivial,tF⟩⟩
  ·obtain rfl:k=m:=by omega
   have ht:Hid (es.attach.take k=es.attach):=List.take_of_length_le (by rw[List.length_attach,HM.out];exact Nat.le_refl _);gi_wp2;go_end0;exact ⟨⟨_,rfl⟩,.inl ⟨_,ht.out,Wg⟩⟩
end
section
open Go Go.RowKit
theorem zu {α:Type} {F:Fence} {n:Nat} {P:Program} {g:Operand} {ps:Array Tmp} {assign body:Code} {Q:Exit->Act->World->Prop} {T:Array Value} {ds:List Deferred} {w:World}
  (hro:F.round=none) (h1:1<=n) {gf:Nat} {lb:Array Value} (hg:({tmps:=T,defers:=ds}:Act).eval g=.func (.func gf) #[] lb) (hFg:F.fn gf) (eg:∀args w,(callFunc gf args).run P w=.ok (.enter gf args) w)
  {wC:α->Array Value} {Kp:World->World->Prop} {S Sp:List α->Prop} {N:Nat} {w0:World} (TP:SeqStopsK F (n-1) P gf lb wC Kp S Sp N w0)
  (hKt:∀{A B C:World},Kp A B->Kp B C->Kp A C) (hKb:∀(W:World) (l:Nat) (o o':Obj),w.heap.size<=l->W.heap[l]?=some o->o.isCells=false->o.isWalk=false->Kp W (W.putObj l o')) (gE:Below w0.heap.size w0 w) (Rd:∀x,(wC x).size=ps.size)
  (I:List α->World->Prop) (hI:OwnFrom w.heap.size I) (h0:I [] w) (f:Array Value->α->Array Value)
  (yY:∀(l:Nat) (x:α) (W:World) (K:Act->World->Prop),K {tmps:=f T x,defers:=[]} W ->
   assign.wpIn (F.inRound l) (n-1-1) P (Exit.then K (fun _ _ _=>False)) {tmps:=(ps.zip (wC x)).foldl (fun t (p,v)=>t.setIfInBounds p v) T,defers:=[]} W)
  (LL:∀(l:Nat) (pre:List α) (x:α) (W:World),I pre W->pre.length<N->body.wpIn (F.inRound l) (n-1-1) P (ownPostG w.heap.size Kp I (fun _ _ _=>False) (pre++[x]) W) {tmps:=f T x,defers:=[]} W)
  (j5:∀(D:Nat) (xs:List α) (W:World),w.heap.size<=D->S xs->I xs W->W.heap[D]?=some (.deferred (some []))->Q .normal {tmps:=T,defers:={target:=.collected D,args:=#[]}::ds} W) :
  (Code.rangeFunc g ps assign body).wpIn F n P Q {tmps:=T,defers:=ds} w:=
 wpIn_rangeFunc_ownG hro h1 hg hFg eg TP hKt hKb gE Rd I (fun _ _ _=>False) hI (fun _ _ _ _ _ hs _ _=>hs) h0 (fun x=>{tmps:=f T x,defers:=[]}) yY LL j5 (fun _ _ _ _ _ _ hx _=>hx.elim)
open Go.ChangeShapes Go.WideShapes Go.ChangeAt Go.RowKit
theorem Ev (a b:List UInt8) (w:World) (ha:a.length<=1000000) (hb:b.length<=1000000):Calls Tryz.prog 40 #[bs a,bs b] w (aH w (.string (bs (dd a b)))):=by
 have z0:(bs a).size=a.length:=aU a;have hcl:=uE a;have hf:Hid (dd a b=mr a++47::b):=rfl;obtain⟨C,hC⟩:=ar (mr a);have hTr:Hid (Lib.trimRightB a 47=C):=hC.symm;rw [<-hC]at hcl hf;have z1:(bs C).size=C.length:=aU C;have z2:(bs b).size=b.length:=aU b;have z3:(bs (C++[47])).size=C.length+1:=by rw[aU];simp
 have c1:bs C++(⟨#[47]⟩:ByteArray)=bs (C++[47]):=lA C [47];have c2:bs (C++[47])++bs b=bs (C++47::b):=by rw[lA];simp
 have jZ:¬9223372036854775807<C.length+1:=by omega
 have hb2:¬9223372036854775807<C.length+1+b.length:=by omega
 clear hC;go_enter Tryz.func40,Tryz.ntmps40;go_wp2_with fail;refine (Tryz.strings_TrimRight_one _ 47 (by decide) _ (by omega)).mono ?_;rintro e w1 ⟨rfl,rfl⟩;rw [kV,hTr.out,show (⟨C.toArray⟩:ByteArray)=bs C from rfl];go_wp2_with fail;go_ret;exact aH.mk (sS (by rw[hf.out])) (Ext.refl _)
open Go.ChangeShapes Go.WideShapes Go.ChangeAt Go.RowKit Go.Shelf
attribute [local go_sem] Oper.semAt_some
theorem PS.FL {c : Nat} {w:World} {B b:Nat} {g:bQ} {s:aA} (h:PS w B b g s) (hp:Pl c s) (hc:c<=900) (no:Int) (path:List UInt8) (rows:List qC) (hB:cC s.t [(path,no)] [] rows) (hlen:rows.length<=1000)
    {r:Int->Nat} (hr:pO s.t r) (Zk:jW s.t r (path,no)) :
    Calls Tryz.prog 18 #[.pointer (some ⟨b,0,none⟩),.int .i64 no,bs path] w (fun e w'=>∃v,e=.returned v/\bJ fU w' w.heap.size v rows/\Ext w w'):=by
  refine (callsIn_wide (n:=4)).1 ?_
  refine callsIn_of_wp_marks Tryz.func18 rfl trivial ?_ rfl
  refine wpIn_wide.2 ?_
  simp only[Tryz.ntmps18,List.size_toArray,List.length_cons,List.length_nil,Nat.reduceAdd,Nat.reduceSub,Array.replicate_succ,Array.replicate_zero,List.push_toArray,List.append_toArray,List.nil_append,List.cons_append]
  obtain ⟨_,_,cd,Zl,_⟩:=id h.Tp
  obtain ⟨AP,Zm,Ns⟩:∃A cap,eQ w b g s.now s.count A s.plan.length cap s.dead:=by obtain⟨A,cap,hp⟩:=h;exact⟨A,cap,hp.2.1⟩
  have s0:=Has.cell Ns 0
  have sz:=Has.lt Ns
  have hmm:=@run_makeMap Tryz.prog
  obtain ⟨W1,b_⟩:∃W,W=((w.alloc (.map #[] 0)).alloc (.cells #[bs path,.int .i64 no] 115)).alloc (.cells #[.slice (some ⟨w.heap.size+1,0,none⟩) 1 1] 116):=⟨_,rfl⟩
  obtain ⟨bM,OT⟩:∃x,x=w.heap.size:=⟨_,rfl⟩
  obtain ⟨b0,gE⟩:∃x,x=w.heap.size+1:=⟨_,rfl⟩
  obtain ⟨b9,tf⟩:∃x,x=w.heap.size+1+1:=⟨_,rfl⟩
  go_upto_region 6 with fail
  rw [<-tf,<-gE,<-OT]
  rw [<-gE]at b_
  rw [<-b_]
  have hws:W1.heap.size=w.heap.size+3:=by rw[b_];simp
  have E1:Ext w W1:=by rw[b_];exact (((Ext.refl _).alloc _).alloc _).alloc _
  have M1:Has W1 bM (.map #[] 0):=by
    rw [b_,OT]
    exact ((Has.new w _).alloc _).alloc _
  have X1:Has W1 b0 (.cells #[bs path,.int .i64 no] 115):=by
    rw [b_,gE]
    have:=Has.new (w.alloc (.map #[] 0)) (.cells #[bs path,.int .i64 no] 115)
    rw [World.size_alloc]at this
    exact this.alloc _
  have B1:Has W1 b9 (.cells #[.slice (some ⟨b0,0,none⟩) 1 1] 116):=by
    rw [b_,tf]
    have:=Has.new ((w.alloc (.map #[] 0)).alloc (.cells #[bs path,.int .i64 no] 115)) (.cells #[.slice (some ⟨b0,0,none⟩) 1 1] 116)
    rw [World.size_alloc,World.size_alloc]at this
    exact this
  have l1:w.heap.size<=bM:=by omega
  have l2:w.heap.size<=b0:=by omega
  have l3:w.heap.size<=b9:=by omega
  have O1:bJ dO W1 w.heap.size (.slice (some ⟨b0,0,none⟩) 1 1) [(path,no)]:=⟨rfl,.inr ⟨b0,1,_,rfl,l2,X1,Nat.le_refl _,by decide,rfl,rfl⟩⟩
  have HB:=zH hB
  have YJ:=zH Zk
  have HP:=zH hp
  have HR:=zH hr
  have Uy:=zH hlen
  have HH:=zH h
  clear hmm b_ OT gE tf Zl Ns s0 sz X1 hB Zk hp hr hlen h
  refine wp_loop_ghost_k (fun m a' wr=>∃(u1 u2 u3 u4 u5 u6 u7 u10 u11 u12 u13 u14 u15 u16 u17 u18 u19 u20 u21 u22 u23 u24 u25 u26 u27 u28 u29 u30 u31 u32 u33 u34 u35 u36 u37 u38 u39 u40 u41 u42 u43 u44 u45 u46 u47 u48 u49 u50 u51 u52 u53 u54 u55 u56 u57 u58 u59 u60 u61 u62 u63 u64 u65 u66 u67 u68 u69 u70 u71 u72 u73 u74 u75 u76 u77 u78 u79 u80 u81 u82 u83 u84 u85 u86 u87 u88 u89 u90 u91 u92 u93 u94 u95 u96 u97 u98 u99 u100 u101 u102 u103 u104 u105 u106 u107 u108 u109 u110 u111 u112 u113 u114 u115 u116 u117 u118 u119 u120 u121 u122 u123 u124:Value) (ds:List Deferred),(∃(l0:List qC) (aC:List Int) (t:List dE) (M:List (Int×Int)) (es:Array MapEntry) (cl gt cap:Nat) (Ds:List Nat),ds=marks Ds/\jB wr w.heap.size Ds/\Ext w wr/\Has wr b9 (.cells #[.slice (some ⟨gt,0,none⟩) t.length cap] 116)/\bJ dO wr w.heap.size (.slice (some ⟨gt,0,none⟩) t.reverse.length cap) t.reverse/\bJ fU wr w.heap.size u7 l0/\Has wr bM (.map es cl)/\jY es.toList M/\pq M aC/\l0.length=aC.length/\t.length<=1+aC.length*1000/\(∀x∈t,jW s.t r x)/\m=wG s.t r c t/\∃l1,cC s.t t aC l1/\rows=l0++l1)/\a'={tmps:=#[.pointer (some ⟨b,0,none⟩),u1,u2,u3,u4,u5,u6,u7,.map (some bM),.pointer (some ⟨b9,0,none⟩),u10,u11,u12,u13,u14,u15,u16,u17,u18,u19,u20,u21,u22,u23,u24,u25,u26,u27,u28,u29,u30,u31,u32,u33,u34,u35,u36,u37,u38,u39,u40,u41,u42,u43,u44,u45,u46,u47,u48,u49,u50,u51,u52,u53,u54,u55,u56,u57,u58,u59,u60,u61,u62,u63,u64,u65,u66,u67,u68,u69,u70,u71,u72,u73,u74,u75,u76,u77,u78,u79,u80,u81,u82,u83,u84,u85,u86,u87,u88,u89,u90,u91,u92,u93,u94,u95,u96,u97,u98,u99,u100,u101,u102,u103,u104,u105,u106,u107,u108,u109,u110,u111,u112,u113,u114,u115,u116,u117,u118,u119,u120,u121,u122,u123,u124],defers:=ds}) (wG s.t r c [(path,no)]) ?_ ?_
  · (repeat apply Exists.intro)
    refine ⟨?_,rfl⟩
    exact ⟨[],[],[(path,no)],[],#[],0,b0,1,[],rfl,⟨List.nodup_nil,fun D hD=>by cases hD⟩,E1,B1,O1,bJ.nil _ _ _,M1,⟨rfl,fun k hk=>absurd hk (Nat.not_lt_zero _)⟩,pq.nil,rfl,by simp,fun x hx=>by rw[List.mem_singleton]at hx;subst hx;exact YJ.out,rfl,rows,HB.out,rfl⟩
  intro gk _ wr hinv
  iterate 6 obtain⟨_,hinv⟩:=hinv
  obtain ⟨u7,hinv⟩:=hinv
  iterate 115 obtain⟨_,hinv⟩:=hinv
  obtain ⟨ds,hrel,ha⟩:=hinv
  subst ha
  try dsimp only
  intro _ _ _ _
  obtain ⟨l0,aC,t,M,es,cl,gt,cap,Ds,rfl,hM,hE,h9,hX,hO,hm,VZ,hf,IZ,pW,RR,hgk,l1',Qp,nC⟩:=hrel
  clear E1 B1 O1 M1 HB YJ
  obtain⟨V,hV⟩:=ar wr
  subst hV
  have hn0:aC.length<=1000:=by have:=Uy.out;rw[nC,List.length_append]at this;omega
  have Zn:=h9.cell 0
  have b9z:=h9.lt
  simp only[gA,gB]at Zn
  cases t with
  | nil =>
    have hf:Hid (rows=l0):=by show _=_;cases Qp;rw[nC,List.append_nil]
    have HO:=zH hO
    have HE:=zH hE
    have HM:=zH hM
    clear pW hM hE h9 hX hO hm VZ IZ RR hgk Qp nC hn0
    simp only[List.length_nil]at Zn
    go_wp2_with fail
    refine qy Ds _ HM.out (fun w' o=>⟨by simp[results,Tryz.results18,go_sem],u7,rfl,?_,o.after HE.out (fun D hD=>(HM.out.2 D hD).1)⟩)
    rw [hf.out]
    exact HO.out.only o (fun g hg hm=>by obtain⟨cs,fr,e⟩:=HO.out.tag hg;exact HM.out.mw e hm)
  | cons x t' =>
    obtain⟨T',yZ⟩:=ar t'.length
    have hT1:T'<=1001000:=by rw[List.length_cons]at pW;omega
    rw [List.reverse_cons]at hX
    have TU:(t'.reverse++[x]).length=T'+1:=by rw[List.length_append,List.length_reverse,yZ];rfl
    have hlc:(x::t').length=T'+1:=by rw[yZ];rfl
    rw [hlc]at Zn pW h9
    obtain ⟨_,_,cur,hv,XV,LZ,sb,tD,hcell⟩:∃gr cap' cur,Value.slice (some ⟨gt,0,none⟩) (t'.reverse++[x]).length cap=.slice (some ⟨gr,0,none⟩) (t'.reverse++[x]).length cap'/\w.heap.size<=gr/\Has V gr (.cells cur dO.t)/\(t'.reverse++[x]).length<=cap'/\cap'<=maxLen/\∀i,(h:i<(t'.reverse++[x]).length)->∀j,j<dO.k->V.cell? ⟨gr,i*dO.k+j,none⟩=(dO.enc (t'.reverse++[x])[i])[j]?:=by
      rcases hX.cases with⟨h1,_⟩|h2
      · cases h1
      · exact h2
    injection hv with ut _ hv3
    injection ut with ut
    injection ut with ut
    subst ut hv3
    have lN:∀h,(t'.reverse++[x])[T']'h=x:=fun h=>by
      rw [List.getElem_append_right (by rw[List.length_reverse,yZ];exact Nat.le_refl _)]
      simp [yZ]
    have hq:∀j,j<2->V.cell? ⟨gt,T'*2+j,none⟩=(dO.enc x)[j]?:=fun j hj=>(hcell T' (by rw[TU];omega) j hj).trans (by rw[lN])
    have q0:V.cell? ⟨gt,T'*2,none⟩=some (.string (bs x.1)):=hq 0 (by decide)
    have q1:V.cell? ⟨gt,T'*2+1,none⟩=some (.int .i64 x.2):=hq 1 (by decide)
    have qz:=LZ.lt
    have HQZ:=zH qz
    rw [TU]at sb
    have Ta:T'+1<=cap:=sb
    have Du:IntKind.i64.wrap (T':Int)=(T':Int):=IntWalk.i64_in _ (by omega)
    have VM:IntKind.i64.wrap ((T':Int)+1-1)=(T':Int):=by rw[IntWalk.i64_in _ (by omega)];omega
    have p0:(0:Int)<=(T':Int):=Int.natCast_nonneg _
    obtain ⟨W4,fN⟩:∃W,W=V.alloc (.cells #[bs x.1,.int .i64 x.2] 115):=⟨_,rfl⟩
    obtain ⟨iU,iW⟩:∃b,b=V.heap.size:=⟨_,rfl⟩
    have E4:Ext V W4:=by rw[fN];exact (Ext.refl _).alloc _
    have X4:Has W4 iU (.cells #[bs x.1,.int .i64 x.2] 115):=by rw[fN,iW];exact Has.new _ _
    have H9:=zH h9
    have HX:=zH hX
    have HO:=zH hO
    have HMP:=zH hm
    have HMI:=zH VZ
    have HF:=zH hf
    have yX:=zH IZ
    have HTL:=zH pW
    have IJ:=zH RR
    have HGK:=zH hgk
    have Qr:=zH Qp
    have Ox:=zH nC
    have HE:=zH hE
    have HM:=zH hM
    have Cz:=zH yZ
    have abV:V.heap.size<=iU:=by omega
    clear h9 hX hO hm VZ hf IZ pW RR hgk Qp nC hE hM yZ TU hlc sb hcell hq lN LZ tD
    go_upto_region 8 with fail
    rw [<-fN,<-iW]
    have hne:iU≠b9:=by omega
    have b94:=(E4.cell b9z).trans Zn
    have abG:b9<W4.heap.size:=by have:=E4.size;omega
    have abH:=(H9.out.ext E4).free 0
    obtain ⟨W5,kL⟩:∃W,W=W4.setCell ⟨b9,0,none⟩ (.slice (some ⟨gt,0,none⟩) T' cap):=⟨_,rfl⟩
    have O5:Only [b9] W4 W5:=by rw[kL];exact Only.setCell _ _ _ _
    have Zo:∀y,y≠b9->y∉[b9]:=fun y h hm=>h (by simpa using hm)
    have H95:Has W5 b9 (.cells #[.slice (some ⟨gt,0,none⟩) T' cap] 116):=by rw[kL];exact Has.setCell (H9.out.ext E4) 0 _
    have X5:Has W5 iU (.cells #[bs x.1,.int .i64 x.2] 115):=O5.has X4 (Zo _ hne)
    have O5s:Hid (V.heap.size<=W5.heap.size):=zH (Nat.le_trans E4.size O5.size)
    have E5:Ext w W5:=O5.after (HE.out.trans E4) (fun y hy=>by rw[List.mem_singleton]at hy;subst hy;exact l3)
    have LA:=HX.out.pop.ext E4
    have RM:=zH (LA.only O5 (fun y hy=>Zo _ (fun e=>eH LA (H9.out.ext E4) (by decide) (by rw[hy,e]))))
    have OA:=HO.out.ext E4
    have FB:=zH (OA.only O5 (fun y hy=>Zo _ (fun e=>eH OA (H9.out.ext E4) (by decide) (by rw[hy,e]))))
    have HM4:=HM.out.ext E4
    have HM5:=zH (HM4.only O5 (fun D hD=>Zo _ (fun e=>HM4.mw (H9.out.ext E4) (by rw[<-e];exact hD))))
    have Zp:=zH (O5.has (HMP.out.ext E4) (Zo _ (fun e=>fJ (H9.out.ext E4) (HMP.out.ext E4) e.symm)))
    obtain⟨X,hX⟩:=ar (ak s.t.af x.2)
    have KO:Hid (∀u,Ext W5 u->Calls Tryz.prog 38 #[.pointer (some ⟨g.bW,0,none⟩),.int .i64 x.2] u (aH u (.int .i64 X))):=by
      show ∀_,_
      intro u hu
      rw [hX]
      exact gH B g s.t x.2 u (HH.out.Tp.ext (E5.trans hu)) HP.out.dL.eE.af (by have:=HP.out.dL.eE.eight;omega)
    obtain ⟨A,q,ok,KG⟩:=tW B g s.t X w HH.out.Tp
    have KG:∀u,Ext W5 u->Calls Tryz.prog 17 #[.pointer (some ⟨g.bT,0,none⟩),.int .i64 X] u (aH u (.tuple #[.agg #[.int .i64 (aa s.t.nodes X).no,.int .i64 (aa s.t.nodes X).dev,.int .i64 (aa s.t.nodes X).kind,.int .i64 (aa s.t.nodes X).mode,.int .i64 (aa s.t.nodes X).uid,.int .i64 (aa s.t.nodes X).gid,.int .i64 (aa s.t.nodes X).mtime,.int .i64 (aa s.t.nodes X).ctime,.int .i64 (aa s.t.nodes X).ah,.int .i64 (aa s.t.nodes X).up,.string (bs (aa s.t.nodes X).data),.slice A (aa s.t.nodes X).ae.length q],.bool (aQ s.t.nodes X)])):=fun u hu=>KG u (E5.trans hu)
    obtain⟨n,hn⟩:=ar (aa s.t.nodes X)
    obtain ⟨bI,hbI⟩:∃x,x=aQ s.t.nodes X:=⟨_,rfl⟩
    rw [<-hn]at ok
    rw [<-hn,<-hbI]at KG
    have HKG:=zH KG
    have HN:=zH hn
    have HBI:=zH hbI
    have HX:=zH hX
    have HOK:=zH ok
    have PS5:=HH.out.ext E5
    obtain ⟨_,_,cd,Zl,_⟩:=id PS5.Tp
    obtain ⟨AP,Zm,Ns⟩:∃A cap,eQ W5 b g s.now s.count A s.plan.length cap s.dead:=by obtain⟨A,cap,hp⟩:=PS5;exact⟨A,cap,hp.2.1⟩
    have u0:∀u:Gr W5,u.w.cell? ⟨b,0,none⟩=some (.pointer (some ⟨g.bW,0,none⟩)):=Gr.cell (Has.lt Ns) (Has.cell Ns 0)
    have v0:∀u:Gr W5,u.w.cell? ⟨g.bW,0,none⟩=some (.pointer (some ⟨g.bT,0,none⟩)):=Gr.cell Zl.lt (Zl.cell 0)
    have x1:∀u:Gr W5,u.w.cell? ⟨iU,1,none⟩=some (.int .i64 x.2):=Gr.cell X5.lt (X5.cell 1)
    have Zq:=zH H95
    have Sg:=zH X5
    have HE5:=zH E5
    clear fN iW Zn b9z E4 X4 q0 q1 qz hX hn hbI KG ok PS5 Zl Ns O5 LA OA HM4 H95 X5 E5
    go_upto_region 9 with fail
    rw [<-kL]
    clear kL b94 abG abH Ta VM
    refine ng W5 18 19 11 62 n A q _ _ (by kernel_rfl) (by kernel_rfl) rfl rfl rfl rfl (by simp) ((Ext.refl _).drew) ?_
    simp only[List.take_succ_cons,List.take_zero,List.drop_succ_cons,List.drop_zero,List.drop_nil]
    repeat (refine dv (fun K hK=>?_)
            go_simp
            first
              | (refine hK _ ?_;clear hK K)
              | (apply Exists.intro
                 refine ⟨fun u=>?_,hK _ ?_⟩
                 first
                   | ((with_reducible refine (KO.out _ u.h).mono ?_);rintro e w'' ⟨rfl,hx⟩;exact⟨rfl,hx⟩)
                   | ((with_reducible refine (HKG.out _ u.h).mono ?_);rintro e w'' ⟨rfl,hx⟩;exact⟨rfl,hx⟩)
                 clear hK K))
    refine bP ?_
    refine bP ⟨rfl,?_⟩
    refine dv (fun K hK=>?_)
    go_simp
    refine hK _ ?_
    clear hK K
    refine bP ?_
    intro W6 f_ E6 wo N6
    simp only[Act.put]
    have H96:=zH (Zq.out.ext E6)
    have X6:=zH (Sg.out.ext E6)
    have zI:=zH (RM.out.ext E6)
    have HJ:=zH (FB.out.ext E6)
    have HM6:=zH (HM5.out.ext E6)
    have sQ:=zH (Zp.out.ext E6)
    have NN:=zH (HE5.out.trans E6)
    have Zr:=zH N6
    have HV6:Hid (V.heap.size<=W6.heap.size):=zH (Nat.le_trans O5s.out E6.size)
    clear Zq Sg RM FB HM5 Zp HE5 N6 E6
    cases hI:bI with
    | false =>
      obtain ⟨oZ⟩:Nonempty (cC s.t t' aC l1'):=by
        have h0:=Qr.out
        cases h0 with
        | none _ h=>exact⟨h⟩
        | step h _=>rw[<-HX.out,<-HBI.out,hI]at h;cases h
      have I8:=zH oZ
      clear oZ
      subst hI
      go_wp2_with fail
      go_roundg (wG s.t r c t')
      case measure =>
        rw [HGK.out]
        have:=pg s.t r c (ak s.t.af x.2)
        unfold wG
        rw [List.map_cons,List.sum_cons]
        omega
      case rel=>exact⟨l0,aC,t',M,es,cl,gt,cap,Ds,rfl,HM6.out,NN.out,by have:=H96.out;rw[Cz.out]at this;exact this,zI.out,HJ.out,sQ.out,HMI.out,HF.out,yX.out,by have:=HTL.out;have:=Cz.out;omega,fun y hy=>IJ.out y (List.mem_cons_of_mem _ hy),rfl,l1',I8.out,Ox.out⟩
    | true =>
      have hi:aQ s.t.nodes X=true:=by rw[<-HBI.out];exact hI
      have bc:n.no=X:=by rw[HN.out];exact (aj hi).2.1
      obtain ⟨l2,rO,oZ⟩:∃l2,l1'=pk s.t aC x::l2/\cC s.t (cy s.t x++t') (aC++[X]) l2:=by
        have h0:=Qr.out
        cases h0 with
        | none h _=>rw[<-HX.out,hi]at h;cases h
        | step _ h=>exact⟨_,rfl,by rw[HX.out];exact h⟩
      obtain ⟨bm,hbm⟩:∃b,b=decide (X∈aC):=⟨_,rfl⟩
      obtain ⟨k0,Cw⟩:∃k,k=ap M X:=⟨_,rfl⟩
      have hl:=QL sQ.out HMI.out HF.out X
      rw [<-Cw,<-hbm,<-bc]at hl
      have HBM:=zH hbm
      have R7:=zH Cw
      have sC:=zH bc
      have TW:=zH rO
      have I8:=zH oZ
      have HI:=zH hi
      clear hbm Cw bc rO oZ hi
      subst hI
      have n0:=Zr.out.dS.1
      have n0z:=Zr.out.lt
      obtain ⟨Ao,Qq,rfl,Nt,_,_,_⟩:=HJ.out.at_
      obtain ⟨nl,lJ⟩:∃k,k=l0.length:=⟨_,rfl⟩
      rw [<-lJ]at HJ Nt|-
      have UB:=zH lJ
      have HCO:=zH Nt
      clear lJ Nt
      go_upto_if 74 with fail
      go_cut [13,14] from 32 to 80 (fun v _ wc=>v=.int .i64 ((ft aC X:Nat):Int)/\Only [bM] W6 wc/\∃(M':List (Int×Int)) (es':Array MapEntry) (Ct:Nat),Has wc bM (.map es' Ct)/\jY es'.toList M'/\pq M' (aC++[X]))
      case first =>
        cases bm with
        | true =>
          have hx:=zH (of_decide_eq_true HBM.out.symm)
          go_wp2_with fail
          go_meet
          exact ⟨by rw[HF.out.row,if_pos hx.out,<-R7.out],Only.refl _ _,M,es,cl,sQ.out,HMI.out,HF.out.old hx.out⟩
        | false =>
          have hx:=zH (of_decide_eq_false HBM.out.symm)
          obtain ⟨es',Ct,hr,VZ⟩:=Nr sQ.out HMI.out HF.out hx.out (nl:Int)
          rw [<-sC.out]at hr
          have abI:=zH VZ
          clear VZ
          go_wp2_with fail
          go_meet
          exact ⟨by rw[HF.out.row,if_neg hx.out,UB.out,yX.out],Only.js _ _ _,_,es',Ct,Has.js _ sQ.out.lt,abI.out,by have:=HF.out.new hx.out;rw[<-yX.out,<-UB.out,<-sC.out]at this;rw[<-sC.out];exact this⟩
      case rest =>
        obtain ⟨rfl,OC,M',es',Ct,HMc,Zs,HFc⟩:=hcut
        obtain ⟨W7,Iw⟩:∃W,W=wc:=⟨_,rfl⟩
        subst Iw
        have nb:∀y,y≠bM->y∉[bM]:=fun y h hm=>h (by simpa using hm)
        have H97:=OC.has H96.out (nb _ (fJ H96.out sQ.out))
        have X7:=OC.has X6.out (nb _ (fJ X6.out sQ.out))
        have N7:=OC.has Zr.out (nb _ (fJ Zr.out sQ.out))
        have H2:=HJ.out.only OC (fun y hy=>nb _ (fun e=>kr HJ.out sQ.out (by rw[hy,e])))
        have Ya:=zI.out.only OC (fun y hy=>nb _ (fun e=>kr zI.out sQ.out (by rw[hy,e])))
        have HM7:=HM6.out.only OC (fun D hD=>nb _ (fun e=>HM6.out.Zj sQ.out (by rw[<-e];exact hD)))
        have E7:Ext w W7:=OC.after NN.out (fun y hy=>by rw[List.mem_singleton]at hy;subst hy;exact l1)
        have HV7:Hid (V.heap.size<=W7.heap.size):=zH (Nat.le_trans HV6.out OC.size)
        obtain ⟨row,hrow⟩:∃r,r=pk s.t aC x:=⟨_,rfl⟩
        obtain ⟨fi,hfi⟩:∃i:Int,i=((ft aC X:Nat):Int):=⟨_,rfl⟩
        have rY:row=⟨x.1,n.kind,n.mode,n.uid,n.gid,n.mtime,n.ctime,n.dev,fi,n.data⟩:=by
          rw [hrow,hfi]
          unfold pk
          rw [<-HX.out,<-HN.out]
          dsimp only
          rw [sC.out]
        rw [<-hfi]
        obtain ⟨v8,w8,RT,MP,Oy,_⟩:=sf fU W7 H2 E7.size ⟨x.1,n.kind,n.mode,n.uid,n.gid,n.mtime,n.ctime,n.dev,fi,n.data⟩ (by have:=UB.out;have:=yX.out;omega)
        rw [<-rY]at MP
        have E8:Ext w w8:=(E7.alloc _).grown Oy (fun g hv=>(H2.lt hv).1)
        have O8:Only (Value.slice Ao nl Qq).ownBlock.toList W7 w8:=(Only.gS _ _ _).then (Only.of_grownBy Oy (fun g hv=>Option.mem_toList.2 hv))
        have N8:=O8.has N7 (H2.ny N7 (by decide))
        have X8:=O8.has X7 (H2.ny X7 (by decide))
        have H98:=O8.has H97 (H2.ny H97 (by decide))
        have RU:=Ya.only O8 (fun g hv hm=>Ya.apart H2 (by decide) g hv hm)
        have HM8:=HM7.only O8 (fun D hD hm=>by obtain⟨cs,fr,e⟩:=H2.tag (Option.mem_toList.1 hm);exact HM7.mw e hD)
        have QO:=O8.has HMc (fun hm=>kr H2 HMc (Option.mem_toList.1 hm))
        have VT:=zH RT
        have xP:=zH MP
        have UC:=zH N8
        have Zt:=zH X8
        have Nu:=zH H98
        have RU:=zH RU
        have HM8:=zH HM8
        have QO:=zH QO
        have Zu:=zH Zs
        have HF8:=zH HFc
        have zL:=zH E8
        have I6:Hid (V.heap.size<=w8.heap.size):=zH (Nat.le_trans HV7.out O8.size)
        have Qt:=zH hrow
        obtain ⟨n0,n1,n2,n3,n4,n5,n6,n7,n8,n9,Dk,AU⟩:=N7.dS
        have nz:=N7.lt
        have y0:=X7.cell 0
        have yz:=X7.lt
        simp only[gA,gB]at y0
        clear H96 X6 zI HM6 sQ NN Zr HJ HKG KO RT MP N8 X8 H98 E8 Zs HFc hrow rY hfi H2 Ya HM7 H97 N7 X7 E7 O8 OC HMc nb Oy AU hl n0z
        go_upto_region 16 with (at_builtin;refine Lib.wpList_append_run _ rfl _ _ 71 71 rfl _ _ rfl rfl _ _ VT.out ?_)
        clear n0 n1 n2 n3 n4 n5 n6 n7 n8 n9 Dk nz y0 yz
        have c9:=Nu.out.cell 0
        have c9z:=Nu.out.lt
        simp only[gA,gB]at c9
        have c11:w8.cell? ⟨f_,11,none⟩=some (.slice A n.ae.length q):=UC.out.dS.2.2.2.2.2.2.2.2.2.2.2
        have abJ:=UC.out.lt
        have KA:Hid (∀u,Calls Tryz.prog 39 #[.slice A n.ae.length q] u (fun e w'=>e=.returned (.func (.func 75) #[] #[.pointer (some ⟨u.heap.size,0,none⟩)])/\w'=u.alloc (.cells #[.slice A n.ae.length q] 56))):=fun u=>(callsIn_wide (n:=4)).1 (Jr Fence.wide 4 trivial rfl A n.ae.length q u)
        go_upto_region 17 with fail
        go_upto_block 2 with (go_at_call 39;refine (KA.out _).mono ?_;rintro e w9 ⟨rfl,rfl⟩)
        obtain ⟨W0,bg⟩:∃W,W=w8.alloc (.cells #[.slice A n.ae.length q] 56):=⟨_,rfl⟩
        obtain ⟨bS,Zv⟩:∃x,x=w8.heap.size:=⟨_,rfl⟩
        rw [<-bg,<-Zv]
        have E0:Ext w8 W0:=by rw[bg];exact (Ext.refl _).alloc _
        have S0:Has W0 bS (.cells #[.slice A n.ae.length q] 56):=by rw[bg,Zv];exact Has.new _ _
        have acy:V.heap.size<=bS:=by rw[Zv];exact I6.out
        have EW0:Ext w W0:=zL.out.trans E0
        have VO:w.heap.size<=W0.heap.size:=EW0.size
        have heb:oB w.heap.size W0 A n.ae:=oB.below (n₀:=w.heap.size) HOK.out.ae.ae EW0
        have De:n.ae.length<=1000:=by rw[HN.out];have:=HP.out.dL.eE.small _ (aj HI.out).2.2;omega
        have hpx:x.1.length<=1000000:=by
          have h1:=(IJ.out x (List.mem_cons_self ..)).1
          have h2:=HP.out.dL.eE.count
          have h3:=HP.out.dL.last
          omega
        have gY:∀y∈n.ae,y.1.length<=1000000:=fun y hy=>by
          rw [HN.out]at hy
          have:=(HP.out.dL.eE.names _ (aj HI.out).2.2 y hy).2;omega
        have I0:mE W0 w.heap.size b9 gt (t'.reverse++([]:List {y:ax // y∈n.ae}).map fun y=>(dd x.1 y.1.1,y.1.2)) W0:=by
          rw [List.map_nil,List.append_nil]
          refine ⟨Only.refl _ _,gt,cap,?_,RU.out.ext E0,.inl rfl⟩
          have:=Nu.out.ext E0
          rw [Cz.out,<-List.length_reverse]at this
          exact this
        have S9:=zH (Nu.out.ext E0)
        have se:=zH (RU.out.ext E0)
        have XB:=zH (Zt.out.ext E0)
        have XN:=zH (UC.out.ext E0)
        have OR:=zH (xP.out.ext E0)
        have MK:=zH (HM8.out.ext E0)
        have MM:=zH (QO.out.ext E0)
        have Ux:=zH EW0
        have HHB:Hid (W0.heap.size=bS+1):=zH (by rw[bg,Zv];simp)
        clear bg Zv c9 c9z c11 abJ KA Zt UC xP HM8 QO zL VT Nu RU E0
        refine (wpIn_wide (n:=4)).1 ?_
        gi_wp2
        refine zu (w0:=W0) rfl (by omega) (gf:=75) (lb:=#[.pointer (some ⟨bS,0,none⟩)]) rfl trivial (enters_of Tryz.func75 (by kernel_rfl) rfl)
          (UZ Fence.wide (4-1) trivial rfl (by omega) bS w.heap.size q A n.ae (by omega) W0 S0.lt VO (S0.cell 0) heb) belowK_t (belowK_b VO) (Below.refl _ _) (fun _=>rfl)
          (fun (pre:List {y:ax // y∈n.ae}) W=>mE W0 w.heap.size b9 gt (t'.reverse++pre.map fun y=>(dd x.1 y.1.1,y.1.2)) W)
          (II W0 _ _ _ (fun (pre:List {y:ax // y∈n.ae})=>t'.reverse++pre.map fun y=>(dd x.1 y.1.1,y.1.2))) I0
          (fun T (y:{y:ax // y∈n.ae})=>(((T.setIfInBounds 109 (.string (bs y.1.1))).setIfInBounds 110 (.int .i64 y.1.2)).setIfInBounds 16 (.string (bs y.1.1))).setIfInBounds 17 (.int .i64 y.1.2)) ?assign ?body ?done
        case assign =>
          intro l y W K hK
          gi_wp2
          simpa only[List.setIfInBounds_toArray,List.set_cons_succ,List.set_cons_zero]using hK
        case body =>
          intro l pre y W hI hpl
          obtain⟨L,hL⟩:=ar (t'.reverse++pre.map fun y=>(dd x.1 y.1.1,y.1.2))
          rw [<-hL]at hI
          obtain ⟨o,g',cap',h9,hR,hg⟩:=hI
          have RI:L.length<=2000000:=by
            rw [hL,List.length_append,List.length_reverse,List.length_map]
            have:=Cz.out;omega
          have XW:=o.has XB.out (fun hm=>by
            rcases List.mem_cons.1 hm with e|hm
            · exact hne e
            · rw[List.mem_singleton]at hm;have:=HQZ.out;omega)
          have hBL:∀k u,CallsIn (Fence.wide.inRound l).plain k Tryz.prog 40 #[bs x.1,bs y.1.1] u (aH u (.string (bs (dd x.1 y.1.1)))):=fun k u=>callsIn_wide.2 (Ev x.1 y.1.1 u hpx (gY _ y.2))
          have NS:Ext W W.drew:=(Ext.refl W).drew
          have c9:W.drew.cell? ⟨b9,0,none⟩=some (.slice (some ⟨g',0,none⟩) L.length cap'):=h9.cell 0
          have c9z:b9<W.drew.heap.size:=h9.lt
          have TI:W.drew.cell? ⟨iU,0,none⟩=some (.string (bs x.1)):=XW.cell 0
          have acz:iU<W.drew.heap.size:=XW.lt
          have HL:=zH hL
          simp only[List.setIfInBounds_toArray,List.set_cons_succ,List.set_cons_zero]
          clear I0 heb S0 gY hL
          gi_wp2
          refine lf (by kernel_rfl) (by kernel_rfl) ?_
          refine wpAnyIn_take (i:=1) (v:=?_) rfl rfl (by kernel_rfl) (by kernel_rfl) (by kernel_rfl) (fun _ _ _ h=>h) ⟨Or.inl ⟨by rfl,?_⟩,fun _=>rfl⟩ ?_
          case refine_2=>intro w;go_simp;rfl
          refine wpAnyIn_take (i:=3) (v:=?_) rfl rfl (by kernel_rfl) (by kernel_rfl) (by kernel_rfl) (fun _ _ _ h=>h) ⟨Or.inl ⟨by rfl,?_⟩,fun _=>rfl⟩ ?_
          case refine_2=>intro w;go_simp;rfl
          refine wpAnyIn_take (i:=5) (v:=?_) rfl rfl (by kernel_rfl) (by kernel_rfl) (by kernel_rfl) (fun _ _ _ h=>h) ⟨Or.inl ⟨by rfl,?_⟩,fun _=>rfl⟩ ?_
          case refine_2=>intro w;go_simp;rfl
          refine wpAnyIn_ready (rs:=[0,2]) (by kernel_rfl) (by simp) ?_
          refine AllReadyIn.cons rfl (fun K hK=>?_) ?_
          · skip
            go_simp
            refine hK _ _ ?_
            clear hK K
            refine wpAnyIn_ready (rs:=[2]) (by kernel_rfl) (by simp) ?_
            refine AllReadyIn.cons rfl (fun K hK=>?_) ?_
            · skip
              go_simp
              refine hK _ _ ?_
              clear hK K
              refine wpAnyIn_ready (rs:=[4]) (by kernel_rfl) (by simp) ?_
              refine AllReadyIn.cons rfl (fun K hK=>?_) ?_
              · skip
                go_simp
                refine ⟨trivial,(hBL _ _).mono ?_⟩
                rintro e wd ⟨rfl,bd⟩
                refine hK _ _ ?_
                clear hK K
                obtain ⟨g2,Ll,w2,hr,Eu,H7,oZ,QP⟩:=mE.step o h9 hR hg VO l3 RI (NS.trans bd) (dd x.1 y.1.1,y.1.2)
                rw [show (L++[(dd x.1 y.1.1,y.1.2)]).length=L.length+1 by rw[List.length_append];rfl]at hr H7 oZ QP
                have d9:=(bd.cell (o:=0) (show b9<W.drew.heap.size from h9.lt)).trans c9
                have d9z:b9<wd.heap.size:=Nat.lt_of_lt_of_le h9.lt (NS.trans bd).size
                have e9:=Eu.cell 0
                have e9z:=Eu.lt
                have e9f:=Eu.free 0
                simp only[gA,gB]at e9
                refine wpAnyIn_take (i:=6) (v:=?_) rfl rfl (by kernel_rfl) (by kernel_rfl) (by kernel_rfl) (fun _ _ _ h=>h) ⟨Or.inl ⟨by rfl,?_⟩,fun _=>rfl⟩ ?_
                case refine_2=>intro w;go_simp;rfl
                refine wpAnyIn_ready (rs:=[7]) (by kernel_rfl) (by simp) ?_
                refine AllReadyIn.cons rfl (fun K hK=>?_) ?_
                · skip
                  go_simp
                  refine hK _ _ ?_
                  clear hK K
                  refine wpAnyIn_ready (rs:=[8]) (by kernel_rfl) (by simp) ?_
                  refine AllReadyIn.cons rfl (fun K hK=>?_) ?_
                  · skip
                    rw [if_pos (by rfl)]
                    refine dG _ _ _ 116 116 rfl _ _ rfl rfl _ _ hr ?_
                    refine hK _ _ ?_
                    clear hK K
                    refine wpAnyIn_ready (rs:=[9]) (by kernel_rfl) (by simp) ?_
                    refine AllReadyIn.cons rfl (fun K hK=>?_) ?_
                    · skip
                      go_simp
                      refine hK _ _ ?_
                      clear hK K
                      refine wpAnyIn_done (by kernel_rfl) ?_ _
                      exact ⟨H7,oZ,by show mE _ _ _ _ (t'.reverse++(pre++[y]).map fun y=>(dd x.1 y.1.1,y.1.2)) _;rw[List.map_append,List.map_cons,List.map_nil,<-List.append_assoc,<-HL.out];exact QP⟩
                    exact AllReadyIn.nil
                  exact AllReadyIn.nil
                exact AllReadyIn.nil
              exact AllReadyIn.nil
            exact AllReadyIn.nil
          refine AllReadyIn.cons rfl (fun K hK=>?_) ?_
          · skip
            go_simp
            refine hK _ _ ?_
            clear hK K
            refine wpAnyIn_ready (rs:=[0,4]) (by kernel_rfl) (by simp) ?_
            refine AllReadyIn.cons rfl (fun K hK=>?_) ?_
            · skip
              go_simp
              refine hK _ _ ?_
              clear hK K
              refine wpAnyIn_ready (rs:=[4]) (by kernel_rfl) (by simp) ?_
              refine AllReadyIn.cons rfl (fun K hK=>?_) ?_
              · skip
                go_simp
                refine ⟨trivial,(hBL _ _).mono ?_⟩
                rintro e wd ⟨rfl,bd⟩
                refine hK _ _ ?_
                clear hK K
                obtain ⟨g2,Ll,w2,hr,Eu,H7,oZ,QP⟩:=mE.step o h9 hR hg VO l3 RI (NS.trans bd) (dd x.1 y.1.1,y.1.2)
                rw [show (L++[(dd x.1 y.1.1,y.1.2)]).length=L.length+1 by rw[List.length_append];rfl]at hr H7 oZ QP
                have d9:=(bd.cell (o:=0) (show b9<W.drew.heap.size from h9.lt)).trans c9
                have d9z:b9<wd.heap.size:=Nat.lt_of_lt_of_le h9.lt (NS.trans bd).size
                have e9:=Eu.cell 0
                have e9z:=Eu.lt
                have e9f:=Eu.free 0
                simp only[gA,gB]at e9
                refine wpAnyIn_take (i:=6) (v:=?_) rfl rfl (by kernel_rfl) (by kernel_rfl) (by kernel_rfl) (fun _ _ _ h=>h) ⟨Or.inl ⟨by rfl,?_⟩,fun _=>rfl⟩ ?_
                case refine_2=>intro w;go_simp;rfl
                refine wpAnyIn_ready (rs:=[7]) (by kernel_rfl) (by simp) ?_
                refine AllReadyIn.cons rfl (fun K hK=>?_) ?_
                · skip
                  go_simp
                  refine hK _ _ ?_
                  clear hK K
                  refine wpAnyIn_ready (rs:=[8]) (by kernel_rfl) (by simp) ?_
                  refine AllReadyIn.cons rfl (fun K hK=>?_) ?_
                  · skip
                    rw [if_pos (by rfl)]
                    refine dG _ _ _ 116 116 rfl _ _ rfl rfl _ _ hr ?_
                    refine hK _ _ ?_
                    clear hK K
                    refine wpAnyIn_ready (rs:=[9]) (by kernel_rfl) (by simp) ?_
                    refine AllReadyIn.cons rfl (fun K hK=>?_) ?_
                    · skip
                      go_simp
                      refine hK _ _ ?_
                      clear hK K
                      refine wpAnyIn_done (by kernel_rfl) ?_ _
                      exact ⟨H7,oZ,by show mE _ _ _ _ (t'.reverse++(pre++[y]).map fun y=>(dd x.1 y.1.1,y.1.2)) _;rw[List.map_append,List.map_cons,List.map_nil,<-List.append_assoc,<-HL.out];exact QP⟩
                    exact AllReadyIn.nil
                  exact AllReadyIn.nil
                exact AllReadyIn.nil
              exact AllReadyIn.nil
            refine AllReadyIn.cons rfl (fun K hK=>?_) ?_
            · skip
              go_simp
              refine ⟨trivial,(hBL _ _).mono ?_⟩
              rintro e wd ⟨rfl,bd⟩
              refine hK _ _ ?_
              clear hK K
              obtain ⟨g2,Ll,w2,hr,Eu,H7,oZ,QP⟩:=mE.step o h9 hR hg VO l3 RI (NS.trans bd) (dd x.1 y.1.1,y.1.2)
              rw [show (L++[(dd x.1 y.1.1,y.1.2)]).length=L.length+1 by rw[List.length_append];rfl]at hr H7 oZ QP
              have d9:=(bd.cell (o:=0) (show b9<W.drew.heap.size from h9.lt)).trans c9
              have d9z:b9<wd.heap.size:=Nat.lt_of_lt_of_le h9.lt (NS.trans bd).size
              have e9:=Eu.cell 0
              have e9z:=Eu.lt
              have e9f:=Eu.free 0
              simp only[gA,gB]at e9
              refine wpAnyIn_take (i:=6) (v:=?_) rfl rfl (by kernel_rfl) (by kernel_rfl) (by kernel_rfl) (fun _ _ _ h=>h) ⟨Or.inl ⟨by rfl,?_⟩,fun _=>rfl⟩ ?_
              case refine_2=>intro w;go_simp;rfl
              refine wpAnyIn_ready (rs:=[0,7]) (by kernel_rfl) (by simp) ?_
              refine AllReadyIn.cons rfl (fun K hK=>?_) ?_
              · skip
                go_simp
                refine hK _ _ ?_
                clear hK K
                refine wpAnyIn_ready (rs:=[7]) (by kernel_rfl) (by simp) ?_
                refine AllReadyIn.cons rfl (fun K hK=>?_) ?_
                · skip
                  go_simp
                  refine hK _ _ ?_
                  clear hK K
                  refine wpAnyIn_ready (rs:=[8]) (by kernel_rfl) (by simp) ?_
                  refine AllReadyIn.cons rfl (fun K hK=>?_) ?_
                  · skip
                    rw [if_pos (by rfl)]
                    refine dG _ _ _ 116 116 rfl _ _ rfl rfl _ _ hr ?_
                    refine hK _ _ ?_
                    clear hK K
                    refine wpAnyIn_ready (rs:=[9]) (by kernel_rfl) (by simp) ?_
                    refine AllReadyIn.cons rfl (fun K hK=>?_) ?_
                    · skip
                      go_simp
                      refine hK _ _ ?_
                      clear hK K
                      refine wpAnyIn_done (by kernel_rfl) ?_ _
                      exact ⟨H7,oZ,by show mE _ _ _ _ (t'.reverse++(pre++[y]).map fun y=>(dd x.1 y.1.1,y.1.2)) _;rw[List.map_append,List.map_cons,List.map_nil,<-List.append_assoc,<-HL.out];exact QP⟩
                    exact AllReadyIn.nil
                  exact AllReadyIn.nil
                exact AllReadyIn.nil
              refine AllReadyIn.cons rfl (fun K hK=>?_) ?_
              · skip
                go_simp
                refine hK _ _ ?_
                clear hK K
                refine wpAnyIn_ready (rs:=[0]) (by kernel_rfl) (by simp) ?_
                refine AllReadyIn.cons rfl (fun K hK=>?_) ?_
                · skip
                  go_simp
                  refine hK _ _ ?_
                  clear hK K
                  refine wpAnyIn_ready (rs:=[8]) (by kernel_rfl) (by simp) ?_
                  refine AllReadyIn.cons rfl (fun K hK=>?_) ?_
                  · skip
                    rw [if_pos (by rfl)]
                    refine dG _ _ _ 116 116 rfl _ _ rfl rfl _ _ hr ?_
                    refine hK _ _ ?_
                    clear hK K
                    refine wpAnyIn_ready (rs:=[9]) (by kernel_rfl) (by simp) ?_
                    refine AllReadyIn.cons rfl (fun K hK=>?_) ?_
                    · skip
                      go_simp
                      refine hK _ _ ?_
                      clear hK K
                      refine wpAnyIn_done (by kernel_rfl) ?_ _
                      exact ⟨H7,oZ,by show mE _ _ _ _ (t'.reverse++(pre++[y]).map fun y=>(dd x.1 y.1.1,y.1.2)) _;rw[List.map_append,List.map_cons,List.map_nil,<-List.append_assoc,<-HL.out];exact QP⟩
                    exact AllReadyIn.nil
                  exact AllReadyIn.nil
                exact AllReadyIn.nil
              exact AllReadyIn.nil
            exact AllReadyIn.nil
          exact AllReadyIn.nil
        case done =>
          rintro D xs W hD rfl hI hK
          have FM:(n.ae.attach.map fun y=>(dd x.1 y.1.1,y.1.2))=cy s.t x:=by
            unfold cy
            rw [<-HX.out,<-HN.out]
            have e1:n.ae.attach.map (fun y=>(dd x.1 y.1.1,y.1.2))=(n.ae.attach.map Subtype.val).map (fun y=>(dd x.1 y.1,y.2)):=by rw[List.map_map];rfl
            rw [e1,List.attach_map_subtype_val]
          rw [FM]at hI
          have dq:(cy s.t x).length<=1000:=by
            unfold cy
            rw [List.length_map,<-HX.out,<-HN.out];exact De
          obtain ⟨KF,UD⟩:∃k,k=cy s.t x:=⟨_,rfl⟩
          rw [<-UD]at hI dq
          obtain ⟨o,g',cap',h9,hR,hg⟩:=hI
          have EW:Ext w W:=o.after Ux.out (fun y hy=>by
            rcases List.mem_cons.1 hy with rfl|hy
            · exact l3
            · rw[List.mem_singleton]at hy;subst hy;exact XV)
          have wI:=se.out.tag (g:=gt) rfl
          have nb:∀y,y≠b9->y≠gt->y∉[b9,gt]:=fun y h1 h2 hm=>by
            rcases List.mem_cons.1 hm with e|hm
            · exact h1 e
            · exact h2 (List.mem_singleton.1 hm)
          have ORW:=OR.out.only o (fun y hy=>nb y (fun e=>eH OR.out S9.out (by decide) (by rw[hy,e])) (fun e=>OR.out.apart se.out (by decide) y hy (Option.mem_toList.2 (by rw[e];rfl))))
          have MKW:=MK.out.only o (fun y hy=>nb y (fun e=>MK.out.mw S9.out (by rw[<-e];exact hy)) (fun e=>by obtain⟨cs,fr,q⟩:=wI;exact MK.out.mw q (by rw[<-e];exact hy)))
          have MMW:=o.has MM.out (nb _ (fJ S9.out MM.out).symm (fun e=>kr se.out MM.out (by rw[e];rfl)))
          have hDs:jB W w.heap.size (D::Ds):=⟨List.nodup_cons.2 ⟨fun hm=>by
            have:=(Array.getElem?_eq_some_iff.1 (MK.out.2 D hm).2).1
            omega,MKW.1⟩,fun y hy=>by
            rcases List.mem_cons.1 hy with rfl|hy
            · exact⟨by omega,hK⟩
            · exact MKW.2 y hy⟩
          have HDS:=zH hDs
          have QQ:=zH ORW
          have QR:=zH MMW
          have Zw:=zH EW
          have sR:=zH hR
          have H9W:=zH h9
          have Ov:=zH UD
          have c9:=h9.cell 0
          have c9z:=h9.lt
          simp only[gA,gB]at c9
          obtain ⟨tl,pW⟩:∃k,k=(t'.reverse++KF).length:=⟨_,rfl⟩
          rw [<-pW]at c9
          have Sr:tl<=cap'/\cap'<=maxLen:=by
            obtain ⟨_,c2,e,q1,q2,_⟩:=hR.at_
            injection e with _ _ e3
            rw [pW,e3];exact⟨q1,q2⟩
          have acA:T'<=tl:=by rw[pW,List.length_append,List.length_reverse,Cz.out];exact Nat.le_add_right _ _
          have abK:=zH pW
          clear hK hDs ORW MKW MMW EW hR h9 UD pW FM wI nb o S9 se OR MK MM Ux
          have hc1:tl<=cap':=Sr.1
          have EB:(T':Int)<=(tl:Int):=by omega
          have hKL:Hid (tl=T'+KF.length):=zH (by rw[abK.out,List.length_append,List.length_reverse,Cz.out])
          have KR1:Hid (Calls Tryz.prog 41 #[.slice (some ⟨g',T'*2,none⟩) (tl-T') (cap'-T')] W (fun e w'=>e=.returned (.tuple #[])/\Only [g'] W w'/\bJ dO w' w.heap.size (.slice (some ⟨g',0,none⟩) (t'.reverse++KF.reverse).length cap') (t'.reverse++KF.reverse))):=by
            have:=QM (c2:=cap'-T') sR.out
            rw [List.length_reverse,<-Cz.out,show KF.length=tl-T' by have:=hKL.out;omega]at this
            exact this
          have KR0:Hid (cap'<=T'->Calls Tryz.prog 41 #[.slice (some ⟨g',0,none⟩) (tl-T') 0] W (fun e w'=>e=.returned (.tuple #[])/\Only [g'] W w'/\bJ dO w' w.heap.size (.slice (some ⟨g',0,none⟩) (t'.reverse++KF.reverse).length cap') (t'.reverse++KF.reverse))):=by
            show _->_
            intro hc
            have e0:KF=[]:=List.eq_nil_of_length_eq_zero (by have:=hKL.out;omega)
            have e1:tl-T'=0:=by have:=hKL.out;rw[e0]at this;simp at this;omega
            have h0:=sR.out
            rw [e0,List.append_nil]at h0
            rw [e1,e0,List.reverse_nil,List.append_nil]
            exact QN (c2:=0) (o:=0) h0
          go_upto_region 21 with fail
          go_wp2_with fail
          · with_reducible refine (KR0.out (by omega)).mono ?_
            rintro e DJ ⟨rfl,OC,RC⟩
            have wI:=sR.out.tag (g:=g') rfl
            have U0:=wI
            have nb:∀y,y≠g'->y∉[g']:=fun y h hm=>h (by simpa using hm)
            have Nv:=zH OC
            have HRC:=zH RC
            have n9:=Nv.out.has H9W.out (nb _ (fun e=>eH sR.out H9W.out (by decide) (by rw[e];rfl)))
            have nR:=QQ.out.only Nv.out (fun y hy=>nb y (fun e=>QQ.out.apart sR.out (by decide) y hy (Option.mem_toList.2 (by rw[e];rfl))))
            have nM:=HDS.out.only Nv.out (fun y hy=>nb y (fun e=>by obtain⟨cs,fr,q⟩:=wI;exact HDS.out.mw q (by rw[<-e];exact hy)))
            have Zx:=Nv.out.has QR.out (nb _ (fun e=>kr sR.out QR.out (by rw[e];rfl)))
            have nE:=Nv.out.after Zw.out (fun y hy=>by rw[List.mem_singleton]at hy;subst hy;exact (sR.out.lt rfl).1)
            have H9N:=zH n9
            have HNR:=zH nR
            have CA:=zH nM
            have U1:=zH Zx
            have VQ:=zH nE
            clear OC RC wI U0 nb n9 nR nM Zx nE
            go_wp2_with fail
            go_roundg (wG s.t r c (cy s.t x++t'))
            case measure =>
              rw [HGK.out]
              have:=tq HP.out.dL.eE HP.out.dL.xo HP.out.dL.kids.up HR.out x
              unfold wG at this|-
              rw [List.map_append,List.sum_append,List.map_cons,List.sum_cons]
              omega
            case rel =>
              have U2:(cy s.t x++t').reverse=t'.reverse++KF.reverse:=by rw[List.reverse_append,Ov.out]
              refine ⟨l0++[row],aC++[X],cy s.t x++t',M',es',Ct,g',cap',D::Ds,rfl,CA.out,VQ.out,?_,?_,HNR.out,U1.out,Zu.out,HF8.out,?_,?_,?_,rfl,l2,I8.out,?_⟩
              · have:=H9N.out
                rw [show (t'.reverse++KF).length=(cy s.t x++t').length by rw[List.length_append,List.length_append,List.length_reverse,Ov.out];omega]at this
                exact this
              · rw[U2];exact HRC.out
              · rw[List.length_append,List.length_append,yX.out];rfl
              · rw [List.length_append,List.length_append,List.length_singleton,<-Ov.out]
                have:=HTL.out;have:=Cz.out
                omega
              · intro y hy
                rcases List.mem_append.1 hy with hy|hy
                · exact li HP.out.dL.eE HP.out.dL.xo HP.out.dL.kids.up HR.out (IJ.out x (List.mem_cons_self ..)) y hy
                · exact IJ.out y (List.mem_cons_of_mem _ hy)
              · rw[Ox.out,TW.out,Qt.out,List.append_assoc];rfl
          · with_reducible refine KR1.out.mono ?_
            rintro e DJ ⟨rfl,OC,RC⟩
            have wI:=sR.out.tag (g:=g') rfl
            have U0:=wI
            have nb:∀y,y≠g'->y∉[g']:=fun y h hm=>h (by simpa using hm)
            have Nv:=zH OC
            have HRC:=zH RC
            have n9:=Nv.out.has H9W.out (nb _ (fun e=>eH sR.out H9W.out (by decide) (by rw[e];rfl)))
            have nR:=QQ.out.only Nv.out (fun y hy=>nb y (fun e=>QQ.out.apart sR.out (by decide) y hy (Option.mem_toList.2 (by rw[e];rfl))))
            have nM:=HDS.out.only Nv.out (fun y hy=>nb y (fun e=>by obtain⟨cs,fr,q⟩:=wI;exact HDS.out.mw q (by rw[<-e];exact hy)))
            have Zx:=Nv.out.has QR.out (nb _ (fun e=>kr sR.out QR.out (by rw[e];rfl)))
            have nE:=Nv.out.after Zw.out (fun y hy=>by rw[List.mem_singleton]at hy;subst hy;exact (sR.out.lt rfl).1)
            have H9N:=zH n9
            have HNR:=zH nR
            have CA:=zH nM
            have U1:=zH Zx
            have VQ:=zH nE
            clear OC RC wI U0 nb n9 nR nM Zx nE
            go_wp2_with fail
            go_roundg (wG s.t r c (cy s.t x++t'))
            case measure =>
              rw [HGK.out]
              have:=tq HP.out.dL.eE HP.out.dL.xo HP.out.dL.kids.up HR.out x
              unfold wG at this|-
              rw [List.map_append,List.sum_append,List.map_cons,List.sum_cons]
              omega
            case rel =>
              have U2:(cy s.t x++t').reverse=t'.reverse++KF.reverse:=by rw[List.reverse_append,Ov.out]
              refine ⟨l0++[row],aC++[X],cy s.t x++t',M',es',Ct,g',cap',D::Ds,rfl,CA.out,VQ.out,?_,?_,HNR.out,U1.out,Zu.out,HF8.out,?_,?_,?_,rfl,l2,I8.out,?_⟩
              · have:=H9N.out
                rw [show (t'.reverse++KF).length=(cy s.t x++t').length by rw[List.length_append,List.length_append,List.length_reverse,Ov.out];omega]at this
                exact this
              · rw[U2];exact HRC.out
              · rw[List.length_append,List.length_append,yX.out];rfl
              · rw [List.length_append,List.length_append,List.length_singleton,<-Ov.out]
                have:=HTL.out;have:=Cz.out
                omega
              · intro y hy
                rcases List.mem_append.1 hy with hy|hy
                · exact li HP.out.dL.eE HP.out.dL.xo HP.out.dL.kids.up HR.out (IJ.out x (List.mem_cons_self ..)) y hy
                · exact IJ.out y (List.mem_cons_of_mem _ hy)
              · rw[Ox.out,TW.out,Qt.out,List.append_assoc];rfl
end
open Go.ChangeShapes Go.WideShapes Go.ChangeAt Go.RowKit
theorem PS.U3 {c:Nat} {w:World} {B b:Nat} {g:bQ} {s:aA} (h:PS w B b g s) (hp:Pl c s) (hc:c<=300) (rows:List qC) (hB:cC s.t [([47],1)] [] rows) (hlen:rows.length<=1000) :
  Calls Tryz.prog 25 #[.pointer (some ⟨b,0,none⟩)] w (fun e w'=>∃v,e=.returned v/\bJ fU w' w.heap.size v rows/\Ext w w'):=by
 obtain ⟨r,hr⟩:=hp.dL.eE.AJ;have Zk:jW s.t r ([47],1):=by
  refine ⟨?_,fun _=>?_⟩
  ·show ([47]:List UInt8).length<=_
   simp only[List.length_cons,List.length_nil];omega
  ·show ([47]:List UInt8).length<=_
   simp only[List.length_cons,List.length_nil];omega
 have K:Hid (Calls Tryz.prog 18 #[.pointer (some ⟨b,0,none⟩),.int .i64 1,.string ⟨#[47]⟩] w (fun e w'=>∃v,e=.returned v/\bJ fU w' w.heap.size v rows/\Ext w w')):=h.FL hp (by omega) 1 [47] rows hB hlen hr Zk;clear h hp hc hB hlen hr Zk;go_enter Tryz.func25,Tryz.ntmps25;go_wp2_with fail;refine K.out.mono ?_;rintro e w1 ⟨v,rfl,O,E⟩;clear K;go_wp2_with fail;go_ret;exact ⟨v,rfl,O,E⟩
theorem Zy:Sd:=fun _ _ _ _ _ _ h hp hc rows hB hl=>h.U3 hp hc rows hB (Nat.le_trans hl (by decide))
end Go.Proofs.YtblbohcaphcobaaGreatDoor
