import Derived.Test.YtblbohcaphcobaaGreatDoorBunW
import Derived.Test.YtblbohcaphcobaaGreatDoorBunS
import Derived.Test.YtblbohcaphcobaaGreatDoorBunX
import Derived.Test.YtblbohcaphcobaaGreatDoorBunI
import Derived.Test.YtblbohcaphcobaaGreatDoorBunN
import Derived.Test.YtblbohcaphcobaaGreatDoorBunK
import Derived.Test.YtblbohcaphcobaaGreatDoorBunO
import Derived.Test.YtblbohcaphcobaaGreatDoorBunE
import Derived.Test.YtblbohcaphcobaaGreatDoorBunV
import Derived.Test.YtblbohcaphcobaaGreatDoorBunA
import Derived.Test.YtblbohcaphcobaaGreatDoorBunJ
import Derived.Test.YtblbohcaphcobaaGreatDoorShelf
import Derived.Shelf.SlicesQ.Reverse
import Derived.Deep.CutBlock
set_option maxHeartbeats 16000000
set_option maxRecDepth 100000
namespace Go.Proofs.YtblbohcaphcobaaGreatDoor
section
open Go.ChangeShapes Go.WideShapes Go.ChangeAt Go.RowKit
theorem L6 {c:Nat} {S:aa} (h:dC c S) {rows:List yG} (hB:dU S [([47],1)] [] rows):0<rows.length:=by
 have h1:aK S.nodes (ar S.ag 1)=true:=by
  rcases gi h.oT (show (0:Int)<1 by decide) with e|⟨k,hk,_,e2⟩
  ·rw [e]
   obtain ⟨m,hm,e1⟩:=h.first;rw [<-e1];exact (dy h.aC hm).2
  ·rw [e2]
   obtain ⟨m,hm,e1,_⟩:=h.eY (k+1) hk;rw [<-e1];exact (dy h.aC hm).2
 cases hB with
 | none h2 _=>rw[h1]at h2;cases h2
 | step _ _=>simp
theorem DG (a0 a1 a2 a3 a4 a5 a6 a7 a8 a9 BJ yU:Value) (w:World):(Instr.field 58 (.agg #[a0,a1,a2,a3,a4,a5,a6,a7,a8,a9,BJ,yU]) 2).run Tryz.prog w=.ok a2 w:=by kernel_rfl
def aa6 (w:World) (e:Ending) (w':World):Prop:=∃d:Int,e=.returned (.int .i64 d)/\Ext w w'
theorem Pd {w:World} {B:Nat} {f:cE} {s:az} (h:RS w B f s) (k:iL 140 s.t) (a:Int) :
  Calls Tryz.prog 9 #[.pointer (some ⟨f.bF,0,none⟩),.int .i64 a] w (aa6 w):=by
 obtain ⟨rows,r,hB,hl,hr,hp⟩:=uF k;have hpos:=L6 k.ee.eD hB;have KR:=zH (xj h k rows hB hl hr hp);have hpl:=rN k.ee.eD k.ee.BN k.ee.kids.up hr hB (fun x hx=>by rw[List.mem_singleton]at hx;subst hx;exact hp);have mB:s.t.nodes.length<=200:=by have:=k.ee.eD.count;have:=k.ee.last;omega
 have rR:=zH k.ee.eD.aC;obtain ⟨Xt,F⟩:=h.TM;have HF:=zH F;have KP:Hid (∀(u:World) (p:List UInt8),Ext w u->p.length<=1000000->Calls Tryz.prog 30 #[.pointer (some ⟨f.bF,0,none⟩),.agg #[.int .i64 0,.int .i64 0],bs p,.bool false] u (gQ u (dF s.t 0 0 p false))):=fun u p hu hp=>mU B f s.t Xt 0 0 p false u (F.ext hu) k.ee.eD (by omega) (by have:=k.ee.last;omega) hp
 have sx:=zH hpl;have HL:=zH hl;clear h F hB hl hr hp hpl;go_enter Tryz.func9,Tryz.ntmps9;go_wp2_with fail;refine KR.out.mono ?_;rintro e w1 ⟨v,rfl,hO,hE⟩;obtain ⟨A,cap,rfl,_,_,hat,_⟩:=hO.at_;obtain⟨n,hn⟩:=aq rows.length;rw [<-hn];have HN:=zH hn;have My:=zH hat;have HE:=zH hE;rw [<-hn]at hpos;clear KR hO hE hn hat;have kM:n<=200:=by have:=HL.out;have:=HN.out;omega
 obtain ⟨q,hq⟩:∃q:Nat,((q:Nat):Int)=a % 18446744073709551616 % (n:Int):=⟨(a % 18446744073709551616 % (n:Int)).toNat,Int.toNat_of_nonneg (Int.emod_nonneg _ (by omega))⟩;have hqd:q<n:=by have:=Int.emod_lt_of_pos (a % 18446744073709551616) (show (0:Int)<n by omega);omega
 have y1:(IntKind.u64.wrap a).tmod (n:Int)=(q:Int):=by
  rw [iT,Int.tmod_eq_emod_of_nonneg (Int.emod_nonneg _ (by decide)),hq]
 have y2:IntKind.u64.wrap (n:Int)=(n:Int):=by rw[iT];omega
 have y4:IntKind.i64.wrap (q:Int)=(q:Int):=IntWalk.i64_in _ (by omega);have y4':IntKind.u64.wrap (q:Int)=(q:Int):=by rw[iT];omega
 have y6:(0:Int)<=(q:Int):=Int.natCast_nonneg _;have y7:(q:Int)<(n:Int):=by omega
 have y8:((n:Int) == 0)=false:=by simp;omega
 have y9:(n:Int)≠0:=by omega
 have hjl:q<rows.length:=by have:=HN.out;omega
 obtain ⟨g,o,rfl,hg,hc⟩:∃b o,A=some ⟨b,o,none⟩/\b<w1.heap.size/\w1.cell? ⟨b,o+q*10,none⟩=some (.string (bs rows[q].path)):=by
  rcases My.out with h|⟨b,o,hA,hb,hc⟩
  ·rw[h]at hjl;cases hjl
  ·exact⟨b,o,hA,hb,hc q hjl 0 (by decide)⟩
 have Xj:=sx.out rows[q] (List.getElem_mem hjl);obtain⟨p,hp⟩:=aq (rows[q].path);rw [<-hp]at hc Xj;obtain⟨R,hR⟩:=aq (dF s.t 0 0 p false);have KF:=KP.out w1 p HE.out (by omega);rw [<-hR]at KF;have A_:Hid (Calls Tryz.prog 30 #[.pointer (some ⟨f.bF,0,none⟩),.agg #[.int .i64 0,.int .i64 0],bs p,.bool false] w1 (aH w1 (.tuple #[.agg #[.int .i64 R.1.dir,bs R.1.name,R.1.no,.bool R.1.eH],.int .i64 R.2]))):=KF;clear hq hqd hjl hp Xj KF hR;go_wp2_with fail;refine A_.out.mono ?_;rintro e w2 ⟨rfl,b2⟩;go_upto_region 3 with fail;obtain ⟨W3,dg⟩:∃W,W=w2.alloc (.cells #[.int .i64 R.1.dir,bs R.1.name,R.1.no,.bool R.1.eH] 89):=⟨_,rfl⟩;obtain ⟨b8,fP⟩:∃b,b=w2.heap.size:=⟨_,rfl⟩;have E3:Ext w1 W3:=by rw[dg];exact b2.alloc _
 have X3:Has W3 b8 (.cells #[.int .i64 R.1.dir,bs R.1.name,R.1.no,.bool R.1.eH] 89):=by rw[dg,fP];exact Has.new _ _
 rw [<-dg,<-fP];clear dg fP b2 hc y1 y2 y4 y4' y6 y7 y8 y9 hg A_;have x2:=X3.cell 2;have xz:=X3.lt;simp only[gA,gB,gC]at x2
 by_cases h5:R.2=0
 case neg =>
  have t5:(R.2 != 0)=true:=by simpa using h5
  clear h5;go_wp2_with fail;go_ret;exact ⟨_,rfl,HE.out.trans E3⟩
 case pos =>
  have t5:(R.2 != 0)=false:=by simpa using h5
  clear h5;obtain ⟨Ag,kg,okg,KGT⟩:=zD B f s.t Xt R.1.no W3 (HF.out.ext (HE.out.trans E3)) (by omega) rR.out;have YV:=zH (KGT W3 (Ext.refl _));clear KGT okg;go_wp2_with fail;refine YV.out.mono ?_;rintro e w4 ⟨rfl,E4⟩;have x2:=(X3.ext E4).cell 2;have xz:=(X3.ext E4).lt;simp only[gA,gB,gC]at x2;have Yo:=DG
  by_cases h6:(ac s.t.nodes R.1.no).kind=1
  ·have t6:((ac s.t.nodes R.1.no).kind != 1)=false:=by simpa using h6
   clear h6;go_wp2_with fail;go_ret;exact ⟨_,rfl,HE.out.trans (E3.trans E4)⟩
  ·have t6:((ac s.t.nodes R.1.no).kind != 1)=true:=by simpa using h6
   clear h6;go_wp2_with fail;go_ret;exact ⟨_,rfl,HE.out.trans (E3.trans E4)⟩
def iY (no:Int) (n:ai):Nat:=(n.af.filter fun z=>z.2 == no).length
def ii (S:aa) (no:Int):Nat:=(S.nodes.map (iY no)).sum
structure Whole (S:aa):Prop where
 there:∀m∈S.nodes,∀z∈m.af,aK S.nodes z.2=true
 ah:∀m∈S.nodes,(ii S m.no:Int)<=m.ah
 fh:∀m∈S.nodes,∀z∈m.af,bX z.1=0
theorem Pe (f:ai->Nat) {ns:List ai} (hp:ns.Pairwise (fun a b=>a.no<b.no)) {n:ai} (hi:aK ns n.no=true):((cA ns n).map f).sum+f (ac ns n.no)=(ns.map f).sum+f n:=by
 induction ns with
 | nil=>cases hi
 | cons a ns ih =>
  rw [List.pairwise_cons]at hp
  by_cases he:a.no=n.no
  ·have h1:cA ns n=ns:=xd fun m hm=>by have:=hp.1 m hm;omega
   have h2:ac (a::ns) n.no=a:=by unfold ac eX;rw[List.find?_cons];simp[he]
   have h3:cA (a::ns) n=n::cA ns n:=by unfold cA;rw[List.map_cons,if_pos (by simpa using he)]
   rw [h3,h1,h2,List.map_cons,List.sum_cons,List.map_cons,List.sum_cons];omega
  ·have hb:(a.no == n.no)=false:=by simpa using he
   have h2:ac (a::ns) n.no=ac ns n.no:=by unfold ac eX;rw[List.find?_cons,hb]
   have h4:aK (a::ns) n.no=aK ns n.no:=by unfold aK eX;rw[List.find?_cons,hb]
   have h3:cA (a::ns) n=a::cA ns n:=by unfold cA;rw[List.map_cons,if_neg (by simpa using he)]
   have:=ih hp.2 (h4▸hi);rw [h2,h3,List.map_cons,List.sum_cons,List.map_cons,List.sum_cons];omega
theorem Bu (f:ai->Nat) (ns:List ai) (no:Int):((kA ns no).map f).sum<=(ns.map f).sum:=by
 unfold kA
 induction ns with
 | nil=>exact Nat.le_refl _
 | cons a ns ih =>
  rw [List.filter_cons];split
  ·rw[List.map_cons,List.sum_cons,List.map_cons,List.sum_cons];omega
  ·rw[List.map_cons,List.sum_cons];omega
theorem Pf {S:aa} {m:ai} (hm:m∈S.nodes) {z:aw} (hz:z∈m.af):1<=ii S z.2:=by
 have h1:1<=iY z.2 m:=by
  have:z∈m.af.filter fun y=>y.2 == z.2:=List.mem_filter.2 ⟨hz,by simp⟩
  exact List.length_pos_of_mem this
 have : iY z.2 m<=(S.nodes.map (iY z.2)).sum:=by
  clear h1 hz
  generalize S.nodes=ns at hm
  induction ns with
  | nil=>cases hm
  | cons a ns ih =>
   rw [List.map_cons,List.sum_cons];rcases List.mem_cons.1 hm with rfl|hm
   ·omega
   ·have:=ih hm;omega
 unfold ii;omega
theorem uU {S:aa} {no:Int} (h:∀m∈S.nodes,∀z∈m.af,z.2≠no):ii S no=0:=by
 unfold ii
 generalize S.nodes=ns at h
 induction ns with
 | nil=>rfl
 | cons a ns ih =>
  rw [List.map_cons,List.sum_cons,ih fun m hm=>h m (List.mem_cons_of_mem _ hm)];have:a.af.filter (fun z=>z.2 == no)=[]:=by
   rw [List.filter_eq_nil_iff];intro z hz;have:=h a (List.mem_cons_self ..) z hz;simpa using this
  unfold iY;rw [this];rfl
theorem lH {S:aa} (hu:aD S.nodes S.last) {n:ai} (hi:aK S.nodes n.no=true) (k:Int):ii (aJ S n) k+iY k (ac S.nodes n.no)=ii S k+iY k n:=Pe (iY k) hu.1 hi
theorem l_ {S:aa} (h:Whole S) (hu:aD S.nodes S.last) {no:Int} (hi:aK S.nodes no=true) {n:ai} (aU:n.no=no) (he:n.af=(ac S.nodes no).af) (hl:(ac S.nodes no).ah<=n.ah):Whole (aJ S n):=by
 subst aU;obtain ⟨_,e1,hm0⟩:=aj hi;have hc:∀k,ii (aJ S n) k=ii S k:=fun k=>by
  have h1:=lH hu hi k;have h2:iY k n=iY k (ac S.nodes n.no):=by unfold iY;rw[he]
  omega
 refine ⟨fun m hm z hz=>?_,fun m hm=>?_,fun m hm z hz=>?_⟩
 rotate_left 2
 ·rcases aM hm with⟨hm,_⟩|rfl
  ·exact h.fh m hm z hz
  ·exact h.fh _ hm0 z (by rw[<-he];exact hz)
 ·show aK (cA S.nodes n) z.2=true
  rw [gW];rcases aM hm with⟨hm,_⟩|rfl
  ·exact h.there m hm z hz
  ·exact h.there _ hm0 z (by rw[<-he];exact hz)
 ·rw [hc]
  rcases aM hm with⟨hm,_⟩|rfl
  ·exact h.ah m hm
  ·have:=h.ah _ hm0
   rw [e1]at this;omega
theorem Pg (l:List aw) (x:aw) (no:Int):((dq l x).filter fun z=>z.2 == no).length<=(l.filter fun z=>z.2 == no).length+(if x.2=no then 1 else 0):=by
 have : ∀l:List aw,((iN l x.1).filter fun z=>z.2 == no).length+((je l x.1).filter fun z=>z.2 == no).length<=(l.filter fun z=>z.2 == no).length:=by
  intro l
  induction l with
  | nil=>simp[iN,je]
  | cons y l ih =>
   unfold iN je at ih|-
   cases hb:bl y.1 x.1<;>cases hm:bl x.1 y.1<;>cases hp:(y.2 == no)
   all_goals first
    | (exfalso;have:=fD hb;rw[hm]at this;exact absurd this (by decide))
    | (simp only[List.filter_cons,hb,hm,hp,Bool.false_eq_true,↓reduceIte,List.length_cons]at ih|-;omega)
 have:=this l;unfold dq;rw [List.filter_append,List.filter_append,List.length_append,List.length_append];have h2:([x].filter fun z=>z.2 == no).length=if x.2=no then 1 else 0:=by
  rw [List.filter_cons,List.filter_nil]
  by_cases h:x.2=no
  ·rw[if_pos (by simpa using h),if_pos h];rfl
  ·rw[if_neg (by simpa using h),if_neg h];rfl
 omega
theorem L9 {ns:List ai} {n:ai} {no:Int} (h:aK ns no=true\/n.no=no):aK (ns++[n]) no=true:=by
 unfold aK eX at *;rw [List.find?_append];rcases h with h|h
 ·cases hf:ns.find? (fun n=>n.no == no) with
  | none=>rw[hf]at h;cases h
  | some x=>rfl
 ·cases hf:ns.find? (fun n=>n.no == no) with
  | none=>simp[h]
  | some x=>rfl
theorem DH (S:aa) (n:ai) (ds:List eo) (l:Int) (k:Int):ii ⟨S.nodes++[n],ds,l⟩ k=ii S k+iY k n:=by
 unfold ii;show ((S.nodes++[n]).map _).sum=_;rw [List.map_append,List.sum_append];simp
theorem xk {c:Nat} {S:aa} (hT:dC c S) (h:Whole S) {n:ai} (ds:List eo) (aU:n.no=S.last+1) (he:n.af=[]) (hl:0<=n.ah):Whole ⟨S.nodes++[n],ds,S.last+1⟩/\∀k,ii ⟨S.nodes++[n],ds,S.last+1⟩ k=ii S k:=by
 have hc:∀k,ii ⟨S.nodes++[n],ds,S.last+1⟩ k=ii S k:=fun k=>by
  rw [DH];have:iY k n=0:=by unfold iY;rw[he];rfl
  omega
 refine ⟨⟨fun m hm z hz=>?_,fun m hm=>?_,fun m hm z hz=>?_⟩,hc⟩
 rotate_left 2
 ·rcases List.mem_append.1 hm with hm|hm
  ·exact h.fh m hm z hz
  ·rw [List.mem_singleton]at hm
   subst hm;rw [he]at hz;cases hz
 ·refine L9 ?_
  rcases List.mem_append.1 hm with hm|hm
  ·exact .inl (h.there m hm z hz)
  ·rw [List.mem_singleton]at hm
   subst hm;rw [he]at hz;cases hz
 ·rw [hc]
  rcases List.mem_append.1 hm with hm|hm
  ·exact h.ah m hm
  ·rw [List.mem_singleton]at hm
   subst hm;have:ii S m.no=0:=uU fun q hq z hz=>by have:=(hT.pos q hq z hz).2;omega
   rw [this];exact hl
theorem xm {S:aa} (h:Whole S) (hu:aD S.nodes S.last) {dir now no:Int} {nm:List UInt8} {l:List aw} (hi:aK S.nodes dir=true) (hl:l=(ac S.nodes dir).af) (hn:aK S.nodes no=true) (hsp:(ii S no:Int)+1<=(ac S.nodes no).ah) (Rf:bX nm=0):Whole (cI S dir now (dq l (nm,no))):=by
 obtain ⟨_,e1,hm0⟩:=aj hi;obtain ⟨_,e2,cF⟩:=aj hn;obtain⟨M,hM⟩:=aq (eQ S dir now (dq l (nm,no)));have kO:M.no=dir:=by rw[hM];exact e1
 have EF:M.af=dq l (nm,no):=by rw[hM];rfl
 have P_:M.ah=(ac S.nodes dir).ah:=by rw[hM];rfl
 show Whole (aJ S (eQ S dir now (dq l (nm,no))));rw [<-hM];have hc:∀k,ii (aJ S M) k<=ii S k+(if no=k then 1 else 0):=fun k=>by
  have h1:=lH hu (n:=M) (by rw[kO];exact hi) k;rw [kO]at h1;have h2:=Pg l (nm,no) k;have h3:iY k M=((dq l (nm,no)).filter fun z=>z.2 == k).length:=by unfold iY;rw[EF]
  have h4:iY k (ac S.nodes dir)=(l.filter fun z=>z.2 == k).length:=by unfold iY;rw[hl]
  have h5:(if (nm,no).2=k then 1 else 0)=(if no=k then 1 else 0:Nat):=rfl;omega
 refine ⟨fun m hm z hz=>?_,fun m hm=>?_,fun m hm z hz=>?_⟩
 rotate_left 2
 ·rcases aM hm with⟨hm,_⟩|rfl
  ·exact h.fh m hm z hz
  ·rw [EF]at hz
   rcases fW hz with hz|rfl
   ·exact h.fh _ hm0 z (by rw[<-hl];exact hz)
   ·exact Rf
 ·show aK (cA S.nodes M) z.2=true
  rw [gW];rcases aM hm with⟨hm,_⟩|rfl
  ·exact h.there m hm z hz
  ·rw [EF]at hz
   rcases fW hz with hz|rfl
   ·exact h.there _ hm0 z (by rw[<-hl];exact hz)
   ·exact hn
 ·have h1:=hc m.no
  have key:∀q∈S.nodes,q.no=m.no->q.ah=m.ah->(ii (aJ S M) m.no:Int)<=m.ah:=fun q hq a1 a2=>by
   have h2:=h.ah q hq;rw [a1,a2]at h2
   by_cases hk:no=m.no
   ·rw [if_pos hk]at h1
    have h3:ac S.nodes no=q:=gw hu cF hq (by rw[e2,hk,a1]);rw [h3,a2,hk]at hsp;omega
   ·rw [if_neg hk]at h1
    omega
  rcases aM hm with⟨hm,_⟩|rfl
  ·exact key m hm rfl rfl
  ·exact key _ hm0 (e1.trans kO.symm) P_.symm
theorem oZ {S:aa} {c:Nat} (hT:dC c S) (h:Whole S) (cu cg now dir:Int) (nm:List UInt8) (n:ai) (hn:n.af=[]):Whole (aW S cu cg now dir nm n):=by
 unfold aW;split
 case isFalse=>exact h
 rename_i h0;obtain ⟨h1,_,h3⟩:=eA h0;obtain ⟨p1,p2,p3⟩:=aE h1;have mD:aQ S (bi S cu cg now dir n)=⟨S.nodes++[{bi S cu cg now dir n with no:=S.last+1}],iI S.ag (bi S cu cg now dir n).dev (aP (iO S.ag (bi S cu cg now dir n).dev).q (bu (bi S cu cg now dir n).kind (bi S cu cg now dir n).data.length) 1),S.last+1⟩:=by unfold aQ;rw[if_pos h3]
 have hg:=fk hT.aC (bi S cu cg now dir n) p1;obtain ⟨N,hN⟩:∃N:ai,N={bi S cu cg now dir n with no:=S.last+1}:=⟨_,rfl⟩;have Ks:N.no=S.last+1:=by rw[hN]
 have hNe:N.af=[]:=by rw[hN];exact hn
 have Wi:N.ah=1:=by rw[hN];rfl
 rw [<-hN]at mD;have hmem:N∈(aQ S (bi S cu cg now dir n)).nodes:=by rw[mD];exact List.mem_append_right _ (List.mem_singleton_self _)
 have hu:aD (aQ S (bi S cu cg now dir n)).nodes (aQ S (bi S cu cg now dir n)).last:=by
  rw [mD];exact hT.aC.add _ Ks (by have:=hT.last;omega)
 obtain ⟨w1,w2⟩:=xk hT h (n:=N) (iI S.ag (bi S cu cg now dir n).dev (aP (iO S.ag (bi S cu cg now dir n).dev).q (bu (bi S cu cg now dir n).kind (bi S cu cg now dir n).data.length) 1)) Ks hNe (by omega);rw [<-mD]at w1 w2;obtain ⟨q1,q2⟩:=dy hu hmem;rw [Ks]at q1 q2;refine xm w1 hu hg.2 (by rw[hg.1]) q2 ?_ p3;rw [w2,q1,Wi];have:ii S (S.last+1)=0:=uU fun q hq z hz=>by have:=(hT.pos q hq z hz).2;omega
 rw [this];decide
theorem q_ {S T:aa} {p:Int} (h:Whole S) (k:Whole T):Whole (dR p S T):=by unfold dR;split;exact h;exact k
theorem DI {S:aa} {c:Nat} (hT:dC c S) (h:Whole S) (cu cg now no dir:Int) (nm:List UInt8):Whole (eW S cu cg now no dir nm):=by
 unfold eW;split
 case isFalse=>exact h
 rename_i h0;obtain ⟨hp,hi,hk,hf,hv,hl⟩:=g_ h0;obtain ⟨hid,qD,hc⟩:=aE hp;obtain ⟨_,aU,hmem⟩:=aj hi;have hne:dir≠no:=fun e=>by subst e;exact hk qD
 have e0:(cy S now no).no=no:=aU;obtain ⟨g1,g2⟩:=fZ (S:=S) (n:=cy S now no) (no:=dir) (by rw[e0];exact hne);have w1:Whole (aJ S (cy S now no)):=l_ h hT.aC hi e0 rfl (by show _<=(ac S.nodes no).ah+1;omega);have hu:aD (aJ S (cy S now no)).nodes (aJ S (cy S now no)).last:=hT.aC.set _;have oh:aK (aJ S (cy S now no)).nodes no=true:=by show aK (cA S.nodes _) no=true;rw[gW];exact hi
 have NM:ac (aJ S (cy S now no)).nodes no=cy S now no:=by
  have hm:cy S now no∈(aJ S (cy S now no)).nodes:=by
   show _∈cA S.nodes _;unfold cA;rw [List.mem_map];exact ⟨_,hmem,by rw[if_pos (by simpa using aU.trans e0.symm)]⟩
  have:=(dy hu hm).1;rw [e0]at this;exact this
 refine xm w1 hu (by rw[g2];exact hid) (by rw[g1]) oh ?_ hc;rw [NM];show _<=(ac S.nodes no).ah+1;have h1:=lH hT.aC (n:=cy S now no) (by rw[e0];exact hi) no;have h2:iY no (cy S now no)=iY no (ac S.nodes (cy S now no).no):=by rw[e0];rfl
 have h3:=h.ah _ hmem;rw [aU]at h3;omega
theorem DJ {S:aa} (h:Whole S) (ds:List eo) {no:Int} (hz:ii S no=0):Whole ⟨kA S.nodes no,ds,S.last⟩:=by
 have hne:∀m∈S.nodes,∀z∈m.af,z.2≠no:=fun m hm z hz2 e=>by
  have:=Pf hm hz2;rw [e]at this;omega
 refine ⟨fun m hm z hz2=>?_,fun m hm=>?_,fun m hm z hz2=>h.fh m (dK hm).1 z hz2⟩
 ·obtain ⟨h1,_⟩:=dK hm
  have h2:=h.there m h1 z hz2;obtain ⟨_,i2,i3⟩:=aj h2;have:=mN (no:=no) i3 (by rw[i2];exact hne m h1 z hz2);unfold aK eX;rw [List.find?_isSome];exact ⟨_,this,by simpa using i2⟩
 ·obtain ⟨h1,_⟩:=dK hm
  have h2:=h.ah m h1;have h3:ii ⟨kA S.nodes no,ds,S.last⟩ m.no<=ii S m.no:=Bu _ _ _;omega
theorem L_ (l:List aw) (nm:List UInt8) (no:Int):((ij l nm).filter fun z=>z.2 == no).length<=(l.filter fun z=>z.2 == no).length:=by
 unfold ij;rw [List.filter_filter];have e:(fun z:aw=>(z.2 == no)&&!(z.1 == nm))=fun z=>(!(z.1 == nm))&&(z.2 == no):=by funext z;exact Bool.and_comm _ _
 rw [e,<-List.filter_filter];exact List.length_filter_le _ _
theorem Bv {l:List aw} {nm:List UInt8} {x:aw} (hx:x∈l) (he:x.1=nm):((ij l nm).filter fun z=>z.2 == x.2).length<(l.filter fun z=>z.2 == x.2).length:=by
 unfold ij;rw [List.filter_filter];have e:(fun z:aw=>(z.2 == x.2)&&!(z.1 == nm))=fun z=>(!(z.1 == nm))&&(z.2 == x.2):=by funext z;exact Bool.and_comm _ _
 rw [e,<-List.filter_filter];have hm:x∈l.filter fun z=>z.2 == x.2:=List.mem_filter.2 ⟨hx,by simp⟩
 generalize l.filter (fun z=>z.2 == x.2)=L at hm
 clear hx e
 induction L with
 | nil=>cases hm
 | cons a L ih =>
  rw [List.filter_cons];rcases List.mem_cons.1 hm with rfl|hm
  ·rw [if_neg (by simp[he])]
   have:=List.length_filter_le (fun z:aw=>!(z.1 == nm)) L;simp only[List.length_cons];omega
  ·have:=ih hm
   split<;>simp only[List.length_cons]<;>omega
theorem uV {c:Nat} {S:aa} (h:dC c S) (hW:Whole S) {cu cg now dir:Int} {nm:List UInt8} (hl:jK S cu cg dir nm=0):Whole (mg S now (ac S.nodes dir) (ac S.nodes (bk (ac S.nodes dir).af nm)) nm):=by
 obtain ⟨z1,oF,_⟩:=f_ hl;have hi:=(aE z1).1;obtain ⟨_,lg,jg⟩:=aj hi;obtain⟨no,hn⟩:=aq (bk (ac S.nodes dir).af nm);rw [<-hn]at oF|-;obtain ⟨_,aU,hmem⟩:=aj oF;have hpos:=(h.aC.2 _ hmem).1;rw [aU]at hpos;obtain ⟨x,hx,hx1,hx2⟩:=z_ (l:=(ac S.nodes dir).af) (nm:=nm) (by rw[<-hn];omega);rw [<-hn]at hx2;have hK:=h.xR _ jg x hx;rw [hx2,lg]at hK;have hnd:no≠dir:=hK.1;obtain ⟨M,hM⟩:∃M:ai,M=eQ S (ac S.nodes dir).no now (ij (ac S.nodes dir).af nm):=⟨_,rfl⟩;have kO:M.no=dir:=by rw[hM,lg];exact lg
 have EF:M.af=ij (ac S.nodes dir).af nm:=by rw[hM];rfl
 have P_:M.ah=(ac S.nodes dir).ah:=by rw[hM,lg];rfl
 have hu1:aD (aJ S M).nodes (aJ S M).last:=h.aC.set _;have c1:∀k,ii (aJ S M) k<=ii S k:=fun k=>by
  have h1:=lH h.aC (n:=M) (by rw[kO];exact hi) k;rw [kO]at h1;have h2:=L_ (ac S.nodes dir).af nm k;have h3:iY k M=((ij (ac S.nodes dir).af nm).filter fun z=>z.2 == k).length:=by unfold iY;rw[EF]
  have h4:iY k (ac S.nodes dir)=((ac S.nodes dir).af.filter fun z=>z.2 == k).length:=rfl;omega
 have c2:ii (aJ S M) no<ii S no:=by
  have h1:=lH h.aC (n:=M) (by rw[kO];exact hi) no;rw [kO]at h1;have h2:=Bv hx hx1;rw [hx2]at h2;have h3:iY no M=((ij (ac S.nodes dir).af nm).filter fun z=>z.2 == no).length:=by unfold iY;rw[EF]
  have h4:iY no (ac S.nodes dir)=((ac S.nodes dir).af.filter fun z=>z.2 == no).length:=rfl;omega
 have w1 : Whole (aJ S M):=by
  refine ⟨fun m hm z hz=>?_,fun m hm=>?_,fun m hm z hz=>?_⟩
  rotate_left 2
  ·rcases aM hm with⟨hm,_⟩|rfl
   ·exact hW.fh m hm z hz
   ·rw [EF]at hz
    exact hW.fh _ jg z (kn hz).1
  ·show aK (cA S.nodes M) z.2=true
   rw [gW];rcases aM hm with⟨hm,_⟩|rfl
   ·exact hW.there m hm z hz
   ·rw [EF]at hz
    exact hW.there _ jg z (kn hz).1
  ·have h1:=c1 m.no
   rcases aM hm with⟨hm,_⟩|rfl
   ·have:=hW.ah m hm;omega
   ·have:=hW.ah _ jg
    rw [<-P_,lg,<-kO]at this;omega
 have g1:ac (aJ S M).nodes no=ac S.nodes no:=wL (by rw[kO];exact hnd);have i1:aK (aJ S M).nodes no=true:=by show aK (cA S.nodes M) no=true;rw[gW];exact oF
 obtain⟨n',hn'⟩:=aq (jy now (ac S.nodes no));have e1:n'.no=no:=by rw[hn'];exact aU
 have e2:n'.af=(ac (aJ S M).nodes no).af:=by rw[hn',g1];rfl
 have e3:n'.ah=(ac S.nodes no).ah-1:=by rw[hn'];rfl
 have hL:=hW.ah _ hmem;rw [aU]at hL;have c3:∀k,ii (aJ (aJ S M) n') k=ii (aJ S M) k:=fun k=>by
  have h1:=lH hu1 (n:=n') (by rw[e1];exact i1) k;rw [e1]at h1;have h2:iY k n'=iY k (ac (aJ S M).nodes no):=by unfold iY;rw[e2]
  omega
 have w2 : Whole (aJ (aJ S M) n'):=by
  refine ⟨fun m hm z hz=>?_,fun m hm=>?_,fun m hm z hz=>?_⟩
  rotate_left 2
  ·rcases aM hm with⟨hm,_⟩|rfl
   ·exact w1.fh m hm z hz
   ·rw [e2]at hz
    exact w1.fh _ (aj i1).2.2 z hz
  ·show aK (cA (aJ S M).nodes n') z.2=true
   rw [gW];rcases aM hm with⟨hm,_⟩|rfl
   ·exact w1.there m hm z hz
   ·rw [e2]at hz
    exact w1.there _ (aj i1).2.2 z hz
  ·rw [c3]
   rcases aM hm with⟨hm,_⟩|rfl
   ·exact w1.ah m hm
   ·rw [e1,e3]
    omega
 unfold mg cI;rw [<-hM];unfold mQ;rw [<-hn',aU];split
 ·unfold kG
  split
  ·exact DJ w2 _ (by rw[c3];omega)
  ·exact w2
 ·exact w2
theorem xn {S:aa} {c:Nat} (hT:dC c S) (h:Whole S) (cu cg now:Int) (x:ia) (hx:∀fr a to_ b,x≠.rename fr a to_ b) (hx2:∀no d,x≠.write no d):Whole (cq S cu cg now x):=by
 cases x with
 | bB dir nm mode=>exact q_ h (oZ hT h _ _ _ _ _ _ rfl)
 | bc dir nm mode data=>exact q_ h (oZ hT h _ _ _ _ _ _ rfl)
 | symlink dir nm text=>exact q_ h (oZ hT h _ _ _ _ _ _ rfl)
 | link no dir nm=>exact DI hT h _ _ _ _ _ _
 | unlink dir nm =>
  show Whole (iU S cu cg now dir nm);unfold iU;split
  ·rename_i h0
   unfold nt at h0;split at h0
   ·rename_i h1;exact absurd h0 h1
   ·rename_i h1
    obtain ⟨z1,z2,_,z4,z5⟩:=f_ (Decidable.not_not.1 h1);rw [z4,z5];exact uV hT h (Decidable.not_not.1 h1)
  ·exact h
 | ou dir nm =>
  show Whole (kI S cu cg now dir nm);unfold kI;split
  ·rename_i h0
   unfold qH at h0;split at h0
   ·rename_i h1;exact absurd h0 h1
   ·rename_i h1
    obtain ⟨z1,z2,_,z4,z5⟩:=f_ (Decidable.not_not.1 h1);rw [z4,z5];exact uV hT h (Decidable.not_not.1 h1)
  ·exact h
 | rename fr a to_ b=>exact absurd rfl (hx fr a to_ b)
 | write no d=>exact absurd rfl (hx2 no d)
 | cJ no mode =>
  show Whole (dX S cu now no mode);unfold dX;split
  ·rename_i h0
   unfold eN at h0;split at h0
   ·rename_i h1;exact absurd h0 h1
   ·rename_i h1
    have hi:=eZ (Decidable.not_not.1 h1);exact l_ h hT.aC hi (aj hi).2.1 rfl (Int.le_refl _)
  ·exact h
 | cK no uid gid =>
  show Whole (fj S cu now no uid gid);unfold fj;split
  ·rename_i h0
   unfold fF at h0;split at h0
   ·rename_i h1;exact absurd h0 h1
   ·rename_i h1
    have hi:=eZ (Decidable.not_not.1 h1);exact l_ h hT.aC hi (aj hi).2.1 rfl (Int.le_refl _)
  ·exact h
 | dA no mt =>
  show Whole (ef S cu now no mt);unfold ef;split
  ·rename_i h0
   unfold fq at h0;split at h0
   ·rename_i h1;exact absurd h0 h1
   ·rename_i h1
    have hi:=eZ (Decidable.not_not.1 h1);exact l_ h hT.aC hi (aj hi).2.1 rfl (Int.le_refl _)
  ·exact h
theorem Bw {S:aa} {c:Nat} (hT:dC c S) (h:Whole S) (a b n:Int):Whole (cx S a b n):=by
 unfold cx;split
 ·exact (xk hT h (n:=bj S) _ rfl rfl (by show (0:Int)<=1;decide)).1
 ·exact h
theorem Bz (b n:Int):Whole (b_ cB 0 b n):=by
 have mem:∀m∈(b_ cB 0 b n).nodes,m=bj cB:=fun m hm=>by
  have hm':m∈[bj cB]:=hm
  rwa [List.mem_singleton]at hm'
 refine ⟨fun m hm z hz=>(by rw[mem m hm]at hz;cases hz),fun m hm=>?_,fun m hm z hz=>(by rw[mem m hm]at hz;cases hz)⟩;rw [uU (fun q hq z hz=>by rw[mem q hq]at hz;cases hz),mem m hm];decide
structure nI (c:Nat) (S:aa):Prop where
 ee:e7 c S
 who:Whole S
theorem nI.mono {c d:Nat} {S:aa} (h:nI c S) (Eu:c<=d):nI d S:=⟨h.ee.mono Eu,h.who⟩
theorem nI.kp {c:Nat} {S:aa} (h:nI c S) (cu cg now:Int) (x:ia) (hx:∀fr a to_ b,x≠.rename fr a to_ b) (hx2:∀no d,x≠.write no d):nI (c+1) (cq S cu cg now x):=⟨h.ee.kp _ _ _ _ hx,xn h.ee.eD h.who _ _ _ _ hx hx2⟩
theorem nI.jT {c:Nat} {S:aa} (h:nI c S) (a b n:Int):nI (c+1) (cx S a b n):=⟨h.ee.jT a b n,Bw h.ee.eD h.who a b n⟩
theorem nI.KX {c:Nat} {S:aa} (h:nI c S) (m:eF):nI (c+2) (gK S m):=by
 unfold gK;split
 ·exact h.mono (by omega)
 ·split
  ·have h1:=h.kp 0 0 0 (qV S m) (fun _ _ _ _ e=>by cases e) (fun _ _ e=>by cases e)
   split
   ·exact h1.jT _ _ _
   ·exact h1.mono (by omega)
  ·exact (h.jT _ _ _).mono (by omega)
theorem nI.AU {c:Nat} {S:aa} (h:nI c S) (l:List eF):nI (c+2*l.length) (dZ S l):=by
 unfold dZ
 induction l generalizing c S with
 | nil=>exact h
 | cons m l ih =>
  rw [List.foldl_cons];have h1:nI (c+2) (if my m=true then S else gK S m):=by
   split
   ·exact h.mono (by omega)
   ·exact h.KX m
  exact (ih h1).mono (by rw[List.length_cons];omega)
theorem BA {S:aa} {it:dN} {x:ia} (h:gR S it=some x):(∀fr a to_ b,x≠.rename fr a to_ b)/\∀no d,x≠.write no d:=by
 unfold gR at h;split at h
 ·cases h
 split at h
 ·cases h
 split at h
 ·injection h with h;subst h;exact⟨fun _ _ _ _ e=>(by cases e),fun _ _ e=>(by cases e)⟩
 split at h
 ·injection h with h;subst h;exact⟨fun _ _ _ _ e=>(by cases e),fun _ _ e=>(by cases e)⟩
 split at h
 ·injection h with h;subst h;exact⟨fun _ _ _ _ e=>(by cases e),fun _ _ e=>(by cases e)⟩
 split at h
 ·split at h
  ·injection h with h;subst h;exact⟨fun _ _ _ _ e=>(by cases e),fun _ _ e=>(by cases e)⟩
  ·cases h
 ·cases h
theorem nI.GR {c:Nat} {S:aa} (h:nI c S) (it:dN):nI (c+1) (jd S it):=by
 unfold jd;split
 ·rename_i x hx
  exact h.kp _ _ _ _ (BA hx).1 (BA hx).2
 ·exact h.mono (by omega)
theorem nI.AV {c:Nat} {S:aa} (h:nI c S) (no:Int) (it:dN):nI (c+2) (fB S no it):=by
 unfold fB;split
 ·exact (h.kp 0 0 0 (.cK no it.uid it.gid) (fun _ _ _ _ e=>by cases e) (fun _ _ e=>by cases e)).kp 0 0 0 (.cJ no it.mode) (fun _ _ _ _ e=>by cases e) (fun _ _ e=>by cases e)
 ·exact h.mono (by omega)
theorem nI.item {c:Nat} {p:aa×List Int} (h:nI c p.1) (it:dN):nI (c+3) (rJ p it).1:=(h.GR it).AV _ _
theorem nI.items {c:Nat} (l:List dN) (p:aa×List Int) (h:nI c p.1):nI (c+3*l.length) (dD p l).1:=by
 unfold dD
 induction l generalizing c p with
 | nil=>exact h
 | cons m l ih =>
  rw [List.foldl_cons];exact (ih _ (h.item m)).mono (by rw[List.length_cons];omega)
theorem nI.times {c:Nat} (l:List (Int×dN)) {S:aa} (h:nI c S):nI (c+l.length) (dS S l):=by
 unfold dS
 induction l generalizing c S with
 | nil=>exact h
 | cons x l ih =>
  rw [List.foldl_cons];have h1:nI (c+1) (mi S x):=by
   unfold mi;split
   ·exact h.kp 0 0 0 (.dA x.1 x.2.mtime) (fun _ _ _ _ e=>by cases e) (fun _ _ e=>by cases e)
   ·exact h.mono (by omega)
  exact (ih h1).mono (by rw[List.length_cons];omega)
theorem BB (ms:List eF) (is:List dN):Whole (fC ms is):=by
 have a:=(nI.mk (.first (jE ms)) (Bz _ _)).AU ms;have b1:=nI.items is (dZ (fM ms) ms,[]) a;exact (b1.times ((xc ms is).2.zip is)).who
structure gS (L cu cg:Int) (S:aa):Prop where
 own:∀n∈S.nodes,L<n.no->n.uid=cu/\n.gid=cg/\∀x∈n.af,L<x.2
 over:∀no,L<no->ar S.ag no=no
 le:L<=S.last
section
variable {L cu cg now:Int} {S:aa} {c:Nat}
theorem gS.set (h:gS L cu cg S) {n:ai} (hn:L<n.no->n.uid=cu/\n.gid=cg/\∀x∈n.af,L<x.2):gS L cu cg (aJ S n):=
 ⟨fun m hm hl=>by
  rcases aM hm with⟨hm,_⟩|rfl
  ·exact h.own m hm hl
  ·exact hn hl,h.over,h.le⟩
theorem gS.same (h:gS L cu cg S) {no:Int} (hi:aK S.nodes no=true) {n:ai} (aU:n.no=(ac S.nodes no).no) (hu:n.uid=(ac S.nodes no).uid) (hg:n.gid=(ac S.nodes no).gid) (he:n.af=(ac S.nodes no).af):gS L cu cg (aJ S n):=
 h.set fun hl=>by
  rw [hu,hg,he];exact h.own _ (aj hi).2.2 (aU▸hl)
theorem gS.put (h:gS L cu cg S) {dir z:Int} {nm:List UInt8} {l:List aw} (hl:l=(ac S.nodes dir).af) (hi:aK S.nodes dir=true) (hz:L<dir->L<z):gS L cu cg (cI S dir now (dq l (nm,z))):=by
 subst hl;obtain ⟨_,aU,hm⟩:=aj hi;refine h.set fun hl=>?_
 have hl':L<(ac S.nodes dir).no:=hl;obtain ⟨a,b,d⟩:=h.own _ hm hl';refine ⟨a,b,fun x hx=>?_⟩;rcases fW hx with hx|rfl
 ·exact d x hx
 ·exact hz (aU▸hl')
theorem gS.make (h:gS L cu cg S) {n:ai} (hu:n.uid=cu) (hg:n.gid=cg) (he:n.af=[]) (hm:ey S n=0):gS L cu cg (aQ S n):=by
 have hl:=h.le;unfold aQ;rw [if_pos hm];refine ⟨fun m hm hlt=>?_,fun no aU=>by show ar (iI _ _ _) no=no;rw[WX];exact h.over no aU,by show L<=S.last+1;omega⟩;rcases List.mem_append.1 hm with hm|hm
 ·exact h.own m hm hlt
 ·rw [List.mem_singleton]at hm
  subst hm;exact ⟨hu,hg,fun x hx=>by rw[show ({n with no:=S.last+1}:ai).af=n.af from rfl,he]at hx;cases hx⟩
theorem gS.come (h:gS L cu cg S) (hu:aD S.nodes S.last) (dir:Int) (nm:List UInt8) (n:ai) (hn:n.af=[]):gS L cu cg (aW S cu cg now dir nm n):=by
 unfold aW;split
 case isFalse=>exact h
 rename_i h0;obtain ⟨h1,_,h3⟩:=eA h0;obtain ⟨p1,_⟩:=aE h1;have hg:=fk hu (bi S cu cg now dir n) p1;have hl:=h.le;exact (h.make (n:=bi S cu cg now dir n) rfl rfl hn h3).put (by rw[hg.1]) hg.2 (fun _=>by omega)
theorem gS.pre {T:aa} {p:Int} (h:gS L cu cg S) (k:gS L cu cg T):gS L cu cg (dR p S T):=by unfold dR;split;exact h;exact k
theorem gS.Sq (h:gS L cu cg S) (Xm cg':Int) (no dir:Int) (nm:List UInt8) (hz:L<no):gS L cu cg (eW S Xm cg' now no dir nm):=by
 unfold eW;split
 case isFalse=>exact h
 rename_i h0;obtain ⟨hp,hi,hk,_⟩:=g_ h0;obtain ⟨hid,qD,_⟩:=aE hp;obtain ⟨_,aU,_⟩:=aj hi;have hne:dir≠no:=fun e=>by subst e;exact hk qD
 have e0:(cy S now no).no=no:=aU;obtain ⟨g1,g2⟩:=fZ (S:=S) (n:=cy S now no) (no:=dir) (by rw[e0];exact hne);exact (h.same (n:=cy S now no) hi rfl rfl rfl rfl).put (by rw[g1]) (by rw[g2];exact hid) (fun _=>hz)
theorem gS.mode (h:gS L cu cg S) (Xm no m:Int):gS L cu cg (dX S Xm now no m):=by
 unfold dX;split
 ·rename_i h0
  unfold eN at h0;split at h0
  ·rename_i h1;exact absurd h0 h1
  ·rename_i h1;exact h.same (eZ (Decidable.not_not.1 h1)) rfl rfl rfl rfl
 ·exact h
theorem gS.time (h:gS L cu cg S) (Xm no m:Int):gS L cu cg (ef S Xm now no m):=by
 unfold ef;split
 ·rename_i h0
  unfold fq at h0;split at h0
  ·rename_i h1;exact absurd h0 h1
  ·rename_i h1;exact h.same (eZ (Decidable.not_not.1 h1)) rfl rfl rfl rfl
 ·exact h
def Ma (k:Int):ia->Prop
 | .bB dir _ _=>dir≠k
 | .bc dir _ _ _=>dir≠k
 | .symlink dir _ _=>dir≠k
 | .link no dir _=>no≠k/\dir≠k
 | .cJ no _=>no≠k
 | .dA no _=>no≠k
 | _=>False
def BC (L:Int):ia->Prop
 | .bB _ _ _=>True
 | .bc _ _ _ _=>True
 | .symlink _ _ _=>True
 | .link no _ _=>L<no
 | .cJ _ _=>True
 | .dA _ _=>True
 | _=>False
theorem ra {x:ia} (h:BC L x):(∀fr a to_ b,x≠.rename fr a to_ b)/\∀no d,x≠.write no d:=by
 cases x<;>first|exact h.elim|exact⟨fun _ _ _ _ e=>(by cases e),fun _ _ e=>(by cases e)⟩
theorem gS.kp (h:gS L cu cg S) (hT:dC c S) {x:ia} (hx:BC L x):gS L cu cg (cq S cu cg now x):=by
 cases x with
 | bB dir nm mode=>exact h.pre (h.come hT.aC _ _ _ rfl)
 | bc dir nm mode data=>exact h.pre (h.come hT.aC _ _ _ rfl)
 | symlink dir nm text=>exact h.pre (h.come hT.aC _ _ _ rfl)
 | link no dir nm=>exact h.Sq _ _ _ _ _ hx
 | cJ no m=>exact h.mode _ _ _
 | dA no m=>exact h.time _ _ _
 | unlink=>exact hx.elim
 | ou=>exact hx.elim
 | rename=>exact hx.elim
 | cK=>exact hx.elim
 | write=>exact hx.elim
theorem Pj (hT:dC c S) {x:ia} (hx:BC L x):bH (cq S cu cg now x)<=bH S+1:=by
 cases x with
 | bB dir nm mode=>exact nC (lG hT _ _ _ _ _ _ rfl)
 | bc dir nm mode data=>exact nC (lG hT _ _ _ _ _ _ rfl)
 | symlink dir nm text=>exact nC (lG hT _ _ _ _ _ _ rfl)
 | link no dir nm=>exact AX hT _ _ _ _ _ _
 | cJ no m=>have:=AY hT cu now no m;show bH (dX ..)<=_;omega
 | dA no m=>have:=AZ hT cu now no m;show bH (ef ..)<=_;omega
 | unlink=>exact hx.elim
 | ou=>exact hx.elim
 | rename=>exact hx.elim
 | cK=>exact hx.elim
 | write=>exact hx.elim
def jW (k:Int) (S T:aa):Prop:=ac T.nodes k=ac S.nodes k/\aK T.nodes k=true
theorem rb {k:Int} (hu:aD S.nodes S.last) (hi:aK S.nodes k=true) {dir:Int} (hd:dir≠k) (nm:List UInt8) (n:ai):jW k S (aW S cu cg now dir nm n):=by
 unfold aW;split
 case isFalse=>exact⟨rfl,hi⟩
 rename_i h0;obtain ⟨h1,_⟩:=eA h0;obtain ⟨p1,_⟩:=aE h1;have hg:=fk hu (bi S cu cg now dir n) p1;have hk:=fk hu (bi S cu cg now dir n) hi;have:=fZ (S:=aQ S (bi S cu cg now dir n)) (n:=eQ (aQ S (bi S cu cg now dir n)) dir now (dq (ac S.nodes dir).af (nm,S.last+1))) (no:=k) (by
  show k≠(ac (aQ S (bi S cu cg now dir n)).nodes dir).no;rw [(aj hg.2).2.1];exact fun e=>hd e.symm)
 exact ⟨this.1.trans hk.1,this.2.trans hk.2⟩
theorem qa {k:Int} (hi:aK S.nodes k=true) {n:ai} (hn:n.no≠k):jW k S (aJ S n):=by
 have:=fZ (S:=S) (n:=n) (no:=k) (fun e=>hn e.symm);exact ⟨this.1,this.2.trans hi⟩
theorem uW {k p:Int} {T:aa} (hi:aK S.nodes k=true) (h:jW k S T):jW k S (dR p S T):=by unfold dR;split;exact⟨rfl,hi⟩;exact h
theorem Mb {k:Int} (hT:dC c S) (hi:aK S.nodes k=true) {x:ia} (hx:Ma k x):jW k S (cq S cu cg now x):=by
 cases x with
 | bB dir nm mode=>exact uW hi (rb hT.aC hi hx _ _)
 | bc dir nm mode data=>exact uW hi (rb hT.aC hi hx _ _)
 | symlink dir nm text=>exact uW hi (rb hT.aC hi hx _ _)
 | link no dir nm =>
  show jW k S (eW ..);unfold eW;split
  case isFalse=>exact⟨rfl,hi⟩
  rename_i h0;obtain ⟨hp,oh,hk,_⟩:=g_ h0;obtain ⟨hid,qD,_⟩:=aE hp;obtain ⟨_,aU,_⟩:=aj oh;have hne:dir≠no:=fun e=>by subst e;exact hk qD
  have e0:(cy S now no).no=no:=aU;obtain ⟨g1,g2⟩:=fZ (S:=S) (n:=cy S now no) (no:=dir) (by rw[e0];exact hne);have k1:=qa hi (n:=cy S now no) (by rw[e0];exact hx.1);have k2:=qa (S:=aJ S (cy S now no)) k1.2 (n:=eQ (aJ S (cy S now no)) dir now (dq (ac S.nodes dir).af (nm,no))) (by
   show (ac (aJ S (cy S now no)).nodes dir).no≠k;rw [(aj (g2.trans hid)).2.1];exact hx.2)
  exact ⟨k2.1.trans k1.1,k2.2⟩
 | cJ no m =>
  show jW k S (dX ..);unfold dX;split
  ·rename_i h0
   unfold eN at h0;split at h0
   ·rename_i h1;exact absurd h0 h1
   ·rename_i h1
    exact qa hi (by show (ac S.nodes no).no≠k;rw[(aj (eZ (Decidable.not_not.1 h1))).2.1];exact hx)
  ·exact⟨rfl,hi⟩
 | dA no m =>
  show jW k S (ef ..);unfold ef;split
  ·rename_i h0
   unfold fq at h0;split at h0
   ·rename_i h1;exact absurd h0 h1
   ·rename_i h1
    exact qa hi (by show (ac S.nodes no).no≠k;rw[(aj (eZ (Decidable.not_not.1 h1))).2.1];exact hx)
  ·exact⟨rfl,hi⟩
 | unlink=>exact hx.elim
 | ou=>exact hx.elim
 | rename=>exact hx.elim
 | cK=>exact hx.elim
 | write=>exact hx.elim
end
structure iZ (L cu cg:Int) (c:Nat) (s:az):Prop where
 new:gS L cu cg s.t
 pl:Pl c s
 who:Whole s.t
 Dk:bH s.t<=c
section
variable {L cu cg:Int} {c:Nat} {s:az}
theorem iZ.mono {d:Nat} (h:iZ L cu cg c s) (Eu:c<=d):iZ L cu cg d s:=⟨h.new,h.pl.mono Eu,h.who,by have:=h.Dk;omega⟩
theorem iZ.kp (h:iZ L cu cg c s) {x:ia} (hx:BC L x):iZ L cu cg (c+1) (jq s cu cg x):=by
 have hp:=h.pl.kp cu cg x (ra hx).1;have h1:=(EO s).1;have h2:=h.Dk
 by_cases hg:yi s=0
 ·have e:(jq s cu cg x).t=cq s.t cu cg s.now x:=by unfold jq;rw[if_neg (fun k=>k hg)]
  refine ⟨?_,hp,?_,?_⟩<;>rw[e]
  ·exact h.new.kp h.pl.ee.eD hx
  ·exact xn h.pl.ee.eD h.who _ _ _ _ (ra hx).1 (ra hx).2
  ·have:=Pj (cu:=cu) (cg:=cg) (now:=s.now) h.pl.ee.eD hx
   omega
 ·have e:(jq s cu cg x).t=s.t:=by unfold jq;rw[if_pos hg];exact h1
  refine ⟨?_,hp,?_,?_⟩<;>rw[e]
  ·exact h.new
  ·exact h.who
  ·omega
theorem iZ.keep (h:iZ L cu cg c s) {k:Int} (hi:aK s.t.nodes k=true) {x:ia} (hx:Ma k x):jW k s.t (jq s cu cg x).t:=by
 by_cases hg:yi s=0
 ·have e:(jq s cu cg x).t=cq s.t cu cg s.now x:=by unfold jq;rw[if_neg (fun k=>k hg)]
  rw [e];exact Mb h.pl.ee.eD hi hx
 ·have e:(jq s cu cg x).t=s.t:=by unfold jq;rw[if_pos hg];exact (EO s).1
  rw [e];exact ⟨rfl,hi⟩
theorem iZ.run (l:List ia):∀{c:Nat} {s:az},iZ L cu cg c s->(∀x∈l,BC L x)->iZ L cu cg (c+l.length) (fl cu cg s l).1/\∀k,aK s.t.nodes k=true->(∀x∈l,Ma k x)->jW k s.t (fl cu cg s l).1.t:=by
 induction l with
 | nil=>intro c s h _;exact⟨h,fun k hk _=>⟨rfl,hk⟩⟩
 | cons x l ih =>
  intro c s h hx;have h1:=h.kp (hx x (List.mem_cons_self ..))
  by_cases he:kW s cu cg x=0
  ·rw [p8 he]
   obtain ⟨k1,k2⟩:=ih h1 (fun y hy=>hx y (List.mem_cons_of_mem _ hy));refine ⟨k1.mono (by rw[List.length_cons];omega),fun k hk ho=>?_⟩;have a:=h.keep hk (ho x (List.mem_cons_self ..));have b:=k2 k a.2 (fun y hy=>ho y (List.mem_cons_of_mem _ hy));exact ⟨b.1.trans a.1,b.2⟩
  ·rw [nc he]
   exact ⟨h1.mono (by rw[List.length_cons];omega),fun k hk ho=>h.keep hk (ho x (List.mem_cons_self ..))⟩
theorem xo {keep:Bool} {no:Int} {m:ai} (hc:cu≠0):(∀x∈ml keep cu cg no m,BC L x)/\∀k,no≠k->∀x∈ml keep cu cg no m,Ma k x:=by
 have h0:OQ keep cu cg no m=[]:=by unfold OQ;rw[if_neg (fun h=>hc h.2.1)]
 have h:∀x∈ml keep cu cg no m,(∃a,x=.cJ no a)\/∃a,x=.dA no a:=by
  intro x hx;unfold ml Qv at hx;rw [h0,List.nil_append]at hx;rcases List.mem_append.1 hx with hx|hx
  ·split at hx
   ·rw[List.mem_singleton]at hx;exact .inl ⟨_,hx⟩
   ·cases hx
  ·rw[List.mem_singleton]at hx;exact .inr ⟨_,hx⟩
 refine ⟨fun x hx=>?_,fun k hk x hx=>?_⟩<;>rcases h x hx with⟨a,rfl⟩|⟨a,rfl⟩
 ·trivial
 ·trivial
 ·exact hk
 ·exact hk
theorem Pk (m:ai) (dir:Int) (nm x:List UInt8):BC L (yI m dir nm x):=by
 unfold yI;split
 ·trivial
 ·split<;>trivial
theorem Pm (m:ai) {dir k:Int} (nm x:List UInt8) (h:dir≠k):Ma k (yI m dir nm x):=by
 unfold yI;split
 ·exact h
 ·split<;>exact h
theorem iZ.tw {T:uH} (h:iZ L cu cg c T.s) (hc:cu≠0) (hM:∀p∈T.made,L<p.2) {n:Nat} (hn:c+3*T.late.length<=n) {keep:Bool} {x:ak} {dir:Int} {nm:List UInt8} (hr:(jh keep cu cg T x dir nm).2=0) :
  (∃c',iZ L cu cg c' (jh keep cu cg T x dir nm).1.s/\c'+3*(jh keep cu cg T x dir nm).1.late.length<=n+4)/\(∀p∈(jh keep cu cg T x dir nm).1.made,L<p.2) /\
  (∀k,aK T.s.t.nodes k=true->dir≠k->k<=L->jW k T.s.t (jh keep cu cg T x dir nm).1.s.t) /\
  (T.made=[]->∃n:ai,n.af=[]/\bC T.s.t cu cg T.s.now dir nm n=0/\jW dir (aW T.s.t cu cg T.s.now dir nm n) (jh keep cu cg T x dir nm).1.s.t):=by
 have hle:=h.new.le;unfold jh at hr|-
 by_cases h1:dH T.s (cC T.s.t x.no)=0
 case neg=>rw[if_pos h1]at hr;exact absurd hr h1
 rw [if_neg (fun k=>k h1)]at hr|-
 by_cases h2:aI T.made x.no=0
 case neg =>
  rw [if_pos h2]at hr|-;have hlt:L<aI T.made x.no:=hM _ (q7 h2);have hx:BC L (.link (aI T.made x.no) dir nm):=hlt;refine ⟨⟨c+1,h.kp hx,by show c+1+3*T.late.length<=_;omega⟩,hM,fun k hk hd dh=>h.keep hk (x:=.link (aI T.made x.no) dir nm) ⟨fun e=>by omega,hd⟩,fun he=>absurd (by rw[he];rfl) h2⟩
 rw [if_neg (fun k=>k h2)]at hr|-
 by_cases h3:yH T.s cu cg (ac T.s.t.nodes x.no) x.no=0
 case neg=>rw[if_pos h3]at hr;exact absurd hr h3
 rw [if_neg (fun k=>k h3)]at hr|-
 by_cases h4:kW T.s cu cg (d_ T cu cg x dir nm)=0
 case neg=>rw[if_pos h4]at hr;exact absurd hr h4
 rw [if_neg (fun k=>k h4)]at hr|-;obtain ⟨n1,N,hN,hc0,hS⟩:=yJ (m:=ac T.s.t.nodes x.no) (dir:=dir) (nm:=nm) (x:=YR T.s cu cg (ac T.s.t.nodes x.no) x.no) h4;have n1':ow T.s cu cg (d_ T cu cg x dir nm)=T.s.t.last+1:=n1;have hS':(jq T.s cu cg (d_ T cu cg x dir nm)).t=aW T.s.t cu cg T.s.now dir nm N:=hS;have g1:iZ L cu cg (c+1) (jq T.s cu cg (d_ T cu cg x dir nm)):=h.kp (Pk ..);have k1:∀k,aK T.s.t.nodes k=true->dir≠k->jW k T.s.t (jq T.s cu cg (d_ T cu cg x dir nm)).t:=fun k hk hd=>h.keep hk (Pm _ _ _ hd)
 have hM':∀p∈T.made++[(x.no,ow T.s cu cg (d_ T cu cg x dir nm))],L<p.2:=fun p hp=>by
  rcases List.mem_append.1 hp with hp|hp
  ·exact hM p hp
  ·rw[List.mem_singleton]at hp;subst hp;show L<ow ..;omega
 obtain ⟨p1,_⟩:=eA hc0;obtain ⟨hid,_⟩:=aE p1;have Xn:aK (jq T.s cu cg (d_ T cu cg x dir nm)).t.nodes dir=true:=by
  have hu:=h.pl.ee.eD.aC;rw [hS'];unfold aW;rw [if_pos hc0];have hg:=fk hu (bi T.s.t cu cg T.s.now dir N) hid;show aK (cA _ _) dir=true;rw [gW];exact hg.2
 by_cases hk:(ac T.s.t.nodes x.no).kind=1
 ·rw [if_pos hk]
  exact ⟨⟨c+1,g1,by show c+1+3*(T.late++[_]).length<=_;rw[List.length_append,List.length_singleton];omega⟩,hM',fun k hk hd _=>k1 k hk hd,fun _=>⟨N,hN,hc0,by show jW dir _ (jq T.s cu cg (d_ T cu cg x dir nm)).t;rw[<-hS'];exact⟨rfl,Xn⟩⟩⟩
 ·rw [if_neg hk]
  obtain ⟨d1,d2⟩:=xo (L:=L) (keep:=keep) (no:=ow T.s cu cg (d_ T cu cg x dir nm)) (m:=ac T.s.t.nodes x.no) (cg:=cg) hc;obtain ⟨r1,r2⟩:=iZ.run _ g1 d1;have hl:=p9 keep cu cg (ow T.s cu cg (d_ T cu cg x dir nm)) (ac T.s.t.nodes x.no);have jQ:dir<=T.s.t.last:=by
   have:=h.pl.ee.eD.aC.2 _ (aj hid).2.2;rw [(aj hid).2.1]at this;exact this.2
  refine ⟨⟨_,r1,by show _+3*T.late.length<=_;omega⟩,hM',fun k hk hd dh=>?_,fun _=>⟨N,hN,hc0,?_⟩⟩
  ·have a:=k1 k hk hd
   have b:=r2 k a.2 (d2 k (fun e=>by omega));exact ⟨b.1.trans a.1,b.2⟩
  ·have b:=r2 dir Xn (d2 dir (fun e=>by omega))
   rw [<-hS'];exact b
theorem iZ.vQ (hc:cu≠0) (_hL:0<=L) {keep:Bool} {k:Int} (Ep:1<=k) (hkL:k<=L) (l:List ak):∀{c n:Nat} {T:uH},iZ L cu cg c T.s->(∀p∈T.made,L<p.2)->c+3*T.late.length<=n->aK T.s.t.nodes k=true->(vQ keep cu cg T l).2=0 ->
  ∃ c',iZ L cu cg c' (Go.Proofs.YtblbohcaphcobaaGreatDoor.vQ keep cu cg T l).1.s/\c'+3*(Go.Proofs.YtblbohcaphcobaaGreatDoor.vQ keep cu cg T l).1.late.length<=n+4*l.length/\(∀p∈(Go.Proofs.YtblbohcaphcobaaGreatDoor.vQ keep cu cg T l).1.made,L<p.2)/\jW k T.s.t (Go.Proofs.YtblbohcaphcobaaGreatDoor.vQ keep cu cg T l).1.s.t:=by
 induction l with
 | nil=>intro c n T h hM hn hi _;exact⟨c,h,by show c+3*T.late.length<=n+4*0;omega,hM,rfl,hi⟩
 | cons x l ih =>
  intro c n T h hM hn hi hr;unfold Go.Proofs.YtblbohcaphcobaaGreatDoor.vQ at hr|-
  by_cases h1:(jh keep cu cg T x (aI T.made x.dir) x.name).2=0
  case neg=>rw[if_pos h1]at hr;exact absurd hr h1
  rw [if_neg (fun k=>k h1)]at hr|-;obtain ⟨⟨c1,g1,g2⟩,g3,g4,_⟩:=h.tw hc hM hn h1;have hd:aI T.made x.dir≠k:=by
   by_cases e:aI T.made x.dir=0
   ·omega
   ·have:=hM _ (q7 e);simp only at this;omega
  have kk:=g4 k hi hd hkL;obtain ⟨c2,f1,f2,f3,f4⟩:=ih g1 g3 g2 kk.2 hr;exact ⟨c2,f1,by rw[List.length_cons];omega,f3,f4.1.trans kk.1,f4.2⟩
theorem iZ.late (hc:cu≠0) {keep:Bool} {M:List (Int×Int)} (hM:∀p∈M,L<p.2) {k:Int} (Ep:1<=k) (hkL:k<=L) (l:List ai):∀{c:Nat} {s:az},iZ L cu cg c s->aK s.t.nodes k=true->(ji keep cu cg M s l).2=0 ->
  iZ L cu cg (c+3*l.length) (ji keep cu cg M s l).1/\jW k s.t (ji keep cu cg M s l).1.t:=by
 induction l with
 | nil=>intro c s h hi _;exact⟨h,rfl,hi⟩
 | cons m l ih =>
  intro c s h hi hr;unfold ji at hr|-
  by_cases h1:(fl cu cg s (ml keep cu cg (aI M m.no) m)).2=0
  case neg=>rw[if_pos h1]at hr;exact absurd hr h1
  rw [if_neg (fun k=>k h1)]at hr|-;obtain ⟨d1,d2⟩:=xo (L:=L) (keep:=keep) (no:=aI M m.no) (m:=m) (cg:=cg) hc;obtain ⟨r1,r2⟩:=iZ.run _ h d1;have hl:=p9 keep cu cg (aI M m.no) m;have hd:aI M m.no≠k:=by
   by_cases e:aI M m.no=0
   ·omega
   ·have:=hM _ (q7 e);simp only at this;omega
  have kk:=r2 k hi (d2 k hd);obtain ⟨f1,f2⟩:=ih (r1.mono (by omega:_<=c+3)) kk.2 hr;exact ⟨f1.mono (by rw[List.length_cons];omega),f2.1.trans kk.1,f2.2⟩
end
theorem uX (keep:Bool) (cu cg to_:Int) (b:List UInt8) (s:az) (x:ak) (l:List ak):uI keep cu cg to_ b s (x::l)=if (jh keep cu cg ⟨s,[],[]⟩ x to_ b).2≠0 then jh keep cu cg ⟨s,[],[]⟩ x to_ b else vQ keep cu cg (jh keep cu cg ⟨s,[],[]⟩ x to_ b).1 l:=rfl
theorem Po {c:Nat} {s:az} (hp:Pl c s) (hW:Whole s.t) (hE:bH s.t<=c) {cu cg to_:Int} {keep:Bool} {b:List UInt8} {l:List ak} (hc:cu≠0) (hl:l≠[]) (hr:(gM keep cu cg to_ b s l 0).2=0) :
  ∃ c',iZ s.t.last cu cg c' (gM keep cu cg to_ b s l 0).1/\c'<=c+4*l.length/\bk (ac (gM keep cu cg to_ b s l 0).1.t.nodes to_).af b=s.t.last+1/\(ac (gM keep cu cg to_ b s l 0).1.t.nodes to_).kind=1/\aK (gM keep cu cg to_ b s l 0).1.t.nodes to_=true/\(b,s.t.last+1)∈(ac (gM keep cu cg to_ b s l 0).1.t.nodes to_).af:=by
 have hu:=hp.ee.eD.aC;have h0:iZ s.t.last cu cg c s:=⟨⟨fun n hn hlt=>by have:=(hu.2 n hn).2;omega,fun no aU=>by
  rcases gi hp.ee.eD.oT (show 0<no by have:=hp.ee.eD.last;omega) with e|⟨k,hk,e1,e2⟩
  ·exact e
  ·exfalso
   obtain ⟨q,hq,q1,_⟩:=hp.ee.eD.lC k hk;have:=(hu.2 q hq).2;omega,Int.le_refl _⟩,hp,hW,hE⟩
 cases l with
 | nil=>exact absurd rfl hl
 | cons x l =>
  unfold gM at hr|-;rw [if_neg (fun k=>k rfl)]at hr|-
  by_cases h1:(uI keep cu cg to_ b s (x::l)).2=0
  case neg=>rw[if_pos h1]at hr;exact absurd hr h1
  rw [if_neg (fun k=>k h1)]at hr|-;rw [uX]at h1 hr|-
  by_cases h2:(jh keep cu cg ⟨s,[],[]⟩ x to_ b).2=0
  case neg=>rw[if_pos h2]at h1;exact absurd h1 h2
  rw [if_neg (fun k=>k h2)]at h1 hr|-;obtain ⟨⟨c1,g1,g2⟩,g3,_,g5⟩:=iZ.tw (T:=⟨s,[],[]⟩) h0 hc (fun p hp=>(by cases hp)) (n:=c) (by show c+3*0<=c;omega) h2;obtain ⟨N,hN,hc0,kk⟩:=g5 rfl;obtain ⟨p1,p2,_⟩:=eA hc0;obtain ⟨hid,qD,_⟩:=aE p1;have Xo:=hu.2 _ (aj hid).2.2;rw [(aj hid).2.1]at Xo;obtain ⟨c2,f1,f2,f3,f4⟩:=iZ.vQ hc (by omega) Xo.1 Xo.2 l g1 g3 g2 kk.2 h1;obtain ⟨e1,e2⟩:=iZ.late hc f3 Xo.1 Xo.2 _ f1 f4.2 hr;have hg:ac (ji keep cu cg (vQ keep cu cg (jh keep cu cg ⟨s,[],[]⟩ x to_ b).1 l).1.made (vQ keep cu cg (jh keep cu cg ⟨s,[],[]⟩ x to_ b).1 l).1.s (vQ keep cu cg (jh keep cu cg ⟨s,[],[]⟩ x to_ b).1 l).1.late.reverse).1.t.nodes to_=ac (aW s.t cu cg s.now to_ b N).nodes to_:=e2.1.trans (f4.1.trans kk.1);have IP:=fk hu (bi s.t cu cg s.now to_ N) hid;have hc1:ac (aW s.t cu cg s.now to_ b N).nodes to_={ac s.t.nodes to_ with af:=dq (ac s.t.nodes to_).af (b,s.t.last+1),mtime:=s.now,ctime:=s.now}:=by
   have hcs:bC s.t cu cg s.now to_ b N=0:=hc0;unfold aW;rw [if_pos hcs];have hum:aD (aQ s.t (bi s.t cu cg s.now to_ N)).nodes (aQ s.t (bi s.t cu cg s.now to_ N)).last:=by
    unfold aQ;rw [if_pos (eA hcs).2.2];exact hu.add _ rfl (by have:=hp.ee.eD.last;omega)
   have:=tK (S:=aQ s.t (bi s.t cu cg s.now to_ N)) (n:=eQ (aQ s.t (bi s.t cu cg s.now to_ N)) to_ s.now (dq (ac s.t.nodes to_).af (b,s.t.last+1))) hum (by show aK _ (ac _ _).no=true;rw[(aj IP.2).2.1];exact IP.2);have e3:(eQ (aQ s.t (bi s.t cu cg s.now to_ N)) to_ s.now (dq (ac s.t.nodes to_).af (b,s.t.last+1))).no=to_:=(aj IP.2).2.1;rw [e3]at this;show ac (aJ _ _).nodes to_=_;rw [this];unfold eQ;rw [IP.1]
  refine ⟨_,e1,?_,?_,?_,e2.2,?_⟩
  ·rw[List.length_reverse,List.length_cons];omega
  ·rw[hg,hc1];exact wK _ _ _
  ·rw[hg,hc1];exact qD
  ·rw[hg,hc1];exact JG _ _
theorem Mc {L cu cg:Int} {c:Nat} {s:az} (h:iZ L cu cg c s) {t l:List ak} {b:ak} {e:Int} (hd:jB s.t 0 0 t l b e) (ht:∀y∈t,L<y.no/\aK s.t.nodes y.no=true/\aK s.t.nodes y.dir=true/\(ac s.t.nodes y.no).dev=(ac s.t.nodes y.dir).dev) :
  e = 0/\∀y∈l,L<y.no/\aK s.t.nodes y.no=true:=by
 have hT:=h.pl.ee.eD;have key:∀x:ak,(L<x.no/\aK s.t.nodes x.no=true/\aK s.t.nodes x.dir=true/\(ac s.t.nodes x.no).dev=(ac s.t.nodes x.dir).dev)->gj s.t 0 0 x=0:=by
  rintro x ⟨_,h1,h2,h3⟩;unfold gj;rw [if_neg (by rw[h1];decide),if_neg (by rw[h2];decide),if_neg (fun k=>k h3)];split
  ·rfl
  ·rename_i hk
   unfold bf;rw [if_neg (by rw[h1];decide),if_pos (Decidable.not_not.1 hk),if_neg (by rw[Cp _ _ _ _ _ rfl];decide)]
 induction hd with
 | nil=>exact⟨rfl,fun y hy=>by cases hy⟩
 | bad hb=>exact absurd (key _ (ht _ (List.mem_cons_self ..))) hb
 | @step x t l b e hx _ ih =>
  have YW:=ht x (List.mem_cons_self ..);obtain ⟨a1,a2⟩:=ih (fun y hy=>by
   rcases List.mem_append.1 hy with hy|hy
   case inr=>exact ht y (List.mem_cons_of_mem _ hy)
   by_cases hk:(ac s.t.nodes x.no).kind=1
   case neg=>rw[nA (fun k=>hk k.2)]at hy;cases hy
   rw [ku ⟨hx,hk⟩,List.mem_map]at hy;obtain ⟨z',hz',rfl⟩:=hy;unfold dn at hz';rw [List.mem_map]at hz';obtain ⟨z,hz,rfl⟩:=hz';obtain ⟨i1,i2,i3⟩:=bo hk;have hzl:L<z.2:=(h.new.own _ i3 (by rw[i2];exact YW.1)).2.2 z hz;have ho:=h.new.over z.2 hzl;have oF:=h.who.there _ i3 z hz;have Je:=(hT.xR _ i3 z hz).2.2 _ (aj oF).2.2 (aj oF).2.1;show L<ar s.t.ag z.2/\aK s.t.nodes (ar s.t.ag z.2)=true/\aK s.t.nodes x.no=true/\(ac s.t.nodes (ar s.t.ag z.2)).dev=(ac s.t.nodes x.no).dev;rw [ho];exact ⟨hzl,oF,YW.2.1,Je⟩)
  refine ⟨a1,fun y hy=>?_⟩;rcases List.mem_cons.1 hy with rfl|hy
  ·exact⟨YW.1,YW.2.1⟩
  ·exact a2 y hy
end
section
theorem xp {keep:Bool} {cu cg:Int} {T:uH} {x:ak} {dir:Int} {nm:List UInt8} (h:(jh keep cu cg T x dir nm).2=0):(jh keep cu cg T x dir nm).1.s.dead=false:=by
 unfold jh at h|-
 by_cases h1:dH T.s (cC T.s.t x.no)=0
 case neg=>rw[if_pos h1]at h;exact absurd h h1
 rw [if_neg (fun k=>k h1)]at h|-
 by_cases h2:aI T.made x.no=0
 case neg=>rw[if_pos h2]at h|-;exact (gF h).2
 rw [if_neg (fun k=>k h2)]at h|-
 by_cases h3:yH T.s cu cg (ac T.s.t.nodes x.no) x.no=0
 case neg=>rw[if_pos h3]at h;exact absurd h h3
 rw [if_neg (fun k=>k h3)]at h|-
 by_cases h4:kW T.s cu cg (d_ T cu cg x dir nm)=0
 case neg=>rw[if_pos h4]at h;exact absurd h h4
 rw [if_neg (fun k=>k h4)]at h|-
 by_cases h5:(ac T.s.t.nodes x.no).kind=1
 ·rw[if_pos h5];exact (gF h4).2
 ·rw[if_neg h5]at h|-;exact l9 yK h
theorem Hc {keep:Bool} {cu cg:Int} (l:List ak):∀{T:uH},T.s.dead=false->(vQ keep cu cg T l).2=0->(vQ keep cu cg T l).1.s.dead=false:=by
 induction l with
 | nil=>intro T h _;exact h
 | cons x l ih =>
  intro T _ h;unfold vQ at h|-
  by_cases h1:(jh keep cu cg T x (aI T.made x.dir) x.name).2=0
  case neg=>rw[if_pos h1]at h;exact absurd h h1
  rw [if_neg (fun k=>k h1)]at h|-;exact ih (xp h1) h
theorem BD {keep:Bool} {cu cg:Int} {M:List (Int×Int)} (l:List ai):∀{s:az},s.dead=false->(ji keep cu cg M s l).2=0->(ji keep cu cg M s l).1.dead=false:=by
 induction l with
 | nil=>intro s h _;exact h
 | cons m l ih =>
  intro s _ h;unfold ji at h|-
  by_cases h1:(fl cu cg s (ml keep cu cg (aI M m.no) m)).2=0
  case neg=>rw[if_pos h1]at h;exact absurd h h1
  rw [if_neg (fun k=>k h1)]at h|-;exact ih (l9 yK h1) h
theorem DK {keep:Bool} {cu cg to_:Int} {b:List UInt8} {s:az} {l:List ak} (hl:l≠[]) (h:(gM keep cu cg to_ b s l 0).2=0):(gM keep cu cg to_ b s l 0).1.dead=false:=by
 cases l with
 | nil=>exact absurd rfl hl
 | cons x l =>
  unfold gM at h|-;rw [if_neg (fun k=>k rfl)]at h|-
  by_cases h1:(uI keep cu cg to_ b s (x::l)).2=0
  case neg=>rw[if_pos h1]at h;exact absurd h h1
  rw [if_neg (fun k=>k h1)]at h|-;refine BD _ ?_ h;rw [uX]at h1|-
  by_cases h2:(jh keep cu cg ⟨s,[],[]⟩ x to_ b).2=0
  case neg=>rw[if_pos h2]at h1;exact absurd h1 h2
  rw [if_neg (fun k=>k h2)]at h1|-;exact Hc _ (xp h2) h1
theorem BF {s:az} {cu cg dir:Int} {nm:List UInt8} {l:List ak} {b:ak} (h:mV s cu cg dir nm l b 0):l≠[]:=by
 rcases h with⟨h1,_,_,h2⟩|⟨_,_,h⟩
 ·exact absurd h2.symm h1
 ·intro e
  subst e
  generalize hx:[ic s cu cg dir nm]=t at h
  generalize he:(0:Int)=e0 at h
  cases h with
  | nil=>cases hx
  | bad h=>exact h he.symm
theorem Md {c:Nat} {s:az} (hp:Pl c s) (hW:Whole s.t) (hE:bH s.t<=c) {cu cg fr to_:Int} {keep:Bool} {a b:List UInt8} {l:List ak} {b0:ak} {e0:Int} (hc:cu≠0) (hT:mV s cu cg fr a l b0 e0) (hr:(gM keep cu cg to_ b s l e0).2=0) :
  ∃ c',Pl c' (gM keep cu cg to_ b s l e0).1/\c'<=c+4*l.length/\(gM keep cu cg to_ b s l e0).1.dead=false /\
   ∃ l2,mV (gM keep cu cg to_ b s l e0).1 0 0 to_ b l2 jA 0/\l2≠[]/\l2.length<=1+c'/\∀y∈l2,s.t.last<y.no/\aK (gM keep cu cg to_ b s l e0).1.t.nodes y.no=true/\(ac (gM keep cu cg to_ b s l e0).1.t.nodes y.no).uid=cu/\(ac (gM keep cu cg to_ b s l e0).1.t.nodes y.no).gid=cg:=by
 have h0:e0=0:=by
  by_cases h:e0=0
  ·exact h
  ·unfold gM at hr
   rw [if_pos h]at hr;exact hr
 subst h0;have hl:=BF hT;have hd:=DK hl hr;obtain ⟨c',hI,hc',hf,hk,hi,hm⟩:=Po hp hW hE hc hl hr
 generalize (gM keep cu cg to_ b s l 0).1=s' at *
 have YX:=hI.pl.ee.eD;obtain ⟨_,aU,hmem⟩:=aj hi;have ho:bf s'.t 0 0 to_ 1 1=0:=by
  unfold bf;rw [if_neg (by rw[hi];decide),if_pos hk,if_neg (by rw[Cp _ _ _ _ _ rfl];decide)]
 have hoN:aT s'.t 0 0 to_ 1 1=ac s'.t.nodes to_:=by unfold aT;rw[if_pos ho]
 have jQ:s.t.last+1≠0:=by have:=hp.ee.eD.last;omega
 have hlk:iz s'.t 0 0 to_ b=0:=by
  unfold iz;rw [if_pos ho,hoN,hf,if_neg jQ]
 have hlN:kH s'.t 0 0 to_ b=s.t.last+1:=by
  unfold kH;rw [if_pos hlk,hoN,hf];exact hI.new.over _ (by omega)
 have hfE:jr s' 0 0 to_ b=0:=by unfold jr dH;rw[if_neg (by rw[hd];decide)];exact hlk
 have hfX:ic s' 0 0 to_ b=⟨to_,b,s.t.last+1,0⟩:=by unfold ic Qi;rw[if_neg (by rw[hd];decide),hlN]
 obtain ⟨l2,b2,e2,ut,Hm⟩:=EH YX hI.pl.ee.kids 0 0 to_ b;have oF:aK s'.t.nodes (s.t.last+1)=true:=hI.who.there _ hmem _ hm;rcases ut with⟨h1,_⟩|⟨h1,h2,h3⟩
 ·exact absurd hfE h1
 ·rw [hfX]at h3
  have Rc:=(YX.xR _ hmem _ hm).2.2 _ (aj oF).2.2 (aj oF).2.1;obtain ⟨rA,hall⟩:=Mc hI h3 (fun y hy=>by
   rw [List.mem_singleton]at hy;subst hy;exact ⟨by show s.t.last<s.t.last+1;omega,oF,hi,Rc⟩)
  subst rA;have hb2:b2=jA:=h3.err rfl;subst hb2;have WU:mV s' 0 0 to_ b l2 jA 0:=.inr ⟨h1,h2,by rw[hfX];exact h3⟩;refine ⟨c',hI.pl,hc',hd,l2,WU,BF WU,by have:=hI.Dk;omega,fun y hy=>?_⟩;obtain ⟨a1,a2⟩:=hall y hy;obtain ⟨_,e1,e3⟩:=aj a2;obtain ⟨g1,g2,_⟩:=hI.new.own _ e3 (by rw[e1];exact a1);exact ⟨a1,a2,g1,g2⟩
theorem Th {keep:Bool} {cu cg:Int} (l:List ak):∀{c n:Nat} {T:uH},Pl c T.s->c+3*T.late.length<=n->∃c',Pl c' (vQ keep cu cg T l).1.s/\c'+3*(vQ keep cu cg T l).1.late.length<=n+4*l.length:=by
 induction l with
 | nil=>intro c n T h hn;exact⟨c,h,by show c+3*T.late.length<=n+4*0;omega⟩
 | cons x l ih =>
  intro c n T h hn;obtain ⟨c1,h1,h2⟩:=DC (keep:=keep) (cu:=cu) (cg:=cg) h hn x (aI T.made x.dir) x.name;unfold vQ;split
  ·exact⟨c1,h1,by rw[List.length_cons];omega⟩
  ·obtain ⟨c2,h3,h4⟩:=ih h1 h2
   exact ⟨c2,h3,by rw[List.length_cons];omega⟩
theorem Me {keep:Bool} {cu cg:Int} {M:List (Int×Int)} (l:List ai):∀{c:Nat} {s:az},Pl c s->Pl (c+3*l.length) (ji keep cu cg M s l).1:=by
 induction l with
 | nil=>intro c s h;exact h
 | cons m l ih =>
  intro c s h;have h1:=(h.fl cu cg (ml keep cu cg (aI M m.no) m) uG).mono (show _<=c+3 by have:=p9 keep cu cg (aI M m.no) m;omega);unfold ji;split
  ·exact h1.mono (by rw[List.length_cons];omega)
  ·exact (ih h1).mono (by rw[List.length_cons];omega)
theorem Pp {c:Nat} {s:az} (h:Pl c s) (keep:Bool) (cu cg to_:Int) (b:List UInt8) (l:List ak) (e:Int):Pl (c+4*l.length) (gM keep cu cg to_ b s l e).1:=by
 have hA : ∃c',Pl c' (uI keep cu cg to_ b s l).1.s/\c'+3*(uI keep cu cg to_ b s l).1.late.length<=c+4*l.length:=by
  cases l with
  | nil=>exact⟨c,h,by show c+3*0<=c+4*0;omega⟩
  | cons x l =>
   rw [uX];obtain ⟨c1,h1,h2⟩:=DC (keep:=keep) (cu:=cu) (cg:=cg) (T:=⟨s,[],[]⟩) (n:=c) h (by show c+3*0<=c;omega) x to_ b;split
   ·exact⟨c1,h1,by rw[List.length_cons];omega⟩
   ·obtain ⟨c2,h3,h4⟩:=Th (keep:=keep) (cu:=cu) (cg:=cg) l h1 h2
    exact ⟨c2,h3,by rw[List.length_cons];omega⟩
 obtain ⟨c',h1,h2⟩:=hA;unfold gM;split
 ·exact h.mono (by omega)
 split
 ·exact h1.mono (by omega)
 ·exact (Me _ h1).mono (by rw[List.length_reverse];omega)
open Go.ChangeShapes Go.WideShapes Go.ChangeAt Go.RowKit
theorem PS.Xp {w:World} {B b x:Nat} {g:bJ} {s:az} {cs:Array Value} {t:TypeId} (h:PS w B b g s) (hx:Has w x (.cells cs t)) (h0:t≠66) (h1:t≠70) (h2:t≠113) (h3:t≠157):x∉b::g.list:=by
 obtain ⟨A,cap,k1,k2,_⟩:=h;intro hm;rcases List.mem_cons.1 hm with rfl|hm
 ·unfold Has at hx
  unfold eI Has at k2;rw [hx]at k2;injection k2 with e;injection e with _ e;exact h0 e
 ·exact k1.iy hx h1 h2 h3 hm
theorem yP (AW:∀w,Calls Tryz.prog 6 #[] w (aH w (.bool true))) (x:mZ) (cs:Array Value) (w:World) (h:m_ w x cs):Calls Tryz.prog 3 #[.agg cs] w (aH w (.bool true)):=by
 obtain ⟨W1,bV⟩:∃W,W=w.alloc (.cells cs 30):=⟨_,rfl⟩;obtain ⟨b1,jO⟩:∃b,b=w.heap.size:=⟨_,rfl⟩;have E1:Ext w W1:=by rw[bV];exact (Ext.refl _).alloc _
 have B1:Has W1 b1 (.cells cs 30):=by rw[bV,jO];exact Has.new _ _
 have KF:=zH (G5 x cs W1 (h.ext E1));obtain ⟨x0,hx0⟩:∃x0:mZ,x0={x with plan:=[]}:=⟨_,rfl⟩;obtain ⟨Am,cm,Ai,ci,Ap,cp,rfl,hr1,yT,_,_,jF,i_,qd,MP,_⟩:=h;have KB:Hid (G4 x->∀u,Ext w u->Calls Tryz.prog 7 #[.agg #[.slice Am x.ms.length cm,.slice Ai x.is.length ci,x.uid,x.gid,.int .i64 x.at_,.int .i64 x.to_,bs x.name,.slice none 0 0,.bool x.keep]] u (LG u x0)):=by
  show _->∀_,_;intro hF u hu;rw [hx0];exact LH _ _ u ⟨Am,cm,Ai,ci,none,0,rfl,hr1.ext hu,yT.ext hu,.inl rfl,fun _=>rfl,jF,i_,qd,MP,Nat.le_refl _,by decide⟩ ⟨hF.1,hF.2.1,Nat.zero_le _⟩
 obtain ⟨nm,gP⟩:∃n,n=x.ms.length:=⟨_,rfl⟩;obtain ⟨ni,sB⟩:∃n,n=x.is.length:=⟨_,rfl⟩;obtain ⟨np,Hv⟩:∃n,n=x.plan.length:=⟨_,rfl⟩;obtain ⟨Pn,hPn⟩:∃P,P=bs x.name:=⟨_,rfl⟩;rw [<-gP,<-sB,<-hPn]at bV B1 KF KB|-;rw [<-Hv]at bV B1 KF|-;have YH:=zH hPn;have p6:=zH B1;have ub:Hid (w.heap.size<=b1):=zH (by rw[jO];exact Nat.le_refl _);have c0:=B1.cell 0;have c1:=B1.cell 1;have c2:=B1.cell 2;have c3:=B1.cell 3;have c4:=B1.cell 4;have c5:=B1.cell 5;have c6:=B1.cell 6;have c7:=B1.cell 7;have c8:=B1.cell 8;have cz:=B1.lt;simp only[gA,gB,gC]at c0 c1 c2 c3 c4 c5 c6 c7 c8;clear gP sB Hv hPn B1 hr1 yT jF i_ qd MP;go_enter Tryz.func3,Tryz.ntmps3;go_upto_region 1 with fail;rw [<-bV,<-jO];clear bV jO;go_wp2_with fail;refine KF.out.mono ?_;rintro e w2 ⟨h2,E2⟩;clear KF;have Bg:=zH (E1.trans E2);have B2:=p6.out.ext E2;have Xq:=zH B2;have Xr:w.heap.size<=b1:=ub.out;clear c0 c1 c2 c3 c4 c5 c6 c7 c8 cz;have c2:=B2.cell 2;have cz:=B2.lt;simp only[gA,gB,gC]at c2;rcases h2 with⟨rfl,hF⟩|rfl
 case inr =>
  clear B2;go_wp2_with fail;refine (AW _).mono ?_;rintro e wz ⟨rfl,bz⟩;go_wp2_with fail;go_ret;exact aH.mk rfl (Bg.out.trans bz)
 by_cases Xu:x.uid=0
 case pos =>
  have tu:(x.uid == 0)=true:=by simpa using Xu
  clear B2 hF Xu;go_wp2_with fail;refine (AW _).mono ?_;rintro e wz ⟨rfl,bz⟩;go_wp2_with fail;go_ret;exact aH.mk rfl (Bg.out.trans bz)
 have tu:(x.uid == 0)=false:=by simpa using Xu
 have HF:=zH hF;have HU0:=zH Xu;have KB1:=zH (KB.out hF);have c7:=B2.cell 7;have cf:∀i,w2.frozen? ⟨b1,i,none⟩=false:=fun i=>(B2.free i).trans (by simp)
 simp only[gA,gB,gC]at c7;clear hF Xu KB B2;go_upto_region 4 with fail;obtain ⟨W3,dg⟩:∃W,W=w2.setCell ⟨b1,7,none⟩ (.slice none 0 0):=⟨_,rfl⟩;rw [<-dg];have O3:Only [b1] w2 W3:=by rw[dg];exact Only.setCell _ _ _ _
 have B3:Has W3 b1 (.cells #[.slice Am nm cm,.slice Ai ni ci,x.uid,x.gid,.int .i64 x.at_,.int .i64 x.to_,.string Pn,.slice none 0 0,.bool x.keep] 30):=by rw[dg];exact Xq.out.setCell 7 _
 have E3:Ext w W3:=O3.after Bg.out (by intro y hy;rw[List.mem_singleton]at hy;subst hy;exact Xr);have Ql:=zH E3;have HB3:=zH B3;have KB2:=zH (KB1.out W3 E3);clear dg O3 c7 c2 cf cz E1 E2 KB1 Xq Bg E3 Xr tu;have c0:=B3.cell 0;have c1:=B3.cell 1;have c2:=B3.cell 2;have c3:=B3.cell 3;have c4:=B3.cell 4;have c5:=B3.cell 5;have c6:=B3.cell 6;have c7:=B3.cell 7;have c8:=B3.cell 8;have cz:=B3.lt;simp only[gA,gB,gC]at c0 c1 c2 c3 c4 c5 c6 c7 c8;clear B3;go_wp2_with fail;refine KB2.out.mono ?_;rintro e w4 ⟨B,b,g,f,rfl,hB,hP,hR,E4⟩;rw [hx0]at hP hR;have hFx:G4 {x with plan:=[]}:=⟨HF.out.1,HF.out.2.1,Nat.zero_le _⟩;obtain ⟨hpl,hs⟩:=yO hFx;have hwh:=BB x.ms x.is;obtain ⟨s,hs0⟩:∃s:az,s=⟨fC x.ms x.is,0,0,[],false⟩:=⟨_,rfl⟩;have hst:s.t=fC x.ms x.is:=by rw[hs0]
 have SL:s.dead=false:=by rw[hs0]
 have hsp:s.plan=[]:=by rw[hs0]
 have hP:PS w4 B b g s:=by rw[hs0];exact hP
 have hR:RS w4 B f s:=by rw[hs0];exact hR
 have hs:fJ 140 s:=by rw[hs0];exact hs
 have hpl:iL 140 (fC x.ms x.is):=hpl;rw [<-hst]at hpl hwh;have HSD:=zH SL;have HSP:=zH hsp;have HWH:=zH hwh;have HB0:=zH hB;have HE4:=zH E4;have HP:=zH hP;have HR:=zH hR;have HS:=zH hs;have sx:=zH hpl;have aa7:=zH (Ql.out.trans E4);have Lf:=zH (HB3.out.ext E4);have B4:=Lf.out;have KS:=zH (L1 hR hpl x.at_);have KD:=zH (fun (u:World) (hu:Ext w4 u)=>Pd (HR.out.ext hu) sx.out x.to_);obtain ⟨vN,vD,v3,v4,v5,v6,hFS⟩:∃vN vD v3 v4 v5 v6,Has w4 f.bF (.cells #[vN,vD,.int .i64 s.t.last,v3,v4,v5,v6] 54):=by
  obtain ⟨X,_,cn,ce,k,_⟩:=HR.out.TM;exact ⟨_,_,_,_,_,_,k⟩
 have HFS:=zH hFS;have oD:=zH hst;clear hB hs0 hst SL hsp hP hR hs hpl hwh hFx hx0 KB2 E4 c0 c1 c2 c3 c4 c5 c6 c7 c8 cz hFS;have c4:=B4.cell 4;have cz:=B4.lt;simp only[gA,gB,gC]at c4;clear B4;go_wp2_with fail;refine KS.out.mono ?_;rintro e w5 ⟨dir,nm0,is,rfl,_,_,E5⟩;have YY:=zH E5;have B5:=Lf.out.ext E5;have KD5:=zH (KD.out _ E5);clear KS KD c4 cz E5;have c5:=B5.cell 5;have cz:=B5.lt;simp only[gA,gB,gC]at c5;clear B5;go_wp2_with fail;refine KD5.out.mono ?_;rintro e w6 ⟨to_,rfl,E6⟩;obtain ⟨l,b0,e0,hT,Hm⟩:=EH HS.out.eD sx.out.ee.kids x.uid x.gid dir nm0;have hp:Pl 140 s:=⟨sx.out.ee,HS.out.c0,HS.out.c1,HS.out.plan⟩;have Xv:=sx.out.Dk;have QF:=YY.out.trans E6;have K:=zH ((HP.out.ext QF).ET hp x.keep x.uid x.gid dir to_ nm0 x.name l b0 e0 hT (by omega) (by omega));have hlist:=Md (keep:=x.keep) (to_:=to_) (b:=x.name) hp HWH.out Xv HU0.out hT;obtain⟨C,hC⟩:=aq (gM x.keep x.uid x.gid to_ x.name s l e0);rw [<-hC,<-YH.out]at K;rw [<-hC]at hlist;have HLI:=zH hlist;have BL:=zH (show l.length<=141 by omega);have B6:=Lf.out.ext QF;have HB6:=zH B6;have aa8:=zH (aa7.out.trans QF);have Xw:=zH (HFS.out.ext QF);have IG:=zH ((HP.out.ext QF).Xp B6 (by decide) (by decide) (by decide) (by decide));have HNF:=zH ((HP.out.ext QF).Xp Xw.out (by decide) (by decide) (by decide) (by decide));have SQ:=zH ((HP.out.ext QF).cR);clear KD5 c5 cz E6 QF hT Hm hp Xv hlist hC;have c2:=B6.cell 2;have c3:=B6.cell 3;have c6:=B6.cell 6;have c8:=B6.cell 8;have cz:=B6.lt;simp only[gA,gB,gC]at c2 c3 c6 c8;clear B6;go_wp2_with fail;refine K.out.mono ?_;rintro e w7 ⟨rfl,P7,O7⟩;have Xx:=zH (O7.after aa8.out (fun y hy=>by have h1:=(SQ.out y hy).1;have h2:=HB0.out;have h3:=Ql.out.size;omega));have HP7:=zH P7
 have EJ:=zH (O7.has HB6.out IG.out);have Xy:=zH (O7.has Xw.out HNF.out);clear K c2 c3 c6 c8 cz P7 O7
 by_cases kC:C.2=0
 case neg =>
  have t55:(C.2 != 0)=true:=by simpa using kC
  clear kC;go_wp2_with fail;refine (AW _).mono ?_;rintro e wz ⟨rfl,bz⟩;go_wp2_with fail;go_ret;exact aH.mk rfl (Xx.out.trans bz)
 have t55:(C.2 != 0)=false:=by simpa using kC
 obtain ⟨c',hp',hc',hd',l2,ut,oG,qd,hall⟩:=HLI.out kC;have vY:l2.length<=1000:=by have:=BL.out;omega
 have KA:=zH (HP7.out.all hp'.ig (by have:=BL.out;omega) 0 0 to_ x.name l2 jA 0 ut vY);have KST:Hid (∀(u:World) (no:Int),Ext w7 u->aK C.1.t.nodes no=true->Calls Tryz.prog 12 #[.pointer (some ⟨b,0,none⟩),.int .i64 no] u (aH u (.tuple #[fG (ac C.1.t.nodes no),.int .i64 0]))):=by
  show ∀_ _ _ _,_;intro u no hu hi;have:=(HP7.out.ext hu).stat hp'.ig no;have e1:ue C.1 (ac C.1.t.nodes no)=ac C.1.t.nodes no:=by unfold ue;rw[if_neg (by rw[hd'];decide)]
  have e2:dH C.1 (cC C.1.t no)=0:=by unfold dH cC;rw[if_neg (by rw[hd'];decide),if_pos hi]
  rw [e1,e2]at this;exact this
 have aa9:=zH hall;have Qs:=zH oG;rw [<-YH.out]at KA;clear kC hp' hc' hd' ut oG qd hall;have c6:=EJ.out.cell 6;have cz:=EJ.out.lt;simp only[gA,gB,gC]at c6;go_wp2_with fail;refine KA.out.mono ?_;rintro e w8 ⟨v,rfl,O8,E8⟩;rw [if_pos trivial]at O8;obtain ⟨A8,k8,rfl,hA8,hk8⟩:=O8.lies;obtain⟨n,hn⟩:=aq l2.length;rw [<-hn]at hk8 vY|-;have HN:=zH hn;have HA8:=zH hA8;have yC:=zH E8;have aba:=zH (Xx.out.trans E8);have hpos:0<n:=by rw[hn];exact List.length_pos_iff.2 Qs.out
 clear KA c6 cz O8 hn hA8 E8;go_wp2_with fail;go_loopw [11] (fun vi wr=>∃k:Nat,vi=.int .i64 k/\k<=n/\Ext w8 wr) (fun vi _=>n-(intOf vi).toNat)
 case atStart=>exact⟨0,rfl,Nat.zero_le _,Ext.refl _⟩
 case round =>
  obtain ⟨k,rfl,hk,hE⟩:=hrel;have k0:(0:Int)<=(k:Int):=Int.natCast_nonneg _;have HE:=zH hE
  by_cases hlt:(k:Int)<n
  case pos =>
   have dh:k<l2.length:=by have:=HN.out;omega
   obtain⟨y,hy⟩:=aq (l2[k]);obtain ⟨a1,a2,a3,a4⟩:=aa9.out y (by rw[hy];exact List.getElem_mem dh);obtain ⟨gl,o,rfl,Gm,hc⟩:∃gl o,A8=some ⟨gl,o,none⟩/\gl<wr.heap.size/\wr.cell? ⟨gl,o+k*4+2,none⟩=some (.int .i64 y.no):=by
    rcases HA8.out.ext hE with h|⟨gl,o,hA,hg,Nd⟩
    ·rw[h]at dh;cases dh
    ·exact⟨gl,o,hA,hg,by rw[Nd k dh 2 (by decide),<-hy];rfl⟩
   have BM:IntKind.i64.wrap ((k:Int)+1)=(k:Int)+1:=IntWalk.i64_in _ (by omega);have KS:=zH (KST.out wr y.no (yC.out.trans hE) a2);obtain⟨m,hm⟩:=aq (ac C.1.t.nodes y.no);rw [<-hm]at a3 a4 KS;have HC:=zH hc;have HG:=zH Gm;have hle:decide (y.no<=s.t.last)=false:=decide_eq_false (by omega);have HU3:=zH a3;have HU4:=zH a4;unfold fG at KS;clear hy a1 a2 a3 a4 hm hE dh;go_wp2_with fail;refine KS.out.mono ?_;rintro e w9 ⟨rfl,E9⟩;go_upto_region 16 with fail;obtain ⟨W9,PH⟩:∃W,W=w9.alloc (.cells #[m.no,m.dev,m.kind,m.mode,m.uid,m.gid,m.ah,.int .i64 m.data.length,m.mtime,m.ctime] 46):=⟨_,rfl⟩;obtain ⟨Hq,Ti⟩:∃b,b=w9.heap.size:=⟨_,rfl⟩;have S9:Has W9 Hq (.cells #[m.no,m.dev,m.kind,m.mode,m.uid,m.gid,m.ah,.int .i64 m.data.length,m.mtime,m.ctime] 46):=by rw[PH,Ti];exact Has.new _ _
   have XA:Ext wr W9:=by rw[PH];exact E9.alloc _
   have abb:=zH XA;have DL:=yC.out.trans (HE.out.trans XA);rw [<-PH,<-Ti];have u4:∀u:Gr W9,u.w.cell? ⟨Hq,4,none⟩=some (.int .i64 m.uid):=Gr.cell S9.lt (S9.cell 4);have u5:∀u:Gr W9,u.w.cell? ⟨Hq,5,none⟩=some (.int .i64 m.gid):=Gr.cell S9.lt (S9.cell 5);have ux:∀u:Gr W9,u.w.cell? ⟨b1,2,none⟩=some (.int .i64 x.uid):=Gr.cell (EJ.out.ext DL).lt ((EJ.out.ext DL).cell 2);have uy:∀u:Gr W9,u.w.cell? ⟨b1,3,none⟩=some (.int .i64 x.gid):=Gr.cell (EJ.out.ext DL).lt ((EJ.out.ext DL).cell 3);have ul:∀u:Gr W9,u.w.cell? ⟨f.bF,2,none⟩=some (.int .i64 s.t.last):=Gr.cell (Xy.out.ext DL).lt ((Xy.out.ext DL).cell 2);have un:∀u:Gr W9,u.w.cell? ⟨gl,o+k*4+2,none⟩=some (.int .i64 y.no):=Gr.cell (by have:=XA.size;have:=HG.out;omega) ((XA.cell HG.out).trans HC.out);have PD:(m.uid != x.uid)=false:=by rw[HU3.out];simp
   have b2':(m.gid != x.gid)=false:=by rw[HU4.out];simp
   clear PH Ti S9 XA DL E9 KS hc Gm;refine dJ W9 (by kernel_rfl) (by kernel_rfl) (Ext.refl _).drew ?_
   repeat (quiet_step (fail))
   refine wpQuiet_nil ?_;rintro Da ⟨⟨Da,Qq⟩,Q0⟩;dsimp only at Q0;subst Q0;have Bd:=zH (HE.out.trans (abb.out.trans Qq));clear u4 u5 ux uy ul un Qq;go_wp2_with fail;go_roundw
   case rel=>exact⟨k+1,by go_num,by omega,Bd.out⟩
   case measure=>simp[intOf];omega
  case neg =>
   clear hE;go_wp2_with fail;refine (AW _).mono ?_;rintro e wz ⟨rfl,bz⟩;go_wp2_with fail;go_ret;exact aH.mk rfl (aba.out.trans (HE.out.trans bz))
attribute [local go_sem] Oper.semAt_some
def li (s:az) (cu cg:Int) (x:ak):Int:=if cu≠0/\((ue s (ac s.t.nodes x.no)).uid≠cu\/(ue s (ac s.t.nodes x.no)).gid≠cg) then 4 else 0
def rc (s:az) (cu cg:Int):List ak->Int->Int
 | [],e=>e
 | x::l,e=>if li s cu cg x≠0 then li s cu cg x else rc s cu cg l e
theorem ng {s:az} {cu cg:Int} (a r:List ak) (e:Int) (h:∀x∈a,li s cu cg x=0):rc s cu cg (a++r) e=rc s cu cg r e:=by
 induction a with
 | nil=>rfl
 | cons x a ih =>
  show (if li s cu cg x≠0 then li s cu cg x else rc s cu cg (a++r) e)=rc s cu cg r e;rw [if_neg (by rw[h x (List.mem_cons_self ..)];decide)];exact ih fun y hy=>h y (List.mem_cons_of_mem _ hy)
theorem Mf {s:az} {cu cg:Int} {l:List ak} {b:ak} {e:Int} {q:List (ak×Int)} {y:ak×Int} (h:q++[y] <+: told l b e) (hq:∀z∈q,z.2=0/\li s cu cg z.1=0) :
  (y.2≠0->rc s cu cg l e=y.2)/\(y.2=0->li s cu cg y.1≠0->rc s cu cg l e=li s cu cg y.1):=by
 constructor
 ·intro hy
  obtain ⟨e1,_,e3⟩:=xb h hy;have hl:∀x∈l,li s cu cg x=0:=fun x hx=>(hq (x,0) (by rw[e3];exact List.mem_map_of_mem hx)).2
  have:=ng l [] e hl;rw [List.append_nil]at this;rw [this,e1];rfl
 ·intro hy hne
  have hp : q++[y] <+: l.map fun x=>(x,(0:Int)):=by
   unfold told at h;split at h
   ·rw[List.append_nil]at h;exact h
   ·rename_i he
    rcases List.prefix_concat_iff.1 h with h1|h1
    ·have h2:=(List.append_inj' h1 rfl).2
     injection h2 with h2;rw [h2]at hy;exact absurd hy he
    ·exact h1
  obtain ⟨r,hr⟩:=hp;have hm:=congrArg (List.map Prod.fst) hr;have ei:(Prod.fst∘fun x:ak=>(x,(0:Int)))=id:=rfl;rw [List.map_map,ei,List.map_id,List.map_append,List.map_append]at hm;rw [<-hm,List.append_assoc,ng _ _ _ (fun x hx=>by
   obtain ⟨z,hz,rfl⟩:=List.mem_map.1 hx;exact (hq z hz).2)]
  show rc s cu cg (y.1::r.map Prod.fst) e=_;unfold rc;rw [if_pos hne]
def DM (W1:World) (N k b:Nat) (cu cg dir:Int) (nm:List UInt8) (s:az) (O:List Nat) (pre:List (ak×Int)) (V:World):Prop:=
 Ext W1 V/\Dh V k b cu cg dir nm/\(∀y∈pre,y.2=0/\li s cu cg y.1=0)/\(∀x∈O,N<=x)/\N<=V.heap.size
theorem DM.bears {W1:World} {N k b:Nat} {cu cg dir:Int} {nm:List UInt8} {s:az} (h1:W1.heap.size<=N) (h2:k+3<N):Bears N (DM W1 N k b cu cg dir nm s):=by
 rintro O pre V O' R V' ⟨a1,a2,a3,a4,a5⟩ o hR hO Db;have hL:∀x∈O++R,N<=x:=fun x hx=>by
  rcases List.mem_append.1 hx with hx|hx
  ·exact a4 x hx
  ·exact (hR x hx).1
 refine ⟨o.after a1 fun x hx=>by have:=hL x hx;omega,a2.only o fun x hx=>.inr (by have:=hL x hx;omega),a3,fun x hx=>?_,by have:=o.size;omega⟩;rcases hO x hx with e|e
 ·exact a4 x e
 ·omega
def Tj (w:World) (b8:Nat) (cu cg:Int) (s:az) (cc:Code) (pre:List (ak×Int)) (V:World):Prop:=
 cc=.ret/\Ext w V/\∃q y v,pre=q++[y]/\(∀z∈q,z.2=0/\li s cu cg z.1=0)/\Has V b8 (.cells #[.int .i64 v] 40)/\((y.2≠0/\v=y.2)\/(y.2=0/\li s cu cg y.1≠0/\v=li s cu cg y.1))
theorem PS.Tk {c:Nat} {w:World} {B b:Nat} {g:bJ} {s:az} (h:PS w B b g s) (hs:fJ c s) (hc:c<=900) (cu cg dir:Int) (nm:List UInt8) (l:List ak) (b0:ak) (e0:Int) (hT:mV s cu cg dir nm l b0 e0) (hlen:l.length<=1000) :
  Calls Tryz.prog 26 #[.pointer (some ⟨b,0,none⟩),.agg #[cu,cg],.int .i64 dir,bs nm] w (aH w (.int .i64 (rc s cu cg l e0))):=by
 refine (callsIn_wide (n:=4)).1 ?_;obtain⟨F,hF⟩:=aq Fence.wide;have hro:F.round=none:=by rw[hF];rfl
 have JN:F.fn 26:=by rw[hF];trivial
 have PG:F.fn 33:=by rw[hF];trivial
 have hf3:F.fn 69:=by rw[hF];trivial
 have hf4:F.fn 12:=by rw[hF];trivial
 have KD:=fun (W:World)=>EK F 3 PG hro b cu cg dir nm W
 have KST:Hid (∀(lb m:Nat) (u:World) (no:Int),Ext w u->CallsIn (F.inRound lb) m Tryz.prog 12 #[.pointer (some ⟨b,0,none⟩),.int .i64 no] u (aH u (.tuple #[fG (ue s (ac s.t.nodes no)),.int .i64 (dH s (cC s.t no))]))):=by
  show ∀_ _ _ _,_;intro lb m u no hu;rw [hF];exact CallsIn.inRound lb (callsIn_wide.2 ((h.ext hu).stat hs no))
 rw [<-hF];have HF:=zH hF;clear hF;refine callsIn_of_wp_marks Tryz.func26 rfl JN ?_ hro;simp only[Tryz.ntmps26,List.size_toArray,List.length_cons,List.length_nil,Nat.reduceAdd,Nat.reduceSub,Array.replicate_succ,Array.replicate_zero,List.push_toArray,List.append_toArray,List.nil_append,List.cons_append];gi_wp2_with (gi_at_call 33;refine (KD _).mono ?_;rintro e w3 ⟨rfl,C3,E3,Z3⟩);obtain ⟨W1,bV⟩:∃V,V=((w.alloc (.cells #[.pointer (some ⟨b,0,none⟩)] 33)).alloc (.cells #[cu,cg] 27)).alloc (.cells #[.int .i64 0] 40):=⟨_,rfl⟩;obtain ⟨b4,ug⟩:∃x,x=w.heap.size:=⟨_,rfl⟩;obtain ⟨b5,kF⟩:∃x,x=w.heap.size+1:=⟨_,rfl⟩;obtain ⟨b8,fP⟩:∃x,x=w.heap.size+1+1:=⟨_,rfl⟩;obtain ⟨k,hk⟩:∃x,x=w.heap.size+1+1+1:=⟨_,rfl⟩;have hs1:W1.heap.size=k:=by rw[bV,hk];simp
 have E1:Ext w W1:=by rw[bV];exact (((Ext.refl _).alloc _).alloc _).alloc _
 have H4:Has W1 b4 (.cells #[.pointer (some ⟨b,0,none⟩)] 33):=by
  rw [bV,ug];exact ((Has.new w _).alloc _).alloc _
 have H5:Has W1 b5 (.cells #[cu,cg] 27):=by
  rw [bV,kF];have:=Has.new (w.alloc (.cells #[.pointer (some ⟨b,0,none⟩)] 33)) (.cells #[cu,cg] 27);rw [World.size_alloc]at this;exact this.alloc _
 have H8:Has W1 b8 (.cells #[.int .i64 0] 40):=by
  rw [bV,fP];have:=Has.new ((w.alloc (.cells #[.pointer (some ⟨b,0,none⟩)] 33)).alloc (.cells #[cu,cg] 27)) (.cells #[.int .i64 0] 40);simp only[World.size_alloc]at this;exact this
 rw [<-bV]at E3 C3 Z3;rw [hs1]at C3 Z3;rw [<-hk,<-fP,<-kF,<-ug];obtain⟨N,hN⟩:=aq w3.heap.size;have aaD:N<=k+4:=by rw[hN,Z3];exact Nat.le_refl _
 have aaE:k+4<=N:=by rw[hN,Z3];exact Nat.le_refl _
 have l1:w.heap.size<=b4:=by omega
 have l2:b4<b5:=by omega
 have l3:b5<b8:=by omega
 have l4:b8<k:=by omega
 have aaF:W1.heap.size<=k:=by rw[hs1];exact Nat.le_refl _
 have HN:=zH hN;have BK:N<=w3.heap.size:=by rw[hN];exact Nat.le_refl _
 have Qn:w3.heap.size<=N:=by rw[hN];exact Nat.le_refl _
 have EB:=zH (h.ext E1);have AR:=zH E1;have MY:=zH H4;have HH5:=zH H5;have V0:=zH H8;have HTD:=zH hs.eD.ag;have Qk:(told l b0 e0).length<=1001:=by have:=uk l b0 e0;omega
 have KS:=AO (c:=c) F HF.out (4-1) (by omega) B b g s hs hc k cu cg dir nm l b0 e0 hT hlen w3;clear bV ug kF fP hk H4 H5 H8 E1 h hs hT KD hs1 Z3 hN;refine pT hro (by omega) (gf:=69) (lb:=#[.pointer (some ⟨k,0,none⟩),.pointer (some ⟨k+1,0,none⟩),.pointer (some ⟨k+2,0,none⟩),.pointer (some ⟨k+3,0,none⟩)]) rfl hf3 (enters_of Tryz.func69 (by kernel_rfl) rfl) KS (Nat.le_refl _) (fun _=>rfl)
  (DM W1 N k b cu cg dir nm s)
  (Tj w b8 cu cg s)
  (by rw[<-HN.out];exact DM.bears (by omega) (by omega))
  (by rintro cc pre V R V' ⟨a1,a2,q,y,v,a3,a4,a5,a6⟩ o hR;exact⟨a1,o.after a2 (fun x hx=>by have:=(hR x hx).1;omega),q,y,v,a3,a4,o.has a5 (fun hm=>by have:=(hR _ hm).1;omega),a6⟩)
  (fun O pre V hI=>⟨EB.out.ext hI.1,hI.2.1⟩)
  ⟨E3,C3,fun y hy=>(by cases hy),fun x hx=>(by cases hx),BK⟩
  (fun x a' V=>∃Bx,N<=Bx/\Has V Bx (.cells #[.int .i64 x.1.dir,bs x.1.name,x.1.no,.int .i64 x.1.depth] 50)/\a'={tmps:=#[.pointer (some ⟨b,0,none⟩),.agg #[cu,cg],.int .i64 dir,.string (bs nm),.pointer (some ⟨b4,0,none⟩),.pointer (some ⟨b5,0,none⟩),undef,undef,.pointer (some ⟨b8,0,none⟩),.pointer (some ⟨Bx,0,none⟩),.int .i64 x.2,undef,undef,.pointer (some ⟨b,0,none⟩),.agg #[cu,cg],.int .i64 dir,.string (bs nm),.func (.func 69) #[] #[.pointer (some ⟨k,0,none⟩),.pointer (some ⟨k+1,0,none⟩),.pointer (some ⟨k+2,0,none⟩),.pointer (some ⟨k+3,0,none⟩)],.agg #[.int .i64 x.1.dir,bs x.1.name,x.1.no,.int .i64 x.1.depth],.int .i64 x.2,undef,undef,undef,undef,undef,undef,undef,undef,undef,undef,undef,undef,undef,undef,undef,undef,undef,undef,undef,undef,undef,undef,undef,undef,undef,undef,undef],defers:=[]})
  ?VP ?assign ?body ?done ?stop
 case VP =>
  rintro x a' V l o o' ⟨Bx,h1,h2,rfl⟩ hl ho hc';refine ⟨Bx,h1,?_,rfl⟩;have hne:Bx≠l:=fun e=>by subst e;unfold Has at h2;rw[h2]at ho;cases ho;cases hc'
  exact (World.putObj_heap_other hne).trans h2
 case assign =>
  rintro lp O pre x V K hI hG GK hK;gi_wp2;refine hK _ _ ((KeepsOthers.alloc _ _).from _) ((Only.gJ [] V _).EC (fun b hb=>(GK b hb).lt) (fun _ _=>by simp)) ?_ ⟨V.heap.size,hI.2.2.2.2,Has.new _ _,rfl⟩;exact (DM.bears (W1:=W1) (N:=N) (by omega) (by omega)) O pre V O [] _ hI (by rw[List.append_nil];exact Only.gJ _ _ _) (fun r hr=>by cases hr) (fun x hx=>.inl hx) (fun x hx=>(GK x hx).ext ((Ext.refl V).alloc _))
 case body =>
  rintro lp O pre x a' V hI ⟨Bx,hBx,KJ,rfl⟩ hG GK;rw [<-HN.out];have HI:=zH hI;have HOB:=zH GK;obtain ⟨a1,_,a3,a4,a5⟩:=hI;have P0:=EB.out.ext a1;have V4:=MY.out.ext a1;have V5:=HH5.out.ext a1;have V8:=V0.out.ext a1;have m8:∀y∈[b8],y=b8:=fun y hy=>by simpa using hy
  have HX:Hid (∀(V1:World) (v:Int),Only [b8] V V1->Has V1 b8 (.cells #[.int .i64 v] 40)->((x.2≠0/\v=x.2)\/(x.2=0/\li s cu cg x.1≠0/\v=li s cu cg x.1))->Km N (DM W1 N k b cu cg dir nm s) (Tj w b8 cu cg s) O (pre++[x]) V .ret {tmps:=#[],defers:=[]} V1):=by
   show ∀_ _ _ _ _,_;intro V1 v o9 h9 hv;exact ⟨o9.lE (fun y hy=>.inl (by have:=m8 y hy;omega)),rfl,o9.after (AR.out.trans a1) (fun y hy=>by have:=m8 y hy;omega),pre,x,v,rfl,a3,h9,hv⟩
  have HZ:Hid (∀V1:World,Ext V V1->x.2=0->li s cu cg x.1=0->Km N (DM W1 N k b cu cg dir nm s) (Tj w b8 cu cg s) O (pre++[x]) V .normal {tmps:=#[],defers:=[]} V1):=by
   show ∀_ _ _ _,_;intro V1 hE h1 h2;refine ⟨(Only.av (L:=[]) hE).lE (fun y hy=>by cases hy),(Only.av (L:=[]) hE).EC (fun y hy=>(HOB.out y hy).lt) (fun _ _=>by simp),a1.trans hE,HI.out.2.1.only (Only.av (L:=[]) hE) (fun y hy=>by cases hy),fun y hy=>?_,a4,by have:=hE.size;omega⟩;rcases List.mem_append.1 hy with hy|hy
   ·exact a3 y hy
   ·rw[List.mem_singleton]at hy;subst hy;exact⟨h1,h2⟩
  by_cases hx0:x.2=0
  case neg =>
   have t0:(x.2 != 0)=true:=by simpa using hx0
   have c8:=V8.cell 0;have f8:=V8.free 0;have z8:=V8.lt;have H9:=zH (HX.out _ x.2 (Only.setCell _ _ _ _) (Has.setCell V8 0 _) (.inl ⟨hx0,rfl⟩));clear hx0 a1 a3 a4 a5 P0 V4 V5 V8 KJ hG GK HX HZ;gi_wp2;exact H9.out
  have t0:(x.2 != 0)=false:=by simpa using hx0
  have sA:=zH hx0;obtain⟨m,hm⟩:=aq (ue s (ac s.t.nodes x.1.no));have PU:Hid (∀j,CallsIn (F.inRound lp) j Tryz.prog 12 #[.pointer (some ⟨b,0,none⟩),x.1.no] V (aH V (.tuple #[fG m,.int .i64 (dH s (cC s.t x.1.no))]))):=by
   show ∀_,_;intro j;rw [hm];exact KST.out lp j V x.1.no (AR.out.trans a1)
  have HM:Hid (li s cu cg x.1=if cu≠0/\(m.uid≠cu\/m.gid≠cg) then 4 else 0):=by
   show _=_;rw [hm];rfl
  unfold fG at PU;have c4:=V4.cell 0;have z4:=V4.lt;have y2:=KJ.cell 2;have yz:=KJ.lt;simp only[gA,gB,gC]at y2 c4;have YZ:=zH V5;have Hr:=zH V8;clear hx0 hm a1 a3 a4 a5 P0 V4 V5 V8 KJ hG GK;have abc:=zH (HM);have KEY:Hid (∀(E:Bool),(E=true↔cu≠0/\(m.uid≠cu\/m.gid≠cg))->(E=true->li s cu cg x.1=4)/\(E=false->li s cu cg x.1=0)):=by
   show ∀_,_;intro E hE;rw [HM.out];refine ⟨fun h=>if_pos (hE.1 h),fun h=>if_neg fun k=>?_⟩;have:=hE.2 k;rw [h]at this;cases this
  have hcu:(cu != 0)=decide (cu≠0):=by by_cases h:cu=0<;>simp[h]
  have XC:(m.uid != cu)=decide (m.uid≠cu):=by by_cases h:m.uid=cu<;>simp[h]
  have XD:(m.gid != cg)=decide (m.gid≠cg):=by by_cases h:m.gid=cg<;>simp[h]
  have HCU:=zH hcu;have XE:=zH XC;have XF:=zH XD;clear hcu XC XD HM abc;obtain ⟨P1,Y0⟩:∃P,P=decide (cu≠0):=⟨_,rfl⟩;obtain ⟨P2,yY⟩:∃P,P=decide (m.uid≠cu):=⟨_,rfl⟩;obtain ⟨P3,Y1⟩:∃P,P=decide (m.gid≠cg):=⟨_,rfl⟩;have e1:(cu != 0)=P1:=by rw[HCU.out,Y0]
  have e2:(m.uid != cu)=P2:=by rw[XE.out,yY]
  have e3:(m.gid != cg)=P3:=by rw[XF.out,Y1]
  have H4:Hid ((P1=true/\(P2=true\/P3=true))->li s cu cg x.1=4):=by
   show _->_;intro h;refine (KEY.out true ⟨fun _=>⟨of_decide_eq_true (Y0.symm.trans h.1),h.2.imp (fun h=>of_decide_eq_true (yY.symm.trans h)) (fun h=>of_decide_eq_true (Y1.symm.trans h))⟩,fun _=>rfl⟩).1 rfl
  have H0:Hid ((P1=false\/(P2=false/\P3=false))->li s cu cg x.1=0):=by
   show _->_;intro h;refine (KEY.out false ⟨(fun h=>by cases h),fun⟨a,b⟩=>?_⟩).2 rfl
   exfalso
   rcases h with h|⟨h1,h2⟩
   ·exact of_decide_eq_false (Y0.symm.trans h) a
   ·exact b.elim (of_decide_eq_false (yY.symm.trans h1)) (of_decide_eq_false (Y1.symm.trans h2))
  clear KEY HCU XE XF Y0 yY Y1
  cases P1 with
  | false =>
   have HC:=zH (H0.out (.inl rfl));clear H0 H4;gi_wp2_with (gi_at_call 12;refine (PU.out _).mono ?_;rintro e w2 ⟨rfl,b2⟩;have W5:=YZ.out.ext b2;have c5:=W5.cell 0;have Tm:=W5.cell 1;have z5:=W5.lt;simp only[gA,gB,gC]at c5 Tm);exact HZ.out _ (b2.alloc _) sA.out HC.out
  | true =>
   cases P2 with
   | true =>
    have HC:=zH (H4.out ⟨rfl,.inl rfl⟩);clear H0 H4;gi_wp2_with (gi_at_call 12;refine (PU.out _).mono ?_;rintro e w2 ⟨rfl,b2⟩;have W5:=YZ.out.ext b2;have W8:=Hr.out.ext b2;have c5:=W5.cell 0;have Tm:=W5.cell 1;have z5:=W5.lt;have c8:=W8.cell 0;have f8:=W8.free 0;have z8:=W8.lt;simp only[gA,gB,gC]at c5 Tm);exact HX.out _ 4 (((Only.av (L:=[b8]) b2).then (Only.setCell _ _ _ _)).then (Only.gJ _ _ _)) ((Has.setCell (Hr.out.ext b2) 0 _).alloc _) (.inr ⟨sA.out,by rw[HC.out];decide,HC.out.symm⟩)
   | false =>
    cases P3 with
    | true =>
     have HC:=zH (H4.out ⟨rfl,.inr rfl⟩);clear H0 H4;gi_wp2_with (gi_at_call 12;refine (PU.out _).mono ?_;rintro e w2 ⟨rfl,b2⟩;have W5:=YZ.out.ext b2;have W8:=Hr.out.ext b2;have c5:=W5.cell 0;have Tm:=W5.cell 1;have z5:=W5.lt;have c8:=W8.cell 0;have f8:=W8.free 0;have z8:=W8.lt;simp only[gA,gB,gC]at c5 Tm);exact HX.out _ 4 (((Only.av (L:=[b8]) b2).then (Only.setCell _ _ _ _)).then (Only.gJ _ _ _)) ((Has.setCell (Hr.out.ext b2) 0 _).alloc _) (.inr ⟨sA.out,by rw[HC.out];decide,HC.out.symm⟩)
    | false =>
     have HC:=zH (H0.out (.inr ⟨rfl,rfl⟩));clear H0 H4;gi_wp2_with (gi_at_call 12;refine (PU.out _).mono ?_;rintro e w2 ⟨rfl,b2⟩;have W5:=YZ.out.ext b2;have c5:=W5.cell 0;have Tm:=W5.cell 1;have z5:=W5.lt;simp only[gA,gB,gC]at c5 Tm);exact HZ.out _ (b2.alloc _) sA.out HC.out
 case done =>
  rintro D O xs V hD hxs hI hK;subst hxs;obtain ⟨a1,a2,a3,a4,a5⟩:=hI;obtain ⟨h0,hmap⟩:=xa (l:=l) (b:=b0) (e:=e0) (fun y hy=>(a3 y hy).1);have hE:rc s cu cg l e0=0:=by
   have:=ng (s:=s) (cu:=cu) (cg:=cg) l [] e0 (fun y hy=>by
    rw [<-hmap]at hy;obtain ⟨z,hz,rfl⟩:=List.mem_map.1 hy;exact (a3 z hz).2)
   rw [List.append_nil]at this;rw [this,h0];rfl
  have V8:=V0.out.ext a1;have c8:=V8.cell 0;have f8:=V8.free 0;have z8:=V8.lt;have Hr:=zH V8;have HK:=zH hK;have HQ:=zH hE;have SM:=zH (AR.out.trans a1);clear a1 a2 a3 a4 a5 hK hE h0 hmap V8;gi_wp2;obtain⟨V2,lI⟩:=aq (V.setCell ⟨b8,0,none⟩ (.int .i64 0));rw [<-lI];have o2:Only [b8] V V2:=by rw[lI];exact Only.setCell V b8 0 _
  have q8:Has V2 b8 (.cells #[.int .i64 0] 40):=by rw[lI];exact Has.setCell Hr.out 0 _
  have GN:=o2.has HK.out (by simp;omega);refine ⟨by simp,.inl ⟨_,_,rfl,run_takeDeferred GN,?_⟩⟩;have o3:Only [b8,D] V (V2.putObj D (.deferred none)):=(o2.mono (by simp)).then ((Only.putObj V2 D _).mono (by simp));have r8:=((Only.putObj V2 D (.deferred none)).has q8 (by simp;omega)).cell 0;have m8:∀y∈[b8,D],y=b8\/y=D:=fun y hy=>by simpa using hy
  refine ⟨.int .i64 0,by simp[results,Tryz.results26,go_sem,r8],?_⟩;exact aH.mk (by rw[HQ.out]) (o3.after SM.out (fun y hy=>by rcases m8 y hy with e|e<;>omega))
 case stop =>
  rintro D cc pre V hD hp ⟨rfl,hE,q,y,v,rfl,hq,h8,hv⟩ hK;obtain ⟨e1,e2⟩:=Mf hp hq;have hve:v=rc s cu cg l e0:=by
   rcases hv with⟨k1,k2⟩|⟨k1,k2,k3⟩
   ·rw[k2];exact (e1 k1).symm
   ·rw[k3];exact (e2 k1 k2).symm
  have EV:=hE;gi_wp2;refine ⟨by simp,.inl ⟨_,_,rfl,run_takeDeferred hK,?_⟩⟩;have r8:=((Only.putObj V D (.deferred none)).has h8 (by simp;omega)).cell 0;refine ⟨.int .i64 v,by simp[results,Tryz.results26,go_sem,r8],?_⟩;exact aH.mk (by rw[hve]) ((Only.putObj V D _).after EV (fun x hx=>by simp at hx;omega))
end
section
open Go.ChangeShapes Go.WideShapes Go.ChangeAt Go.RowKit
def Hd (S:aa):Nat->List dB->List Int->Option (List yG)
 | 0,_,_=>none
 | _+1,[],_=>some []
 | n+1,x::t,aC=>if aK S.nodes (ar S.ag x.2)=false then Hd S n t aC else
  match Hd S n (cO S x++t) (aC++[ar S.ag x.2]) with|none=>none|some l=>some (vO S aC x::l)
theorem yQ {S:aa}:∀{n:Nat} {t:List dB} {aC:List Int} {l:List yG},Hd S n t aC=some l->dU S t aC l
 | 0,_,_,_,h=>by cases h
 | n+1,[],aC,l,h=>by injection h with h;subst h;exact .nil aC
 | n + 1,x::t,aC,l,h=>by
  unfold Hd at h;split at h
  ·rename_i h1;exact .none h1 (yQ h)
  ·rename_i h1
   split at h
   ·cases h
   ·rename_i r h2;injection h with h;subst h;exact .step (by simpa using h1) (yQ h2)
def Mg:List dN:=[⟨[47,100],1,488,0,0,7,[]⟩,⟨[47,100,47,121],2,0,5,0,0,[97,98,99]⟩,⟨[47,100,47,120],4,0,0,0,0,[47,100,47,121]⟩]
def Tn:aa:=(DE [] Mg).getD cB
theorem xq:fC [] Mg=Tn:=Hb (by kernel_rfl)
def vR:List ak:=[⟨1,[100],2,0⟩,⟨2,[120],3,1⟩,⟨2,[121],3,1⟩]
abbrev He:az:=⟨Tn,0,0,[],false⟩
theorem xt:ic He 0 0 1 [100]=⟨1,[100],2,0⟩/\jr He 0 0 1 [100]=0:=⟨by kernel_rfl,by kernel_rfl⟩
theorem Mh:mV He 0 0 1 [100] vR jA 0:=.inr ⟨xt.2,rfl,by
 rw [xt.1];exact uQ (n:=9) (r:=(vR,jA,0)) (by kernel_rfl)⟩
def qb:az×Int:=gM true 0 0 1 [101] He vR 0
theorem Tp:qb.2=0:=by kernel_rfl
def rf:List yG:=(Hd qb.1.t 20 [([47],1)] []).getD []
theorem Mi:dU qb.1.t [([47],1)] [] rf:=yQ (n:=20) (show Hd qb.1.t 20 [([47],1)] []=some rf by kernel_rfl)
theorem EU:rf.length=7:=by kernel_rfl
theorem XG:(rf[4]?).map (fun r=>(r.path,r.mtime,r.mode))=some ([47,101],7,488):=by kernel_rfl
theorem XH:(rf[6]?).map (fun r=>(r.first,r.uid,r.data))=some (5,5,[97,98,99]):=by kernel_rfl
theorem o7:ic qb.1 5 0 1 [100]=⟨1,[100],2,0⟩/\jr qb.1 5 0 1 [100]=0/\qb.1.dead=false:=⟨by kernel_rfl,by kernel_rfl,by kernel_rfl⟩
theorem Hf:mV qb.1 5 0 1 [100] vR jA 0:=.inr ⟨o7.2.1,o7.2.2,by
 rw [o7.1];exact uQ (n:=9) (r:=(vR,jA,0)) (by kernel_rfl)⟩
theorem Pq:rc qb.1 5 0 vR 0=4:=by kernel_rfl
theorem Mj:Pl 140 He:=by
 have k:e7 140 Tn:=by rw[<-xq];exact (xe (by decide) (by decide)).ee
 exact ⟨k,Int.le_refl _,by decide,Nat.zero_le _⟩
theorem EX:Pl 152 qb.1:=Pp Mj true 0 0 1 [101] vR 0
def QG:Prop:=∀(c:Nat) (u:World) (B b:Nat) (g:bJ) (s:az),PS u B b g s->Pl c s->c<=300->∀rows:List yG,dU s.t [([47],1)] [] rows->rows.length<=200 ->
 Calls Tryz.prog 25 #[.pointer (some ⟨b,0,none⟩)] u (fun e w'=>∃v,e=.returned v/\bZ l8 w' u.heap.size v rows/\Ext u w')
theorem EY {α β:Type} {l:List α} {k:Nat} {f:α->β} {y:β} (h:(l[k]?).map f=some y):∃hk:k<l.length,f l[k]=y:=by
 cases hx:l[k]? with
 | none=>rw[hx]at h;cases h
 | some x =>
  rw [hx]at h;injection h with h;obtain ⟨hk,e⟩:=List.getElem?_eq_some_iff.1 hx;exact ⟨hk,by rw[e];exact h⟩
theorem Pr (DR:QG) (w:World):Calls Tryz.prog 6 #[] w (aH w (.bool true)):=by
 obtain ⟨W1,bV⟩:∃W,W=w.alloc (.cells (se.cells Mg).toArray 80):=⟨_,rfl⟩;obtain ⟨b1,jO⟩:∃b,b=w.heap.size:=⟨_,rfl⟩;have E1:Ext w W1:=by rw[bV];exact (Ext.refl _).alloc _
 have B1:Has W1 b1 (.cells (se.cells Mg).toArray 80):=by rw[bV,jO];exact Has.new _ _
 have KP:=zH (uA none [] 0 (some ⟨b1,0,none⟩) Mg 3 W1 (.inl rfl) (eB.Tc (R:=se) B1) (by decide) (by decide) (fun m hm=>by cases hm) (by decide));have abd:w.alloc (.cells #[.string ⟨#[47,100]⟩,.int .i64 1,.int .i64 488,.int .i64 0,.int .i64 0,.int .i64 7,.string ⟨#[]⟩,.string ⟨#[47,100,47,121]⟩,.int .i64 2,.int .i64 0,.int .i64 5,.int .i64 0,.int .i64 0,.string ⟨#[97,98,99]⟩,.string ⟨#[47,100,47,120]⟩,.int .i64 4,.int .i64 0,.int .i64 0,.int .i64 0,.int .i64 0,.string ⟨#[47,100,47,121]⟩] 80)=W1:=by rw[bV];rfl
 clear bV;go_enter Tryz.func6,Tryz.ntmps6;go_wp2_with fail;rw [<-jO];clear abd jO B1;refine KP.out.mono ?_;rintro e w2 ⟨b,B,g,rfl,hB,P2,E2⟩;rw [xq]at P2;clear KP;have y_:=zH (E1.trans E2);have rW:Hid (∀x∈b::g.list,w.heap.size<=x):=fun x hx=>by
  have h1:=(P2.cR x hx).1;have h2:=E1.size;omega
 have K1:Hid (Calls Tryz.prog 10 #[.pointer (some ⟨b,0,none⟩),.agg #[.int .i64 0,.int .i64 0],.int .i64 1,.string ⟨#[100]⟩,.int .i64 1,.string ⟨#[101]⟩,.bool true] w2 (OS w2 B b g qb.1 0)):=by
  show Calls _ _ _ _ _;have:=P2.ET Mj true 0 0 1 1 [100] [101] vR jA 0 Mh (by decide) (by decide);have e:(gM true 0 0 1 [101] He vR 0).2=0:=Tp;rw [e]at this;exact this
 have K2:Hid (∀u,PS u B b g qb.1->Calls Tryz.prog 25 #[.pointer (some ⟨b,0,none⟩)] u (fun e w'=>∃v,e=.returned v/\bZ l8 w' u.heap.size v rf/\Ext u w')):=by
  show ∀_,_;intro u hu;exact DR 152 u B b g qb.1 hu EX (by decide) rf Mi (by rw[EU];decide)
 have K3:Hid (∀u,PS u B b g qb.1->Calls Tryz.prog 26 #[.pointer (some ⟨b,0,none⟩),.agg #[.int .i64 5,.int .i64 0],.int .i64 1,.string ⟨#[100]⟩] u (aH u (.int .i64 4))):=by
  show ∀_,_;intro u hu;have:=hu.Tk EX.ig (by decide) 5 0 1 [100] vR jA 0 Hf (by decide);rw [Pq]at this;exact this
 clear P2 E1 E2;go_wp2_with fail;refine K1.out.mono ?_;rintro e w3 ⟨rfl,P3,O3⟩;clear K1;have Ql:=zH (O3.after y_.out rW.out);have Hs:=zH P3;clear P3 O3;go_wp2_with fail;refine (K2.out _ Hs.out).mono ?_;rintro e w4 ⟨v,rfl,O4,E4⟩;clear K2;have SB:=zH (Hs.out.ext E4);have HE4:=zH (Ql.out.trans E4);obtain ⟨gb,cap,rfl,y0,y2,y5,z3,z8,z9,hgb⟩:∃gb cap,v=.slice (some ⟨gb,0,none⟩) 7 cap/\w4.cell? ⟨gb,40,none⟩=some (.string ⟨#[47,101]⟩)/\w4.cell? ⟨gb,42,none⟩=some (.int .i64 488)/\w4.cell? ⟨gb,45,none⟩=some (.int .i64 7)/\w4.cell? ⟨gb,63,none⟩=some (.int .i64 5)/\w4.cell? ⟨gb,68,none⟩=some (.int .i64 5)/\w4.cell? ⟨gb,69,none⟩=some (.string ⟨#[97,98,99]⟩)/\gb<w4.heap.size:=by
  obtain ⟨h4,e4⟩:=EY XG;obtain ⟨h6,e6⟩:=EY XH;rcases O4.cases with⟨_,e⟩|⟨gb,cap,cur,rfl,_,hg,_,_,hc⟩
  ·rw[e]at h4;cases h4
  ·injection e4 with a1 a2
   injection a2 with a2 a3;injection e6 with c1 c2;injection c2 with c2 c3;refine ⟨gb,cap,by rw[EU],?_,?_,?_,?_,?_,?_,hg.lt⟩
   ·have:=hc 4 h4 0 (by decide);rw[show 4*l8.k+0=40 from rfl]at this;rw[this];show some (Value.string (bs rf[4].path))=_;rw[a1];rfl
   ·have:=hc 4 h4 2 (by decide);rw[show 4*l8.k+2=42 from rfl]at this;rw[this];show some (Value.int .i64 rf[4].mode)=_;rw[a3]
   ·have:=hc 4 h4 5 (by decide);rw[show 4*l8.k+5=45 from rfl]at this;rw[this];show some (Value.int .i64 rf[4].mtime)=_;rw[a2]
   ·have:=hc 6 h6 3 (by decide);rw[show 6*l8.k+3=63 from rfl]at this;rw[this];show some (Value.int .i64 rf[6].uid)=_;rw[c2]
   ·have:=hc 6 h6 8 (by decide);rw[show 6*l8.k+8=68 from rfl]at this;rw[this];show some (Value.int .i64 rf[6].first)=_;rw[c1]
   ·have:=hc 6 h6 9 (by decide);rw[show 6*l8.k+9=69 from rfl]at this;rw[this];show some (Value.string (bs rf[6].data))=_;rw[c3];rfl
 have K4:=zH (K3.out _ SB.out);clear O4 E4 K3;go_wp2_with fail;refine K4.out.mono ?_;rintro e w5 ⟨rfl,E5⟩;go_wp2_with fail;go_ret;exact aH.mk rfl (HE4.out.trans E5)
theorem xu {l:List Int} {x:Int} (k:List Int) (h:x∈l):gL (l++k) x=gL l x:=by
 induction l with
 | nil=>cases h
 | cons a l ih =>
  rw [List.cons_append,iG,iG]
  by_cases e:(a == x)=true
  ·rw[if_pos e,if_pos e]
  ·rw [if_neg e,if_neg e,ih (by
    rcases List.mem_cons.1 h with h|h
    ·exact absurd (by simp[h]) e
    ·exact h)]
theorem DN {l:List Int} {x:Int} (h:x∉l):gL l x=l.length:=by
 induction l with
 | nil=>rfl
 | cons a l ih =>
  rw [iG,if_neg (by intro e;exact h (by rw[beq_iff_eq]at e;rw[e];exact List.mem_cons_self ..)),ih (fun k=>h (List.mem_cons_of_mem _ k))];rfl
def o_ (M:List (Int×Int)) (aC:List Int):Prop:=(∀x,(∃p∈M,p.1=x)↔x∈aC)/\∀x∈aC,aI M x=(gL aC x:Nat)
theorem o_.nil:o_ [] []:=⟨fun x=>⟨fun⟨p,hp,_⟩=>(by cases hp),fun h=>(by cases h)⟩,fun x h=>by cases h⟩
theorem o_.old {M:List (Int×Int)} {aC:List Int} (h:o_ M aC) {x:Int} (hx:x∈aC):o_ M (aC++[x]):=by
 refine ⟨fun y=>(h.1 y).trans ⟨fun k=>List.mem_append_left _ k,fun k=>?_⟩,fun y hy=>?_⟩
 ·rcases List.mem_append.1 k with k|k
  ·exact k
  ·rw[List.mem_singleton]at k;rw[k];exact hx
 ·have hy:y∈aC:=by
   rcases List.mem_append.1 hy with k|k
   ·exact k
   ·rw[List.mem_singleton]at k;rw[k];exact hx
  rw [xu _ hy];exact h.2 y hy
theorem BG {M:List (Int×Int)} {p:Int×Int} {x:Int}:aI (M++[p]) x=if (∃q∈M,q.1=x) then aI M x else if p.1=x then p.2 else 0:=by
 induction M with
 | nil =>
  rw [if_neg (by rintro⟨q,hq,_⟩;cases hq)];rfl
 | cons a M ih =>
  show (if a.1=x then a.2 else aI (M++[p]) x)=_
  by_cases e:a.1=x
  ·rw [if_pos e,if_pos ⟨a,List.mem_cons_self ..,e⟩]
   show _=if a.1=x then a.2 else aI M x
   rw [if_pos e]
  ·rw [if_neg e,ih]
   by_cases k:∃q∈M,q.1=x
   ·rw [if_pos k]
    obtain ⟨q,hq,eq⟩:=k;rw [if_pos ⟨q,List.mem_cons_of_mem _ hq,eq⟩];show _=if a.1=x then a.2 else aI M x
    rw [if_neg e]
   ·rw [if_neg k]
    have k2:¬∃q∈a::M,q.1=x:=fun⟨q,hq,eq⟩=>by
     rcases List.mem_cons.1 hq with rfl|hq
     ·exact e eq
     ·exact k ⟨q,hq,eq⟩
    rw [if_neg k2]
theorem o_.new {M:List (Int×Int)} {aC:List Int} (h:o_ M aC) {x:Int} (hx:x∉aC):o_ (M++[(x,(aC.length:Int))]) (aC++[x]):=by
 refine ⟨fun y=>⟨?_,?_⟩,fun y hy=>?_⟩
 ·rintro ⟨p,hp,e⟩
  rcases List.mem_append.1 hp with hp|hp
  ·exact List.mem_append_left _ ((h.1 y).1 ⟨p,hp,e⟩)
  ·rw[List.mem_singleton]at hp;subst hp;exact List.mem_append_right _ (by simp[<-e])
 ·intro hy
  rcases List.mem_append.1 hy with hy|hy
  ·obtain ⟨p,hp,e⟩:=(h.1 y).2 hy
   exact ⟨p,List.mem_append_left _ hp,e⟩
  ·rw [List.mem_singleton]at hy
   exact ⟨_,List.mem_append_right _ (List.mem_singleton.2 rfl),hy.symm⟩
 ·rw [BG]
  by_cases k:y∈aC
  ·rw[if_pos ((h.1 y).2 k),xu _ k];exact h.2 y k
  ·rw [if_neg (fun q=>k ((h.1 y).1 q))]
   have:y=x:=by
    rcases List.mem_append.1 hy with q|q
    ·exact absurd q k
    ·simpa using q
   subst this;rw [if_pos rfl];have : gL (aC++[y]) y=aC.length:=by
    clear h k hy
    induction aC with
    | nil=>rw[List.nil_append,iG,if_pos (by simp)];rfl
    | cons a l ih =>
     rw [List.cons_append,iG,if_neg (by intro e;exact hx (by rw[beq_iff_eq]at e;rw[e];exact List.mem_cons_self ..)),ih (fun q=>hx (List.mem_cons_of_mem _ q))];rfl
   rw [this]
theorem o_.row {M:List (Int×Int)} {aC:List Int} (h:o_ M aC) {x:Int}:((gL aC x:Nat):Int)=if x∈aC then aI M x else (aC.length:Int):=by
 split
 ·rename_i k;exact (h.2 x k).symm
 ·rename_i k;rw[DN k]
theorem Ps {w:World} {bM:Nat} {es:Array MapEntry} {clock:Nat} {M:List (Int×Int)} (hm:Has w bM (.map es clock)) (h:jN es.toList M) {aC:List Int} (hf:o_ M aC) (x:Int) :
  (Instr.lookup 94 (.map (some bM)) (.int .i64 x) true).run Tryz.prog w=.ok (.tuple #[.int .i64 (aI M x),.bool (decide (x∈aC))]) w:=by
 have hk:∀r,Instr.findNow (.int .i64) (.int .i64 x) es.toList 0=some r->(Instr.findKey 3 (.int .i64 x) es.toList).run Tryz.prog w=.ok r w:=fun r hr=>by
  unfold Instr.findKey;rw [Sem.run_bind,run_underlying Tryz.underlying3];simp [hr]
 have hz:(zeroValue 3).run Tryz.prog w=.ok (.int .i64 0) w:=by kernel_rfl
 rcases ki x es.toList M 0 h with⟨g1,g2⟩|⟨g1,k,g2⟩
 ·have hd:decide (x∈aC)=false:=decide_eq_false (fun q=>by obtain⟨p,hp,e⟩:=(hf.1 x).2 q;exact g1 p hp e)
  rw [uJ g1,hd];simp [Instr.lookup,run_underlying Tryz.underlying94,MapKept.run_getObj_map hm,cP,hk _ g2,hz]
 ·have hd:decide (x∈aC)=true:=decide_eq_true ((hf.1 x).1 g1)
  rw [hd];simp [Instr.lookup,run_underlying Tryz.underlying94,MapKept.run_getObj_map hm,cP,hk _ g2]
theorem Mk {w:World} {bM:Nat} {es:Array MapEntry} {clock:Nat} {M:List (Int×Int)} (hm:Has w bM (.map es clock)) (h:jN es.toList M) {aC:List Int} (hf:o_ M aC) {x:Int} (h0:x∉aC) (n:Int) :
  ∃ es' clock',(Instr.mapUpdate 94 (.map (some bM)) (.int .i64 x) (.int .i64 n)).run Tryz.prog w=.ok () (jj w bM (.map es' clock'))/\jN es'.toList (M++[(x,n)]):=by
 have hk:∀r,Instr.findNow (.int .i64) (.int .i64 x) es.toList 0=some r->(Instr.findKey 3 (.int .i64 x) es.toList).run Tryz.prog w=.ok r w:=fun r hr=>by
  unfold Instr.findKey;rw [Sem.run_bind,run_underlying Tryz.underlying3];simp [hr]
 rcases ki x es.toList M 0 h with⟨g1,g2⟩|⟨g1,_⟩
 case inr=>exact absurd ((hf.1 x).1 g1) h0
 refine ⟨es.push ⟨.int .i64 x,.int .i64 n,clock⟩,clock+1,?_,?_⟩
 ·simp[Instr.mapUpdate,run_underlying Tryz.underlying94,MapKept.run_getObj_map hm,cP,hk _ g2,MapKept.run_setObj_map _ hm,Result.andThen,jj]
 ·have hl:es.size=M.length:=by simpa using h.1
  refine ⟨by simp;simpa using h.1,fun j hj=>?_⟩;rw [List.length_append,List.length_singleton]at hj;rw [Array.getElem?_toList,Array.getElem?_push,hl]
  by_cases ej:j=M.length
  ·subst ej
   refine ⟨_,by rw[if_pos rfl],?_⟩;rw [List.getElem_append_right (Nat.le_refl _)];simp only[Nat.sub_self,List.getElem_singleton];exact ⟨trivial,trivial⟩
  ·obtain ⟨e',h1,h2,h3⟩:=h.2 j (by omega)
   rw [Array.getElem?_toList]at h1;refine ⟨e',by rw[if_neg ej];exact h1,?_⟩;rw [List.getElem_append_left (by omega)];exact ⟨h2,h3⟩
def marks (Ds:List Nat):List Deferred:=Ds.map fun D=>{target:=.collected D,args:=#[]}
def js (w:World) (base:Nat) (Ds:List Nat):Prop:=Ds.Nodup/\∀D∈Ds,base<=D/\w.heap[D]?=some (.deferred (some []))
theorem js.only {w w':World} {base:Nat} {Ds L:List Nat} (h:js w base Ds) (o:Only L w w') (hL:∀D∈Ds,D∉L):js w' base Ds:=
 ⟨h.1,fun D hD=>⟨(h.2 D hD).1,(o.block D (Array.getElem?_eq_some_iff.1 (h.2 D hD).2).1 (hL D hD)).trans (h.2 D hD).2⟩⟩
theorem js.ext {w w':World} {base:Nat} {Ds:List Nat} (h:js w base Ds) (o:Ext w w'):js w' base Ds:=h.only (L:=[]) (Only.av o) (fun _ _=>by simp)
theorem js.ma {w:World} {base:Nat} {Ds:List Nat} (h:js w base Ds) {b:Nat} {cs:Array Value} {t:TypeId} {fr:Nat×Nat} (hb:w.heap[b]?=some (.cells cs t fr)):b∉Ds:=fun k=>by
 have:=(h.2 b k).2;rw [hb]at this;cases this
theorem js.XI {w:World} {base:Nat} {Ds:List Nat} (h:js w base Ds) {b cl:Nat} {es:Array MapEntry} (hb:w.heap[b]?=some (.map es cl)):b∉Ds:=fun k=>by
 have:=(h.2 b k).2;rw [hb]at this;cases this
theorem qc {F:Fence} {n:Nat} {P:Program} {fn:Func} {tmps:Array Value} {R:Ending->World->Prop} {base:Nat} {v:Value}:∀(Ds:List Nat) (w:World),js w base Ds ->
  (∀w',Only Ds w w'->(results fn tmps).run P w'=.ok v w'/\R (.returned v) w')->LeavesInM F n P fn tmps R (marks Ds) .returning w
 | [],w,_,h=>by
  obtain ⟨h1,h2⟩:=h w (Only.refl _ _);exact ⟨v,h1,h2⟩
 | D :: Ds,w,hm,h=>by
  have hD:=(hm.2 D (List.mem_cons_self ..)).2;have hn:=List.nodup_cons.1 hm.1;refine ⟨by simp,.inl ⟨D,_,rfl,run_takeDeferred hD,qc Ds _ ⟨hn.2,fun E hE=>⟨(hm.2 E (List.mem_cons_of_mem _ hE)).1,?_⟩⟩ fun w' o=>h w' ?_⟩⟩
  ·have hne:E≠D:=fun e=>hn.1 (by rw[<-e];exact hE)
   exact (World.putObj_heap_other hne).trans (hm.2 E (List.mem_cons_of_mem _ hE)).2
  ·exact ((Only.putObj w D _).mono (fun x hx=>by rw[List.mem_singleton]at hx;rw[hx];exact List.mem_cons_self ..)).then (o.mono fun x hx=>List.mem_cons_of_mem _ hx)
open Go.ChangeShapes Go.WideShapes Go.ChangeAt Go.RowKit Go.Shelf
def dE:RowK dB:=⟨116,115,2,24,.agg #[.string ⟨#[]⟩,.int .i64 0],fun x=>[.string (bs x.1),.int .i64 x.2],by decide,Tryz.underlying116,by kernel_rfl,rfl,fun _=>rfl,fun x u hu=>by
 simp only[List.mem_cons,List.not_mem_nil,or_false]at hu;rcases hu with rfl|rfl<;>rfl,by decide⟩
def Tq:Go.Shelf.Ren:=⟨fun | 35=>41|n=>n,fun | 0=>0 | 3=>3 | 4=>4 | 22=>116 | 23=>115|n=>n,fun n=>n⟩
theorem EZ:Go.Proofs.SlLaysE0.n35 Tryz.prog Tq:={
 mixed:=by kernel_rfl
 f35:=⟨"slices.Reverse[[]ragpicker/dump.spot,ragpicker/dump.spot]",by decide,Tryz.func41.trans (congrArg some (by kernel_rfl))⟩
 t0:=Tryz.underlying0
 a0:=Tryz.isAgg0
 z0:=Tryz.sizeOf0
 v0:=Tryz.zeroValue0
 t3:=Tryz.underlying3
 a3:=Tryz.isAgg3
 z3:=Tryz.sizeOf3
 v3:=Tryz.zeroValue3
 t4:=Tryz.underlying4
 a4:=Tryz.isAgg4
 z4:=Tryz.sizeOf4
 v4:=Tryz.zeroValue4
 t22:=Tryz.underlying116
 a22:=Tryz.isAgg116
 z22:=Tryz.sizeOf116
 v22:=Tryz.zeroValue116}
theorem E_ {l:List Value} {i:Nat} (h:i<l.length):l[i]?=some l[i]!:=by
 rw [List.getElem?_eq_getElem h,getElem!_pos l i h]
theorem pd (l:List dB) (j:Nat) (hj:j<l.length*2):(dE.cells l)[j]?=some (Go.Sort.flatK dE.enc 2 l.toArray)[j]!:=by
 have hi:j / 2<l.length:=by omega
 rw [Go.Sort.get_flatK _ _ _ _ (by simpa using hj)];have:=dE.nB l (j / 2) hi (j % 2) (by show j % 2<2;omega);rw [show j / 2*dE.k+j % 2=j by show j / 2*2+j % 2=j;omega]at this;rw [this,getElem!_pos l.toArray (j / 2) (by simpa using hi),List.getElem_toArray];exact E_ (by rw[dE.len];show j % 2<2;omega)
theorem Pu {w:World} {base g cap c2:Nat} {l1 l2:List dB} (h:bZ dE w base (.slice (some ⟨g,0,none⟩) (l1++l2).length cap) (l1++l2)) :
  Calls Tryz.prog 41 #[.slice (some ⟨g,l1.length*2,none⟩) l2.length c2] w (fun e w'=>e=.returned (.tuple #[])/\Only [g] w w'/\bZ dE w' base (.slice (some ⟨g,0,none⟩) (l1++l2.reverse).length cap) (l1++l2.reverse)):=by
 obtain ⟨g',cap',cur,hv,hb,hg,hn,hm,hs,ht⟩:∃g' cap' cur,Value.slice (some ⟨g,0,none⟩) (l1++l2).length cap=.slice (some ⟨g',0,none⟩) (l1++l2).length cap'/\base<=g'/\Has w g' (.cells cur dE.t)/\(l1++l2).length<=cap'/\cap'<=maxLen/\cur.size=cap'*dE.k/\cur.toList.take ((l1++l2).length*dE.k)=dE.cells (l1++l2):=by
  rcases h.2 with⟨e,_⟩|h2
  ·cases e
  ·exact h2
 injection hv with h1 _ h3;injection h1 with h1;injection h1 with h1;subst h1 h3;have hk:dE.k=2:=rfl;rw [hk]at hs ht;rw [List.length_append]at hn ht;have hc:∀j,j<(l1.length+l2.length)*2->cur[j]?=(dE.cells (l1++l2))[j]?:=fun j hj=>by
  rw [<-ht,List.getElem?_take_of_lt hj,Array.getElem?_toList]
 have i_:(dE.cells l1).length=l1.length*2:=dE.iD l1;have hH:Go.Sort.HoldsK dE.enc 2 w g (l1.length*2) l2.toArray:=by
  intro j hj;have hj:j<l2.length*2:=by simpa using hj
  rw [hg.cell,hg.free];refine ⟨?_,by simp⟩;rw [hc _ (by omega),dE.gE,List.getElem?_append_right (by omega),i_,show l1.length*2+j-l1.length*2=j by omega];exact pd l2 j hj
 have:=Go.Proofs.AnyQ.slices_Reverse EZ 2 Tryz.isAgg115 Tryz.sizeOf115 dE.enc (fun _=>rfl) dE.one g (l1.length*2) c2 l2.toArray w hH (by simp;unfold maxLen at hm;omega);refine this.mono ?_;rintro e w' ⟨rfl,n,rfl⟩;have abe:l2.toArray.reverse=l2.reverse.toArray:=by simp
 rw [abe];obtain⟨f,hf⟩:=aq (Go.Sort.putCells id (l1.length*2) (Go.Sort.flatK dE.enc 2 l2.reverse.toArray));have hw:Go.Sort.putRowK dE.enc 2 (Go.Sort.ahead w n) g (l1.length*2) l2.reverse.toArray=Go.Sort.mapBlock (Go.Sort.ahead w n) g f:=by rw[hf];rfl
 rw [hw];have hG:Has (Go.Sort.mapBlock (Go.Sort.ahead w n) g f) g (.cells (f cur) dE.t):=by
  show (w.heap.modify g (Go.Sort.onCells f))[g]?=_;rw [Array.getElem?_modify,if_pos rfl,show w.heap[g]?=some (.cells cur dE.t) from hg];rfl
 have Ub:(f cur).size=cur.size:=by rw[hf];simp[Go.Sort.putCells]
 refine ⟨rfl,⟨rfl,rfl,rfl,?_,fun k _ hk=>?_⟩,dE.iD _,.inr ⟨g,cap,f cur,rfl,hb,hG,by simpa using hn,hm,by rw[Ub,hk];exact hs,?_⟩⟩
 ·show w.heap.size<=(w.heap.modify g _).size
  simp
 ·show (w.heap.modify g _)[k]?=_
  rw [Array.getElem?_modify,if_neg (fun e=>hk (by simp[e]))]
 ·apply List.ext_getElem?
  intro j;have hlen:(l1++l2.reverse).length*dE.k=(l1.length+l2.length)*2:=by simp[hk]
  rw [hlen]
  by_cases hj:j<(l1.length+l2.length)*2
  ·rw [List.getElem?_take_of_lt hj,Array.getElem?_toList,hf]
   unfold Go.Sort.putCells;rw [Array.getElem?_mapIdx,hc j hj,dE.gE,dE.gE]
   by_cases hj1:j<l1.length*2
   ·rw [List.getElem?_append_left (by omega),List.getElem?_append_left (by omega)]
    rw [E_ (by omega:j<(dE.cells l1).length)];simp only[Option.map_some];rw [if_neg (by omega)]
   ·rw [List.getElem?_append_right (by omega),List.getElem?_append_right (by omega),i_]
    rw [pd l2 _ (by omega),pd l2.reverse _ (by simp;omega)];simp only[Option.map_some];rw [if_pos ⟨by omega,by simp;omega⟩];rfl
  ·rw[List.getElem?_eq_none (by rw[List.length_take];omega),List.getElem?_eq_none (by rw[dE.iD,hlen];omega)]
attribute [local go_sem] Oper.semAt_some
def mm (W0:World) (base b9 gt:Nat) (l:List dB) (W:World):Prop:=
 Only [b9,gt] W0 W/\∃g cap,Has W b9 (.cells #[.slice (some ⟨g,0,none⟩) l.length cap] 116)/\bZ dE W base (.slice (some ⟨g,0,none⟩) l.length cap) l/\(g=gt\/W0.heap.size<=g)
theorem Hg {α:Type} (W0:World) (base b9 gt:Nat) (f:List α->List dB):OwnFrom W0.heap.size (fun pre W=>mm W0 base b9 gt (f pre) W):=by
 rintro s A B row ⟨o,g,cap,h9,hR,hg⟩ hgr hr;have o2:=Only.grown hgr;have hn:∀y cs t fr,A.heap[y]?=some (.cells cs t fr)->y∉row.toList:=fun y cs t fr hy hm=>by
  obtain ⟨_,ob,ho,hc⟩:=hr y (Option.mem_toList.1 hm);rw [hy]at ho;injection ho with ho;subst ho;cases hc
 refine ⟨o.trans o2 (fun x hx=>.inr (hr x (Option.mem_toList.1 hx)).1),g,cap,o2.has h9 (hn _ _ _ _ h9),hR.only o2 (fun y hy=>?_),hg⟩;obtain ⟨cs,fr,e⟩:=hR.tag hy;exact hn _ _ _ _ e
theorem mm.step {W0 W W1:World} {base b9 gt g cap:Nat} {l:List dB} (o:Only [b9,gt] W0 W) (h9:Has W b9 (.cells #[.slice (some ⟨g,0,none⟩) l.length cap] 116)) (hR:bZ dE W base (.slice (some ⟨g,0,none⟩) l.length cap) l) (hg:g=gt\/W0.heap.size<=g) (hb:base<=W0.heap.size) (sy:base<=b9) (hl:l.length<=2000000) (hE:Ext W W1) (x:dB) :
  ∃ g' cap' w2,(Builtin.append_ #[116,116] 116 #[.slice (some ⟨g,0,none⟩) l.length cap,.slice (some ⟨W1.heap.size,0,none⟩) 1 1]).run Tryz.prog (W1.alloc (.cells #[bs x.1,.int .i64 x.2] 115))=.ok (.slice (some ⟨g',0,none⟩) (l++[x]).length cap') w2/\Has w2 b9 (.cells #[.slice (some ⟨g,0,none⟩) l.length cap] 116)/\KeepsFrom W0.heap.size W (w2.setCell ⟨b9,0,none⟩ (.slice (some ⟨g',0,none⟩) (l++[x]).length cap'))/\Below base W (w2.setCell ⟨b9,0,none⟩ (.slice (some ⟨g',0,none⟩) (l++[x]).length cap'))/\mm W0 base b9 gt (l++[x]) (w2.setCell ⟨b9,0,none⟩ (.slice (some ⟨g',0,none⟩) (l++[x]).length cap')):=by
 have hz:W.heap.size<=W1.heap.size:=hE.size;have hz0:=o.size;obtain ⟨v',w2,hr,hO,hgr,hv⟩:=um dE W1 (hR.ext hE) (by omega) x hl;obtain ⟨g',cap',rfl,hgb⟩:∃g' cap',v'=.slice (some ⟨g',0,none⟩) (l++[x]).length cap'/\base<=g':=by
  rcases hO.cases with⟨_,h⟩|⟨g',cap',_,h,h2,_⟩
  ·simp at h
  ·exact⟨g',cap',h,h2⟩
 have hn:g≠b9:=fun e=>ez hR h9 (by decide) (by rw[<-e];rfl)
 have Gm:base<=g/\g<W.heap.size:=hR.lt rfl;have o1:Only [g] W1 w2:=(Only.gJ _ _ _).then (Only.of_grownBy hgr (fun y hy=>by
  have:g=y:=by injection hy
  rw [this];exact List.mem_singleton.2 rfl))
 have DP:=o1.has (h9.ext hE) (fun hm=>hn (List.mem_singleton.1 hm).symm);obtain ⟨cs,fr,LM⟩:=hR.tag (g:=g) rfl;have o2:Only [b9] w2 (w2.setCell ⟨b9,0,none⟩ (.slice (some ⟨g',0,none⟩) (l++[x]).length cap')):=Only.setCell _ _ _ _;have h93:Has (w2.setCell ⟨b9,0,none⟩ (.slice (some ⟨g',0,none⟩) (l++[x]).length cap')) b9 (.cells #[.slice (some ⟨g',0,none⟩) (l++[x]).length cap'] 116):=Has.setCell DP 0 _;have hn':g'≠b9:=fun e=>ez hO DP (by decide) (by rw[<-e];rfl)
 have MQ:=hO.only o2 (fun y hy hm=>by
  have:g'=y:=by injection hy
  exact hn' (this.trans (List.mem_singleton.1 hm)))
 obtain⟨W',hW'⟩:=aq (w2.setCell ⟨b9,0,none⟩ (.slice (some ⟨g',0,none⟩) (l++[x]).length cap'));rw [<-hW']at o2 h93 MQ;have oA:Only [g,b9] W W':=((Only.av hE).then (o1.mono (fun y hy=>by rw[List.mem_singleton]at hy;rw[hy];simp))).then (o2.mono (fun y hy=>by rw[List.mem_singleton]at hy;rw[hy];simp));refine ⟨g',cap',w2,hr,DP,?_⟩;rw [<-hW'];refine ⟨oA.lE (fun y hy=>.inr ?_),oA.below (by omega) (fun y hy=>?_),o.trans oA (fun y hy=>?_),g',cap',h93,MQ,?_⟩
 ·rcases List.mem_cons.1 hy with rfl|hy
  ·exact⟨_,LM,rfl⟩
  ·rw[List.mem_singleton]at hy;subst hy;exact⟨_,h9,rfl⟩
 ·rcases List.mem_cons.1 hy with rfl|hy
  ·exact Gm.1
  ·rw[List.mem_singleton]at hy;subst hy;exact sy
 ·rcases List.mem_cons.1 hy with rfl|hy
  ·rcases hg with rfl|hg
   ·exact .inl (by simp)
   ·exact .inr hg
  ·rw[List.mem_singleton]at hy;subst hy;exact .inl (by simp)
 ·rcases hv with hv|hv
  ·have:g'=g:=by injection hv
   rw [this];exact hg
  ·have:g'=W1.heap.size+1:=by injection hv
   right;omega
theorem Pv {w:World} {base g cap c2 o:Nat} {l1:List dB} (h:bZ dE w base (.slice (some ⟨g,0,none⟩) l1.length cap) l1) :
  Calls Tryz.prog 41 #[.slice (some ⟨g,o,none⟩) 0 c2] w (fun e w'=>e=.returned (.tuple #[])/\Only [g] w w'/\bZ dE w' base (.slice (some ⟨g,0,none⟩) l1.length cap) l1):=by
 obtain ⟨g',cap',cur,hv,hb,hg,hn,hm,hs,ht⟩:∃g' cap' cur,Value.slice (some ⟨g,0,none⟩) l1.length cap=.slice (some ⟨g',0,none⟩) l1.length cap'/\base<=g'/\Has w g' (.cells cur dE.t)/\l1.length<=cap'/\cap'<=maxLen/\cur.size=cap'*dE.k/\cur.toList.take (l1.length*dE.k)=dE.cells l1:=by
  rcases h.2 with⟨e,_⟩|h2
  ·cases e
  ·exact h2
 injection hv with h1 _ h3;injection h1 with h1;injection h1 with h1;subst h1 h3;have hH:Go.Sort.HoldsK dE.enc 2 w g o (#[]:Array dB):=by
  intro j hj;simp at hj
 have:=Go.Proofs.AnyQ.slices_Reverse EZ 2 Tryz.isAgg115 Tryz.sizeOf115 dE.enc (fun _=>rfl) dE.one g o c2 (#[]:Array dB) w hH (by simp);refine this.mono ?_;rintro e w' ⟨rfl,n,rfl⟩;obtain⟨f,hf⟩:=aq (Go.Sort.putCells id o (Go.Sort.flatK dE.enc 2 (#[]:Array dB).reverse));have hw:Go.Sort.putRowK dE.enc 2 (Go.Sort.ahead w n) g o (#[]:Array dB).reverse=Go.Sort.mapBlock (Go.Sort.ahead w n) g f:=by rw[hf];rfl
 rw [hw];have hfc:f cur=cur:=by
  rw [hf];apply Array.ext_getElem?;intro j;unfold Go.Sort.putCells;rw [Array.getElem?_mapIdx]
  cases cur[j]? with
  | none=>rfl
  | some u =>
   simp only[Option.map_some];rw [if_neg (by simp)]
 have hG:Has (Go.Sort.mapBlock (Go.Sort.ahead w n) g f) g (.cells (f cur) dE.t):=by
  show (w.heap.modify g (Go.Sort.onCells f))[g]?=_;rw [Array.getElem?_modify,if_pos rfl,show w.heap[g]?=some (.cells cur dE.t) from hg];rfl
 rw [hfc]at hG;refine ⟨rfl,⟨rfl,rfl,rfl,?_,fun k _ hk=>?_⟩,dE.iD _,.inr ⟨g,cap,cur,rfl,hb,hG,hn,hm,hs,ht⟩⟩
 ·show w.heap.size<=(w.heap.modify g _).size
  simp
 ·show (w.heap.modify g _)[k]?=_
  rw [Array.getElem?_modify,if_neg (fun e=>hk (by simp[e]))]
theorem Ts (F:Fence) (n:Nat) (hf:F.fn 75) (hro:F.round=none) (hn:1<=n) (Bs n₀ cap:Nat) (A:Option Addr) (es:List aw) (hlen:es.length<=1000000) (w:World) (yS:Bs<w.heap.size) (sJ:n₀<=w.heap.size)
  (hc0:w.cell? ⟨Bs,0,none⟩=some (.slice A es.length cap)) (he:nY n₀ w A es) :
  SeqStopsK F n Tryz.prog 75 #[.pointer (some ⟨Bs,0,none⟩)] (fun y:{y:aw // y∈es}=>Ic y.1) (Below n₀) (fun ys=>ys=es.attach) (fun _=>True) es.length w:=by
 intro l J Jx W hW Zj _ hY h0;have yS:=(hW.cell (p:=⟨Bs,0,none⟩) yS).trans hc0;have hc:nY n₀ W A es:=he.below (hW.mono sJ);have sJ:n₀<=W.heap.size:=by have:=hW.size;omega
 obtain⟨m,hm⟩:=aq es.length;rw [<-hm]at yS hlen;have HM:=zH hm;clear hm hc0 he hW;show CallsIn F n _ _ #[.func (.yield l) #[] #[],.pointer (some ⟨Bs,0,none⟩)] W _;refine callsIn_of_wp Tryz.func75 rfl hf ?_ hro;simp only[Tryz.ntmps75,List.size_toArray,List.length_cons,List.length_nil,Nat.reduceAdd,Nat.reduceSub,Array.replicate_succ,Array.replicate_zero,List.push_toArray,List.append_toArray,List.nil_append,List.cons_append];gi_wp2;gi_loopw [7] (fun i wr=>∃k:Nat,k<=m/\i=.int .i64 k/\J (es.attach.take k) wr/\Below n₀ W wr/\W.heap.size<=wr.heap.size) (fun i _=>m-(intOf i).toNat)
 case atStart=>exact⟨0,Nat.zero_le _,rfl,h0,Below.refl _ _,Nat.le_refl _⟩
 case round =>
  obtain ⟨k,hk,rfl,Us,Mo,hsz⟩:=hrel
  by_cases hlt:k<m
  ·have dh:k<es.length:=by have:=HM.out;omega
   have hka:k<es.attach.length:=by rw[List.length_attach];exact dh
   obtain ⟨b,o,rfl,hb,hcs⟩:∃b o,A=some ⟨b,o,none⟩/\b<n₀/\∀k,(h:k<es.length)->wr.cell? ⟨b,o+k*2,none⟩=some (.string (bs es[k].1))/\wr.cell? ⟨b,o+k*2+1,none⟩=some (.int .i64 es[k].2):=by
    rcases hc.below Mo with h|h
    ·rw[h]at dh;simp at dh
    ·exact h
   obtain ⟨ca,cb⟩:=hcs k dh;have lM:Hid (es.attach.take (k+1)=es.attach.take k++[es.attach[k]]):=List.take_succ_eq_append_getElem hka;have hpl:(es.attach.take k).length<es.length:=by rw[List.length_take,List.length_attach];omega
   rw [show es[k]=(es.attach[k]).1 by simp]at ca cb
   generalize es.attach[k]=y at ca cb lM
   obtain ⟨x,hx⟩:=y;dsimp only at ca cb;have Ni:J (es.attach.take k) (wr.alloc (.cells #[bs x.1,.int .i64 x.2] 106)):=Zj _ wr _ none Us (World.grownBy_alloc wr _ none) (fun r e=>by cases e);obtain ⟨fn,tmps,assign,body,hy,hR⟩:=hY _ ⟨x,hx⟩ _ Ni hpl
   try dsimp only[Ic]at hy
   clear hcs hpl;gi_wp2;refine hR.mono ?_;rintro e W3 (⟨rfl,Ie,lr⟩|⟨rfl,sK⟩)
   ·gi_wp2
    go_roundw
    case rel=>exact⟨k+1,by omega,by simp,by rw[lM.out];exact Ie,(Mo.alloc (by omega) _).trans lr,by have:=lr.size;simp at this;omega⟩
    case measure=>simp[intOf];omega
   ·gi_wp2
    refine bodyPost_ret (results_none rfl _ _ _) rfl ?_;exact ⟨⟨_,rfl⟩,.inr ⟨_,trivial,sK⟩⟩
  ·obtain rfl:k=m:=by omega
   have ht:Hid (es.attach.take k=es.attach):=List.take_of_length_le (by rw[List.length_attach,HM.out];exact Nat.le_refl _);gi_wp2;go_end0;exact ⟨⟨_,rfl⟩,.inl ⟨_,ht.out,Us⟩⟩
end
section
open Go Go.RowKit
theorem yR {α:Type} {F:Fence} {n:Nat} {P:Program} {g:Operand} {ps:Array Tmp} {assign body:Code} {Q:Exit->Act->World->Prop} {T:Array Value} {ds:List Deferred} {w:World}
  (hro:F.round=none) (h1:1<=n) {gf:Nat} {lb:Array Value} (hg:({tmps:=T,defers:=ds}:Act).eval g=.func (.func gf) #[] lb) (hFg:F.fn gf) (eg:∀args w,(callFunc gf args).run P w=.ok (.enter gf args) w)
  {vK:α->Array Value} {Kp:World->World->Prop} {S Sp:List α->Prop} {N:Nat} {w0:World} (Sb:SeqStopsK F (n-1) P gf lb vK Kp S Sp N w0)
  (hKt:∀{A B C:World},Kp A B->Kp B C->Kp A C) (hKb:∀(W:World) (l:Nat) (o o':Obj),w.heap.size<=l->W.heap[l]?=some o->o.isCells=false->o.isWalk=false->Kp W (W.putObj l o')) (gh:Below w0.heap.size w0 w) (PK:∀x,(vK x).size=ps.size)
  (I:List α->World->Prop) (hI:OwnFrom w.heap.size I) (h0:I [] w) (f:Array Value->α->Array Value)
  (yu:∀(l:Nat) (x:α) (W:World) (K:Act->World->Prop),K {tmps:=f T x,defers:=[]} W ->
   assign.wpIn (F.inRound l) (n-1-1) P (Exit.then K (fun _ _ _=>False)) {tmps:=(ps.zip (vK x)).foldl (fun t (p,v)=>t.setIfInBounds p v) T,defers:=[]} W)
  (Kn:∀(l:Nat) (pre:List α) (x:α) (W:World),I pre W->pre.length<N->body.wpIn (F.inRound l) (n-1-1) P (ownPostG w.heap.size Kp I (fun _ _ _=>False) (pre++[x]) W) {tmps:=f T x,defers:=[]} W)
  (jP:∀(D:Nat) (xs:List α) (W:World),w.heap.size<=D->S xs->I xs W->W.heap[D]?=some (.deferred (some []))->Q .normal {tmps:=T,defers:={target:=.collected D,args:=#[]}::ds} W) :
  (Code.rangeFunc g ps assign body).wpIn F n P Q {tmps:=T,defers:=ds} w:=
 wpIn_rangeFunc_ownG hro h1 hg hFg eg Sb hKt hKb gh PK I (fun _ _ _=>False) hI (fun _ _ _ _ _ hs _ _=>hs) h0 (fun x=>{tmps:=f T x,defers:=[]}) yu Kn jP (fun _ _ _ _ _ _ hx _=>hx.elim)
open Go.ChangeShapes Go.WideShapes Go.ChangeAt Go.RowKit
theorem DQ (a b:List UInt8) (w:World) (ha:a.length<=100000) (hb:b.length<=100000):Calls Tryz.prog 40 #[bs a,bs b] w (aH w (.string (bs (cX a b)))):=by
 have z0:(bs a).size=a.length:=aR a;have hcl:=tW a;have hf:Hid (cX a b=l6 a++47::b):=rfl;obtain⟨C,hC⟩:=aq (l6 a);have YX:Hid (Lib.trimRightB a 47=C):=hC.symm;rw [<-hC]at hcl hf;have z1:(bs C).size=C.length:=aR C;have z2:(bs b).size=b.length:=aR b;have z3:(bs (C++[47])).size=C.length+1:=by rw[aR];simp
 have c1:bs C++(⟨#[47]⟩:ByteArray)=bs (C++[47]):=lk C [47];have c2:bs (C++[47])++bs b=bs (C++47::b):=by rw[lk];simp
 have jO:¬9223372036854775807<C.length+1:=by omega
 have hb2:¬9223372036854775807<C.length+1+b.length:=by omega
 clear hC;go_enter Tryz.func40,Tryz.ntmps40;go_wp2_with fail;refine (Tryz.strings_TrimRight_one _ 47 (by decide) _ (by omega)).mono ?_;rintro e w1 ⟨rfl,rfl⟩;rw [kP,YX.out,show (⟨C.toArray⟩:ByteArray)=bs C from rfl];go_wp2_with fail;go_ret;exact aH.mk (si (by rw[hf.out])) (Ext.refl _)
open Go.ChangeShapes Go.WideShapes Go.ChangeAt Go.RowKit Go.Shelf
attribute [local go_sem] Oper.semAt_some
theorem PS.Pw {c : Nat} {w:World} {B b:Nat} {g:bJ} {s:az} (h:PS w B b g s) (hp:Pl c s) (hc:c<=300) (no:Int) (path:List UInt8) (rows:List yG) (hB:dU s.t [(path,no)] [] rows) (hlen:rows.length<=1000)
    {r:Int->Nat} (hr:tf s.t r) (XJ:kL s.t r (path,no)) :
    Calls Tryz.prog 18 #[.pointer (some ⟨b,0,none⟩),.int .i64 no,bs path] w (fun e w'=>∃v,e=.returned v/\bZ l8 w' w.heap.size v rows/\Ext w w'):=by
  refine (callsIn_wide (n:=4)).1 ?_
  refine callsIn_of_wp_marks Tryz.func18 rfl trivial ?_ rfl
  refine wpIn_wide.2 ?_
  simp only[Tryz.ntmps18,List.size_toArray,List.length_cons,List.length_nil,Nat.reduceAdd,Nat.reduceSub,Array.replicate_succ,Array.replicate_zero,List.push_toArray,List.append_toArray,List.nil_append,List.cons_append]
  obtain ⟨_,_,cd,XK,_⟩:=id h.Yn
  obtain ⟨AP,abf,Tt⟩:∃A cap,eI w b g s.now s.count A s.plan.length cap s.dead:=by obtain⟨A,cap,hp⟩:=h;exact⟨A,cap,hp.2.1⟩
  have s0:=Has.cell Tt 0
  have sz:=Has.lt Tt
  have hmm:=@run_makeMap Tryz.prog
  obtain ⟨W1,bV⟩:∃W,W=((w.alloc (.map #[] 0)).alloc (.cells #[bs path,.int .i64 no] 115)).alloc (.cells #[.slice (some ⟨w.heap.size+1,0,none⟩) 1 1] 116):=⟨_,rfl⟩
  obtain ⟨bM,Nl⟩:∃x,x=w.heap.size:=⟨_,rfl⟩
  obtain ⟨b0,gh⟩:∃x,x=w.heap.size+1:=⟨_,rfl⟩
  obtain ⟨b9,sy⟩:∃x,x=w.heap.size+1+1:=⟨_,rfl⟩
  go_upto_region 6 with fail
  rw [<-sy,<-gh,<-Nl]
  rw [<-gh]at bV
  rw [<-bV]
  have hws:W1.heap.size=w.heap.size+3:=by rw[bV];simp
  have E1:Ext w W1:=by rw[bV];exact (((Ext.refl _).alloc _).alloc _).alloc _
  have M1:Has W1 bM (.map #[] 0):=by
    rw [bV,Nl]
    exact ((Has.new w _).alloc _).alloc _
  have X1:Has W1 b0 (.cells #[bs path,.int .i64 no] 115):=by
    rw [bV,gh]
    have:=Has.new (w.alloc (.map #[] 0)) (.cells #[bs path,.int .i64 no] 115)
    rw [World.size_alloc]at this
    exact this.alloc _
  have B1:Has W1 b9 (.cells #[.slice (some ⟨b0,0,none⟩) 1 1] 116):=by
    rw [bV,sy]
    have:=Has.new ((w.alloc (.map #[] 0)).alloc (.cells #[bs path,.int .i64 no] 115)) (.cells #[.slice (some ⟨b0,0,none⟩) 1 1] 116)
    rw [World.size_alloc,World.size_alloc]at this
    exact this
  have l1:w.heap.size<=bM:=by omega
  have l2:w.heap.size<=b0:=by omega
  have l3:w.heap.size<=b9:=by omega
  have O1:bZ dE W1 w.heap.size (.slice (some ⟨b0,0,none⟩) 1 1) [(path,no)]:=⟨rfl,.inr ⟨b0,1,_,rfl,l2,X1,Nat.le_refl _,by decide,rfl,rfl⟩⟩
  have HB:=zH hB
  have WJ:=zH XJ
  have HP:=zH hp
  have HR:=zH hr
  have SN:=zH hlen
  have HH:=zH h
  clear hmm bV Nl gh sy XK Tt s0 sz X1 hB XJ hp hr hlen h
  refine wp_loop_ghost_k (fun m a' wr=>∃(u1 u2 u3 u4 u5 u6 u7 Ye u11 u12 u13 u14 u15 u16 u17 u18 u19 u20 u21 u22 u23 u24 u25 u26 u27 u28 u29 u30 u31 u32 u33 u34 u35 u36 u37 u38 u39 u40 u41 u42 u43 u44 u45 u46 u47 u48 u49 u50 u51 u52 u53 u54 u55 u56 u57 u58 u59 u60 u61 u62 u63 u64 u65 u66 u67 u68 u69 u70 u71 u72 u73 u74 u75 u76 u77 u78 u79 u80 u81 u82 u83 u84 u85 u86 u87 u88 u89 u90 u91 u92 u93 u94 u95 u96 u97 u98 u99 abg abh abj abk abl abm abn abo abp abq abr abt abu abv abw abx aby abz abA abB abC abD abE abF abG:Value) (ds:List Deferred),(∃(l0:List yG) (aC:List Int) (t:List dB) (M:List (Int×Int)) (es:Array MapEntry) (cl gt cap:Nat) (Ds:List Nat),ds=marks Ds/\js wr w.heap.size Ds/\Ext w wr/\Has wr b9 (.cells #[.slice (some ⟨gt,0,none⟩) t.length cap] 116)/\bZ dE wr w.heap.size (.slice (some ⟨gt,0,none⟩) t.reverse.length cap) t.reverse/\bZ l8 wr w.heap.size u7 l0/\Has wr bM (.map es cl)/\jN es.toList M/\o_ M aC/\l0.length=aC.length/\t.length<=1+aC.length*1000/\(∀x∈t,kL s.t r x)/\m=vP s.t r c t/\∃l1,dU s.t t aC l1/\rows=l0++l1)/\a'={tmps:=#[.pointer (some ⟨b,0,none⟩),u1,u2,u3,u4,u5,u6,u7,.map (some bM),.pointer (some ⟨b9,0,none⟩),Ye,u11,u12,u13,u14,u15,u16,u17,u18,u19,u20,u21,u22,u23,u24,u25,u26,u27,u28,u29,u30,u31,u32,u33,u34,u35,u36,u37,u38,u39,u40,u41,u42,u43,u44,u45,u46,u47,u48,u49,u50,u51,u52,u53,u54,u55,u56,u57,u58,u59,u60,u61,u62,u63,u64,u65,u66,u67,u68,u69,u70,u71,u72,u73,u74,u75,u76,u77,u78,u79,u80,u81,u82,u83,u84,u85,u86,u87,u88,u89,u90,u91,u92,u93,u94,u95,u96,u97,u98,u99,abg,abh,abj,abk,abl,abm,abn,abo,abp,abq,abr,abt,abu,abv,abw,abx,aby,abz,abA,abB,abC,abD,abE,abF,abG],defers:=ds}) (vP s.t r c [(path,no)]) ?_ ?_
  · (repeat apply Exists.intro)
    refine ⟨?_,rfl⟩
    exact ⟨[],[],[(path,no)],[],#[],0,b0,1,[],rfl,⟨List.nodup_nil,fun D hD=>by cases hD⟩,E1,B1,O1,bZ.nil _ _ _,M1,⟨rfl,fun k hk=>absurd hk (Nat.not_lt_zero _)⟩,o_.nil,rfl,by simp,fun x hx=>by rw[List.mem_singleton]at hx;subst hx;exact WJ.out,rfl,rows,HB.out,rfl⟩
  intro gk _ wr hinv
  iterate 6 obtain⟨_,hinv⟩:=hinv
  obtain ⟨u7,hinv⟩:=hinv
  iterate 115 obtain⟨_,hinv⟩:=hinv
  obtain ⟨ds,hrel,ha⟩:=hinv
  subst ha
  try dsimp only
  intro _ _ _ _
  obtain ⟨l0,aC,t,M,es,cl,gt,cap,Ds,rfl,hM,hE,h9,hX,hO,hm,Uj,hf,Hl,pJ,Qt,hgk,l1',OL,na⟩:=hrel
  clear E1 B1 O1 M1 HB WJ
  obtain⟨V,hV⟩:=aq wr
  subst hV
  have hn0:aC.length<=1000:=by have:=SN.out;rw[na,List.length_append]at this;omega
  have XL:=h9.cell 0
  have b9z:=h9.lt
  simp only[gA,gB]at XL
  cases t with
  | nil =>
    have hf:Hid (rows=l0):=by show _=_;cases OL;rw[na,List.append_nil]
    have HO:=zH hO
    have HE:=zH hE
    have HM:=zH hM
    clear pJ hM hE h9 hX hO hm Uj Hl Qt hgk OL na hn0
    simp only[List.length_nil]at XL
    go_wp2_with fail
    refine qc Ds _ HM.out (fun w' o=>⟨by simp[results,Tryz.results18,go_sem],u7,rfl,?_,o.after HE.out (fun D hD=>(HM.out.2 D hD).1)⟩)
    rw [hf.out]
    exact HO.out.only o (fun g hg hm=>by obtain⟨cs,fr,e⟩:=HO.out.tag hg;exact HM.out.ma e hm)
  | cons x t' =>
    obtain⟨T',yw⟩:=aq t'.length
    have hT1:T'<=1001000:=by rw[List.length_cons]at pJ;omega
    rw [List.reverse_cons]at hX
    have Si:(t'.reverse++[x]).length=T'+1:=by rw[List.length_append,List.length_reverse,yw];rfl
    have hlc:(x::t').length=T'+1:=by rw[yw];rfl
    rw [hlc]at XL pJ h9
    obtain ⟨_,_,cur,hv,VU,KE,rI,sI,hcell⟩:∃gr cap' cur,Value.slice (some ⟨gt,0,none⟩) (t'.reverse++[x]).length cap=.slice (some ⟨gr,0,none⟩) (t'.reverse++[x]).length cap'/\w.heap.size<=gr/\Has V gr (.cells cur dE.t)/\(t'.reverse++[x]).length<=cap'/\cap'<=maxLen/\∀i,(h:i<(t'.reverse++[x]).length)->∀j,j<dE.k->V.cell? ⟨gr,i*dE.k+j,none⟩=(dE.enc (t'.reverse++[x])[i])[j]?:=by
      rcases hX.cases with⟨h1,_⟩|h2
      · cases h1
      · exact h2
    injection hv with tN _ hv3
    injection tN with tN
    injection tN with tN
    subst tN hv3
    have jQ:∀h,(t'.reverse++[x])[T']'h=x:=fun h=>by
      rw [List.getElem_append_right (by rw[List.length_reverse,yw];exact Nat.le_refl _)]
      simp [yw]
    have hq:∀j,j<2->V.cell? ⟨gt,T'*2+j,none⟩=(dE.enc x)[j]?:=fun j hj=>(hcell T' (by rw[Si];omega) j hj).trans (by rw[jQ])
    have q0:V.cell? ⟨gt,T'*2,none⟩=some (.string (bs x.1)):=hq 0 (by decide)
    have q1:V.cell? ⟨gt,T'*2+1,none⟩=some (.int .i64 x.2):=hq 1 (by decide)
    have qz:=KE.lt
    have HQZ:=zH qz
    rw [Si]at rI
    have Rp:T'+1<=cap:=rI
    have BM:IntKind.i64.wrap (T':Int)=(T':Int):=IntWalk.i64_in _ (by omega)
    have Yx:IntKind.i64.wrap ((T':Int)+1-1)=(T':Int):=by rw[IntWalk.i64_in _ (by omega)];omega
    have p0:(0:Int)<=(T':Int):=Int.natCast_nonneg _
    obtain ⟨W4,fO⟩:∃W,W=V.alloc (.cells #[bs x.1,.int .i64 x.2] 115):=⟨_,rfl⟩
    obtain ⟨jb,jC⟩:∃b,b=V.heap.size:=⟨_,rfl⟩
    have E4:Ext V W4:=by rw[fO];exact (Ext.refl _).alloc _
    have X4:Has W4 jb (.cells #[bs x.1,.int .i64 x.2] 115):=by rw[fO,jC];exact Has.new _ _
    have H9:=zH h9
    have HX:=zH hX
    have HO:=zH hO
    have HMP:=zH hm
    have Y2:=zH Uj
    have HF:=zH hf
    have yt:=zH Hl
    have HTL:=zH pJ
    have Hh:=zH Qt
    have HGK:=zH hgk
    have SQ:=zH OL
    have MX:=zH na
    have HE:=zH hE
    have HM:=zH hM
    have BP:=zH yw
    have abP:V.heap.size<=jb:=by omega
    clear h9 hX hO hm Uj hf Hl pJ Qt hgk OL na hE hM yw Si hlc rI hcell hq jQ KE sI
    go_upto_region 8 with fail
    rw [<-fO,<-jC]
    have hne:jb≠b9:=by omega
    have b94:=(E4.cell b9z).trans XL
    have abH:b9<W4.heap.size:=by have:=E4.size;omega
    have abI:=(H9.out.ext E4).free 0
    obtain ⟨W5,lj⟩:∃W,W=W4.setCell ⟨b9,0,none⟩ (.slice (some ⟨gt,0,none⟩) T' cap):=⟨_,rfl⟩
    have O5:Only [b9] W4 W5:=by rw[lj];exact Only.setCell _ _ _ _
    have XM:∀y,y≠b9->y∉[b9]:=fun y h hm=>h (by simpa using hm)
    have H95:Has W5 b9 (.cells #[.slice (some ⟨gt,0,none⟩) T' cap] 116):=by rw[lj];exact Has.setCell (H9.out.ext E4) 0 _
    have X5:Has W5 jb (.cells #[bs x.1,.int .i64 x.2] 115):=O5.has X4 (XM _ hne)
    have O5s:Hid (V.heap.size<=W5.heap.size):=zH (Nat.le_trans E4.size O5.size)
    have E5:Ext w W5:=O5.after (HE.out.trans E4) (fun y hy=>by rw[List.mem_singleton]at hy;subst hy;exact l3)
    have Kc:=HX.out.pop.ext E4
    have YB:=zH (Kc.only O5 (fun y hy=>XM _ (fun e=>ez Kc (H9.out.ext E4) (by decide) (by rw[hy,e]))))
    have MZ:=HO.out.ext E4
    have ES:=zH (MZ.only O5 (fun y hy=>XM _ (fun e=>ez MZ (H9.out.ext E4) (by decide) (by rw[hy,e]))))
    have HM4:=HM.out.ext E4
    have HM5:=zH (HM4.only O5 (fun D hD=>XM _ (fun e=>HM4.ma (H9.out.ext E4) (by rw[<-e];exact hD))))
    have XO:=zH (O5.has (HMP.out.ext E4) (XM _ (fun e=>fw (H9.out.ext E4) (HMP.out.ext E4) e.symm)))
    obtain⟨X,hX⟩:=aq (ar s.t.ag x.2)
    have KO:Hid (∀u,Ext W5 u->Calls Tryz.prog 38 #[.pointer (some ⟨g.bW,0,none⟩),.int .i64 x.2] u (aH u (.int .i64 X))):=by
      show ∀_,_
      intro u hu
      rw [hX]
      exact gu B g s.t x.2 u (HH.out.Yn.ext (E5.trans hu)) HP.out.ee.eD.ag (by have:=HP.out.ee.eD.eight;omega)
    obtain ⟨A,q,ok,KG⟩:=tc B g s.t X w HH.out.Yn
    have KG:∀u,Ext W5 u->Calls Tryz.prog 17 #[.pointer (some ⟨g.bT,0,none⟩),.int .i64 X] u (aH u (.tuple #[.agg #[.int .i64 (ac s.t.nodes X).no,.int .i64 (ac s.t.nodes X).dev,.int .i64 (ac s.t.nodes X).kind,.int .i64 (ac s.t.nodes X).mode,.int .i64 (ac s.t.nodes X).uid,.int .i64 (ac s.t.nodes X).gid,.int .i64 (ac s.t.nodes X).mtime,.int .i64 (ac s.t.nodes X).ctime,.int .i64 (ac s.t.nodes X).ah,.int .i64 (ac s.t.nodes X).up,.string (bs (ac s.t.nodes X).data),.slice A (ac s.t.nodes X).af.length q],.bool (aK s.t.nodes X)])):=fun u hu=>KG u (E5.trans hu)
    obtain⟨n,hn⟩:=aq (ac s.t.nodes X)
    obtain ⟨bI,hbI⟩:∃x,x=aK s.t.nodes X:=⟨_,rfl⟩
    rw [<-hn]at ok
    rw [<-hn,<-hbI]at KG
    have YV:=zH KG
    have HN:=zH hn
    have HBI:=zH hbI
    have HX:=zH hX
    have HOK:=zH ok
    have PS5:=HH.out.ext E5
    obtain ⟨_,_,cd,XK,_⟩:=id PS5.Yn
    obtain ⟨AP,abf,Tt⟩:∃A cap,eI W5 b g s.now s.count A s.plan.length cap s.dead:=by obtain⟨A,cap,hp⟩:=PS5;exact⟨A,cap,hp.2.1⟩
    have u0:∀u:Gr W5,u.w.cell? ⟨b,0,none⟩=some (.pointer (some ⟨g.bW,0,none⟩)):=Gr.cell (Has.lt Tt) (Has.cell Tt 0)
    have v0:∀u:Gr W5,u.w.cell? ⟨g.bW,0,none⟩=some (.pointer (some ⟨g.bT,0,none⟩)):=Gr.cell XK.lt (XK.cell 0)
    have x1:∀u:Gr W5,u.w.cell? ⟨jb,1,none⟩=some (.int .i64 x.2):=Gr.cell X5.lt (X5.cell 1)
    have XQ:=zH H95
    have QH:=zH X5
    have YY:=zH E5
    clear fO jC XL b9z E4 X4 q0 q1 qz hX hn hbI KG ok PS5 XK Tt O5 Kc MZ HM4 H95 X5 E5
    go_upto_region 9 with fail
    rw [<-lj]
    clear lj b94 abH abI Rp Yx
    refine mR W5 18 19 11 62 n A q _ _ (by kernel_rfl) (by kernel_rfl) rfl rfl rfl rfl (by simp) ((Ext.refl _).drew) ?_
    simp only[List.take_succ_cons,List.take_zero,List.drop_succ_cons,List.drop_zero,List.drop_nil]
    repeat (refine di (fun K hK=>?_)
            go_simp
            first
              | (refine hK _ ?_;clear hK K)
              | (apply Exists.intro
                 refine ⟨fun u=>?_,hK _ ?_⟩
                 first
                   | ((with_reducible refine (KO.out _ u.h).mono ?_);rintro e w'' ⟨rfl,hx⟩;exact⟨rfl,hx⟩)
                   | ((with_reducible refine (YV.out _ u.h).mono ?_);rintro e w'' ⟨rfl,hx⟩;exact⟨rfl,hx⟩)
                 clear hK K))
    refine bG ?_
    refine bG ⟨rfl,?_⟩
    refine di (fun K hK=>?_)
    go_simp
    refine hK _ ?_
    clear hK K
    refine bG ?_
    intro W6 fR E6 vC N6
    simp only[Act.put]
    have Y3:=zH (XQ.out.ext E6)
    have X6:=zH (QH.out.ext E6)
    have T7:=zH (YB.out.ext E6)
    have GL:=zH (ES.out.ext E6)
    have Y5:=zH (HM5.out.ext E6)
    have sf:=zH (XO.out.ext E6)
    have Mt:=zH (YY.out.trans E6)
    have XR:=zH N6
    have HV6:Hid (V.heap.size<=W6.heap.size):=zH (Nat.le_trans O5s.out E6.size)
    clear XQ QH YB ES HM5 XO YY N6 E6
    cases hI:bI with
    | false =>
      obtain ⟨oP⟩:Nonempty (dU s.t t' aC l1'):=by
        have h0:=SQ.out
        cases h0 with
        | none _ h=>exact⟨h⟩
        | step h _=>rw[<-HX.out,<-HBI.out,hI]at h;cases h
      have Ht:=zH oP
      clear oP
      subst hI
      go_wp2_with fail
      go_roundg (vP s.t r c t')
      case measure =>
        rw [HGK.out]
        have:=oV s.t r c (ar s.t.ag x.2)
        unfold vP
        rw [List.map_cons,List.sum_cons]
        omega
      case rel=>exact⟨l0,aC,t',M,es,cl,gt,cap,Ds,rfl,Y5.out,Mt.out,by have:=Y3.out;rw[BP.out]at this;exact this,T7.out,GL.out,sf.out,Y2.out,HF.out,yt.out,by have:=HTL.out;have:=BP.out;omega,fun y hy=>Hh.out y (List.mem_cons_of_mem _ hy),rfl,l1',Ht.out,MX.out⟩
    | true =>
      have hi:aK s.t.nodes X=true:=by rw[<-HBI.out];exact hI
      have aU:n.no=X:=by rw[HN.out];exact (aj hi).2.1
      obtain ⟨l2,qd,oP⟩:∃l2,l1'=vO s.t aC x::l2/\dU s.t (cO s.t x++t') (aC++[X]) l2:=by
        have h0:=SQ.out
        cases h0 with
        | none h _=>rw[<-HX.out,hi]at h;cases h
        | step _ h=>exact⟨_,rfl,by rw[HX.out];exact h⟩
      obtain ⟨bm,hbm⟩:∃b,b=decide (X∈aC):=⟨_,rfl⟩
      obtain ⟨k0,Ep⟩:∃k,k=aI M X:=⟨_,rfl⟩
      have hl:=Ps sf.out Y2.out HF.out X
      rw [<-Ep,<-hbm,<-aU]at hl
      have HBM:=zH hbm
      have QA:=zH Ep
      have rR:=zH aU
      have Sk:=zH qd
      have Ht:=zH oP
      have HI:=zH hi
      clear hbm Ep aU qd oP hi
      subst hI
      have n0:=XR.out.dP.1
      have n0z:=XR.out.lt
      obtain ⟨Ao,OM,rfl,Ml,_,_,_⟩:=GL.out.at_
      obtain ⟨nl,mB⟩:∃k,k=l0.length:=⟨_,rfl⟩
      rw [<-mB]at GL Ml|-
      have SS:=zH mB
      have HCO:=zH Ml
      clear mB Ml
      go_upto_if 74 with fail
      go_cut [13,14] from 32 to 80 (fun v _ wc=>v=.int .i64 ((gL aC X:Nat):Int)/\Only [bM] W6 wc/\∃(M':List (Int×Int)) (es':Array MapEntry) (BH:Nat),Has wc bM (.map es' BH)/\jN es'.toList M'/\o_ M' (aC++[X]))
      case first =>
        cases bm with
        | true =>
          have hx:=zH (of_decide_eq_true HBM.out.symm)
          go_wp2_with fail
          go_meet
          exact ⟨by rw[HF.out.row,if_pos hx.out,<-QA.out],Only.refl _ _,M,es,cl,sf.out,Y2.out,HF.out.old hx.out⟩
        | false =>
          have hx:=zH (of_decide_eq_false HBM.out.symm)
          obtain ⟨es',BH,hr,Uj⟩:=Mk sf.out Y2.out HF.out hx.out (nl:Int)
          rw [<-rR.out]at hr
          have abJ:=zH Uj
          clear Uj
          go_wp2_with fail
          go_meet
          exact ⟨by rw[HF.out.row,if_neg hx.out,SS.out,yt.out],Only.jj _ _ _,_,es',BH,Has.jj _ sf.out.lt,abJ.out,by have:=HF.out.new hx.out;rw[<-yt.out,<-SS.out,<-rR.out]at this;rw[<-rR.out];exact this⟩
      case rest =>
        obtain ⟨rfl,OC,M',es',BH,HMc,XS,HFc⟩:=hcut
        obtain ⟨W7,G9⟩:∃W,W=wc:=⟨_,rfl⟩
        subst G9
        have nb:∀y,y≠bM->y∉[bM]:=fun y h hm=>h (by simpa using hm)
        have H97:=OC.has Y3.out (nb _ (fw Y3.out sf.out))
        have X7:=OC.has X6.out (nb _ (fw X6.out sf.out))
        have N7:=OC.has XR.out (nb _ (fw XR.out sf.out))
        have GM:=GL.out.only OC (fun y hy=>nb _ (fun e=>j7 GL.out sf.out (by rw[hy,e])))
        have VZ:=T7.out.only OC (fun y hy=>nb _ (fun e=>j7 T7.out sf.out (by rw[hy,e])))
        have HM7:=Y5.out.only OC (fun D hD=>nb _ (fun e=>Y5.out.XI sf.out (by rw[<-e];exact hD)))
        have E7:Ext w W7:=OC.after Mt.out (fun y hy=>by rw[List.mem_singleton]at hy;subst hy;exact l1)
        have HV7:Hid (V.heap.size<=W7.heap.size):=zH (Nat.le_trans HV6.out OC.size)
        obtain ⟨row,hrow⟩:∃r,r=vO s.t aC x:=⟨_,rfl⟩
        obtain ⟨fi,hfi⟩:∃i:Int,i=((gL aC X:Nat):Int):=⟨_,rfl⟩
        have rD:row=⟨x.1,n.kind,n.mode,n.uid,n.gid,n.mtime,n.ctime,n.dev,fi,n.data⟩:=by
          rw [hrow,hfi]
          unfold vO
          rw [<-HX.out,<-HN.out]
          dsimp only
          rw [rR.out]
        rw [<-hfi]
        obtain ⟨v8,w8,WO,ST,SU,_⟩:=um l8 W7 GM E7.size ⟨x.1,n.kind,n.mode,n.uid,n.gid,n.mtime,n.ctime,n.dev,fi,n.data⟩ (by have:=SS.out;have:=yt.out;omega)
        rw [<-rD]at ST
        have E8:Ext w w8:=(E7.alloc _).grown SU (fun g hv=>(GM.lt hv).1)
        have O8:Only (Value.slice Ao nl OM).ownBlock.toList W7 w8:=(Only.gJ _ _ _).then (Only.of_grownBy SU (fun g hv=>Option.mem_toList.2 hv))
        have N8:=O8.has N7 (GM.mY N7 (by decide))
        have X8:=O8.has X7 (GM.mY X7 (by decide))
        have H98:=O8.has H97 (GM.mY H97 (by decide))
        have Qu:=VZ.only O8 (fun g hv hm=>VZ.apart GM (by decide) g hv hm)
        have Y6:=HM7.only O8 (fun D hD hm=>by obtain⟨cs,fr,e⟩:=GM.tag (Option.mem_toList.1 hm);exact HM7.ma e hD)
        have Px:=O8.has HMc (fun hm=>j7 GM HMc (Option.mem_toList.1 hm))
        have YM:=zH WO
        have yZ:=zH ST
        have SV:=zH N8
        have XT:=zH X8
        have Mm:=zH H98
        have Qu:=zH Qu
        have Y6:=zH Y6
        have Px:=zH Px
        have XU:=zH XS
        have HF8:=zH HFc
        have yC:=zH E8
        have Hr:Hid (V.heap.size<=w8.heap.size):=zH (Nat.le_trans HV7.out O8.size)
        have OP:=zH hrow
        obtain ⟨n0,n1,n2,n3,n4,n5,n6,n7,n8,n9,CE,zT⟩:=N7.dP
        have nz:=N7.lt
        have y0:=X7.cell 0
        have yz:=X7.lt
        simp only[gA,gB]at y0
        clear Y3 X6 T7 Y5 sf Mt XR GL YV KO WO ST N8 X8 H98 E8 XS HFc hrow rD hfi GM VZ HM7 H97 N7 X7 E7 O8 OC HMc nb SU zT hl n0z
        go_upto_region 16 with (at_builtin;refine Lib.wpList_append_run _ rfl _ _ 71 71 rfl _ _ rfl rfl _ _ YM.out ?_)
        clear n0 n1 n2 n3 n4 n5 n6 n7 n8 n9 CE nz y0 yz
        have c9:=Mm.out.cell 0
        have c9z:=Mm.out.lt
        simp only[gA,gB]at c9
        have c11:w8.cell? ⟨fR,11,none⟩=some (.slice A n.af.length q):=SV.out.dP.2.2.2.2.2.2.2.2.2.2.2
        have abK:=SV.out.lt
        have KA:Hid (∀u,Calls Tryz.prog 39 #[.slice A n.af.length q] u (fun e w'=>e=.returned (.func (.func 75) #[] #[.pointer (some ⟨u.heap.size,0,none⟩)])/\w'=u.alloc (.cells #[.slice A n.af.length q] 56))):=fun u=>(callsIn_wide (n:=4)).1 (Ig Fence.wide 4 trivial rfl A n.af.length q u)
        go_upto_region 17 with fail
        go_upto_block 2 with (go_at_call 39;refine (KA.out _).mono ?_;rintro e w9 ⟨rfl,rfl⟩)
        obtain ⟨W0,aY⟩:∃W,W=w8.alloc (.cells #[.slice A n.af.length q] 56):=⟨_,rfl⟩
        obtain ⟨bS,XV⟩:∃x,x=w8.heap.size:=⟨_,rfl⟩
        rw [<-aY,<-XV]
        have E0:Ext w8 W0:=by rw[aY];exact (Ext.refl _).alloc _
        have S0:Has W0 bS (.cells #[.slice A n.af.length q] 56):=by rw[aY,XV];exact Has.new _ _
        have acr:V.heap.size<=bS:=by rw[XV];exact Hr.out
        have EW0:Ext w W0:=yC.out.trans E0
        have T_:w.heap.size<=W0.heap.size:=EW0.size
        have heb:nY w.heap.size W0 A n.af:=nY.below (n₀:=w.heap.size) HOK.out.af.af EW0
        have Cy:n.af.length<=1000:=by rw[HN.out];have:=HP.out.ee.eD.small _ (aj HI.out).2.2;omega
        have hpx:x.1.length<=100000:=by
          have h1:=(Hh.out x (List.mem_cons_self ..)).1
          have h2:=HP.out.ee.eD.count
          have h3:=HP.out.ee.last
          omega
        have gP:∀y∈n.af,y.1.length<=100000:=fun y hy=>by
          rw [HN.out]at hy
          have:=(HP.out.ee.eD.names _ (aj HI.out).2.2 y hy).2;omega
        have I0:mm W0 w.heap.size b9 gt (t'.reverse++([]:List {y:aw // y∈n.af}).map fun y=>(cX x.1 y.1.1,y.1.2)) W0:=by
          rw [List.map_nil,List.append_nil]
          refine ⟨Only.refl _ _,gt,cap,?_,Qu.out.ext E0,.inl rfl⟩
          have:=Mm.out.ext E0
          rw [BP.out,<-List.length_reverse]at this
          exact this
        have S9:=zH (Mm.out.ext E0)
        have sA:=zH (Qu.out.ext E0)
        have XB:=zH (XT.out.ext E0)
        have XN:=zH (SV.out.ext E0)
        have OR:=zH (yZ.out.ext E0)
        have MK:=zH (Y6.out.ext E0)
        have MM:=zH (Px.out.ext E0)
        have SM:=zH EW0
        have HHB:Hid (W0.heap.size=bS+1):=zH (by rw[aY,XV];simp)
        clear aY XV c9 c9z c11 abK KA XT SV yZ Y6 Px yC YM Mm Qu E0
        refine (wpIn_wide (n:=4)).1 ?_
        gi_wp2
        refine yR (w0:=W0) rfl (by omega) (gf:=75) (lb:=#[.pointer (some ⟨bS,0,none⟩)]) rfl trivial (enters_of Tryz.func75 (by kernel_rfl) rfl)
          (Ts Fence.wide (4-1) trivial rfl (by omega) bS w.heap.size q A n.af (by omega) W0 S0.lt T_ (S0.cell 0) heb) belowK_t (belowK_b T_) (Below.refl _ _) (fun _=>rfl)
          (fun (pre:List {y:aw // y∈n.af}) W=>mm W0 w.heap.size b9 gt (t'.reverse++pre.map fun y=>(cX x.1 y.1.1,y.1.2)) W)
          (Hg W0 _ _ _ (fun (pre:List {y:aw // y∈n.af})=>t'.reverse++pre.map fun y=>(cX x.1 y.1.1,y.1.2))) I0
          (fun T (y:{y:aw // y∈n.af})=>(((T.setIfInBounds 109 (.string (bs y.1.1))).setIfInBounds 110 (.int .i64 y.1.2)).setIfInBounds 16 (.string (bs y.1.1))).setIfInBounds 17 (.int .i64 y.1.2)) ?assign ?body ?done
        case assign =>
          intro l y W K hK
          gi_wp2
          simpa only[List.setIfInBounds_toArray,List.set_cons_succ,List.set_cons_zero]using hK
        case body =>
          intro l pre y W hI hpl
          obtain⟨L,hL⟩:=aq (t'.reverse++pre.map fun y=>(cX x.1 y.1.1,y.1.2))
          rw [<-hL]at hI
          obtain ⟨o,g',cap',h9,hR,hg⟩:=hI
          have Qk:L.length<=2000000:=by
            rw [hL,List.length_append,List.length_reverse,List.length_map]
            have:=BP.out;omega
          have XW:=o.has XB.out (fun hm=>by
            rcases List.mem_cons.1 hm with e|hm
            · exact hne e
            · rw[List.mem_singleton]at hm;have:=HQZ.out;omega)
          have hBL:∀k u,CallsIn (Fence.wide.inRound l).plain k Tryz.prog 40 #[bs x.1,bs y.1.1] u (aH u (.string (bs (cX x.1 y.1.1)))):=fun k u=>callsIn_wide.2 (DQ x.1 y.1.1 u hpx (gP _ y.2))
          have Mx:Ext W W.drew:=(Ext.refl W).drew
          have c9:W.drew.cell? ⟨b9,0,none⟩=some (.slice (some ⟨g',0,none⟩) L.length cap'):=h9.cell 0
          have c9z:b9<W.drew.heap.size:=h9.lt
          have VB:W.drew.cell? ⟨jb,0,none⟩=some (.string (bs x.1)):=XW.cell 0
          have acs:jb<W.drew.heap.size:=XW.lt
          have HL:=zH hL
          simp only[List.setIfInBounds_toArray,List.set_cons_succ,List.set_cons_zero]
          clear I0 heb S0 gP hL
          gi_wp2
          refine kU (by kernel_rfl) (by kernel_rfl) ?_
          refine wpAnyIn_take (i:=1) (v:=?_) rfl rfl (by kernel_rfl) (by kernel_rfl) (by kernel_rfl) (fun _ _ _ h=>h) ⟨Or.inl ⟨by rfl,?_⟩,fun _=>rfl⟩ ?_
          case refine_2=>intro w;go_simp;rfl
          refine wpAnyIn_take (i:=3) (v:=?_) rfl rfl (by kernel_rfl) (by kernel_rfl) (by kernel_rfl) (fun _ _ _ h=>h) ⟨Or.inl ⟨by rfl,?_⟩,fun _=>rfl⟩ ?_
          case refine_2=>intro w;go_simp;rfl
          refine wpAnyIn_take (i:=5) (v:=?_) rfl rfl (by kernel_rfl) (by kernel_rfl) (by kernel_rfl) (fun _ _ _ h=>h) ⟨Or.inl ⟨by rfl,?_⟩,fun _=>rfl⟩ ?_
          case refine_2=>intro w;go_simp;rfl
          refine wpAnyIn_ready (rs:=[0,2]) (by kernel_rfl) (by simp) ?_
          refine AllReadyIn.cons rfl (fun K hK=>?_) ?_
          · skip
            go_simp
            refine hK _ _ ?_
            clear hK K
            refine wpAnyIn_ready (rs:=[2]) (by kernel_rfl) (by simp) ?_
            refine AllReadyIn.cons rfl (fun K hK=>?_) ?_
            · skip
              go_simp
              refine hK _ _ ?_
              clear hK K
              refine wpAnyIn_ready (rs:=[4]) (by kernel_rfl) (by simp) ?_
              refine AllReadyIn.cons rfl (fun K hK=>?_) ?_
              · skip
                go_simp
                refine ⟨trivial,(hBL _ _).mono ?_⟩
                rintro e wd ⟨rfl,bd⟩
                refine hK _ _ ?_
                clear hK K
                obtain ⟨g2,JY,w2,hr,DP,GN,oP,Py⟩:=mm.step o h9 hR hg T_ l3 Qk (Mx.trans bd) (cX x.1 y.1.1,y.1.2)
                rw [show (L++[(cX x.1 y.1.1,y.1.2)]).length=L.length+1 by rw[List.length_append];rfl]at hr GN oP Py
                have d9:=(bd.cell (o:=0) (show b9<W.drew.heap.size from h9.lt)).trans c9
                have d9z:b9<wd.heap.size:=Nat.lt_of_lt_of_le h9.lt (Mx.trans bd).size
                have e9:=DP.cell 0
                have e9z:=DP.lt
                have e9f:=DP.free 0
                simp only[gA,gB]at e9
                refine wpAnyIn_take (i:=6) (v:=?_) rfl rfl (by kernel_rfl) (by kernel_rfl) (by kernel_rfl) (fun _ _ _ h=>h) ⟨Or.inl ⟨by rfl,?_⟩,fun _=>rfl⟩ ?_
                case refine_2=>intro w;go_simp;rfl
                refine wpAnyIn_ready (rs:=[7]) (by kernel_rfl) (by simp) ?_
                refine AllReadyIn.cons rfl (fun K hK=>?_) ?_
                · skip
                  go_simp
                  refine hK _ _ ?_
                  clear hK K
                  refine wpAnyIn_ready (rs:=[8]) (by kernel_rfl) (by simp) ?_
                  refine AllReadyIn.cons rfl (fun K hK=>?_) ?_
                  · skip
                    rw [if_pos (by rfl)]
                    refine dv _ _ _ 116 116 rfl _ _ rfl rfl _ _ hr ?_
                    refine hK _ _ ?_
                    clear hK K
                    refine wpAnyIn_ready (rs:=[9]) (by kernel_rfl) (by simp) ?_
                    refine AllReadyIn.cons rfl (fun K hK=>?_) ?_
                    · skip
                      go_simp
                      refine hK _ _ ?_
                      clear hK K
                      refine wpAnyIn_done (by kernel_rfl) ?_ _
                      exact ⟨GN,oP,by show mm _ _ _ _ (t'.reverse++(pre++[y]).map fun y=>(cX x.1 y.1.1,y.1.2)) _;rw[List.map_append,List.map_cons,List.map_nil,<-List.append_assoc,<-HL.out];exact Py⟩
                    exact AllReadyIn.nil
                  exact AllReadyIn.nil
                exact AllReadyIn.nil
              exact AllReadyIn.nil
            exact AllReadyIn.nil
          refine AllReadyIn.cons rfl (fun K hK=>?_) ?_
          · skip
            go_simp
            refine hK _ _ ?_
            clear hK K
            refine wpAnyIn_ready (rs:=[0,4]) (by kernel_rfl) (by simp) ?_
            refine AllReadyIn.cons rfl (fun K hK=>?_) ?_
            · skip
              go_simp
              refine hK _ _ ?_
              clear hK K
              refine wpAnyIn_ready (rs:=[4]) (by kernel_rfl) (by simp) ?_
              refine AllReadyIn.cons rfl (fun K hK=>?_) ?_
              · skip
                go_simp
                refine ⟨trivial,(hBL _ _).mono ?_⟩
                rintro e wd ⟨rfl,bd⟩
                refine hK _ _ ?_
                clear hK K
                obtain ⟨g2,JY,w2,hr,DP,GN,oP,Py⟩:=mm.step o h9 hR hg T_ l3 Qk (Mx.trans bd) (cX x.1 y.1.1,y.1.2)
                rw [show (L++[(cX x.1 y.1.1,y.1.2)]).length=L.length+1 by rw[List.length_append];rfl]at hr GN oP Py
                have d9:=(bd.cell (o:=0) (show b9<W.drew.heap.size from h9.lt)).trans c9
                have d9z:b9<wd.heap.size:=Nat.lt_of_lt_of_le h9.lt (Mx.trans bd).size
                have e9:=DP.cell 0
                have e9z:=DP.lt
                have e9f:=DP.free 0
                simp only[gA,gB]at e9
                refine wpAnyIn_take (i:=6) (v:=?_) rfl rfl (by kernel_rfl) (by kernel_rfl) (by kernel_rfl) (fun _ _ _ h=>h) ⟨Or.inl ⟨by rfl,?_⟩,fun _=>rfl⟩ ?_
                case refine_2=>intro w;go_simp;rfl
                refine wpAnyIn_ready (rs:=[7]) (by kernel_rfl) (by simp) ?_
                refine AllReadyIn.cons rfl (fun K hK=>?_) ?_
                · skip
                  go_simp
                  refine hK _ _ ?_
                  clear hK K
                  refine wpAnyIn_ready (rs:=[8]) (by kernel_rfl) (by simp) ?_
                  refine AllReadyIn.cons rfl (fun K hK=>?_) ?_
                  · skip
                    rw [if_pos (by rfl)]
                    refine dv _ _ _ 116 116 rfl _ _ rfl rfl _ _ hr ?_
                    refine hK _ _ ?_
                    clear hK K
                    refine wpAnyIn_ready (rs:=[9]) (by kernel_rfl) (by simp) ?_
                    refine AllReadyIn.cons rfl (fun K hK=>?_) ?_
                    · skip
                      go_simp
                      refine hK _ _ ?_
                      clear hK K
                      refine wpAnyIn_done (by kernel_rfl) ?_ _
                      exact ⟨GN,oP,by show mm _ _ _ _ (t'.reverse++(pre++[y]).map fun y=>(cX x.1 y.1.1,y.1.2)) _;rw[List.map_append,List.map_cons,List.map_nil,<-List.append_assoc,<-HL.out];exact Py⟩
                    exact AllReadyIn.nil
                  exact AllReadyIn.nil
                exact AllReadyIn.nil
              exact AllReadyIn.nil
            refine AllReadyIn.cons rfl (fun K hK=>?_) ?_
            · skip
              go_simp
              refine ⟨trivial,(hBL _ _).mono ?_⟩
              rintro e wd ⟨rfl,bd⟩
              refine hK _ _ ?_
              clear hK K
              obtain ⟨g2,JY,w2,hr,DP,GN,oP,Py⟩:=mm.step o h9 hR hg T_ l3 Qk (Mx.trans bd) (cX x.1 y.1.1,y.1.2)
              rw [show (L++[(cX x.1 y.1.1,y.1.2)]).length=L.length+1 by rw[List.length_append];rfl]at hr GN oP Py
              have d9:=(bd.cell (o:=0) (show b9<W.drew.heap.size from h9.lt)).trans c9
              have d9z:b9<wd.heap.size:=Nat.lt_of_lt_of_le h9.lt (Mx.trans bd).size
              have e9:=DP.cell 0
              have e9z:=DP.lt
              have e9f:=DP.free 0
              simp only[gA,gB]at e9
              refine wpAnyIn_take (i:=6) (v:=?_) rfl rfl (by kernel_rfl) (by kernel_rfl) (by kernel_rfl) (fun _ _ _ h=>h) ⟨Or.inl ⟨by rfl,?_⟩,fun _=>rfl⟩ ?_
              case refine_2=>intro w;go_simp;rfl
              refine wpAnyIn_ready (rs:=[0,7]) (by kernel_rfl) (by simp) ?_
              refine AllReadyIn.cons rfl (fun K hK=>?_) ?_
              · skip
                go_simp
                refine hK _ _ ?_
                clear hK K
                refine wpAnyIn_ready (rs:=[7]) (by kernel_rfl) (by simp) ?_
                refine AllReadyIn.cons rfl (fun K hK=>?_) ?_
                · skip
                  go_simp
                  refine hK _ _ ?_
                  clear hK K
                  refine wpAnyIn_ready (rs:=[8]) (by kernel_rfl) (by simp) ?_
                  refine AllReadyIn.cons rfl (fun K hK=>?_) ?_
                  · skip
                    rw [if_pos (by rfl)]
                    refine dv _ _ _ 116 116 rfl _ _ rfl rfl _ _ hr ?_
                    refine hK _ _ ?_
                    clear hK K
                    refine wpAnyIn_ready (rs:=[9]) (by kernel_rfl) (by simp) ?_
                    refine AllReadyIn.cons rfl (fun K hK=>?_) ?_
                    · skip
                      go_simp
                      refine hK _ _ ?_
                      clear hK K
                      refine wpAnyIn_done (by kernel_rfl) ?_ _
                      exact ⟨GN,oP,by show mm _ _ _ _ (t'.reverse++(pre++[y]).map fun y=>(cX x.1 y.1.1,y.1.2)) _;rw[List.map_append,List.map_cons,List.map_nil,<-List.append_assoc,<-HL.out];exact Py⟩
                    exact AllReadyIn.nil
                  exact AllReadyIn.nil
                exact AllReadyIn.nil
              refine AllReadyIn.cons rfl (fun K hK=>?_) ?_
              · skip
                go_simp
                refine hK _ _ ?_
                clear hK K
                refine wpAnyIn_ready (rs:=[0]) (by kernel_rfl) (by simp) ?_
                refine AllReadyIn.cons rfl (fun K hK=>?_) ?_
                · skip
                  go_simp
                  refine hK _ _ ?_
                  clear hK K
                  refine wpAnyIn_ready (rs:=[8]) (by kernel_rfl) (by simp) ?_
                  refine AllReadyIn.cons rfl (fun K hK=>?_) ?_
                  · skip
                    rw [if_pos (by rfl)]
                    refine dv _ _ _ 116 116 rfl _ _ rfl rfl _ _ hr ?_
                    refine hK _ _ ?_
                    clear hK K
                    refine wpAnyIn_ready (rs:=[9]) (by kernel_rfl) (by simp) ?_
                    refine AllReadyIn.cons rfl (fun K hK=>?_) ?_
                    · skip
                      go_simp
                      refine hK _ _ ?_
                      clear hK K
                      refine wpAnyIn_done (by kernel_rfl) ?_ _
                      exact ⟨GN,oP,by show mm _ _ _ _ (t'.reverse++(pre++[y]).map fun y=>(cX x.1 y.1.1,y.1.2)) _;rw[List.map_append,List.map_cons,List.map_nil,<-List.append_assoc,<-HL.out];exact Py⟩
                    exact AllReadyIn.nil
                  exact AllReadyIn.nil
                exact AllReadyIn.nil
              exact AllReadyIn.nil
            exact AllReadyIn.nil
          exact AllReadyIn.nil
        case done =>
          rintro D xs W hD rfl hI hK
          have QI:(n.af.attach.map fun y=>(cX x.1 y.1.1,y.1.2))=cO s.t x:=by
            unfold cO
            rw [<-HX.out,<-HN.out]
            have e1:n.af.attach.map (fun y=>(cX x.1 y.1.1,y.1.2))=(n.af.attach.map Subtype.val).map (fun y=>(cX x.1 y.1,y.2)):=by rw[List.map_map];rfl
            rw [e1,List.attach_map_subtype_val]
          rw [QI]at hI
          have dh:(cO s.t x).length<=1000:=by
            unfold cO
            rw [List.length_map,<-HX.out,<-HN.out];exact Cy
          obtain ⟨KF,SW⟩:∃k,k=cO s.t x:=⟨_,rfl⟩
          rw [<-SW]at hI dh
          obtain ⟨o,g',cap',h9,hR,hg⟩:=hI
          have EW:Ext w W:=o.after SM.out (fun y hy=>by
            rcases List.mem_cons.1 hy with rfl|hy
            · exact l3
            · rw[List.mem_singleton]at hy;subst hy;exact VU)
          have vS:=sA.out.tag (g:=gt) rfl
          have nb:∀y,y≠b9->y≠gt->y∉[b9,gt]:=fun y h1 h2 hm=>by
            rcases List.mem_cons.1 hm with e|hm
            · exact h1 e
            · exact h2 (List.mem_singleton.1 hm)
          have ORW:=OR.out.only o (fun y hy=>nb y (fun e=>ez OR.out S9.out (by decide) (by rw[hy,e])) (fun e=>OR.out.apart sA.out (by decide) y hy (Option.mem_toList.2 (by rw[e];rfl))))
          have MKW:=MK.out.only o (fun y hy=>nb y (fun e=>MK.out.ma S9.out (by rw[<-e];exact hy)) (fun e=>by obtain⟨cs,fr,q⟩:=vS;exact MK.out.ma q (by rw[<-e];exact hy)))
          have MMW:=o.has MM.out (nb _ (fw S9.out MM.out).symm (fun e=>j7 sA.out MM.out (by rw[e];rfl)))
          have hDs:js W w.heap.size (D::Ds):=⟨List.nodup_cons.2 ⟨fun hm=>by
            have:=(Array.getElem?_eq_some_iff.1 (MK.out.2 D hm).2).1
            omega,MKW.1⟩,fun y hy=>by
            rcases List.mem_cons.1 hy with rfl|hy
            · exact⟨by omega,hK⟩
            · exact MKW.2 y hy⟩
          have Y7:=zH hDs
          have Pz:=zH ORW
          have PA:=zH MMW
          have XX:=zH EW
          have sg:=zH hR
          have Y8:=zH h9
          have MW:=zH SW
          have c9:=h9.cell 0
          have c9z:=h9.lt
          simp only[gA,gB]at c9
          obtain ⟨tl,pJ⟩:∃k,k=(t'.reverse++KF).length:=⟨_,rfl⟩
          rw [<-pJ]at c9
          have QL:tl<=cap'/\cap'<=maxLen:=by
            obtain ⟨_,c2,e,q1,q2,_⟩:=hR.at_
            injection e with _ _ e3
            rw [pJ,e3];exact⟨q1,q2⟩
          have acu:T'<=tl:=by rw[pJ,List.length_append,List.length_reverse,BP.out];exact Nat.le_add_right _ _
          have abL:=zH pJ
          clear hK hDs ORW MKW MMW EW hR h9 SW pJ QI vS nb o S9 sA OR MK MM SM
          have hc1:tl<=cap':=QL.1
          have DU:(T':Int)<=(tl:Int):=by omega
          have hKL:Hid (tl=T'+KF.length):=zH (by rw[abL.out,List.length_append,List.length_reverse,BP.out])
          have KR1:Hid (Calls Tryz.prog 41 #[.slice (some ⟨g',T'*2,none⟩) (tl-T') (cap'-T')] W (fun e w'=>e=.returned (.tuple #[])/\Only [g'] W w'/\bZ dE w' w.heap.size (.slice (some ⟨g',0,none⟩) (t'.reverse++KF.reverse).length cap') (t'.reverse++KF.reverse))):=by
            have:=Pu (c2:=cap'-T') sg.out
            rw [List.length_reverse,<-BP.out,show KF.length=tl-T' by have:=hKL.out;omega]at this
            exact this
          have KR0:Hid (cap'<=T'->Calls Tryz.prog 41 #[.slice (some ⟨g',0,none⟩) (tl-T') 0] W (fun e w'=>e=.returned (.tuple #[])/\Only [g'] W w'/\bZ dE w' w.heap.size (.slice (some ⟨g',0,none⟩) (t'.reverse++KF.reverse).length cap') (t'.reverse++KF.reverse))):=by
            show _->_
            intro hc
            have e0:KF=[]:=List.eq_nil_of_length_eq_zero (by have:=hKL.out;omega)
            have e1:tl-T'=0:=by have:=hKL.out;rw[e0]at this;simp at this;omega
            have h0:=sg.out
            rw [e0,List.append_nil]at h0
            rw [e1,e0,List.reverse_nil,List.append_nil]
            exact Pv (c2:=0) (o:=0) h0
          go_upto_region 21 with fail
          go_wp2_with fail
          · with_reducible refine (KR0.out (by omega)).mono ?_
            rintro e Da ⟨rfl,OC,RC⟩
            have vS:=sg.out.tag (g:=g') rfl
            have Tu:=vS
            have nb:∀y,y≠g'->y∉[g']:=fun y h hm=>h (by simpa using hm)
            have Mn:=zH OC
            have HRC:=zH RC
            have n9:=Mn.out.has Y8.out (nb _ (fun e=>ez sg.out Y8.out (by decide) (by rw[e];rfl)))
            have nR:=Pz.out.only Mn.out (fun y hy=>nb y (fun e=>Pz.out.apart sg.out (by decide) y hy (Option.mem_toList.2 (by rw[e];rfl))))
            have nM:=Y7.out.only Mn.out (fun y hy=>nb y (fun e=>by obtain⟨cs,fr,q⟩:=vS;exact Y7.out.ma q (by rw[<-e];exact hy)))
            have XY:=Mn.out.has PA.out (nb _ (fun e=>j7 sg.out PA.out (by rw[e];rfl)))
            have nE:=Mn.out.after XX.out (fun y hy=>by rw[List.mem_singleton]at hy;subst hy;exact (sg.out.lt rfl).1)
            have H9N:=zH n9
            have HNR:=zH nR
            have BQ:=zH nM
            have Tv:=zH XY
            have Qs:=zH nE
            clear OC RC vS Tu nb n9 nR nM XY nE
            go_wp2_with fail
            go_roundg (vP s.t r c (cO s.t x++t'))
            case measure =>
              rw [HGK.out]
              have:=sD HP.out.ee.eD HP.out.ee.BN HP.out.ee.kids.up HR.out x
              unfold vP at this|-
              rw [List.map_append,List.sum_append,List.map_cons,List.sum_cons]
              omega
            case rel =>
              have Tw:(cO s.t x++t').reverse=t'.reverse++KF.reverse:=by rw[List.reverse_append,MW.out]
              refine ⟨l0++[row],aC++[X],cO s.t x++t',M',es',BH,g',cap',D::Ds,rfl,BQ.out,Qs.out,?_,?_,HNR.out,Tv.out,XU.out,HF8.out,?_,?_,?_,rfl,l2,Ht.out,?_⟩
              · have:=H9N.out
                rw [show (t'.reverse++KF).length=(cO s.t x++t').length by rw[List.length_append,List.length_append,List.length_reverse,MW.out];omega]at this
                exact this
              · rw[Tw];exact HRC.out
              · rw[List.length_append,List.length_append,yt.out];rfl
              · rw [List.length_append,List.length_append,List.length_singleton,<-MW.out]
                have:=HTL.out;have:=BP.out
                omega
              · intro y hy
                rcases List.mem_append.1 hy with hy|hy
                · exact kY HP.out.ee.eD HP.out.ee.BN HP.out.ee.kids.up HR.out (Hh.out x (List.mem_cons_self ..)) y hy
                · exact Hh.out y (List.mem_cons_of_mem _ hy)
              · rw[MX.out,Sk.out,OP.out,List.append_assoc];rfl
          · with_reducible refine KR1.out.mono ?_
            rintro e Da ⟨rfl,OC,RC⟩
            have vS:=sg.out.tag (g:=g') rfl
            have Tu:=vS
            have nb:∀y,y≠g'->y∉[g']:=fun y h hm=>h (by simpa using hm)
            have Mn:=zH OC
            have HRC:=zH RC
            have n9:=Mn.out.has Y8.out (nb _ (fun e=>ez sg.out Y8.out (by decide) (by rw[e];rfl)))
            have nR:=Pz.out.only Mn.out (fun y hy=>nb y (fun e=>Pz.out.apart sg.out (by decide) y hy (Option.mem_toList.2 (by rw[e];rfl))))
            have nM:=Y7.out.only Mn.out (fun y hy=>nb y (fun e=>by obtain⟨cs,fr,q⟩:=vS;exact Y7.out.ma q (by rw[<-e];exact hy)))
            have XY:=Mn.out.has PA.out (nb _ (fun e=>j7 sg.out PA.out (by rw[e];rfl)))
            have nE:=Mn.out.after XX.out (fun y hy=>by rw[List.mem_singleton]at hy;subst hy;exact (sg.out.lt rfl).1)
            have H9N:=zH n9
            have HNR:=zH nR
            have BQ:=zH nM
            have Tv:=zH XY
            have Qs:=zH nE
            clear OC RC vS Tu nb n9 nR nM XY nE
            go_wp2_with fail
            go_roundg (vP s.t r c (cO s.t x++t'))
            case measure =>
              rw [HGK.out]
              have:=sD HP.out.ee.eD HP.out.ee.BN HP.out.ee.kids.up HR.out x
              unfold vP at this|-
              rw [List.map_append,List.sum_append,List.map_cons,List.sum_cons]
              omega
            case rel =>
              have Tw:(cO s.t x++t').reverse=t'.reverse++KF.reverse:=by rw[List.reverse_append,MW.out]
              refine ⟨l0++[row],aC++[X],cO s.t x++t',M',es',BH,g',cap',D::Ds,rfl,BQ.out,Qs.out,?_,?_,HNR.out,Tv.out,XU.out,HF8.out,?_,?_,?_,rfl,l2,Ht.out,?_⟩
              · have:=H9N.out
                rw [show (t'.reverse++KF).length=(cO s.t x++t').length by rw[List.length_append,List.length_append,List.length_reverse,MW.out];omega]at this
                exact this
              · rw[Tw];exact HRC.out
              · rw[List.length_append,List.length_append,yt.out];rfl
              · rw [List.length_append,List.length_append,List.length_singleton,<-MW.out]
                have:=HTL.out;have:=BP.out
                omega
              · intro y hy
                rcases List.mem_append.1 hy with hy|hy
                · exact kY HP.out.ee.eD HP.out.ee.BN HP.out.ee.kids.up HR.out (Hh.out x (List.mem_cons_self ..)) y hy
                · exact Hh.out y (List.mem_cons_of_mem _ hy)
              · rw[MX.out,Sk.out,OP.out,List.append_assoc];rfl
end
open Go.ChangeShapes Go.WideShapes Go.ChangeAt Go.RowKit
theorem PS.Tx {c:Nat} {w:World} {B b:Nat} {g:bJ} {s:az} (h:PS w B b g s) (hp:Pl c s) (hc:c<=300) (rows:List yG) (hB:dU s.t [([47],1)] [] rows) (hlen:rows.length<=1000) :
  Calls Tryz.prog 25 #[.pointer (some ⟨b,0,none⟩)] w (fun e w'=>∃v,e=.returned v/\bZ l8 w' w.heap.size v rows/\Ext w w'):=by
 obtain ⟨r,hr⟩:=hp.ee.eD.Jb;have XJ:kL s.t r ([47],1):=by
  refine ⟨?_,fun _=>?_⟩
  ·show ([47]:List UInt8).length<=_
   simp only[List.length_cons,List.length_nil];omega
  ·show ([47]:List UInt8).length<=_
   simp only[List.length_cons,List.length_nil];omega
 have K:Hid (Calls Tryz.prog 18 #[.pointer (some ⟨b,0,none⟩),.int .i64 1,.string ⟨#[47]⟩] w (fun e w'=>∃v,e=.returned v/\bZ l8 w' w.heap.size v rows/\Ext w w')):=h.Pw hp hc 1 [47] rows hB hlen hr XJ;clear h hp hc hB hlen hr XJ;go_enter Tryz.func25,Tryz.ntmps25;go_wp2_with fail;refine K.out.mono ?_;rintro e w1 ⟨v,rfl,O,E⟩;clear K;go_wp2_with fail;go_ret;exact ⟨v,rfl,O,E⟩
theorem XZ:QG:=fun _ _ _ _ _ _ h hp hc rows hB hl=>h.Tx hp hc rows hB (Nat.le_trans hl (by decide))
theorem cloneOwn_walk {H:Type} {enc:TypeId×Value->H} (W:World) (base:Nat) (v0:Value) (d0:DataW H) (p0:List MemPlace)
  (_hs:W.ShapedOpen Tryz.prog)
  (k0:Value.okWide Tryz.prog W .any base 30 v0) (h0:DataW.Trod enc Tryz.prog W 0 (fun _=>true) true 30 v0 d0 p0)
  : Calls Tryz.prog 3 #[v0] W (aH W (.bool true)):=by
 obtain ⟨x,cs,rfl,hx⟩:=G0 k0 h0;exact yP (Pr XZ) x cs W hx
end Go.Proofs.YtblbohcaphcobaaGreatDoor
