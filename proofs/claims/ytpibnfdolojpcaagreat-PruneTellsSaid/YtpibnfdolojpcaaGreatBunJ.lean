import Derived.Test.YtpibnfdolojpcaaGreatBunH
import Derived.Test.YtpibnfdolojpcaaGreatBunA
import Derived.Test.YtpibnfdolojpcaaGreatBunI
import Derived.RegionIn
import Derived.OwnWalkIn
import Derived.Deep.RegionHeld3
set_option maxHeartbeats 8000000
set_option maxRecDepth 100000
namespace Go.Proofs.YtpibnfdolojpcaaGreat
open Go.Proofs.Tryz
open Go.ChangeShapes Go.WideShapes Go.ChangeAt Go.RowKit
variable {A:Option Addr} {b cap len k B:Nat} {g:dL} {now count x z y:Int} {w w':World} {T S:ag} {dead:Bool} {a:Act} {l:List (Int×Int)}
section
open Go.Shelf
attribute [local go_sem] ol
section
variable {F:Fence} {n:Nat} {P:Program} {ops:Array Oper} {md:Region.Mode} {Q:Exit->Act->World->Prop}
theorem Fe {i:Nat} {K:Act->World->Prop} (hd:∀o,ops[i]?=some o->∀c,o.op≠.defer c) (h:wpOpIn F.plain n P ops Q i K a w):wpOpIn F n P ops Q i K a w:=by
 unfold wpOpIn at h|-;split
 ·rename_i ho;simp only[ho]at h;exact h
 ·rename_i o ho
  simp only[ho]at h;split
  ·rename_i hw
   simp only[hw,if_true]at h;unfold Oper.wpIn at h|-;refine⟨h.1,?_⟩;have h2:=h.2;rw[Oper.semAt_eq _ _ _ (hd o ho)]at h2|-;exact h2
  ·rename_i hw;simp only[hw]at h;exact h
theorem tq (hd:∀(i:Nat) (o:Oper),ops[i]?=some o->∀c,o.op≠.defer c):∀(fuel:Nat) (listed:Array Bool) (a:Act) (w:World),wpAnyIn F.plain n P md ops Q fuel listed a w->wpAnyIn F n P md ops Q fuel listed a w
 | 0,_,_,_,h=>h
 | fuel+1,_,_,_,h=>⟨h.1,fun i hi=>Fe (hd i) (wpOpIn_mono (fun a w=>tq hd fuel _ a w) (h.2 i hi))⟩
theorem oz {id:Nat} {l:List Oper} (hd:l.all uy=true) (hm:P.follows .mixedOrders=true)
  (h:wpAnyIn F.plain n P .any l.toArray Q l.toArray.size (Array.replicate l.toArray.size false) a w.drew):(Code.region id l.toArray true).wpIn F n P Q a w:=
 wpIn_region_any hm (tq (fun i o ho=>Eu (rr.1 hd o (Ed (by simpa using ho)))) _ _ _ _ h)
end
def b_ (S:ag) (l:List aK):List aK:=l.map fun x=>(x.1,aw S.ae x.2)
theorem kr (S:ag) (l:List aK) (x:aK):b_ S (l++[x])=b_ S l++[(x.1,aw S.ae x.2)]:=by unfold b_;rw[lG];rfl
theorem iC (S:ag) (l:List aK):(b_ S l).length=l.length:=by unfold b_;rw[jP]
def MZ (w w':World) (A:Option Addr) (L:List aK):Prop:=bU w' A L/\∀y,A.map (·.block)=some y->w.heap.size<=y
theorem MZ.base {w0:World} {L:List aK} (h:MZ w w' A L) (hs:Ext w0 w):MZ w0 w' A L:=⟨h.1,fun y hy=>nk hs.size (h.2 y hy)⟩
theorem Df {base n:Nat} {xs:List Value} (h:w.ownsRow base 153 2 (.slice A n cap) k xs):∀y,A.map (·.block)=some y->base<=y:=by
 intro y hy;rcases h.2 with⟨h1,_⟩|⟨g,c,cur,h1,hb,_⟩
 ·injection h1 with h1;rw[h1]at hy;cases hy
 ·injection h1 with h1
  rw[h1]at hy;have:g=y:=by injection hy
  omega
def tu (w:World) (L:List aK) (x:Int) (e:Ending) (w':World):Prop:=∃A cap,e=.returned (.tuple #[.slice A L.length cap,x])/\MZ w w' A L/\Ext w w'
theorem yO {base:Nat} {v:Value} {L:List aK} (x:aK) (wr:World) (h:eD wr base v L) (hb:base<=wr.heap.size) (hl:L.length<=2000000) :
  ∃ v' w2,(Builtin.append_ #[64,64] 64 #[v,.slice (some wr.heap.size) 1 1]).run prog (wr.alloc (.cells #[bs x.1,x.2] 153))=.ok v' w2/\(w2.ownsRow base 153 2 v' (L++[x]).length (ay (L++[x])))/\(wr.alloc (.cells #[bs x.1,x.2] 153)).grownBy w2 v.ownBlock:=by
 obtain⟨i0,hi,hz0,hz1,hz2⟩:=jj kX;obtain⟨v',w2,hr,h2,h3,_⟩:=run_append_own (P:=prog) (wr.alloc (.cells #[bs x.1,x.2] 153)) base 64 64 153 i0 (.agg #[.string ⟨#[]⟩,()]) 2 24 underlying64 hi hz0 hz1 hz2 rfl (by decide) v L.length _ (World.ownsRow.alloc h _) ⟨wr.heap.size,0,none⟩ 1 1 (ay [x]) rfl (rE wr x) (dZ [x]) (by unfold maxLen;omega) (by omega) (by simp;omega);refine⟨v',w2,hr,?_,h3⟩;rw[ft,aZ];exact h2
theorem kg {F:Fence} {n:Nat} {P:Program} (w:World) {o:Oper} {K:Act->World->Prop} {Q:Exit->Act->World->Prop} (s x:Operand) (t tn:TypeId)
  (ho:o.op=.call {callee:=.builtin .append,args:=#[s,x],argTypes:=#[t,tn]}) (vs vx:Value) (hs:a.eval s=vs) (hx:a.eval x=vx)
  (v':Value) (w':World) (hr:(Builtin.append_ #[t,tn] o.type #[vs,vx]).run P w=.ok v' w') (h:K (a.put o.dst v') w'):o.wpIn F n P a w K Q:=by
 unfold Oper.wpIn;refine⟨?_,?_⟩
 ·simp[Oper.about,ho,resolve,Target.leads]
 ·rw [Jw F _ _ (by rw[ho];intro c hc';cases hc')]
  simp[execOp,ho,resolve,invoke,builtin,hs,hx,hr,Result.andThen];exact h
theorem Pt {c:Nat} (B:Nat) (g:dL) (S:ag) (cu cg no:Int) (w:World) (h:eL w B g S) (T:eB c S) (hc:c<=1000000) :
  Calls prog 150 #[((),g.bW),.agg #[cu,cg],no] w (tu w (b_ S (bV S cu cg no 1 4).ah) (cE S cu cg no 1 4)):=by
 refine (km (n:=4)).1 ?_;obtain⟨F,hF⟩:=ai Fence.wide;have hro:F.round=none:=by rw[hF];rfl
 have h35:F.fn 150:=by rw[hF];trivial
 have hop:F.fn 99:=by rw[hF];trivial
 have zM:F.fn 101:=by rw[hF];trivial
 have h42:F.fn 178:=by rw[hF];trivial
 have h50:F.fn 202:=by rw[hF];trivial
 have Q_:=T.bV cu cg no 1 4;obtain⟨m,hm⟩:=ai (bV S cu cg no 1 4);obtain⟨x,hx⟩:=ai (cE S cu cg no 1 4);have hOP:∀(k:Nat) (w':World),Ext w w'->CallsIn F k prog 99 #[((),g.bW),.agg #[cu,cg],no,.int .i64 1,.int .i64 4] w' (fun e w2=>∃A c,e=.returned (.tuple #[.agg (m,A,c),x])/\aD w2 B m A c/\Ext w' w2):=by
  rw[hF,hm,hx];exact fun k w' h'=>km.2 (CX B g S cu cg no 1 4 w' (h.ext h') T.ae)
 have hOV:∀(l k:Nat) (q:Int) (w':World),Ext w w'->CallsIn (F.inRound l).plain k prog 101 #[((),g.bW),q] w' (aO w' (.int .i64 (aw S.ae q))):=by
  rw[hF];exact fun l k q w' h'=>km.2 (iZ B g S q w' (h.ext h') T.ae (by have:=T.eight;omega))
 have hz:¬x=0->m=aj:=fun h0=>by rw[hm];unfold bV;rw[ac (by rw[<-hx];exact h0)]
 rw[<-hm]at Q_;rw[<-hF,<-hm,<-hx];have Mq:m.ah.length<=1000000:=by have:=Q_.2;omega
 have E0:Ext w ((w.alloc (.cells #[((),g.bW)] 100)).alloc (.cells #[cu,cg] 27)):=((Ext.refl _).alloc _).alloc _;clear hF hm hx Q_;refine Ee func150 rfl h35 ?_ hro;simp only[ntmps150,lA,bk,gj,Nat.reduceAdd,Nat.reduceSub,o_,pd,pg,ph,jG,oo]
 by_cases aX:x=0
 case neg =>
  have t0:(x == 0)=false:=by simpa using aX
  have nK:(x != 0)=true:=by simpa using aX
  have hmz:=hz aX;have HMZ:=zH hmz;clear hz aX hmz;gi_wp2_with (gi_at_call 99;refine (hOP _ _ E0).mono ?_;rintro e w1 ⟨A1,c1,rfl,tS,b1⟩);refine⟨.tuple #[.slice none 0 0,x],by simp[results,results150,go_sem],none,0,?_,⟨.inl ?_,fun y hy=>by cases hy⟩,(E0.trans b1).alloc _⟩
  ·rw[HMZ.o];rfl
  ·rw[HMZ.o];rfl
 have hxe:=zH aX;subst aX;have acr:=kX;obtain⟨i0,hi,hz0,hz1,hz2⟩:=jj kX;have HI:=zH hi;have HZ0:=zH hz0;have HZ1:=zH hz1;have HZ2:=zH hz2;clear hz acr hi hz0 hz1 hz2;gi_wp2_with first|(gi_at_call 99;refine (hOP _ _ E0).mono ?_;rintro e w1 ⟨A1,c1,rfl,tS,b1⟩;have F0:=E0.trans b1;have hee:=tS.ah;have hN:=Has.new w1 (.cells (m,A1,c1) 66);obtain⟨x0,x1,x2,x3,x4,x5,x6,x7,x8,x9,kC,kn⟩:=hN.da)|(gi_at_make;refine wpListIn_make_own _ rfl _ _ 64 rfl (w1.heap.size+1) 153 i0 (.agg #[.string ⟨#[]⟩,()]) 2 underlying64 HI.o HZ0.o HZ1.o .i64 .i64 m.ah.length m.ah.length rfl rfl rfl (by rw[HZ2.o];omega) (by unfold maxLen;omega) (by simp) ?_;intro wa hrow hga;have hNa:Has wa w1.heap.size (.cells (m,A1,c1) 66):=(hga.block w1.heap.size hN.lt (by simp)).trans hN;obtain⟨y0,y1,y2,y3,y4,y5,y6,y7,y8,y9,pY,nL⟩:=hNa.da;have ya:=hNa.lt)|(gi_at_call 178;refine (aac F _ h42 hro _ _ _ _).mono ?_;rintro e w' ⟨rfl,rfl⟩)
 have HMZ:=zH Mq;obtain⟨n₀,hn0⟩:=ai (w1.heap.size+1);obtain⟨W2,dp⟩:=ai (w1.alloc (.cells (m,A1,c1) 66));have afP:W2.heap.size=n₀:=by rw[dp,hn0];simp
 have G2:Ext w W2:=by rw[dp];exact F0.alloc _
 have hsw:w.heap.size<w1.heap.size:=by have:=b1.size;simp at this;omega
 have cw2:W2.cell? (w.heap.size,0)=some (.pointer (some ⟨g.bW,0,none⟩)):=by
  have h1:Has (w.alloc (.cells #[((),g.bW)] 100)) w.heap.size (.cells #[((),g.bW)] 100):=Has.new _ _;rw[dp];exact (((h1.alloc _).ext b1).alloc _).cell 0
 have eb2:CA n₀ W2 A1 m.ah:=by
  rcases hee.ah with h0|⟨b,o,hA,hb,hc⟩
  ·exact .inl h0
  ·refine .inr ⟨b,o,hA,by omega,fun k hk=>?_⟩
   rw[dp];exact⟨(((Ext.refl _).alloc _).cell hb).trans (hc k hk).1,(((Ext.refl _).alloc _).cell hb).trans (hc k hk).2⟩
 rw[<-dp]at hga;obtain⟨W0,aJ⟩:=ai ((wa.alloc (.cells #[.slice (some ⟨w1.heap.size+1,0,none⟩) 0 m.ah.length] 64)).alloc (.cells #[.slice A1 m.ah.length c1] 64));have hza:n₀<=wa.heap.size:=by omega
 have B0:Below n₀ W2 W0:=by
  rw[aJ];exact (((DP n₀ W2).grown hga (by omega) (fun j e=>by cases e)).alloc (by omega) _).alloc (by simp;omega) _
 have bO:Boxed W0 wa.heap.size 64 (.slice (some ⟨w1.heap.size+1,0,none⟩) 0 m.ah.length):=by rw[aJ];exact (Boxed.new wa _ _).alloc _
 have bS:Has W0 (wa.heap.size+1) (.cells #[.slice A1 m.ah.length c1] 64):=by rw[aJ];have:=Has.new (wa.alloc (.cells #[.slice (some ⟨w1.heap.size+1,0,none⟩) 0 m.ah.length] 64)) (.cells #[.slice A1 m.ah.length c1] 64);rw[bi]at this;exact this
 have r0:W0.ownsRow (w1.heap.size+1) 153 2 (.slice (some ⟨w1.heap.size+1,0,none⟩) 0 m.ah.length) 0 []:=by
  rw[aJ];have e:(w1.alloc (.cells (m,A1,c1) 66)).heap.size=w1.heap.size+1:=by simp
  rw[e]at hrow;exact (hrow.alloc _).alloc _
 have hz0':W0.heap.size=wa.heap.size+2:=by rw[aJ];simp
 have r0:W0.ownsRow n₀ 153 2 (.slice (some ⟨w1.heap.size+1,0,none⟩) 0 m.ah.length) 0 []:=by rw[hn0];exact r0
 have hnw:w.heap.size<=n₀:=by omega
 have XC:w1.heap.size<n₀:=by omega
 rw [<-aJ];clear aJ y0 y1 y2 y3 y4 y5 y6 y7 y8 y9 pY nL x0 x1 x2 x3 x4 x5 x6 x7 x8 x9 kC kn hrow hga hNa tS hee hN;refine wpIn_rangeFunc_ownG (w0:=W0) hro (by omega) (gf:=202) (lb:=#[.pointer (some ⟨wa.heap.size+1,0,none⟩)]) rfl h50 (enters_of func202 (by kernel_rfl) rfl)
  (NM F (4-1) h50 hro (by omega) (wa.heap.size+1) n₀ c1 A1 m.ah Mq W0 (by omega) (by omega) (bS.cell 0) (eb2.below B0)) belowK_t (belowK_b (by omega)) (DP _ _) (fun _=>rfl)
  (fun pre W=>(∃v,Boxed W wa.heap.size 64 v/\W.ownsRow n₀ 153 2 v (b_ S pre).length (ay (b_ S pre))/\True)/\Below n₀ W2 W)
  (fun _ _ _=>False)
  (OwnFrom.and (Own.from (holdsRow_own n₀ wa.heap.size 64 153 2 (fun pre=>(b_ S pre).length) (fun pre=>ay (b_ S pre)) (fun _ _=>True)) _) (ownFrom_below (by omega) (by omega)))
  (fun _ _ _ _ _ hs _ _=>hs)
  ⟨⟨_,bO,r0,trivial⟩,B0⟩
  (fun x=>{tmps:=#[.pointer (some ⟨g.bW,0,none⟩),.agg #[cu,cg],.int .i64 no,.pointer (some ⟨w.heap.size,0,none⟩),.pointer (some ⟨w.heap.size+1,0,none⟩),undef,.slice none 0 0,.int .i64 0,.pointer (some ⟨w1.heap.size,0,none⟩),.int .i64 0,.pointer (some ⟨wa.heap.size,0,none⟩),.string (bs x.1),.int .i64 x.2,.tuple #[.agg (m,A1,c1),()],.pointer (some ⟨g.bW,0,none⟩),.agg #[cu,cg],.int .i64 no,.tuple #[.agg (m,A1,c1),()],.agg (m,A1,c1),.int .i64 0,.int .i64 0,.bool false,undef,.pointer (some ⟨w1.heap.size,11,none⟩),.slice A1 m.ah.length c1,.int .i64 m.ah.length,.slice (some ⟨w1.heap.size+1,0,none⟩) 0 m.ah.length,.pointer (some ⟨w1.heap.size,11,none⟩),.slice A1 m.ah.length c1,.func (.func 202) #[] #[.pointer (some ⟨wa.heap.size+1,0,none⟩)],.string (bs x.1),.int .i64 x.2,undef,undef,undef,undef,undef,undef,undef,undef,undef],defers:=[]}) ?assign ?body ?done ?stop
 case assign =>
  intro l x W K hK;gi_wp2;exact hK
 case body =>
  rintro l pre x W ⟨⟨v,hv,hrow,-⟩,hB⟩ hpl;have hc:=hv.cell;have hf:=hv.frozen;have cw:=(hB.cell (p:=⟨w.heap.size,0,none⟩) (by show w.heap.size<n₀;omega)).trans cw2;have hzW:=hB.size;have hEd:Ext w W.drew:=Ext.drew (show Ext w W from Jq (show Below w.heap.size w W2 from G2) (hB.mono hnw));have Dg:W.drew.ownsRow n₀ 153 2 v (b_ S pre).length (ay (b_ S pre)):=hrow;have hvd:Boxed W.drew wa.heap.size 64 v:=hv;have bN:∀{u:World},Ext W.drew u->Below n₀ W u:=fun {u} h=>(show Below n₀ W W.drew from⟨rfl,rfl,rfl,aE _,fun _ _=>rfl⟩).trans (h.mono (by show n₀<=W.heap.size;omega))
  have bK:∀{u:World},Ext W.drew u->KeepsOthers W u:=fun {u} h=>(show KeepsOthers W W.drew from⟨aE _,fun _ _ h _=>h⟩).trans (KeepsOthers.of_grownBy h.grownBy fun j o e _=>by cases e)
  clear G2 cw2 hOP h T B0 bO bS r0;gi_wp2;refine oz (by kernel_rfl) (by kernel_rfl) ?_;refine zC (i:=1) (v:=?_) rfl rfl (by kernel_rfl) (by kernel_rfl) (by kernel_rfl) (fun _ _ _ h=>h) ⟨Or.inl ⟨by rfl,?_⟩,fun _=>rfl⟩ ?_
  case refine_2=>intro w;go_simp;rfl
  refine zC (i:=3) (v:=?_) rfl rfl (by kernel_rfl) (by kernel_rfl) (by kernel_rfl) (fun _ _ _ h=>h) ⟨Or.inl ⟨by rfl,?_⟩,fun _=>rfl⟩ ?_
  case refine_2=>intro w;go_simp;rfl
  refine i_ (rs:=[0,2]) (by kernel_rfl) (by simp) ?_;refine gV rfl (fun K hK=>?_) ?_
  ·skip
   go_simp;refine hK _ _ ?_;clear hK K;refine i_ (rs:=[2]) (by kernel_rfl) (by simp) ?_;refine gV rfl (fun K hK=>?_) ?_
   ·skip
    go_simp;refine hK _ _ ?_;clear hK K;refine i_ (rs:=[4]) (by kernel_rfl) (by simp) ?_;refine gV rfl (fun K hK=>?_) ?_
    ·skip
     go_simp;gi_wp2_with (gi_at_call 101;refine (hOV l _ _ _ hEd).mono ?_;rintro e wd ⟨rfl,bd⟩);obtain⟨v',w2,hr,rT,Pu⟩:=yO (base:=n₀) (x.1,aw S.ae x.2) wd (qF Dg bd.grownBy (by cases v.ownBlock<;>simp)) (by have:=bd.size;simp at this;omega) (by rw[iC];omega);rw[<-kr]at rT;have TJ:Boxed wd wa.heap.size 64 v:=Has.ext hvd bd;obtain⟨He,Sr,TK,hk2,hb2⟩:=TJ.appended (n₀:=n₀) (by decide) (qF Dg bd.grownBy (by cases v.ownBlock<;>simp)) (by have:=bd.size;simp at this;omega) (by omega) rT Pu;obtain⟨g',cap',hv'⟩:=zG (k:=(b_ S pre).length) (by rw[show (b_ S pre).length+1=(b_ S (pre++[x])).length by rw[kr];simp];exact rT);subst hv';have M0:=TJ.cell;have hld:=TJ.lt;have hc1:=He.cell;have Rk:=He.frozen;refine zC (i:=5) (v:=?_) rfl rfl (by kernel_rfl) (by kernel_rfl) (by kernel_rfl) (fun _ _ _ h=>h) ⟨Or.inl ⟨by rfl,?_⟩,fun _=>rfl⟩ ?_
     case refine_2=>intro w;go_simp;rfl
     refine i_ (rs:=[6]) (by kernel_rfl) (by simp) ?_;refine gV rfl (fun K hK=>?_) ?_
     ·skip
      go_simp;refine hK _ _ ?_;clear hK K;refine i_ (rs:=[7]) (by kernel_rfl) (by simp) ?_;refine gV rfl (fun K hK=>?_) ?_
      ·skip
       rw[af (by rfl)];refine kg _ _ _ 64 64 rfl _ _ rfl rfl _ _ hr ?_;refine hK _ _ ?_;clear hK K;refine i_ (rs:=[8]) (by kernel_rfl) (by simp) ?_;refine gV rfl (fun K hK=>?_) ?_
       ·skip
        go_simp;refine hK _ _ ?_;clear hK K;refine Ef (by kernel_rfl) ?_ _;exact⟨((bK bd).trans hk2).from _,(bN bd).trans hb2,⟨_,Sr,TK,trivial⟩,hB.trans ((bN bd).trans hb2)⟩
       exact ja
      exact ja
     exact ja
    exact ja
   exact ja
  refine gV rfl (fun K hK=>?_) ?_
  ·skip
   go_simp;refine hK _ _ ?_;clear hK K;refine i_ (rs:=[0,4]) (by kernel_rfl) (by simp) ?_;refine gV rfl (fun K hK=>?_) ?_
   ·skip
    go_simp;refine hK _ _ ?_;clear hK K;refine i_ (rs:=[4]) (by kernel_rfl) (by simp) ?_;refine gV rfl (fun K hK=>?_) ?_
    ·skip
     go_simp;gi_wp2_with (gi_at_call 101;refine (hOV l _ _ _ hEd).mono ?_;rintro e wd ⟨rfl,bd⟩);obtain⟨v',w2,hr,rT,Pu⟩:=yO (base:=n₀) (x.1,aw S.ae x.2) wd (qF Dg bd.grownBy (by cases v.ownBlock<;>simp)) (by have:=bd.size;simp at this;omega) (by rw[iC];omega);rw[<-kr]at rT;have TJ:Boxed wd wa.heap.size 64 v:=Has.ext hvd bd;obtain⟨He,Sr,TK,hk2,hb2⟩:=TJ.appended (n₀:=n₀) (by decide) (qF Dg bd.grownBy (by cases v.ownBlock<;>simp)) (by have:=bd.size;simp at this;omega) (by omega) rT Pu;obtain⟨g',cap',hv'⟩:=zG (k:=(b_ S pre).length) (by rw[show (b_ S pre).length+1=(b_ S (pre++[x])).length by rw[kr];simp];exact rT);subst hv';have M0:=TJ.cell;have hld:=TJ.lt;have hc1:=He.cell;have Rk:=He.frozen;refine zC (i:=5) (v:=?_) rfl rfl (by kernel_rfl) (by kernel_rfl) (by kernel_rfl) (fun _ _ _ h=>h) ⟨Or.inl ⟨by rfl,?_⟩,fun _=>rfl⟩ ?_
     case refine_2=>intro w;go_simp;rfl
     refine i_ (rs:=[6]) (by kernel_rfl) (by simp) ?_;refine gV rfl (fun K hK=>?_) ?_
     ·skip
      go_simp;refine hK _ _ ?_;clear hK K;refine i_ (rs:=[7]) (by kernel_rfl) (by simp) ?_;refine gV rfl (fun K hK=>?_) ?_
      ·skip
       rw[af (by rfl)];refine kg _ _ _ 64 64 rfl _ _ rfl rfl _ _ hr ?_;refine hK _ _ ?_;clear hK K;refine i_ (rs:=[8]) (by kernel_rfl) (by simp) ?_;refine gV rfl (fun K hK=>?_) ?_
       ·skip
        go_simp;refine hK _ _ ?_;clear hK K;refine Ef (by kernel_rfl) ?_ _;exact⟨((bK bd).trans hk2).from _,(bN bd).trans hb2,⟨_,Sr,TK,trivial⟩,hB.trans ((bN bd).trans hb2)⟩
       exact ja
      exact ja
     exact ja
    exact ja
   refine gV rfl (fun K hK=>?_) ?_
   ·skip
    go_simp;gi_wp2_with (gi_at_call 101;refine (hOV l _ _ _ hEd).mono ?_;rintro e wd ⟨rfl,bd⟩);obtain⟨v',w2,hr,rT,Pu⟩:=yO (base:=n₀) (x.1,aw S.ae x.2) wd (qF Dg bd.grownBy (by cases v.ownBlock<;>simp)) (by have:=bd.size;simp at this;omega) (by rw[iC];omega);rw[<-kr]at rT;have TJ:Boxed wd wa.heap.size 64 v:=Has.ext hvd bd;obtain⟨He,Sr,TK,hk2,hb2⟩:=TJ.appended (n₀:=n₀) (by decide) (qF Dg bd.grownBy (by cases v.ownBlock<;>simp)) (by have:=bd.size;simp at this;omega) (by omega) rT Pu;obtain⟨g',cap',hv'⟩:=zG (k:=(b_ S pre).length) (by rw[show (b_ S pre).length+1=(b_ S (pre++[x])).length by rw[kr];simp];exact rT);subst hv';have M0:=TJ.cell;have hld:=TJ.lt;have hc1:=He.cell;have Rk:=He.frozen;refine zC (i:=5) (v:=?_) rfl rfl (by kernel_rfl) (by kernel_rfl) (by kernel_rfl) (fun _ _ _ h=>h) ⟨Or.inl ⟨by rfl,?_⟩,fun _=>rfl⟩ ?_
    case refine_2=>intro w;go_simp;rfl
    refine i_ (rs:=[0,6]) (by kernel_rfl) (by simp) ?_;refine gV rfl (fun K hK=>?_) ?_
    ·skip
     go_simp;refine hK _ _ ?_;clear hK K;refine i_ (rs:=[6]) (by kernel_rfl) (by simp) ?_;refine gV rfl (fun K hK=>?_) ?_
     ·skip
      go_simp;refine hK _ _ ?_;clear hK K;refine i_ (rs:=[7]) (by kernel_rfl) (by simp) ?_;refine gV rfl (fun K hK=>?_) ?_
      ·skip
       rw[af (by rfl)];refine kg _ _ _ 64 64 rfl _ _ rfl rfl _ _ hr ?_;refine hK _ _ ?_;clear hK K;refine i_ (rs:=[8]) (by kernel_rfl) (by simp) ?_;refine gV rfl (fun K hK=>?_) ?_
       ·skip
        go_simp;refine hK _ _ ?_;clear hK K;refine Ef (by kernel_rfl) ?_ _;exact⟨((bK bd).trans hk2).from _,(bN bd).trans hb2,⟨_,Sr,TK,trivial⟩,hB.trans ((bN bd).trans hb2)⟩
       exact ja
      exact ja
     exact ja
    refine gV rfl (fun K hK=>?_) ?_
    ·skip
     go_simp;refine hK _ _ ?_;clear hK K;refine i_ (rs:=[0]) (by kernel_rfl) (by simp) ?_;refine gV rfl (fun K hK=>?_) ?_
     ·skip
      go_simp;refine hK _ _ ?_;clear hK K;refine i_ (rs:=[7]) (by kernel_rfl) (by simp) ?_;refine gV rfl (fun K hK=>?_) ?_
      ·skip
       rw[af (by rfl)];refine kg _ _ _ 64 64 rfl _ _ rfl rfl _ _ hr ?_;refine hK _ _ ?_;clear hK K;refine i_ (rs:=[8]) (by kernel_rfl) (by simp) ?_;refine gV rfl (fun K hK=>?_) ?_
       ·skip
        go_simp;refine hK _ _ ?_;clear hK K;refine Ef (by kernel_rfl) ?_ _;exact⟨((bK bd).trans hk2).from _,(bN bd).trans hb2,⟨_,Sr,TK,trivial⟩,hB.trans ((bN bd).trans hb2)⟩
       exact ja
      exact ja
     exact ja
    exact ja
   exact ja
  exact ja
 case done =>
  rintro D ys W hD rfl ⟨⟨v,hv,hrow,-⟩,hB⟩ hK;obtain⟨A9,XD,rfl,_,_,hat⟩:=eD.at_ hrow;have hc:=hv.cell;gi_wp2;refine⟨by simp,.inl ⟨_,_,rfl,wl hK,?_⟩⟩;have Kz:=belowK_b (n₀:=n₀) (w:=W0) (by omega) W D _ (.deferred none) (by omega) hK rfl rfl;have hE:Ext w (W.putObj D (.deferred none)):=Jq (show Below w.heap.size w W2 from G2) ((hB.trans Kz).mono hnw);refine⟨.tuple #[.slice A9 (b_ S m.ah).length XD,()],by simp[results,results150,go_sem],A9,XD,rfl,⟨?_,fun y hy=>nk hnw (Df hrow y hy)⟩,hE⟩;have Hf:=qF hrow (grownBy_putObj' W D (.deferred none)) (by
   rcases hrow.2 with⟨h1,_⟩|⟨g9,c9,cur,h1,_,hgb,_⟩
   ·exact .inl (by rw[h1];rfl)
   ·refine .inr fun e'=>?_
    rw[h1]at e';obtain rfl:g9=D:=by simpa [Value.ownBlock]using e'
    rw[hgb]at hK;cases hK)
  obtain⟨A8,afQ,e8,_,_,Ff⟩:=eD.at_ Hf;injection e8 with e8;rw[e8];exact Ff
 case stop =>
  rintro D c pre W hD hp hx hK;exact hx.elim
end
theorem KE {l:List aK} (h:k<l.length):b_ S (l.take (k+1))=b_ S (l.take k)++[(l[k].1,aw S.ae l[k].2)]:=by
 rw[mC h,kr]
theorem bU.lt0 {l:List aK} (h:bU w A l) (hk:k<l.length):∃b o,A=some ⟨b,o,none⟩/\b<w.heap.size/\w.cell? ⟨b,o+k*2,none⟩=some (.string (bs l[k].1))/\w.cell? ⟨b,o+k*2+1,none⟩=some (.int .i64 l[k].2):=by
 rcases h with h|⟨b,o,hA,hb,hc⟩
 ·rw[h]at hk;cases hk
 ·exact⟨b,o,hA,hb,hc k hk⟩
theorem mz {P:Program} {ops:Array Oper} {o:Oper} {K:Act->World->Prop} {Q:Exit->Act->World->Prop} {E:Prop} (w:World) (hgd:o.guard=none) (s x:Operand) (t:TypeId)
  (ho:o.op=.call {callee:=.builtin .append,args:=#[s,x],argTypes:=#[t,t]}) (vs vx:Value) (hs:a.eval s=vs) (hx:a.eval x=vx) {R:Value->World->Prop}
  (hr:∃v' w',(Builtin.append_ #[t,t] o.type #[vs,vx]).run P w=.ok v' w'/\R v' w') (h:∀v' w',R v' w'->K (a.put o.dst v') w') :
  if Region.wanted o (yielded ops a.tmps)=true then Oper.wp P o a w K Q else E:=by
 have hw:Region.wanted o (yielded ops a.tmps)=true:=by simp[Region.wanted,hgd]
 rw[af hw];obtain⟨v',w',h1,h2⟩:=hr;unfold Oper.wp execOp;simp only[ho,resolve,invoke,builtin,nr,o7,rn,RH,dM,Ml,hs,hx,h1];exact h v' w' h2
theorem eD.acs {v:Value} {xs:List Value} (h:w.ownsRow b 153 2 v k xs) (hE:Ext w w'):w'.ownsRow b 153 2 v k xs:=
 qF h hE.grownBy (by cases v.ownBlock<;>simp)
theorem Pv (B:Nat) (g:cI) (S:ag) (X:cY) (cu cg no:Int) (w:World) (h:gv w B g S X) (hl:S.nodes.length<=1000000) (hu:aQ S.nodes S.last) (hd:S.ae.length<=1000) (Mq:(bV S cu cg no 1 4).ah.length<=1000000) :
  Calls prog 136 #[((),g.bF),.agg #[cu,cg],no] w (tu w (b_ S (bV S cu cg no 1 4).ah) (cE S cu cg no 1 4)):=by
 have E0:Ext w (w.alloc (.cells #[cu,cg] 27)):=(Ext.refl _).alloc _;go_in;go_wp2_with fail;refine (CY B g S X cu cg no 1 4 _ (h.ext E0) hl hu).mono ?_;rintro e w1 ⟨A1,c1,rfl,tS,b1⟩;obtain⟨m,hm⟩:=ai (bV S cu cg no 1 4);obtain⟨x,hx⟩:=ai (cE S cu cg no 1 4);rw[<-hm]at Mq tS;rw[<-hm,<-hx];have hee:=tS.ah;have F1:=E0.trans b1;obtain⟨W2,dp⟩:=ai (w1.alloc (.cells (m,A1,c1) 66));obtain⟨b8,gH⟩:=ai w1.heap.size;have N2:Has W2 b8 (.cells (m,A1,c1) 66):=by rw[dp,gH];exact Has.new _ _
 have F2:Ext w W2:=by rw[dp];exact F1.alloc _
 have oU:bU W2 A1 m.ah:=hee.ah.ext (by rw[dp];exact (Ext.refl _).alloc _);have Pw:=zH hm;have FL:=zH hx;clear hm hx;obtain⟨es,hes⟩:=ai m.ah;rw[<-hes]at Mq oU;obtain⟨n,hn⟩:=ai es.length;rw[<-hn]at Mq;have HN:=zH hn;have c11:W2.cell? (b8,11)=some (.slice A1 n c1):=by rw[hn,hes];exact N2.da.2.2.2.2.2.2.2.2.2.2.2
 have z8:=N2.lt;have HES:=zH hes;clear hee tS hes hn N2 E0 b1;go_upto_region 2 with fail;rw[<-dp,<-gH];rw[<-HES.o];clear dp gH F1;go_wp2_with fail;have HM:=zH Mq;obtain⟨i0,hi,hz0,hz1,hz2⟩:=jj kX;clear hi hz0 hz1 hz2;go_loopw [10,11] (fun u i wr=>∃k:Nat,k<=n/\i=.int .i64 k/\wr.ownsRow W2.heap.size 153 2 u (b_ S (es.take k)).length (ay (b_ S (es.take k)))/\Ext W2 wr) (fun _ i _=>n-(intOf i).toNat)
 case atStart=>exact⟨0,bC _,rfl,oG _ _ _ _,Ext.refl _⟩
 case round =>
  obtain⟨k,hk,rfl,hown,hE⟩:=hrel;have q11:wr.cell? (b8,11)=some (.slice A1 n c1):=(hE.cell z8).trans c11;have M8:(b_ S (es.take k)).length<=2000000:=by rw[iC,iG];omega
  by_cases hlt:(k:Int)<n
  ·have dN:k<es.length:=by have:=HN.o;omega
   obtain⟨b,o,rfl,hb,e0,e1⟩:=oU.lt0 dN;have y1:(0:Int)<=(k:Int):=cO _;have hs:=KE (S:=S) dN
   generalize es[k]=z at e0 e1 hs
   obtain⟨L,hL⟩:=ai (b_ S (es.take k));rw[<-hL]at hown hs M8;have HS:=zH hs;have HOW:=zH hown;have KS:Hid (∀w',Ext W2 w'->(Ext W2 w'/\w'.cell? (b8,11)=some (.slice (some ⟨b,o,none⟩) n c1)/\w'.cell? (b,o+k*2)=some (.string (bs z.1))/\w'.cell? (b,o+k*2+1)=some (.int .i64 z.2))):=fun w' h'=>⟨h',(h'.cell z8).trans c11,(h'.cell hb).trans e0,(h'.cell hb).trans e1⟩
   have cA:Ext W2 wr.drew:=hE.drew;have hFw:∀w',Ext W2 w'->gv w' B g S X:=fun w' h'=>h.ext (F2.trans h')
   have HFW:=zH hFw;clear hs hL hown hFw;have BS:IntKind.i64.wrap ((k:Int)+1)=(k:Int)+1:=cB _ (by omega);have HWR:Hid (Ext wr wr.drew):=zH ((Ext.refl wr).drew);go_wp2_with fail;go_region_held3 (fun w'=>Ext W2 w'/\w'.cell? (b8,11)=some (.slice (some ⟨b,o,none⟩) n c1)/\w'.cell? (b,o+k*2)=some (.string (bs z.1))/\w'.cell? (b,o+k*2+1)=some (.int .i64 z.2))
    ((first|exact KS.o _ cA|exact KS.o _ (cA.trans Az)|exact KS.o _ ((cA.trans Az).alloc _)|exact KS.o _ Rf))
    ((first|(go_at_call 84;refine (iy B g S X _ _ (HFW.o _ cA) hd).mono ?_;rintro e wd ⟨rfl,Az⟩)|(refine mz _ (by rfl) _ _ 64 (by rfl) _ _ (by rfl) (by rfl) (yO (z.1,aw S.ae z.2) wd (eD.acs HOW.o (HWR.o.trans Az)) (cA.trans Az).size M8) ?_;rintro v9 w9 ⟨Rl,Rm⟩;have Rf:Ext W2 w9:=((cA.trans Az).alloc _).grown Rm (fun g hv=>(ry (eD.acs HOW.o (HWR.o.trans Az)) g hv).1))))
   rw[<-HS.o]at Rl;have HO9:=zH Rl;clear Rl Rm;go_wp2_with fail;go_roundw
   case rel=>exact⟨k+1,by omega,by go_num,HO9.o,Rf⟩
   case measure=>simp[intOf];omega
  ·have ut:k=n:=by omega
   have hf:Hid (b_ S (es.take k)=b_ S es):=by show _=_;rw[ut,HN.o,od]
   obtain⟨A9,XD,rfl,_,_,hat⟩:=eD.at_ hown;have Fg:=zH hat;have HFR:=zH (Df hown);have HE:=zH (F2.trans hE);clear hown hat hE ut;go_wp2;go_ret2;refine⟨A9,XD,?_,?_,HE.o⟩
   ·rw[<-FL.o,<-Pw.o,<-HES.o,<-hf.o];rfl
   ·rw[<-Pw.o,<-HES.o,<-hf.o];exact⟨Fg.o,fun y hy=>nk F2.size (HFR.o y hy)⟩
def M9 (n:ak):List Value:=[.int .i64 n.no,.int .i64 n.dev,.int .i64 n.kind,.int .i64 n.mode,.int .i64 n.uid,.int .i64 n.gid,.int .i64 n.ar,.int .i64 n.data.length,.int .i64 n.mtime,.int .i64 n.ctime]
def iU (n:ak):Value:=.agg #[n.no,n.dev,n.kind,n.mode,n.uid,n.gid,n.ar,n.data.length,n.mtime,n.ctime]
def dQ (S:ag) (no:Int):Int:=if aW S.nodes no=true then 0 else 5
theorem AU:(prog.info? 95).map (·.size)=some 10:=by kernel_rfl
theorem Has.XE {a0 a1 a2 a3 a4 a5 a6 a7 a8 a9:Value} {t:TypeId} (h:Has w b (.cells #[a0,a1,a2,a3,a4,a5,a6,a7,a8,a9] t)) (n:ak):Has (w.setCells b 0 (M9 n)) b (.cells #[n.no,n.dev,n.kind,n.mode,n.uid,n.gid,n.ar,n.data.length,n.mtime,n.ctime] t):=by
 have h0:Has (w.setCell (b,0) (.int .i64 n.no)) b (.cells #[n.no,a1,a2,a3,a4,a5,a6,a7,a8,a9] t):=by have:=Has.setCell h 0 (.int .i64 n.no);simpa using this
 have h1:Has ((w.setCell (b,0) (.int .i64 n.no)).setCell (b,1) (.int .i64 n.dev)) b (.cells #[n.no,n.dev,a2,a3,a4,a5,a6,a7,a8,a9] t):=by have:=Has.setCell h0 1 (.int .i64 n.dev);simpa using this
 have h2:Has (((w.setCell (b,0) (.int .i64 n.no)).setCell (b,1) (.int .i64 n.dev)).setCell (b,2) (.int .i64 n.kind)) b (.cells #[n.no,n.dev,n.kind,a3,a4,a5,a6,a7,a8,a9] t):=by have:=Has.setCell h1 2 (.int .i64 n.kind);simpa using this
 have h3:Has ((((w.setCell (b,0) (.int .i64 n.no)).setCell (b,1) (.int .i64 n.dev)).setCell (b,2) (.int .i64 n.kind)).setCell (b,3) (.int .i64 n.mode)) b (.cells #[n.no,n.dev,n.kind,n.mode,a4,a5,a6,a7,a8,a9] t):=by have:=Has.setCell h2 3 (.int .i64 n.mode);simpa using this
 have h4:Has (((((w.setCell (b,0) (.int .i64 n.no)).setCell (b,1) (.int .i64 n.dev)).setCell (b,2) (.int .i64 n.kind)).setCell (b,3) (.int .i64 n.mode)).setCell (b,4) (.int .i64 n.uid)) b (.cells #[n.no,n.dev,n.kind,n.mode,n.uid,a5,a6,a7,a8,a9] t):=by have:=Has.setCell h3 4 (.int .i64 n.uid);simpa using this
 have h5:Has ((((((w.setCell (b,0) (.int .i64 n.no)).setCell (b,1) (.int .i64 n.dev)).setCell (b,2) (.int .i64 n.kind)).setCell (b,3) (.int .i64 n.mode)).setCell (b,4) (.int .i64 n.uid)).setCell (b,5) (.int .i64 n.gid)) b (.cells #[n.no,n.dev,n.kind,n.mode,n.uid,n.gid,a6,a7,a8,a9] t):=by have:=Has.setCell h4 5 (.int .i64 n.gid);simpa using this
 have h6:Has (((((((w.setCell (b,0) (.int .i64 n.no)).setCell (b,1) (.int .i64 n.dev)).setCell (b,2) (.int .i64 n.kind)).setCell (b,3) (.int .i64 n.mode)).setCell (b,4) (.int .i64 n.uid)).setCell (b,5) (.int .i64 n.gid)).setCell (b,6) (.int .i64 n.ar)) b (.cells #[n.no,n.dev,n.kind,n.mode,n.uid,n.gid,n.ar,a7,a8,a9] t):=by have:=Has.setCell h5 6 (.int .i64 n.ar);simpa using this
 have h7:Has ((((((((w.setCell (b,0) (.int .i64 n.no)).setCell (b,1) (.int .i64 n.dev)).setCell (b,2) (.int .i64 n.kind)).setCell (b,3) (.int .i64 n.mode)).setCell (b,4) (.int .i64 n.uid)).setCell (b,5) (.int .i64 n.gid)).setCell (b,6) (.int .i64 n.ar)).setCell (b,7) (.int .i64 n.data.length)) b (.cells #[n.no,n.dev,n.kind,n.mode,n.uid,n.gid,n.ar,n.data.length,a8,a9] t):=by have:=Has.setCell h6 7 (.int .i64 n.data.length);simpa using this
 have h8:Has (((((((((w.setCell (b,0) (.int .i64 n.no)).setCell (b,1) (.int .i64 n.dev)).setCell (b,2) (.int .i64 n.kind)).setCell (b,3) (.int .i64 n.mode)).setCell (b,4) (.int .i64 n.uid)).setCell (b,5) (.int .i64 n.gid)).setCell (b,6) (.int .i64 n.ar)).setCell (b,7) (.int .i64 n.data.length)).setCell (b,8) (.int .i64 n.mtime)) b (.cells #[n.no,n.dev,n.kind,n.mode,n.uid,n.gid,n.ar,n.data.length,n.mtime,a9] t):=by have:=Has.setCell h7 8 (.int .i64 n.mtime);simpa using this
 have h9:Has ((((((((((w.setCell (b,0) (.int .i64 n.no)).setCell (b,1) (.int .i64 n.dev)).setCell (b,2) (.int .i64 n.kind)).setCell (b,3) (.int .i64 n.mode)).setCell (b,4) (.int .i64 n.uid)).setCell (b,5) (.int .i64 n.gid)).setCell (b,6) (.int .i64 n.ar)).setCell (b,7) (.int .i64 n.data.length)).setCell (b,8) (.int .i64 n.mtime)).setCell (b,9) (.int .i64 n.ctime)) b (.cells #[n.no,n.dev,n.kind,n.mode,n.uid,n.gid,n.ar,n.data.length,n.mtime,n.ctime] t):=by have:=Has.setCell h8 9 (.int .i64 n.ctime);simpa using this
 exact h9
theorem TL (n:ak):(#[n.no,n.dev,n.kind,n.mode,n.uid,n.gid,n.ar,n.data.length,n.mtime,n.ctime]:Array Value).all (·.oneCell')=true:=rv (cs:=M9 n) fun u hu=>by
 simp only[M9,aR,bg,bh]at hu;rcases hu with rfl|rfl|rfl|rfl|rfl|rfl|rfl|rfl|rfl|rfl<;>rfl
theorem dR {ops:Array Oper} {rest:List Oper} {op:Oper} {Q:Exit->Act->World->Prop} (hgd:op.guard=none) (x y:Operand) (ho:op.op=.store 95 x y)
  (b:Nat) (n:ak) (hx:a.eval x=.pointer (some ⟨b,0,none⟩)) (hy:a.eval y=.agg #[n.no,n.dev,n.kind,n.mode,n.uid,n.gid,n.ar,n.data.length,n.mtime,n.ctime]) {m:ak} (hb:Has w b (.cells #[m.no,m.dev,m.kind,m.mode,m.uid,m.gid,m.ar,m.data.length,m.mtime,m.ctime] 95))
  (h:∀w',Has w' b (.cells #[n.no,n.dev,n.kind,n.mode,n.uid,n.gid,n.ar,n.data.length,n.mtime,n.ctime] 95)->Only [b] w w'->wpList prog ops Q rest (a.put op.dst undef) w'):wpList prog ops Q (op::rest) a w:=by
 refine zw hgd 95 x y ho b 0 #[n.no,n.dev,n.kind,n.mode,n.uid,n.gid,n.ar,n.data.length,n.mtime,n.ctime] hx hy hb.there AU (TL n) ?_;exact h _ (hb.XE n) (cr (M9 n) 0 w)
theorem ma {fn:Func} {p t:Tmp} (h:fn.results=#[.cell p 95,.tmp t]) (tmps:Array Value) (w:World) (g:Nat) (n:ak) (v:Value)
  (hp:tmps.getD p undef=.pointer (some ⟨g,0,none⟩)) (hv:tmps.getD t undef=v) (hg:Has w g (.cells #[n.no,n.dev,n.kind,n.mode,n.uid,n.gid,n.ar,n.data.length,n.mtime,n.ctime] 95)) :
  (results fn tmps).run prog w=.ok (.tuple #[.agg #[n.no,n.dev,n.kind,n.mode,n.uid,n.gid,n.ar,n.data.length,n.mtime,n.ctime],v]) w:=
 mR h tmps w g 95 _ _ v hp hv hg underlying95 rfl AU
theorem Px (B:Nat) (g:dL) (S:ag) (no:Int) (w:World) (h:eL w B g S) (hd:0<S.ae.length) :
  Calls prog 93 #[((),g.bW),no] w (aO w (.tuple #[iU (aa S.nodes no),.int .i64 (dQ S no)])):=by
 obtain⟨W0,aJ⟩:=ai (w.alloc (.cells #[(),(),(),(),(),(),(),(),(),()] 95));obtain⟨b0,eN⟩:=ai w.heap.size;have E0:Ext w W0:=by rw[aJ];exact (Ext.refl _).alloc _
 have R0:Has W0 b0 (.cells #[aj.no,aj.dev,aj.kind,aj.mode,aj.uid,aj.gid,aj.ar,aj.data.length,aj.mtime,aj.ctime] 95):=by rw[aJ,eN];exact Has.new _ _
 have qY:w.heap.size<=b0:=by omega
 have h0:=h.ext E0;go_in;go_upto_region 1 with fail;rw[show w.alloc _=W0 from aJ.symm,<-eN];clear aJ eN;go_wp2_with fail;refine (mY B g S _ h0 hd).mono ?_;rintro e w1 ⟨rfl,b1⟩;have R1:=R0.ext b1;have E1:=E0.trans b1;have h1:=h0.ext b1;have td:((S.ae.length:Int) == 0)=false:=by simp;intro e;rw[e]at hd;exact absurd hd (by simp)
 obtain⟨_,_,cd,hWr,_⟩:=id h1;have v0:=aA hWr 0 rfl;have vz:=hWr.lt;clear hWr;go_wp2_with fail;refine (fW B g.bT g.bM S.nodes S.last no _ h1.2.1).mono ?_;rintro e w2 ⟨A2,k2,rfl,gG,b2⟩;have R2:=R1.ext b2;have E2:=E1.trans b2;obtain⟨m,hm⟩:=ai (aa S.nodes no);obtain⟨i,hi⟩:=ai (aW S.nodes no);have hE:dQ S no=if i=true then 0 else 5:=by rw[hi];rfl
 have hZ:i=false->m=aj:=fun e=>by rw[hm];exact (aP (hi.symm.trans e)).1
 rw[<-hm,<-hi];clear gG;obtain⟨W3,cJ⟩:=ai (w2.alloc (.cells (m,A2,k2) 66));obtain⟨b8,gH⟩:=ai w2.heap.size;have iH:Ext w2 W3:=by rw[cJ];exact (Ext.refl _).alloc _
 have N3:Has W3 b8 (.cells (m,A2,k2) 66):=by rw[cJ,gH];exact Has.new _ _
 have R3:=R2.ext iH;have E3:=E2.trans iH;obtain⟨e0,Ji⟩:=ai (dQ S no);rw[<-Ji];rw[<-Ji]at hE;have HE:=zH hE;have HZ:=zH hZ;have Pw:=zH hm;have Dh:=zH Ji;clear hm hi hE hZ Ji v0 vz;go_upto_region 4 with fail;rw[<-cJ,<-gH];clear cJ gH iH R1 R2 E1 E2;unfold iU
 cases i
 ·have e1:Hid (e0=5):=zH (HE.o.trans rfl)
  have e2:Hid (m=aj):=zH (HZ.o rfl);go_wp2_with (refine dR rfl _ _ rfl b0 aj rfl rfl R3 ?_;intro w9 R9 O9);refine aT (v:=.tuple #[.agg #[aj.no,aj.dev,aj.kind,aj.mode,aj.uid,aj.gid,aj.ar,aj.data.length,aj.mtime,aj.ctime],.int .i64 5]) (ma results93 _ _ b0 aj _ rfl rfl R9) rfl ?_;refine⟨by (try rw[<-Pw.o]);(try rw[<-Dh.o]);rw[e1.o,e2.o];rfl,O9.after E3 (by simpa using qY)⟩
 ·have e1:Hid (e0=0):=zH (HE.o.trans rfl)
  obtain⟨x0,x1,x2,x3,x4,x5,x6,x7,x8,x9,kC,kn⟩:=N3.da;have xz:=N3.lt;go_wp2_with (refine dR rfl _ _ rfl b0 m rfl rfl R3 ?_;intro w9 R9 O9);refine aT (v:=.tuple #[.agg #[m.no,m.dev,m.kind,m.mode,m.uid,m.gid,m.ar,m.data.length,m.mtime,m.ctime],()]) (ma results93 _ _ b0 m _ rfl rfl R9) rfl ?_;refine⟨by (try rw[<-Pw.o]);(try rw[<-Dh.o]);rw[e1.o];rfl,O9.after E3 (by simpa using qY)⟩
theorem Py (B:Nat) (g:cI) (S:ag) (X:cY) (no:Int) (w:World) (h:gv w B g S X) (hl:S.nodes.length<=1000000) (hu:aQ S.nodes S.last) :
  Calls prog 135 #[((),g.bF),no] w (aO w (.tuple #[iU (aa S.nodes no),.int .i64 (dQ S no)])):=by
 obtain⟨W0,aJ⟩:=ai (w.alloc (.cells #[(),(),(),(),(),(),(),(),(),()] 95));obtain⟨b0,eN⟩:=ai w.heap.size;have E0:Ext w W0:=by rw[aJ];exact (Ext.refl _).alloc _
 have R0:Has W0 b0 (.cells #[aj.no,aj.dev,aj.kind,aj.mode,aj.uid,aj.gid,aj.ar,aj.data.length,aj.mtime,aj.ctime] 95):=by rw[aJ,eN];exact Has.new _ _
 have qY:w.heap.size<=b0:=by omega
 have h0:=h.ext E0;go_in;go_upto_region 1 with fail;rw[show w.alloc _=W0 from aJ.symm,<-eN];clear aJ eN;have R1:=R0;have E1:=E0;go_wp2_with fail;refine (eE B g S X no _ h0 hl hu).mono ?_;rintro e w2 ⟨A2,k2,rfl,gG,b2⟩;have R2:=R1.ext b2;have E2:=E1.trans b2;obtain⟨m,hm⟩:=ai (aa S.nodes no);have xT:((aa S.nodes no).no == 0)=!aW S.nodes no:=by
  cases hi:aW S.nodes no
  ·rw[(aP hi).1];rfl
  ·have h1:=(hu.2 _ (ap hi).2.2).1
   simp;omega
 rw[<-hm]at xT;obtain⟨i,hi⟩:=ai (aW S.nodes no);have hE:dQ S no=if i=true then 0 else 5:=by rw[hi];rfl
 have hZ:i=false->m=aj:=fun e=>by rw[hm];exact (aP (hi.symm.trans e)).1
 rw[<-hm];rw[<-hi]at xT;clear gG;obtain⟨W3,cJ⟩:=ai (w2.alloc (.cells (m,A2,k2) 66));obtain⟨b8,gH⟩:=ai w2.heap.size;have iH:Ext w2 W3:=by rw[cJ];exact (Ext.refl _).alloc _
 have N3:Has W3 b8 (.cells (m,A2,k2) 66):=by rw[cJ,gH];exact Has.new _ _
 have R3:=R2.ext iH;have E3:=E2.trans iH;obtain⟨e0,Ji⟩:=ai (dQ S no);rw[<-Ji];rw[<-Ji]at hE;have HE:=zH hE;have HZ:=zH hZ;have Pw:=zH hm;have Dh:=zH Ji;have HNZ:=zH xT;clear hm hi hE hZ Ji xT;go_upto_region 2 with fail;rw[<-cJ,<-gH];clear cJ gH iH R1 R2 E1 E2;unfold iU
 cases i
 ·have e1:Hid (e0=5):=zH (HE.o.trans rfl)
  have e2:Hid (m=aj):=zH (HZ.o rfl);have tn:(m.no == 0)=true:=HNZ.o;have k0:=aA N3 0 rfl;have kz:=N3.lt;go_wp2_with (refine dR rfl _ _ rfl b0 aj rfl rfl R3 ?_;intro w9 R9 O9);refine aT (v:=.tuple #[.agg #[aj.no,aj.dev,aj.kind,aj.mode,aj.uid,aj.gid,aj.ar,aj.data.length,aj.mtime,aj.ctime],.int .i64 5]) (ma results135 _ _ b0 aj _ rfl rfl R9) rfl ?_;refine⟨by (try rw[<-Pw.o]);(try rw[<-Dh.o]);rw[e1.o,e2.o];rfl,O9.after E3 (by simpa using qY)⟩
 ·have e1:Hid (e0=0):=zH (HE.o.trans rfl)
  have tn:(m.no == 0)=false:=HNZ.o;obtain⟨x0,x1,x2,x3,x4,x5,x6,x7,x8,x9,kC,kn⟩:=N3.da;have xz:=N3.lt;go_wp2_with (refine dR rfl _ _ rfl b0 m rfl rfl R3 ?_;intro w9 R9 O9);refine aT (v:=.tuple #[.agg #[m.no,m.dev,m.kind,m.mode,m.uid,m.gid,m.ar,m.data.length,m.mtime,m.ctime],()]) (ma results135 _ _ b0 m _ rfl rfl R9) rfl ?_;refine⟨by (try rw[<-Pw.o]);(try rw[<-Dh.o]);rw[e1.o];rfl,O9.after E3 (by simpa using qY)⟩
def eW (w:World) (b:Nat) (g:dL) (now count:Int) (A:Option Addr) (len cap:Nat) (dead:Bool):Prop:=
 Has w b (.cells #[((),g.bW),now,count,.slice A len cap,.bool dead] 102)
theorem eW.ext {w w':World} {b:Nat} {g:dL} {now count:Int} {A:Option Addr} {len cap:Nat} {dead:Bool} (h:eW w b g now count A len cap dead) (hE:Ext w w'):eW w' b g now count A len cap dead:=Has.ext h hE
theorem Di (w:World) (h:eW w b g now count A len cap dead):Calls prog 78 #[((),b)] w (aO w (.bool false)):=by
 have c0:=Has.cell h 0;have z:=Has.lt h;go_in;go_wp2;go_ret;exact aO.mk rfl (Ext.refl _)
theorem M_ (w:World) (h:eW w b g now count A len cap dead):Calls prog 54 #[((),b)] w (aO w (.int .i64 (if dead=true then 20 else 0))):=by
 cases dead
 ·show Calls _ _ _ _ (aO w (.int .i64 0))
  go_in;go_wp2_with fail;refine (Di _ h).mono ?_;rintro e w1 ⟨rfl,b1⟩;have h1:=h.ext b1;have c4:=Has.cell h1 4;have z:=Has.lt h1;go_wp2;go_ret;exact aO.mk rfl b1
 ·show Calls _ _ _ _ (aO w (.int .i64 20))
  go_in;go_wp2_with fail;refine (Di _ h).mono ?_;rintro e w1 ⟨rfl,b1⟩;have h1:=h.ext b1;have c4:=Has.cell h1 4;have z:=Has.lt h1;go_wp2;go_ret;exact aO.mk rfl b1
theorem acu (w:World) (h:eW w b g now count A len cap dead):Calls prog 47 #[((),b)] w (aO w (.bool dead)):=by
 go_in;go_wp2_with fail;refine (Di _ h).mono ?_;rintro e w1 ⟨rfl,b1⟩;have h1:=h.ext b1;have c4:=Has.cell h1 4;have z:=Has.lt h1;go_wp2;go_ret;exact aO.mk rfl b1
def dd (w:World) (A:Option Addr) (l:List (Int×Int)):Prop:=
 l = []\/∃b o,A=some ⟨b,o,none⟩/\b<w.heap.size/\∀k,(h:k<l.length)->w.cell? ⟨b,o+k*2,none⟩=some (.int .i64 l[k].1)/\w.cell? ⟨b,o+k*2+1,none⟩=some (.int .i64 l[k].2)
theorem dd.ext (h:dd w A l) (k:Ext w w'):dd w' A l:=by
 rcases h with h|⟨b,o,hA,hb,hc⟩
 ·exact .inl h
 ·exact .inr ⟨b,o,hA,by have:=k.size;omega,fun i hi=>⟨(k.cell hb).trans (hc i hi).1,(k.cell hb).trans (hc i hi).2⟩⟩
def dK (A:Option Addr) (b:Nat):Prop:=∀x,A=some x->x.block≠b
theorem dd.only {L:List Nat} (h:dd w A l) (o:Only L w w') (hL:∀b∈L,dK A b):dd w' A l:=by
 rcases h with h|⟨b,o',hA,hb,hc⟩
 ·exact .inl h
 ·have hn:b∉L:=fun hb'=>hL b hb' _ hA rfl
  have e:w'.heap[b]?=w.heap[b]?:=o.block b hb hn;have ec:∀j,w'.cell? ⟨b,j,none⟩=w.cell? ⟨b,j,none⟩:=fun j=>by simp[World.cell?,e]
  exact .inr ⟨b,o',hA,by have:=o.size;omega,fun i hi=>⟨(ec _).trans (hc i hi).1,(ec _).trans (hc i hi).2⟩⟩
def xe (l:List (Int×Int)) (c:Int):Option (Int×Int):=l.find? fun x=>x.1 == c
def jA (l:List (Int×Int)) (c:Int):Int:=match xe l c with|some x=>x.2|none=>0
def gK (l:List (Int×Int)) (c:Int):Bool:=match xe l c with|some x=>x.2 == 20|none=>false
theorem TM {c:Int} (hk:k<l.length) (h0:xe (l.take k) c=none) (h1:l[k].1=c):jA l c=l[k].2/\gK l c=(l[k].2 == 20):=by
 have:xe l c=some l[k]:=by
  unfold xe at h0|-;have e:l.find? (fun x=>x.1 == c)=(l.take k++l.drop k).find? (fun x=>x.1 == c):=by rw[qE]
  rw[e,v_,h0,jg hk,gD];simp[h1]
 unfold jA gK;rw[this];exact⟨rfl,rfl⟩
theorem Hg {c:Int} (hk:k<l.length) (h0:xe (l.take k) c=none) (h1:l[k].1≠c):xe (l.take (k+1)) c=none:=by
 unfold xe at h0|-;rw[mC hk,v_,h0];simp[h1]
theorem f_ (l:List (Int×Int)) (w:World) (h:eW w b g now count A l.length cap false) (hp:dd w A l) (ho:dK A b) (hl:l.length<=1000000) (hc0:0<=count) (hc1:count<=1000000) :
  Calls prog 116 #[((),b)] w (fun e w'=>e=.returned (.int .i64 (jA l (count+1)))/\eW w' b g now (count+1) A l.length cap (gK l (count+1))/\Only [b] w w'):=by
 obtain⟨n,hn⟩:=ai l.length;rw[<-hn]at h hl|-;have HN:=zH hn;obtain⟨c,hc⟩:=ai (count+1);have BS:IntKind.i64.wrap (count+1)=c:=by rw[hc];exact cB _ (by omega)
 rw[<-hc];clear hn hc;go_in;go_wp2_with fail;refine (M_ _ h).mono ?_;rintro e w1 ⟨rfl,b1⟩;have h1:=h.ext b1;have c2:=Has.cell h1 2;have f2:=Has.free h1 2;have z:=Has.lt h1;obtain⟨W2,dp⟩:=ai (w1.setCell (b,2) (.int .i64 c));have h2:eW W2 b g now c A n cap false:=by rw[dp];exact Has.setCell h1 2 (.int .i64 c)
 have O2:Only [b] w W2:=by rw[dp];exact Only.pre b1 (Only.setCell _ _ _ _)
 have hp2:dd W2 A l:=hp.only O2 (fun x hx=>by simp at hx;subst hx;exact ho);have HW2:=zH dp;clear dp h1 h hp;go_upto_region 5 with fail;rw[<-HW2.o];have c3:=Has.cell h2 3;have z2:=Has.lt h2;clear c2 f2 z b1 HW2;go_wp2_with fail;go_loopw [23] (fun i wr=>∃k:Nat,i=.int .i64 k/\k<=n/\xe (l.take k) c=none/\eW wr b g now c A n cap false/\dd wr A l/\Only [b] w wr) (fun i _=>n-(intOf i).toNat)
 case atStart=>exact⟨0,rfl,bC _,rfl,h2,hp2,O2⟩
 case round =>
  obtain⟨k,rfl,hk,h0,hS,hP,hO⟩:=hrel
  by_cases hlt:(k:Int)<n
  ·have dN:k<l.length:=by have:=HN.o;omega
   have hP':=hP;obtain⟨bl,o,rfl,oV,hcs⟩:=hP'.resolve_left (by rintro rfl;simp at dN);obtain⟨e0,e1⟩:=hcs k dN;have y1:(0:Int)<=(k:Int):=cO _;have w3w:IntKind.i64.wrap ((k:Int)+1)=(k:Int)+1:=cB _ (by omega);have hat:=TM (c:=c) dN h0;have Jb:=Hg (c:=c) dN h0;obtain⟨x,hx⟩:=ai (l[k]);rw[<-hx]at e0 e1 hat Jb;obtain⟨x1,x2⟩:=x;obtain⟨W5,kT⟩:=ai (wr.alloc (.cells #[x1,x2] 216));obtain⟨b5,fu⟩:=ai wr.heap.size;have E5:Ext wr W5:=by rw[kT];exact (Ext.refl _).alloc _
   have N5:Has W5 b5 (.cells #[x1,x2] 216):=by rw[kT,fu];exact Has.new _ _
   have S5:=hS.ext E5;have P5:=hP.ext E5;have O5:=hO.ext E5;have tJ:b5≠b:=by have:=Has.lt hS;omega
   clear hcs hx;go_upto_region 8 with fail;rw[<-kT,<-fu];clear kT fu e0 e1;have d2:=Has.cell S5 2;have d4:=Has.cell S5 4;have f4:=Has.free S5 4;have dz:=Has.lt S5;have n0:=N5.cell 0;have n1:=N5.cell 1;have nz:=N5.lt
   by_cases hq:x1=c
   ·have t1:(x1 == c)=true:=by simpa using hq
    have Fg:=zH (hat hq);clear hq hat Jb;go_quiet (fail);go_wp2;go_ret;rw[Fg.o.1,Fg.o.2];refine⟨rfl,?_,(O5.ext ((Ext.refl _).drewN _)).then (Only.setCell _ _ _ _)⟩;exact Has.setCell (S5.ext ((Ext.refl _).drewN _)) 4 (.bool (x2 == 20))
   ·have t1:(x1 == c)=false:=by simpa using hq
    have HNX:=zH (Jb hq);clear hq hat Jb;go_quiet (fail);go_wp2_with fail;go_roundw
    case rel=>exact⟨k+1,by go_num,by omega,HNX.o,S5.ext ((Ext.refl _).drewN _),P5.ext ((Ext.refl _).drewN _),O5.ext ((Ext.refl _).drewN _)⟩
    case measure=>simp[intOf];omega
  ·have ut:k=n:=by omega
   have hf:xe l c=none:=by rw[ut,HN.o,od]at h0;exact h0
   have he:jA l c=0/\gK l c=false:=by unfold jA gK;rw[hf];exact⟨rfl,rfl⟩
   have HE:=zH he;clear hf he h0 ut;go_wp2;go_ret;exact⟨by rw[HE.o.1];rfl,by rw[HE.o.2];exact hS,hO⟩
theorem aet (b n:Int) (w:World) (hl:dg b n=true):Calls prog 63 #[b,n] w (fun e w'=>∃(g:dL) (B s:Nat),w.heap.size<=B/\B<=s/\e=.returned (.tuple #[((),s),()])/\eL w' B g (cZ dF 0 b n)/\eW w' s g 0 0 none 0 0 false/\s∉g.list/\Ext w w'):=by
 go_in;go_wp2_with fail;refine (Sk w.heap.size b n w (aE _) hl).mono ?_;rintro e w1 ⟨g,rfl,K,E1⟩;go_wp2;go_ret2;refine⟨g,w.heap.size,w1.heap.size,aE _,E1.size,rfl,K.ext ((Ext.refl _).alloc _),Has.new _ _,?_,E1.alloc _⟩;have h1:=K.lt;simp only[dL.list,aR,bg,bh];omega
theorem eW.apart (h:eW w b g now count A len cap dead) (hB:B<=b):dE w B [b]:=dE.cons (fun x hx=>by cases hx) hB (Has.fV h (by decide))
theorem eL.xf (K:eL w B g S) (h:eW w b g now count A len cap dead) (hB:B<=b) (hb:b∉g.list) (o:Only [b] w w'):eL w' B g S:=
 K.only o (h.apart hB) fun x hx hx'=>by simp at hx';subst hx';exact hb hx
theorem eW.only {L:List Nat} (h:eW w b g now count A len cap dead) (o:Only L w w') (hb:b∉L):eW w' b g now count A len cap dead:=o.has h hb
theorem Pz:(prog.info? 216).map (fun i=>(i.zero,i.size,i.bytes))=some (some (.agg #[(),()]),2,16):=by kernel_rfl
theorem TN {no:Int} (w:World) (h:eW w b g now count A len cap true):Calls prog 45 #[((),b),no] w (aO w (.tuple #[iU aj,.int .i64 20])):=by
 obtain⟨W0,aJ⟩:=ai (w.alloc (.cells #[(),(),(),(),(),(),(),(),(),()] 95));obtain⟨b0,eN⟩:=ai w.heap.size;have E0:Ext w W0:=by rw[aJ];exact (Ext.refl _).alloc _
 have R0:Has W0 b0 (.cells #[aj.no,aj.dev,aj.kind,aj.mode,aj.uid,aj.gid,aj.ar,aj.data.length,aj.mtime,aj.ctime] 95):=by rw[aJ,eN];exact Has.new _ _
 have qY:w.heap.size<=b0:=by omega
 have h0:=h.ext E0;go_in;go_upto_region 1 with fail;rw[show w.alloc _=W0 from aJ.symm,<-eN];clear aJ eN;go_wp2_with fail;refine (M_ _ h0).mono ?_;rintro e w1 ⟨rfl,b1⟩;have R1:=R0.ext b1;have E1:=E0.trans b1;go_wp2_with (refine dR rfl _ _ rfl b0 aj rfl rfl R1 ?_;intro w9 R9 O9);refine aT (v:=.tuple #[.agg #[aj.no,aj.dev,aj.kind,aj.mode,aj.uid,aj.gid,aj.ar,aj.data.length,aj.mtime,aj.ctime],.int .i64 20]) (ma results45 _ _ b0 aj _ rfl rfl R9) rfl ?_;exact⟨rfl,O9.after E1 (by simpa using qY)⟩
theorem TP {no:Int} (w:World) (h:eW w b g now count A len cap false) (K:eL w B g S) (hd:0<S.ae.length):Calls prog 45 #[((),b),no] w (aO w (.tuple #[iU (aa S.nodes no),.int .i64 (dQ S no)])):=by
 obtain⟨W0,aJ⟩:=ai (w.alloc (.cells #[(),(),(),(),(),(),(),(),(),()] 95));obtain⟨b0,eN⟩:=ai w.heap.size;have E0:Ext w W0:=by rw[aJ];exact (Ext.refl _).alloc _
 have R0:Has W0 b0 (.cells #[aj.no,aj.dev,aj.kind,aj.mode,aj.uid,aj.gid,aj.ar,aj.data.length,aj.mtime,aj.ctime] 95):=by rw[aJ,eN];exact Has.new _ _
 have qY:w.heap.size<=b0:=by omega
 have h0:=h.ext E0;have K0:=K.ext E0;go_in;go_upto_region 1 with fail;rw[show w.alloc _=W0 from aJ.symm,<-eN];clear aJ eN;go_wp2_with fail;refine (M_ _ h0).mono ?_;rintro e w1 ⟨rfl,b1⟩;have R1:=R0.ext b1;have E1:=E0.trans b1;have h1:=h0.ext b1;have K1:=K0.ext b1;have c0:=Has.cell h1 0;have cz:=Has.lt h1;go_wp2_with fail;refine (Px B g S no _ K1 hd).mono ?_;rintro e w2 ⟨rfl,b2⟩;have R2:=R1.ext b2;have E2:=E1.trans b2;obtain⟨m,hm⟩:=ai (aa S.nodes no);obtain⟨x,hx⟩:=ai (dQ S no);rw[<-hm,<-hx];have Pw:=zH hm;have FL:=zH hx;clear hm hx;unfold iU;go_wp2_with (refine dR rfl _ _ rfl b0 m rfl rfl R2 ?_;intro w9 R9 O9);refine aT (v:=.tuple #[.agg #[m.no,m.dev,m.kind,m.mode,m.uid,m.gid,m.ar,m.data.length,m.mtime,m.ctime],x]) (ma results45 _ _ b0 m _ rfl rfl R9) rfl ?_;exact⟨by (try rw[<-Pw.o]);(try rw[<-FL.o]);rfl,O9.after E2 (by simpa using qY)⟩
theorem aaI (l:List (Int×Int)) (w:World) (cu cg:Int) (dir:Int) (nm:ByteArray) (mode:Int) (h:eW w b g now count A l.length cap false) (hp:dd w A l) (ho:dK A b) (hl:l.length<=1000000) (hc0:0<=count) (hc1:count<=1000000) (hx:jA l (count+1)=x) (aX:x≠0) :
  Calls prog 111 #[((),b),.agg #[cu,cg],dir,.string nm,mode] w
   (fun e w'=>e=.returned (.tuple #[(),x])/\eW w' b g now (count+1) A l.length cap (gK l (count+1))/\Only [b] w w'):=by
 obtain⟨n,hn⟩:=ai l.length;have KC:Hid (∀u,Ext w u->Calls prog 116 #[((),b)] u (fun e w'=>e=.returned (.int .i64 x)/\eW w' b g now (count+1) A n cap (gK l (count+1))/\Only [b] u w')):=by
  show ∀u,_;intro u hu;rw[<-hx,hn];exact f_ l u (h.ext hu) (hp.ext hu) ho hl hc0 hc1
 rw[<-hn];clear hn hx;have t1:(x != 0)=true:=by simpa using aX
 clear aX h hp ho hl hc0 hc1;go_in;go_wp2_with fail;refine (KC.o _ ((Ext.refl _).alloc _)).mono ?_;rintro e w1 ⟨rfl,S1,O1⟩;go_wp2;go_ret2;exact⟨rfl,S1,Only.pre ((Ext.refl _).alloc _) O1⟩
theorem aaJ (l:List (Int×Int)) (w:World) (cu cg:Int) (dir:Int) (nm:ByteArray) (mode:Int) (h:eW w b g now count A l.length cap false) (hp:dd w A l) (ho:dK A b) (hl:l.length<=1000000) (hc0:0<=count) (hc1:count<=1000000) (B:Nat) (S:ag)
  (K:eL w B g S) (hb:b∉g.list) (Fh:B<=b) (hx:jA l (count+1)=0/\gK l (count+1)=false)  
  (KD:∀u,eL u B g S->Calls prog 156 #[((),g.bW),.agg #[cu,cg],now,dir,.string nm,mode] u (MT u B g T y z)) :
  Calls prog 111 #[((),b),.agg #[cu,cg],dir,.string nm,mode] w
   (fun e w'=>e=.returned (.tuple #[y,z])/\eL w' B g T/\eW w' b g now (count+1) A l.length cap false/\Only (b::g.list) w w'):=by
 obtain⟨n,hn⟩:=ai l.length;obtain⟨W0,aJ⟩:=ai (w.alloc (.cells #[cu,cg] 27));obtain⟨b0,eN⟩:=ai w.heap.size;have E0:Ext w W0:=by rw[aJ];exact (Ext.refl _).alloc _
 have N0:Has W0 b0 (.cells #[cu,cg] 27):=by rw[aJ,eN];exact Has.new _ _
 have tJ:b0≠b:=by have:=Has.lt h;omega
 have KC:Hid (Calls prog 116 #[((),b)] W0 (fun e w'=>e=.returned (.int .i64 0)/\eW w' b g now (count+1) A n cap false/\Only [b] W0 w')):=by
  show Calls _ _ _ _ _;have:=f_ l W0 (h.ext E0) (hp.ext E0) ho hl hc0 hc1;rw[hx.1,hx.2,<-hn]at this;exact this
 have S0:=h.ext E0;have K0:=K.ext E0;have AV:=zH KD;rw[<-hn];clear hn hx h hp ho hl hc0 hc1 K KD;go_in;go_upto_region 1 with fail;rw[<-aJ,<-eN];clear aJ eN;go_wp2_with fail;refine KC.o.mono ?_;rintro e w1 ⟨rfl,S1,O1⟩;have K1:=K0.xf S0 Fh hb O1;have N1:=O1.has N0 (by simpa using tJ);have c0:=Has.cell S1 0;have c1:=Has.cell S1 1;have cz:=Has.lt S1;have d0:=N1.cell 0;have d1:=N1.cell 1;have dz:=N1.lt;go_wp2_with fail;go_region_with (go_at_call 156;refine (AV.o _ (K1.ext (Ext.refl _).drew)).mono ?_;rintro e w2 ⟨rfl,K2,O2⟩)
 all_goals
  go_wp2;go_ret2;refine⟨rfl,K2,eW.only (eW.ext S1 (Ext.refl _).drew) O2 hb,?_⟩;exact (Only.pre E0 (O1.mono (fun x hx=>by simp at hx;subst hx;simp))).then ((Only.az (Ext.refl _).drew).then (O2.mono (fun x hx=>by simp[hx])))
theorem XF (l:List (Int×Int)) (w:World) (cu cg:Int) (dir:Int) (nm:ByteArray) (mode:Int) (data:ByteArray) (h:eW w b g now count A l.length cap false) (hp:dd w A l) (ho:dK A b) (hl:l.length<=1000000) (hc0:0<=count) (hc1:count<=1000000) (hx:jA l (count+1)=x) (aX:x≠0) :
  Calls prog 113 #[((),b),.agg #[cu,cg],dir,.string nm,mode,.string data] w
   (fun e w'=>e=.returned (.tuple #[(),x])/\eW w' b g now (count+1) A l.length cap (gK l (count+1))/\Only [b] w w'):=by
 obtain⟨n,hn⟩:=ai l.length;have KC:Hid (∀u,Ext w u->Calls prog 116 #[((),b)] u (fun e w'=>e=.returned (.int .i64 x)/\eW w' b g now (count+1) A n cap (gK l (count+1))/\Only [b] u w')):=by
  show ∀u,_;intro u hu;rw[<-hx,hn];exact f_ l u (h.ext hu) (hp.ext hu) ho hl hc0 hc1
 rw[<-hn];clear hn hx;have t1:(x != 0)=true:=by simpa using aX
 clear aX h hp ho hl hc0 hc1;go_in;go_wp2_with fail;refine (KC.o _ ((Ext.refl _).alloc _)).mono ?_;rintro e w1 ⟨rfl,S1,O1⟩;go_wp2;go_ret2;exact⟨rfl,S1,Only.pre ((Ext.refl _).alloc _) O1⟩
theorem XG (l:List (Int×Int)) (w:World) (cu cg:Int) (dir:Int) (nm:ByteArray) (mode:Int) (data:ByteArray) (h:eW w b g now count A l.length cap false) (hp:dd w A l) (ho:dK A b) (hl:l.length<=1000000) (hc0:0<=count) (hc1:count<=1000000) (B:Nat) (S:ag)
  (K:eL w B g S) (hb:b∉g.list) (Fh:B<=b) (hx:jA l (count+1)=0/\gK l (count+1)=false)  
  (KD:∀u,eL u B g S->Calls prog 157 #[((),g.bW),.agg #[cu,cg],now,dir,.string nm,mode,.string data] u (MT u B g T y z)) :
  Calls prog 113 #[((),b),.agg #[cu,cg],dir,.string nm,mode,.string data] w
   (fun e w'=>e=.returned (.tuple #[y,z])/\eL w' B g T/\eW w' b g now (count+1) A l.length cap false/\Only (b::g.list) w w'):=by
 obtain⟨n,hn⟩:=ai l.length;obtain⟨W0,aJ⟩:=ai (w.alloc (.cells #[cu,cg] 27));obtain⟨b0,eN⟩:=ai w.heap.size;have E0:Ext w W0:=by rw[aJ];exact (Ext.refl _).alloc _
 have N0:Has W0 b0 (.cells #[cu,cg] 27):=by rw[aJ,eN];exact Has.new _ _
 have tJ:b0≠b:=by have:=Has.lt h;omega
 have KC:Hid (Calls prog 116 #[((),b)] W0 (fun e w'=>e=.returned (.int .i64 0)/\eW w' b g now (count+1) A n cap false/\Only [b] W0 w')):=by
  show Calls _ _ _ _ _;have:=f_ l W0 (h.ext E0) (hp.ext E0) ho hl hc0 hc1;rw[hx.1,hx.2,<-hn]at this;exact this
 have S0:=h.ext E0;have K0:=K.ext E0;have AV:=zH KD;rw[<-hn];clear hn hx h hp ho hl hc0 hc1 K KD;go_in;go_upto_region 1 with fail;rw[<-aJ,<-eN];clear aJ eN;go_wp2_with fail;refine KC.o.mono ?_;rintro e w1 ⟨rfl,S1,O1⟩;have K1:=K0.xf S0 Fh hb O1;have N1:=O1.has N0 (by simpa using tJ);have c0:=Has.cell S1 0;have c1:=Has.cell S1 1;have cz:=Has.lt S1;have d0:=N1.cell 0;have d1:=N1.cell 1;have dz:=N1.lt;go_wp2_with fail;go_region_with (go_at_call 157;refine (AV.o _ (K1.ext (Ext.refl _).drew)).mono ?_;rintro e w2 ⟨rfl,K2,O2⟩)
 all_goals
  go_wp2;go_ret2;refine⟨rfl,K2,eW.only (eW.ext S1 (Ext.refl _).drew) O2 hb,?_⟩;exact (Only.pre E0 (O1.mono (fun x hx=>by simp at hx;subst hx;simp))).then ((Only.az (Ext.refl _).drew).then (O2.mono (fun x hx=>by simp[hx])))
theorem TQ (l:List (Int×Int)) (w:World) (cu cg:Int) (dir:Int) (nm:ByteArray) (text:ByteArray) (h:eW w b g now count A l.length cap false) (hp:dd w A l) (ho:dK A b) (hl:l.length<=1000000) (hc0:0<=count) (hc1:count<=1000000) (hx:jA l (count+1)=x) (aX:x≠0) :
  Calls prog 114 #[((),b),.agg #[cu,cg],dir,.string nm,.string text] w
   (fun e w'=>e=.returned (.tuple #[(),x])/\eW w' b g now (count+1) A l.length cap (gK l (count+1))/\Only [b] w w'):=by
 obtain⟨n,hn⟩:=ai l.length;have KC:Hid (∀u,Ext w u->Calls prog 116 #[((),b)] u (fun e w'=>e=.returned (.int .i64 x)/\eW w' b g now (count+1) A n cap (gK l (count+1))/\Only [b] u w')):=by
  show ∀u,_;intro u hu;rw[<-hx,hn];exact f_ l u (h.ext hu) (hp.ext hu) ho hl hc0 hc1
 rw[<-hn];clear hn hx;have t1:(x != 0)=true:=by simpa using aX
 clear aX h hp ho hl hc0 hc1;go_in;go_wp2_with fail;refine (KC.o _ ((Ext.refl _).alloc _)).mono ?_;rintro e w1 ⟨rfl,S1,O1⟩;go_wp2;go_ret2;exact⟨rfl,S1,Only.pre ((Ext.refl _).alloc _) O1⟩
theorem TR (l:List (Int×Int)) (w:World) (cu cg:Int) (dir:Int) (nm:ByteArray) (text:ByteArray) (h:eW w b g now count A l.length cap false) (hp:dd w A l) (ho:dK A b) (hl:l.length<=1000000) (hc0:0<=count) (hc1:count<=1000000) (B:Nat) (S:ag)
  (K:eL w B g S) (hb:b∉g.list) (Fh:B<=b) (hx:jA l (count+1)=0/\gK l (count+1)=false)  
  (KD:∀u,eL u B g S->Calls prog 158 #[((),g.bW),.agg #[cu,cg],now,dir,.string nm,.string text] u (MT u B g T y z)) :
  Calls prog 114 #[((),b),.agg #[cu,cg],dir,.string nm,.string text] w
   (fun e w'=>e=.returned (.tuple #[y,z])/\eL w' B g T/\eW w' b g now (count+1) A l.length cap false/\Only (b::g.list) w w'):=by
 obtain⟨n,hn⟩:=ai l.length;obtain⟨W0,aJ⟩:=ai (w.alloc (.cells #[cu,cg] 27));obtain⟨b0,eN⟩:=ai w.heap.size;have E0:Ext w W0:=by rw[aJ];exact (Ext.refl _).alloc _
 have N0:Has W0 b0 (.cells #[cu,cg] 27):=by rw[aJ,eN];exact Has.new _ _
 have tJ:b0≠b:=by have:=Has.lt h;omega
 have KC:Hid (Calls prog 116 #[((),b)] W0 (fun e w'=>e=.returned (.int .i64 0)/\eW w' b g now (count+1) A n cap false/\Only [b] W0 w')):=by
  show Calls _ _ _ _ _;have:=f_ l W0 (h.ext E0) (hp.ext E0) ho hl hc0 hc1;rw[hx.1,hx.2,<-hn]at this;exact this
 have S0:=h.ext E0;have K0:=K.ext E0;have AV:=zH KD;rw[<-hn];clear hn hx h hp ho hl hc0 hc1 K KD;go_in;go_upto_region 1 with fail;rw[<-aJ,<-eN];clear aJ eN;go_wp2_with fail;refine KC.o.mono ?_;rintro e w1 ⟨rfl,S1,O1⟩;have K1:=K0.xf S0 Fh hb O1;have N1:=O1.has N0 (by simpa using tJ);have c0:=Has.cell S1 0;have c1:=Has.cell S1 1;have cz:=Has.lt S1;have d0:=N1.cell 0;have d1:=N1.cell 1;have dz:=N1.lt;go_wp2_with fail;go_region_with (go_at_call 158;refine (AV.o _ (K1.ext (Ext.refl _).drew)).mono ?_;rintro e w2 ⟨rfl,K2,O2⟩)
 all_goals
  go_wp2;go_ret2;refine⟨rfl,K2,eW.only (eW.ext S1 (Ext.refl _).drew) O2 hb,?_⟩;exact (Only.pre E0 (O1.mono (fun x hx=>by simp at hx;subst hx;simp))).then ((Only.az (Ext.refl _).drew).then (O2.mono (fun x hx=>by simp[hx])))
theorem acv (l:List (Int×Int)) (w:World) (cu cg:Int) (no:Int) (dir:Int) (nm:ByteArray) (h:eW w b g now count A l.length cap false) (hp:dd w A l) (ho:dK A b) (hl:l.length<=1000000) (hc0:0<=count) (hc1:count<=1000000) (hx:jA l (count+1)=x) (aX:x≠0) :
  Calls prog 115 #[((),b),.agg #[cu,cg],no,dir,.string nm] w
   (fun e w'=>e=.returned (.int .i64 x)/\eW w' b g now (count+1) A l.length cap (gK l (count+1))/\Only [b] w w'):=by
 obtain⟨n,hn⟩:=ai l.length;have KC:Hid (∀u,Ext w u->Calls prog 116 #[((),b)] u (fun e w'=>e=.returned (.int .i64 x)/\eW w' b g now (count+1) A n cap (gK l (count+1))/\Only [b] u w')):=by
  show ∀u,_;intro u hu;rw[<-hx,hn];exact f_ l u (h.ext hu) (hp.ext hu) ho hl hc0 hc1
 rw[<-hn];clear hn hx;have t1:(x != 0)=true:=by simpa using aX
 clear aX h hp ho hl hc0 hc1;go_in;go_wp2_with fail;refine (KC.o _ ((Ext.refl _).alloc _)).mono ?_;rintro e w1 ⟨rfl,S1,O1⟩;go_wp2;go_ret;exact⟨rfl,S1,Only.pre ((Ext.refl _).alloc _) O1⟩
theorem acw (l:List (Int×Int)) (w:World) (cu cg:Int) (no:Int) (dir:Int) (nm:ByteArray) (h:eW w b g now count A l.length cap false) (hp:dd w A l) (ho:dK A b) (hl:l.length<=1000000) (hc0:0<=count) (hc1:count<=1000000) (B:Nat) (S:ag)
  (K:eL w B g S) (hb:b∉g.list) (Fh:B<=b) (hx:jA l (count+1)=0/\gK l (count+1)=false)  
  (KD:∀u,eL u B g S->Calls prog 159 #[((),g.bW),.agg #[cu,cg],now,no,dir,.string nm] u (qq u B g T z)) :
  Calls prog 115 #[((),b),.agg #[cu,cg],no,dir,.string nm] w
   (fun e w'=>e=.returned (.int .i64 z)/\eL w' B g T/\eW w' b g now (count+1) A l.length cap false/\Only (b::g.list) w w'):=by
 obtain⟨n,hn⟩:=ai l.length;obtain⟨W0,aJ⟩:=ai (w.alloc (.cells #[cu,cg] 27));obtain⟨b0,eN⟩:=ai w.heap.size;have E0:Ext w W0:=by rw[aJ];exact (Ext.refl _).alloc _
 have N0:Has W0 b0 (.cells #[cu,cg] 27):=by rw[aJ,eN];exact Has.new _ _
 have tJ:b0≠b:=by have:=Has.lt h;omega
 have KC:Hid (Calls prog 116 #[((),b)] W0 (fun e w'=>e=.returned (.int .i64 0)/\eW w' b g now (count+1) A n cap false/\Only [b] W0 w')):=by
  show Calls _ _ _ _ _;have:=f_ l W0 (h.ext E0) (hp.ext E0) ho hl hc0 hc1;rw[hx.1,hx.2,<-hn]at this;exact this
 have S0:=h.ext E0;have K0:=K.ext E0;have AV:=zH KD;rw[<-hn];clear hn hx h hp ho hl hc0 hc1 K KD;go_in;go_upto_region 1 with fail;rw[<-aJ,<-eN];clear aJ eN;go_wp2_with fail;refine KC.o.mono ?_;rintro e w1 ⟨rfl,S1,O1⟩;have K1:=K0.xf S0 Fh hb O1;have N1:=O1.has N0 (by simpa using tJ);have c0:=Has.cell S1 0;have c1:=Has.cell S1 1;have cz:=Has.lt S1;have d0:=N1.cell 0;have d1:=N1.cell 1;have dz:=N1.lt;go_wp2_with fail;go_region_with (go_at_call 159;refine (AV.o _ (K1.ext (Ext.refl _).drew)).mono ?_;rintro e w2 ⟨rfl,K2,O2⟩)
 all_goals
  go_wp2;go_ret;refine⟨rfl,K2,eW.only (eW.ext S1 (Ext.refl _).drew) O2 hb,?_⟩;exact (Only.pre E0 (O1.mono (fun x hx=>by simp at hx;subst hx;simp))).then ((Only.az (Ext.refl _).drew).then (O2.mono (fun x hx=>by simp[hx])))
theorem XH (l:List (Int×Int)) (w:World) (cu cg:Int) (dir:Int) (nm:ByteArray) (h:eW w b g now count A l.length cap false) (hp:dd w A l) (ho:dK A b) (hl:l.length<=1000000) (hc0:0<=count) (hc1:count<=1000000) (hx:jA l (count+1)=x) (aX:x≠0) :
  Calls prog 98 #[((),b),.agg #[cu,cg],dir,.string nm] w
   (fun e w'=>e=.returned (.int .i64 x)/\eW w' b g now (count+1) A l.length cap (gK l (count+1))/\Only [b] w w'):=by
 obtain⟨n,hn⟩:=ai l.length;have KC:Hid (∀u,Ext w u->Calls prog 116 #[((),b)] u (fun e w'=>e=.returned (.int .i64 x)/\eW w' b g now (count+1) A n cap (gK l (count+1))/\Only [b] u w')):=by
  show ∀u,_;intro u hu;rw[<-hx,hn];exact f_ l u (h.ext hu) (hp.ext hu) ho hl hc0 hc1
 rw[<-hn];clear hn hx;have t1:(x != 0)=true:=by simpa using aX
 clear aX h hp ho hl hc0 hc1;go_in;go_wp2_with fail;refine (KC.o _ ((Ext.refl _).alloc _)).mono ?_;rintro e w1 ⟨rfl,S1,O1⟩;go_wp2;go_ret;exact⟨rfl,S1,Only.pre ((Ext.refl _).alloc _) O1⟩
theorem XI (l:List (Int×Int)) (w:World) (cu cg:Int) (dir:Int) (nm:ByteArray) (h:eW w b g now count A l.length cap false) (hp:dd w A l) (ho:dK A b) (hl:l.length<=1000000) (hc0:0<=count) (hc1:count<=1000000) (B:Nat) (S:ag)
  (K:eL w B g S) (hb:b∉g.list) (Fh:B<=b) (hx:jA l (count+1)=0/\gK l (count+1)=false)  
  (KD:∀u,eL u B g S->Calls prog 146 #[((),g.bW),.agg #[cu,cg],now,dir,.string nm] u (qq u B g T z)) :
  Calls prog 98 #[((),b),.agg #[cu,cg],dir,.string nm] w
   (fun e w'=>e=.returned (.int .i64 z)/\eL w' B g T/\eW w' b g now (count+1) A l.length cap false/\Only (b::g.list) w w'):=by
 obtain⟨n,hn⟩:=ai l.length;obtain⟨W0,aJ⟩:=ai (w.alloc (.cells #[cu,cg] 27));obtain⟨b0,eN⟩:=ai w.heap.size;have E0:Ext w W0:=by rw[aJ];exact (Ext.refl _).alloc _
 have N0:Has W0 b0 (.cells #[cu,cg] 27):=by rw[aJ,eN];exact Has.new _ _
 have tJ:b0≠b:=by have:=Has.lt h;omega
 have KC:Hid (Calls prog 116 #[((),b)] W0 (fun e w'=>e=.returned (.int .i64 0)/\eW w' b g now (count+1) A n cap false/\Only [b] W0 w')):=by
  show Calls _ _ _ _ _;have:=f_ l W0 (h.ext E0) (hp.ext E0) ho hl hc0 hc1;rw[hx.1,hx.2,<-hn]at this;exact this
 have S0:=h.ext E0;have K0:=K.ext E0;have AV:=zH KD;rw[<-hn];clear hn hx h hp ho hl hc0 hc1 K KD;go_in;go_upto_region 1 with fail;rw[<-aJ,<-eN];clear aJ eN;go_wp2_with fail;refine KC.o.mono ?_;rintro e w1 ⟨rfl,S1,O1⟩;have K1:=K0.xf S0 Fh hb O1;have N1:=O1.has N0 (by simpa using tJ);have c0:=Has.cell S1 0;have c1:=Has.cell S1 1;have cz:=Has.lt S1;have d0:=N1.cell 0;have d1:=N1.cell 1;have dz:=N1.lt;go_wp2_with fail;go_region_with (go_at_call 146;refine (AV.o _ (K1.ext (Ext.refl _).drew)).mono ?_;rintro e w2 ⟨rfl,K2,O2⟩)
 all_goals
  go_wp2;go_ret;refine⟨rfl,K2,eW.only (eW.ext S1 (Ext.refl _).drew) O2 hb,?_⟩;exact (Only.pre E0 (O1.mono (fun x hx=>by simp at hx;subst hx;simp))).then ((Only.az (Ext.refl _).drew).then (O2.mono (fun x hx=>by simp[hx])))
theorem aaK (l:List (Int×Int)) (w:World) (cu cg:Int) (dir:Int) (nm:ByteArray) (h:eW w b g now count A l.length cap false) (hp:dd w A l) (ho:dK A b) (hl:l.length<=1000000) (hc0:0<=count) (hc1:count<=1000000) (hx:jA l (count+1)=x) (aX:x≠0) :
  Calls prog 97 #[((),b),.agg #[cu,cg],dir,.string nm] w
   (fun e w'=>e=.returned (.int .i64 x)/\eW w' b g now (count+1) A l.length cap (gK l (count+1))/\Only [b] w w'):=by
 obtain⟨n,hn⟩:=ai l.length;have KC:Hid (∀u,Ext w u->Calls prog 116 #[((),b)] u (fun e w'=>e=.returned (.int .i64 x)/\eW w' b g now (count+1) A n cap (gK l (count+1))/\Only [b] u w')):=by
  show ∀u,_;intro u hu;rw[<-hx,hn];exact f_ l u (h.ext hu) (hp.ext hu) ho hl hc0 hc1
 rw[<-hn];clear hn hx;have t1:(x != 0)=true:=by simpa using aX
 clear aX h hp ho hl hc0 hc1;go_in;go_wp2_with fail;refine (KC.o _ ((Ext.refl _).alloc _)).mono ?_;rintro e w1 ⟨rfl,S1,O1⟩;go_wp2;go_ret;exact⟨rfl,S1,Only.pre ((Ext.refl _).alloc _) O1⟩
theorem aaL (l:List (Int×Int)) (w:World) (cu cg:Int) (dir:Int) (nm:ByteArray) (h:eW w b g now count A l.length cap false) (hp:dd w A l) (ho:dK A b) (hl:l.length<=1000000) (hc0:0<=count) (hc1:count<=1000000) (B:Nat) (S:ag)
  (K:eL w B g S) (hb:b∉g.list) (Fh:B<=b) (hx:jA l (count+1)=0/\gK l (count+1)=false)  
  (KD:∀u,eL u B g S->Calls prog 145 #[((),g.bW),.agg #[cu,cg],now,dir,.string nm] u (qq u B g T z)) :
  Calls prog 97 #[((),b),.agg #[cu,cg],dir,.string nm] w
   (fun e w'=>e=.returned (.int .i64 z)/\eL w' B g T/\eW w' b g now (count+1) A l.length cap false/\Only (b::g.list) w w'):=by
 obtain⟨n,hn⟩:=ai l.length;obtain⟨W0,aJ⟩:=ai (w.alloc (.cells #[cu,cg] 27));obtain⟨b0,eN⟩:=ai w.heap.size;have E0:Ext w W0:=by rw[aJ];exact (Ext.refl _).alloc _
 have N0:Has W0 b0 (.cells #[cu,cg] 27):=by rw[aJ,eN];exact Has.new _ _
 have tJ:b0≠b:=by have:=Has.lt h;omega
 have KC:Hid (Calls prog 116 #[((),b)] W0 (fun e w'=>e=.returned (.int .i64 0)/\eW w' b g now (count+1) A n cap false/\Only [b] W0 w')):=by
  show Calls _ _ _ _ _;have:=f_ l W0 (h.ext E0) (hp.ext E0) ho hl hc0 hc1;rw[hx.1,hx.2,<-hn]at this;exact this
 have S0:=h.ext E0;have K0:=K.ext E0;have AV:=zH KD;rw[<-hn];clear hn hx h hp ho hl hc0 hc1 K KD;go_in;go_upto_region 1 with fail;rw[<-aJ,<-eN];clear aJ eN;go_wp2_with fail;refine KC.o.mono ?_;rintro e w1 ⟨rfl,S1,O1⟩;have K1:=K0.xf S0 Fh hb O1;have N1:=O1.has N0 (by simpa using tJ);have c0:=Has.cell S1 0;have c1:=Has.cell S1 1;have cz:=Has.lt S1;have d0:=N1.cell 0;have d1:=N1.cell 1;have dz:=N1.lt;go_wp2_with fail;go_region_with (go_at_call 145;refine (AV.o _ (K1.ext (Ext.refl _).drew)).mono ?_;rintro e w2 ⟨rfl,K2,O2⟩)
 all_goals
  go_wp2;go_ret;refine⟨rfl,K2,eW.only (eW.ext S1 (Ext.refl _).drew) O2 hb,?_⟩;exact (Only.pre E0 (O1.mono (fun x hx=>by simp at hx;subst hx;simp))).then ((Only.az (Ext.refl _).drew).then (O2.mono (fun x hx=>by simp[hx])))
theorem aaM (l:List (Int×Int)) (w:World) (cu cg:Int) (no:Int) (mode:Int) (h:eW w b g now count A l.length cap false) (hp:dd w A l) (ho:dK A b) (hl:l.length<=1000000) (hc0:0<=count) (hc1:count<=1000000) (hx:jA l (count+1)=x) (aX:x≠0) :
  Calls prog 68 #[((),b),.agg #[cu,cg],no,mode] w
   (fun e w'=>e=.returned (.int .i64 x)/\eW w' b g now (count+1) A l.length cap (gK l (count+1))/\Only [b] w w'):=by
 obtain⟨n,hn⟩:=ai l.length;have KC:Hid (∀u,Ext w u->Calls prog 116 #[((),b)] u (fun e w'=>e=.returned (.int .i64 x)/\eW w' b g now (count+1) A n cap (gK l (count+1))/\Only [b] u w')):=by
  show ∀u,_;intro u hu;rw[<-hx,hn];exact f_ l u (h.ext hu) (hp.ext hu) ho hl hc0 hc1
 rw[<-hn];clear hn hx;have t1:(x != 0)=true:=by simpa using aX
 clear aX h hp ho hl hc0 hc1;go_in;go_wp2_with fail;refine (KC.o _ ((Ext.refl _).alloc _)).mono ?_;rintro e w1 ⟨rfl,S1,O1⟩;go_wp2;go_ret;exact⟨rfl,S1,Only.pre ((Ext.refl _).alloc _) O1⟩
theorem aaN (l:List (Int×Int)) (w:World) (cu cg:Int) (no:Int) (mode:Int) (h:eW w b g now count A l.length cap false) (hp:dd w A l) (ho:dK A b) (hl:l.length<=1000000) (hc0:0<=count) (hc1:count<=1000000) (B:Nat) (S:ag)
  (K:eL w B g S) (hb:b∉g.list) (Fh:B<=b) (hx:jA l (count+1)=0/\gK l (count+1)=false)  
  (KD:∀u,eL u B g S->Calls prog 118 #[((),g.bW),.agg #[cu,cg],now,no,mode] u (qq u B g T z)) :
  Calls prog 68 #[((),b),.agg #[cu,cg],no,mode] w
   (fun e w'=>e=.returned (.int .i64 z)/\eL w' B g T/\eW w' b g now (count+1) A l.length cap false/\Only (b::g.list) w w'):=by
 obtain⟨n,hn⟩:=ai l.length;obtain⟨W0,aJ⟩:=ai (w.alloc (.cells #[cu,cg] 27));obtain⟨b0,eN⟩:=ai w.heap.size;have E0:Ext w W0:=by rw[aJ];exact (Ext.refl _).alloc _
 have N0:Has W0 b0 (.cells #[cu,cg] 27):=by rw[aJ,eN];exact Has.new _ _
 have tJ:b0≠b:=by have:=Has.lt h;omega
 have KC:Hid (Calls prog 116 #[((),b)] W0 (fun e w'=>e=.returned (.int .i64 0)/\eW w' b g now (count+1) A n cap false/\Only [b] W0 w')):=by
  show Calls _ _ _ _ _;have:=f_ l W0 (h.ext E0) (hp.ext E0) ho hl hc0 hc1;rw[hx.1,hx.2,<-hn]at this;exact this
 have S0:=h.ext E0;have K0:=K.ext E0;have AV:=zH KD;rw[<-hn];clear hn hx h hp ho hl hc0 hc1 K KD;go_in;go_upto_region 1 with fail;rw[<-aJ,<-eN];clear aJ eN;go_wp2_with fail;refine KC.o.mono ?_;rintro e w1 ⟨rfl,S1,O1⟩;have K1:=K0.xf S0 Fh hb O1;have N1:=O1.has N0 (by simpa using tJ);have c0:=Has.cell S1 0;have c1:=Has.cell S1 1;have cz:=Has.lt S1;have d0:=N1.cell 0;have d1:=N1.cell 1;have dz:=N1.lt;go_wp2_with fail;go_region_with (go_at_call 118;refine (AV.o _ (K1.ext (Ext.refl _).drew)).mono ?_;rintro e w2 ⟨rfl,K2,O2⟩)
 all_goals
  go_wp2;go_ret;refine⟨rfl,K2,eW.only (eW.ext S1 (Ext.refl _).drew) O2 hb,?_⟩;exact (Only.pre E0 (O1.mono (fun x hx=>by simp at hx;subst hx;simp))).then ((Only.az (Ext.refl _).drew).then (O2.mono (fun x hx=>by simp[hx])))
theorem aaO (l:List (Int×Int)) (w:World) (cu cg:Int) (no:Int) (uid:Int) (gid:Int) (h:eW w b g now count A l.length cap false) (hp:dd w A l) (ho:dK A b) (hl:l.length<=1000000) (hc0:0<=count) (hc1:count<=1000000) (hx:jA l (count+1)=x) (aX:x≠0) :
  Calls prog 67 #[((),b),.agg #[cu,cg],no,uid,gid] w
   (fun e w'=>e=.returned (.int .i64 x)/\eW w' b g now (count+1) A l.length cap (gK l (count+1))/\Only [b] w w'):=by
 obtain⟨n,hn⟩:=ai l.length;have KC:Hid (∀u,Ext w u->Calls prog 116 #[((),b)] u (fun e w'=>e=.returned (.int .i64 x)/\eW w' b g now (count+1) A n cap (gK l (count+1))/\Only [b] u w')):=by
  show ∀u,_;intro u hu;rw[<-hx,hn];exact f_ l u (h.ext hu) (hp.ext hu) ho hl hc0 hc1
 rw[<-hn];clear hn hx;have t1:(x != 0)=true:=by simpa using aX
 clear aX h hp ho hl hc0 hc1;go_in;go_wp2_with fail;refine (KC.o _ ((Ext.refl _).alloc _)).mono ?_;rintro e w1 ⟨rfl,S1,O1⟩;go_wp2;go_ret;exact⟨rfl,S1,Only.pre ((Ext.refl _).alloc _) O1⟩
theorem aaP (l:List (Int×Int)) (w:World) (cu cg:Int) (no:Int) (uid:Int) (gid:Int) (h:eW w b g now count A l.length cap false) (hp:dd w A l) (ho:dK A b) (hl:l.length<=1000000) (hc0:0<=count) (hc1:count<=1000000) (B:Nat) (S:ag)
  (K:eL w B g S) (hb:b∉g.list) (Fh:B<=b) (hx:jA l (count+1)=0/\gK l (count+1)=false)  
  (KD:∀u,eL u B g S->Calls prog 117 #[((),g.bW),.agg #[cu,cg],now,no,uid,gid] u (qq u B g T z)) :
  Calls prog 67 #[((),b),.agg #[cu,cg],no,uid,gid] w
   (fun e w'=>e=.returned (.int .i64 z)/\eL w' B g T/\eW w' b g now (count+1) A l.length cap false/\Only (b::g.list) w w'):=by
 obtain⟨n,hn⟩:=ai l.length;obtain⟨W0,aJ⟩:=ai (w.alloc (.cells #[cu,cg] 27));obtain⟨b0,eN⟩:=ai w.heap.size;have E0:Ext w W0:=by rw[aJ];exact (Ext.refl _).alloc _
 have N0:Has W0 b0 (.cells #[cu,cg] 27):=by rw[aJ,eN];exact Has.new _ _
 have tJ:b0≠b:=by have:=Has.lt h;omega
 have KC:Hid (Calls prog 116 #[((),b)] W0 (fun e w'=>e=.returned (.int .i64 0)/\eW w' b g now (count+1) A n cap false/\Only [b] W0 w')):=by
  show Calls _ _ _ _ _;have:=f_ l W0 (h.ext E0) (hp.ext E0) ho hl hc0 hc1;rw[hx.1,hx.2,<-hn]at this;exact this
 have S0:=h.ext E0;have K0:=K.ext E0;have AV:=zH KD;rw[<-hn];clear hn hx h hp ho hl hc0 hc1 K KD;go_in;go_upto_region 1 with fail;rw[<-aJ,<-eN];clear aJ eN;go_wp2_with fail;refine KC.o.mono ?_;rintro e w1 ⟨rfl,S1,O1⟩;have K1:=K0.xf S0 Fh hb O1;have N1:=O1.has N0 (by simpa using tJ);have c0:=Has.cell S1 0;have c1:=Has.cell S1 1;have cz:=Has.lt S1;have d0:=N1.cell 0;have d1:=N1.cell 1;have dz:=N1.lt;go_wp2_with fail;go_region_with (go_at_call 117;refine (AV.o _ (K1.ext (Ext.refl _).drew)).mono ?_;rintro e w2 ⟨rfl,K2,O2⟩)
 all_goals
  go_wp2;go_ret;refine⟨rfl,K2,eW.only (eW.ext S1 (Ext.refl _).drew) O2 hb,?_⟩;exact (Only.pre E0 (O1.mono (fun x hx=>by simp at hx;subst hx;simp))).then ((Only.az (Ext.refl _).drew).then (O2.mono (fun x hx=>by simp[hx])))
theorem aaQ (l:List (Int×Int)) (w:World) (cu cg:Int) (no:Int) (mtime:Int) (h:eW w b g now count A l.length cap false) (hp:dd w A l) (ho:dK A b) (hl:l.length<=1000000) (hc0:0<=count) (hc1:count<=1000000) (hx:jA l (count+1)=x) (aX:x≠0) :
  Calls prog 69 #[((),b),.agg #[cu,cg],no,mtime] w
   (fun e w'=>e=.returned (.int .i64 x)/\eW w' b g now (count+1) A l.length cap (gK l (count+1))/\Only [b] w w'):=by
 obtain⟨n,hn⟩:=ai l.length;have KC:Hid (∀u,Ext w u->Calls prog 116 #[((),b)] u (fun e w'=>e=.returned (.int .i64 x)/\eW w' b g now (count+1) A n cap (gK l (count+1))/\Only [b] u w')):=by
  show ∀u,_;intro u hu;rw[<-hx,hn];exact f_ l u (h.ext hu) (hp.ext hu) ho hl hc0 hc1
 rw[<-hn];clear hn hx;have t1:(x != 0)=true:=by simpa using aX
 clear aX h hp ho hl hc0 hc1;go_in;go_wp2_with fail;refine (KC.o _ ((Ext.refl _).alloc _)).mono ?_;rintro e w1 ⟨rfl,S1,O1⟩;go_wp2;go_ret;exact⟨rfl,S1,Only.pre ((Ext.refl _).alloc _) O1⟩
theorem aaR (l:List (Int×Int)) (w:World) (cu cg:Int) (no:Int) (mtime:Int) (h:eW w b g now count A l.length cap false) (hp:dd w A l) (ho:dK A b) (hl:l.length<=1000000) (hc0:0<=count) (hc1:count<=1000000) (B:Nat) (S:ag)
  (K:eL w B g S) (hb:b∉g.list) (Fh:B<=b) (hx:jA l (count+1)=0/\gK l (count+1)=false)  
  (KD:∀u,eL u B g S->Calls prog 119 #[((),g.bW),.agg #[cu,cg],now,no,mtime] u (qq u B g T z)) :
  Calls prog 69 #[((),b),.agg #[cu,cg],no,mtime] w
   (fun e w'=>e=.returned (.int .i64 z)/\eL w' B g T/\eW w' b g now (count+1) A l.length cap false/\Only (b::g.list) w w'):=by
 obtain⟨n,hn⟩:=ai l.length;obtain⟨W0,aJ⟩:=ai (w.alloc (.cells #[cu,cg] 27));obtain⟨b0,eN⟩:=ai w.heap.size;have E0:Ext w W0:=by rw[aJ];exact (Ext.refl _).alloc _
 have N0:Has W0 b0 (.cells #[cu,cg] 27):=by rw[aJ,eN];exact Has.new _ _
 have tJ:b0≠b:=by have:=Has.lt h;omega
 have KC:Hid (Calls prog 116 #[((),b)] W0 (fun e w'=>e=.returned (.int .i64 0)/\eW w' b g now (count+1) A n cap false/\Only [b] W0 w')):=by
  show Calls _ _ _ _ _;have:=f_ l W0 (h.ext E0) (hp.ext E0) ho hl hc0 hc1;rw[hx.1,hx.2,<-hn]at this;exact this
 have S0:=h.ext E0;have K0:=K.ext E0;have AV:=zH KD;rw[<-hn];clear hn hx h hp ho hl hc0 hc1 K KD;go_in;go_upto_region 1 with fail;rw[<-aJ,<-eN];clear aJ eN;go_wp2_with fail;refine KC.o.mono ?_;rintro e w1 ⟨rfl,S1,O1⟩;have K1:=K0.xf S0 Fh hb O1;have N1:=O1.has N0 (by simpa using tJ);have c0:=Has.cell S1 0;have c1:=Has.cell S1 1;have cz:=Has.lt S1;have d0:=N1.cell 0;have d1:=N1.cell 1;have dz:=N1.lt;go_wp2_with fail;go_region_with (go_at_call 119;refine (AV.o _ (K1.ext (Ext.refl _).drew)).mono ?_;rintro e w2 ⟨rfl,K2,O2⟩)
 all_goals
  go_wp2;go_ret;refine⟨rfl,K2,eW.only (eW.ext S1 (Ext.refl _).drew) O2 hb,?_⟩;exact (Only.pre E0 (O1.mono (fun x hx=>by simp at hx;subst hx;simp))).then ((Only.az (Ext.refl _).drew).then (O2.mono (fun x hx=>by simp[hx])))
end Go.Proofs.YtpibnfdolojpcaaGreat
