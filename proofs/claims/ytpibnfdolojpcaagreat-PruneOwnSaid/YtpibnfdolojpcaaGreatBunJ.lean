import Derived.Test.YtpibnfdolojpcaaGreatBunH
import Derived.Test.YtpibnfdolojpcaaGreatBunA
import Derived.Test.YtpibnfdolojpcaaGreatBunI
import Derived.RegionIn
import Derived.OwnWalkIn
import Derived.Deep.RegionHeld3
set_option maxHeartbeats 8000000
set_option maxRecDepth 100000
namespace Go.Proofs.YtpibnfdolojpcaaGreat
section
open Go.ChangeShapes Go.WideShapes Go.ChangeAt Go.RowKit Go.Shelf
attribute [local go_sem] Oper.semAt_some
section
variable {F:Fence} {n:Nat} {P:Program} {ops:Array Oper} {md:Region.Mode} {Q:Exit->Act->World->Prop}
theorem yS {i:Nat} {K:Act->World->Prop} {a:Act} {w:World} (hd:∀o,ops[i]?=some o->∀c,o.op≠.defer c) (h:wpOpIn F.plain n P ops Q i K a w):wpOpIn F n P ops Q i K a w:=by
 unfold wpOpIn at h|-;split
 ·rename_i ho;simp only[ho]at h;exact h
 ·rename_i o ho
  simp only[ho]at h;split
  ·rename_i hw
   simp only[hw,if_true]at h;unfold Oper.wpIn at h|-;refine ⟨h.1,?_⟩;have h2:=h.2;rw [Oper.semAt_eq _ _ _ (hd o ho)]at h2|-;exact h2
  ·rename_i hw;simp only[hw]at h;exact h
theorem pp (hd:∀(i:Nat) (o:Oper),ops[i]?=some o->∀c,o.op≠.defer c):∀(fuel:Nat) (listed:Array Bool) (a:Act) (w:World),wpAnyIn F.plain n P md ops Q fuel listed a w->wpAnyIn F n P md ops Q fuel listed a w
 | 0,_,_,_,h=>h
 | fuel+1,_,_,_,h=>⟨h.1,fun i hi=>yS (hd i) (wpOpIn_mono (fun a w=>pp hd fuel _ a w) (h.2 i hi))⟩
theorem lk {id:Nat} {a:Act} {w:World} {l:List Oper} (hd:l.all qa=true) (hm:P.follows .mixedOrders=true)
  (h:wpAnyIn F.plain n P .any l.toArray Q l.toArray.size (Array.replicate l.toArray.size false) a w.drew):(Code.region id l.toArray true).wpIn F n P Q a w:=
 wpIn_region_any hm (pp (fun i o ho=>ym (List.all_eq_true.1 hd o (List.mem_of_getElem? (by simpa using ho)))) _ _ _ _ h)
end
def bo (S:ae) (l:List ay):List ay:=l.map fun x=>(x.1,ar S.ah x.2)
theorem iR (S:ae) (l:List ay) (x:ay):bo S (l++[x])=bo S l++[(x.1,ar S.ah x.2)]:=by unfold bo;rw[List.map_append];rfl
theorem gG (S:ae) (l:List ay):(bo S l).length=l.length:=by unfold bo;rw[List.length_map]
def FA (w w':World) (A:Option Addr) (L:List ay):Prop:=bh w' A L/\∀y,A.map (·.block)=some y->w.heap.size<=y
theorem FA.base {w0 w w':World} {A:Option Addr} {L:List ay} (h:FA w w' A L) (hs:Ext w0 w):FA w0 w' A L:=⟨h.1,fun y hy=>Nat.le_trans hs.size (h.2 y hy)⟩
theorem xv {w:World} {base n cap k:Nat} {A:Option Addr} {xs:List Value} (h:w.ownsRow base 153 2 (.slice A n cap) k xs):∀y,A.map (·.block)=some y->base<=y:=by
 intro y hy;rcases h.2 with⟨h1,_⟩|⟨g,c,cur,h1,hb,_⟩
 ·injection h1 with h1;rw[h1]at hy;cases hy
 ·injection h1 with h1
  rw [h1]at hy;have:g=y:=by injection hy
  omega
def qC (w:World) (L:List ay) (x:Int) (e:Ending) (w':World):Prop:=∃A cap,e=.returned (.tuple #[.slice A L.length cap,.int .i64 x])/\FA w w' A L/\Ext w w'
theorem tO {base:Nat} {v:Value} {L:List ay} (x:ay) (wr:World) (h:dH wr base v L) (hb:base<=wr.heap.size) (hl:L.length<=2000000) :
  ∃ v' w2,(Builtin.append_ #[64,64] 64 #[v,.slice (some ⟨wr.heap.size,0,none⟩) 1 1]).run Tryz.prog (wr.alloc (.cells #[bs x.1,.int .i64 x.2] 153))=.ok v' w2/\(w2.ownsRow base 153 2 v' (L++[x]).length (aq (L++[x])))/\(wr.alloc (.cells #[bs x.1,.int .i64 x.2] 153)).grownBy w2 v.ownBlock:=by
 obtain ⟨i0,hi,hz0,hz1,hz2⟩:=info_parts jT;obtain ⟨v',w2,hr,h2,h3,_⟩:=run_append_own (P:=Tryz.prog) (wr.alloc (.cells #[bs x.1,.int .i64 x.2] 153)) base 64 64 153 i0 (.agg #[.string ⟨#[]⟩,.int .i64 0]) 2 24 Tryz.underlying64 hi hz0 hz1 hz2 rfl (by decide) v L.length _ (World.ownsRow.alloc h _) ⟨wr.heap.size,0,none⟩ 1 1 (aq [x]) rfl (p_ wr x) (dA [x]) (by unfold maxLen;omega) (by omega) (by simp;omega);refine ⟨v',w2,hr,?_,h3⟩;rw [dW,List.length_append];exact h2
theorem iN {F:Fence} {n:Nat} {P:Program} (w:World) {o:Oper} {a:Act} {K:Act->World->Prop} {Q:Exit->Act->World->Prop} (s x:Operand) (t tn:TypeId)
  (ho:o.op=.call {callee:=.builtin .append,args:=#[s,x],argTypes:=#[t,tn]}) (vs vx:Value) (hs:a.eval s=vs) (hx:a.eval x=vx)
  (v':Value) (w':World) (hr:(Builtin.append_ #[t,tn] o.type #[vs,vx]).run P w=.ok v' w') (h:K (a.put o.dst v') w'):o.wpIn F n P a w K Q:=by
 unfold Oper.wpIn;refine ⟨?_,?_⟩
 ·simp[Oper.about,ho,resolve,Target.leads,Sem.run_pure]
 ·rw [Oper.semAt_plain F _ _ (by rw[ho];intro c hc';cases hc')]
  simp [execOp,ho,resolve,invoke,builtin,hs,hx,hr,Result.andThen];exact h
theorem Hf {c:Nat} (B:Nat) (g:bG) (S:ae) (cu cg no:Int) (w:World) (h:dM w B g S) (T:dy c S) (hc:c<=1000000) :
  Calls Tryz.prog 150 #[.pointer (some ⟨g.bW,0,none⟩),.agg #[cu,cg],.int .i64 no] w (qC w (bo S (bf S cu cg no 1 4).af) (bt S cu cg no 1 4)):=by
 refine (callsIn_wide (n:=4)).1 ?_;obtain⟨F,hF⟩:=zE Fence.wide;have hro:F.round=none:=by rw[hF];rfl
 have h35:F.fn 150:=by rw[hF];trivial
 have hop:F.fn 99:=by rw[hF];trivial
 have J8:F.fn 101:=by rw[hF];trivial
 have h42:F.fn 178:=by rw[hF];trivial
 have h50:F.fn 202:=by rw[hF];trivial
 have Jw:=T.bf cu cg no 1 4;obtain⟨m,hm⟩:=zE (bf S cu cg no 1 4);obtain⟨x,hx⟩:=zE (bt S cu cg no 1 4);have hOP:∀(k:Nat) (w':World),Ext w w'->CallsIn F k Tryz.prog 99 #[.pointer (some ⟨g.bW,0,none⟩),.agg #[cu,cg],.int .i64 no,.int .i64 1,.int .i64 4] w' (fun e w2=>∃A c,e=.returned (.tuple #[.agg #[m.no,m.dev,m.kind,m.mode,m.uid,m.gid,m.mtime,m.ctime,m.ag,m.up,bs m.data,.slice A m.af.length c],.int .i64 x])/\az w2 B m A c/\Ext w' w2):=by
  rw [hF,hm,hx];exact fun k w' h'=>callsIn_wide.2 (xp B g S cu cg no 1 4 w' (h.ext h') T.ah)
 have hOV:∀(l k:Nat) (q:Int) (w':World),Ext w w'->CallsIn (F.inRound l).plain k Tryz.prog 101 #[.pointer (some ⟨g.bW,0,none⟩),.int .i64 q] w' (aI w' (.int .i64 (ar S.ah q))):=by
  rw [hF];exact fun l k q w' h'=>callsIn_wide.2 (gZ B g S q w' (h.ext h') T.ah (by have:=T.eight;omega))
 have hz:¬x=0->m=aa:=fun h0=>by rw[hm];unfold bf;rw[if_neg (by rw[<-hx];exact h0)]
 rw [<-hm]at Jw;rw [<-hF,<-hm,<-hx];have ES:m.af.length<=1000000:=by have:=Jw.2;omega
 have E0:Ext w ((w.alloc (.cells #[.pointer (some ⟨g.bW,0,none⟩)] 100)).alloc (.cells #[cu,cg] 27)):=((Ext.refl _).alloc _).alloc _;clear hF hm hx Jw;refine callsIn_of_wp_marks Tryz.func150 rfl h35 ?_ hro;simp only[Tryz.ntmps150,List.size_toArray,List.length_cons,List.length_nil,Nat.reduceAdd,Nat.reduceSub,Array.replicate_succ,Array.replicate_zero,List.push_toArray,List.append_toArray,List.nil_append,List.cons_append]
 by_cases aV:x=0
 case neg =>
  have t0:(x == 0)=false:=by simpa using aV
  have mB:(x != 0)=true:=by simpa using aV
  have hmz:=hz aV;have HMZ:=zH hmz;clear hz aV hmz;gi_wp2_with (gi_at_call 99;refine (hOP _ _ E0).mono ?_;rintro e w1 ⟨A1,c1,rfl,tN,b1⟩);refine ⟨.tuple #[.slice none 0 0,.int .i64 x],by simp[results,Tryz.results150,go_sem],none,0,?_,⟨.inl ?_,fun y hy=>by cases hy⟩,(E0.trans b1).alloc _⟩
  ·rw[HMZ.out];rfl
  ·rw[HMZ.out];rfl
 have hxe:=zH aV;subst aV;have XI:=jT;obtain ⟨i0,hi,hz0,hz1,hz2⟩:=info_parts jT;have HI:=zH hi;have XJ:=zH hz0;have HZ1:=zH hz1;have TA:=zH hz2;clear hz XI hi hz0 hz1 hz2;gi_wp2_with first|(gi_at_call 99;refine (hOP _ _ E0).mono ?_;rintro e w1 ⟨A1,c1,rfl,tN,b1⟩;have F0:=E0.trans b1;have XK:=tN.af;have hN:=Has.new w1 (.cells #[m.no,m.dev,m.kind,m.mode,m.uid,m.gid,m.mtime,m.ctime,m.ag,m.up,bs m.data,.slice A1 m.af.length c1] 66);obtain⟨x0,x1,x2,x3,x4,x5,x6,x7,x8,x9,ki,ke⟩:=hN.cD)|(gi_at_make;refine wpListIn_make_own _ rfl _ _ 64 rfl (w1.heap.size+1) 153 i0 (.agg #[.string ⟨#[]⟩,.int .i64 0]) 2 Tryz.underlying64 HI.out XJ.out HZ1.out .i64 .i64 m.af.length m.af.length rfl rfl rfl (by rw[TA.out];omega) (by unfold maxLen;omega) (by simp) ?_;intro wa hrow hga;have hNa:Has wa w1.heap.size (.cells #[m.no,m.dev,m.kind,m.mode,m.uid,m.gid,m.mtime,m.ctime,m.ag,m.up,bs m.data,.slice A1 m.af.length c1] 66):=(hga.block w1.heap.size hN.lt (by simp)).trans hN;obtain⟨y0,y1,y2,y3,y4,y5,y6,y7,y8,y9,pZ,nN⟩:=hNa.cD;have ya:=hNa.lt)|(gi_at_call 178;refine (SY F _ h42 hro _ _ _ _).mono ?_;rintro e w' ⟨rfl,rfl⟩)
 have HMZ:=zH ES;obtain⟨n₀,hn0⟩:=zE (w1.heap.size+1);obtain⟨W2,cQ⟩:=zE (w1.alloc (.cells #[m.no,m.dev,m.kind,m.mode,m.uid,m.gid,m.mtime,m.ctime,m.ag,m.up,bs m.data,.slice A1 m.af.length c1] 66));have acu:W2.heap.size=n₀:=by rw[cQ,hn0];simp
 have G2:Ext w W2:=by rw[cQ];exact F0.alloc _
 have hsw:w.heap.size<w1.heap.size:=by have:=b1.size;simp at this;omega
 have cw2:W2.cell? ⟨w.heap.size,0,none⟩=some (.pointer (some ⟨g.bW,0,none⟩)):=by
  have h1:Has (w.alloc (.cells #[.pointer (some ⟨g.bW,0,none⟩)] 100)) w.heap.size (.cells #[.pointer (some ⟨g.bW,0,none⟩)] 100):=Has.new _ _;rw [cQ];exact (((h1.alloc _).ext b1).alloc _).cell 0
 have eb2:wT n₀ W2 A1 m.af:=by
  rcases XK.af with h0|⟨b,o,hA,hb,hc⟩
  ·exact .inl h0
  ·refine .inr ⟨b,o,hA,by omega,fun k hk=>?_⟩
   rw [cQ];exact ⟨(((Ext.refl _).alloc _).cell hb).trans (hc k hk).1,(((Ext.refl _).alloc _).cell hb).trans (hc k hk).2⟩
 rw [<-cQ]at hga;obtain⟨W0,aH⟩:=zE ((wa.alloc (.cells #[.slice (some ⟨w1.heap.size+1,0,none⟩) 0 m.af.length] 64)).alloc (.cells #[.slice A1 m.af.length c1] 64));have hza:n₀<=wa.heap.size:=by omega
 have B0:Below n₀ W2 W0:=by
  rw [aH];exact (((Below.refl n₀ W2).grown hga (by omega) (fun j e=>by cases e)).alloc (by omega) _).alloc (by simp;omega) _
 have bO:Boxed W0 wa.heap.size 64 (.slice (some ⟨w1.heap.size+1,0,none⟩) 0 m.af.length):=by rw[aH];exact (Boxed.new wa _ _).alloc _
 have bS:Has W0 (wa.heap.size+1) (.cells #[.slice A1 m.af.length c1] 64):=by rw[aH];have:=Has.new (wa.alloc (.cells #[.slice (some ⟨w1.heap.size+1,0,none⟩) 0 m.af.length] 64)) (.cells #[.slice A1 m.af.length c1] 64);rw[World.size_alloc]at this;exact this
 have r0:W0.ownsRow (w1.heap.size+1) 153 2 (.slice (some ⟨w1.heap.size+1,0,none⟩) 0 m.af.length) 0 []:=by
  rw [aH];have e:(w1.alloc (.cells #[m.no,m.dev,m.kind,m.mode,m.uid,m.gid,m.mtime,m.ctime,m.ag,m.up,bs m.data,.slice A1 m.af.length c1] 66)).heap.size=w1.heap.size+1:=by simp
  rw [e]at hrow;exact (hrow.alloc _).alloc _
 have hz0':W0.heap.size=wa.heap.size+2:=by rw[aH];simp
 have r0:W0.ownsRow n₀ 153 2 (.slice (some ⟨w1.heap.size+1,0,none⟩) 0 m.af.length) 0 []:=by rw[hn0];exact r0
 have hnw:w.heap.size<=n₀:=by omega
 have Qc:w1.heap.size<n₀:=by omega
 rw [<-aH];clear aH y0 y1 y2 y3 y4 y5 y6 y7 y8 y9 pZ nN x0 x1 x2 x3 x4 x5 x6 x7 x8 x9 ki ke hrow hga hNa tN XK hN;refine wpIn_rangeFunc_ownG (w0:=W0) hro (by omega) (gf:=202) (lb:=#[.pointer (some ⟨wa.heap.size+1,0,none⟩)]) rfl h50 (enters_of Tryz.func202 (by kernel_rfl) rfl)
  (Gg F (4-1) h50 hro (by omega) (wa.heap.size+1) n₀ c1 A1 m.af ES W0 (by omega) (by omega) (bS.cell 0) (eb2.below B0)) belowK_t (belowK_b (by omega)) (Below.refl _ _) (fun _=>rfl)
  (fun pre W=>(∃v,Boxed W wa.heap.size 64 v/\W.ownsRow n₀ 153 2 v (bo S pre).length (aq (bo S pre))/\True)/\Below n₀ W2 W)
  (fun _ _ _=>False)
  (OwnFrom.and (Own.from (holdsRow_own n₀ wa.heap.size 64 153 2 (fun pre=>(bo S pre).length) (fun pre=>aq (bo S pre)) (fun _ _=>True)) _) (ownFrom_below (by omega) (by omega)))
  (fun _ _ _ _ _ hs _ _=>hs)
  ⟨⟨_,bO,r0,trivial⟩,B0⟩
  (fun x=>{tmps:=#[.pointer (some ⟨g.bW,0,none⟩),.agg #[cu,cg],.int .i64 no,.pointer (some ⟨w.heap.size,0,none⟩),.pointer (some ⟨w.heap.size+1,0,none⟩),undef,.slice none 0 0,.int .i64 0,.pointer (some ⟨w1.heap.size,0,none⟩),.int .i64 0,.pointer (some ⟨wa.heap.size,0,none⟩),.string (bs x.1),.int .i64 x.2,.tuple #[.agg #[m.no,m.dev,m.kind,m.mode,m.uid,m.gid,m.mtime,m.ctime,m.ag,m.up,bs m.data,.slice A1 m.af.length c1],.int .i64 0],.pointer (some ⟨g.bW,0,none⟩),.agg #[cu,cg],.int .i64 no,.tuple #[.agg #[m.no,m.dev,m.kind,m.mode,m.uid,m.gid,m.mtime,m.ctime,m.ag,m.up,bs m.data,.slice A1 m.af.length c1],.int .i64 0],.agg #[m.no,m.dev,m.kind,m.mode,m.uid,m.gid,m.mtime,m.ctime,m.ag,m.up,bs m.data,.slice A1 m.af.length c1],.int .i64 0,.int .i64 0,.bool false,undef,.pointer (some ⟨w1.heap.size,11,none⟩),.slice A1 m.af.length c1,.int .i64 m.af.length,.slice (some ⟨w1.heap.size+1,0,none⟩) 0 m.af.length,.pointer (some ⟨w1.heap.size,11,none⟩),.slice A1 m.af.length c1,.func (.func 202) #[] #[.pointer (some ⟨wa.heap.size+1,0,none⟩)],.string (bs x.1),.int .i64 x.2,undef,undef,undef,undef,undef,undef,undef,undef,undef],defers:=[]}) ?assign ?body ?done ?stop
 case assign =>
  intro l x W K hK;gi_wp2;exact hK
 case body =>
  rintro l pre x W ⟨⟨v,hv,hrow,-⟩,hB⟩ hpl;have hc:=hv.cell;have hf:=hv.frozen;have cw:=(hB.cell (p:=⟨w.heap.size,0,none⟩) (by show w.heap.size<n₀;omega)).trans cw2;have hzW:=hB.size;have hEd:Ext w W.drew:=Ext.drew (show Ext w W from Below.trans (show Below w.heap.size w W2 from G2) (hB.mono hnw));have xw:W.drew.ownsRow n₀ 153 2 v (bo S pre).length (aq (bo S pre)):=hrow;have hvd:Boxed W.drew wa.heap.size 64 v:=hv;have bN:∀{u:World},Ext W.drew u->Below n₀ W u:=fun {u} h=>(show Below n₀ W W.drew from⟨rfl,rfl,rfl,Nat.le_refl _,fun _ _=>rfl⟩).trans (h.mono (by show n₀<=W.heap.size;omega))
  have bK:∀{u:World},Ext W.drew u->KeepsOthers W u:=fun {u} h=>(show KeepsOthers W W.drew from⟨Nat.le_refl _,fun _ _ h _=>h⟩).trans (KeepsOthers.of_grownBy h.grownBy fun j o e _=>by cases e)
  clear G2 cw2 hOP h T B0 bO bS r0;gi_wp2;refine lk (by kernel_rfl) (by kernel_rfl) ?_;refine wpAnyIn_take (i:=1) (v:=?_) rfl rfl (by kernel_rfl) (by kernel_rfl) (by kernel_rfl) (fun _ _ _ h=>h) ⟨Or.inl ⟨by rfl,?_⟩,fun _=>rfl⟩ ?_
  case refine_2=>intro w;go_simp;rfl
  refine wpAnyIn_take (i:=3) (v:=?_) rfl rfl (by kernel_rfl) (by kernel_rfl) (by kernel_rfl) (fun _ _ _ h=>h) ⟨Or.inl ⟨by rfl,?_⟩,fun _=>rfl⟩ ?_
  case refine_2=>intro w;go_simp;rfl
  refine wpAnyIn_ready (rs:=[0,2]) (by kernel_rfl) (by simp) ?_;refine AllReadyIn.cons rfl (fun K hK=>?_) ?_
  ·skip
   go_simp;refine hK _ _ ?_;clear hK K;refine wpAnyIn_ready (rs:=[2]) (by kernel_rfl) (by simp) ?_;refine AllReadyIn.cons rfl (fun K hK=>?_) ?_
   ·skip
    go_simp;refine hK _ _ ?_;clear hK K;refine wpAnyIn_ready (rs:=[4]) (by kernel_rfl) (by simp) ?_;refine AllReadyIn.cons rfl (fun K hK=>?_) ?_
    ·skip
     go_simp;gi_wp2_with (gi_at_call 101;refine (hOV l _ _ _ hEd).mono ?_;rintro e wd ⟨rfl,bd⟩);obtain ⟨v',w2,hr,nZ,Hg⟩:=tO (base:=n₀) (x.1,ar S.ah x.2) wd (World.ownsRow.kept xw bd.grownBy (by cases v.ownBlock<;>simp)) (by have:=bd.size;simp at this;omega) (by rw[gG];omega);rw [<-iR]at nZ;have LW:Boxed wd wa.heap.size 64 v:=Has.ext hvd bd;obtain ⟨AW,Kq,LX,hk2,hb2⟩:=LW.appended (n₀:=n₀) (by decide) (World.ownsRow.kept xw bd.grownBy (by cases v.ownBlock<;>simp)) (by have:=bd.size;simp at this;omega) (by omega) nZ Hg;obtain ⟨g',cap',hv'⟩:=ownsRow_succ (k:=(bo S pre).length) (by rw[show (bo S pre).length+1=(bo S (pre++[x])).length by rw[iR];simp];exact nZ);subst hv';have FB:=LW.cell;have hld:=LW.lt;have hc1:=AW.cell;have JA:=AW.frozen;refine wpAnyIn_take (i:=5) (v:=?_) rfl rfl (by kernel_rfl) (by kernel_rfl) (by kernel_rfl) (fun _ _ _ h=>h) ⟨Or.inl ⟨by rfl,?_⟩,fun _=>rfl⟩ ?_
     case refine_2=>intro w;go_simp;rfl
     refine wpAnyIn_ready (rs:=[6]) (by kernel_rfl) (by simp) ?_;refine AllReadyIn.cons rfl (fun K hK=>?_) ?_
     ·skip
      go_simp;refine hK _ _ ?_;clear hK K;refine wpAnyIn_ready (rs:=[7]) (by kernel_rfl) (by simp) ?_;refine AllReadyIn.cons rfl (fun K hK=>?_) ?_
      ·skip
       rw [if_pos (by rfl)];refine iN _ _ _ 64 64 rfl _ _ rfl rfl _ _ hr ?_;refine hK _ _ ?_;clear hK K;refine wpAnyIn_ready (rs:=[8]) (by kernel_rfl) (by simp) ?_;refine AllReadyIn.cons rfl (fun K hK=>?_) ?_
       ·skip
        go_simp;refine hK _ _ ?_;clear hK K;refine wpAnyIn_done (by kernel_rfl) ?_ _;exact ⟨((bK bd).trans hk2).from _,(bN bd).trans hb2,⟨_,Kq,LX,trivial⟩,hB.trans ((bN bd).trans hb2)⟩
       exact AllReadyIn.nil
      exact AllReadyIn.nil
     exact AllReadyIn.nil
    exact AllReadyIn.nil
   exact AllReadyIn.nil
  refine AllReadyIn.cons rfl (fun K hK=>?_) ?_
  ·skip
   go_simp;refine hK _ _ ?_;clear hK K;refine wpAnyIn_ready (rs:=[0,4]) (by kernel_rfl) (by simp) ?_;refine AllReadyIn.cons rfl (fun K hK=>?_) ?_
   ·skip
    go_simp;refine hK _ _ ?_;clear hK K;refine wpAnyIn_ready (rs:=[4]) (by kernel_rfl) (by simp) ?_;refine AllReadyIn.cons rfl (fun K hK=>?_) ?_
    ·skip
     go_simp;gi_wp2_with (gi_at_call 101;refine (hOV l _ _ _ hEd).mono ?_;rintro e wd ⟨rfl,bd⟩);obtain ⟨v',w2,hr,nZ,Hg⟩:=tO (base:=n₀) (x.1,ar S.ah x.2) wd (World.ownsRow.kept xw bd.grownBy (by cases v.ownBlock<;>simp)) (by have:=bd.size;simp at this;omega) (by rw[gG];omega);rw [<-iR]at nZ;have LW:Boxed wd wa.heap.size 64 v:=Has.ext hvd bd;obtain ⟨AW,Kq,LX,hk2,hb2⟩:=LW.appended (n₀:=n₀) (by decide) (World.ownsRow.kept xw bd.grownBy (by cases v.ownBlock<;>simp)) (by have:=bd.size;simp at this;omega) (by omega) nZ Hg;obtain ⟨g',cap',hv'⟩:=ownsRow_succ (k:=(bo S pre).length) (by rw[show (bo S pre).length+1=(bo S (pre++[x])).length by rw[iR];simp];exact nZ);subst hv';have FB:=LW.cell;have hld:=LW.lt;have hc1:=AW.cell;have JA:=AW.frozen;refine wpAnyIn_take (i:=5) (v:=?_) rfl rfl (by kernel_rfl) (by kernel_rfl) (by kernel_rfl) (fun _ _ _ h=>h) ⟨Or.inl ⟨by rfl,?_⟩,fun _=>rfl⟩ ?_
     case refine_2=>intro w;go_simp;rfl
     refine wpAnyIn_ready (rs:=[6]) (by kernel_rfl) (by simp) ?_;refine AllReadyIn.cons rfl (fun K hK=>?_) ?_
     ·skip
      go_simp;refine hK _ _ ?_;clear hK K;refine wpAnyIn_ready (rs:=[7]) (by kernel_rfl) (by simp) ?_;refine AllReadyIn.cons rfl (fun K hK=>?_) ?_
      ·skip
       rw [if_pos (by rfl)];refine iN _ _ _ 64 64 rfl _ _ rfl rfl _ _ hr ?_;refine hK _ _ ?_;clear hK K;refine wpAnyIn_ready (rs:=[8]) (by kernel_rfl) (by simp) ?_;refine AllReadyIn.cons rfl (fun K hK=>?_) ?_
       ·skip
        go_simp;refine hK _ _ ?_;clear hK K;refine wpAnyIn_done (by kernel_rfl) ?_ _;exact ⟨((bK bd).trans hk2).from _,(bN bd).trans hb2,⟨_,Kq,LX,trivial⟩,hB.trans ((bN bd).trans hb2)⟩
       exact AllReadyIn.nil
      exact AllReadyIn.nil
     exact AllReadyIn.nil
    exact AllReadyIn.nil
   refine AllReadyIn.cons rfl (fun K hK=>?_) ?_
   ·skip
    go_simp;gi_wp2_with (gi_at_call 101;refine (hOV l _ _ _ hEd).mono ?_;rintro e wd ⟨rfl,bd⟩);obtain ⟨v',w2,hr,nZ,Hg⟩:=tO (base:=n₀) (x.1,ar S.ah x.2) wd (World.ownsRow.kept xw bd.grownBy (by cases v.ownBlock<;>simp)) (by have:=bd.size;simp at this;omega) (by rw[gG];omega);rw [<-iR]at nZ;have LW:Boxed wd wa.heap.size 64 v:=Has.ext hvd bd;obtain ⟨AW,Kq,LX,hk2,hb2⟩:=LW.appended (n₀:=n₀) (by decide) (World.ownsRow.kept xw bd.grownBy (by cases v.ownBlock<;>simp)) (by have:=bd.size;simp at this;omega) (by omega) nZ Hg;obtain ⟨g',cap',hv'⟩:=ownsRow_succ (k:=(bo S pre).length) (by rw[show (bo S pre).length+1=(bo S (pre++[x])).length by rw[iR];simp];exact nZ);subst hv';have FB:=LW.cell;have hld:=LW.lt;have hc1:=AW.cell;have JA:=AW.frozen;refine wpAnyIn_take (i:=5) (v:=?_) rfl rfl (by kernel_rfl) (by kernel_rfl) (by kernel_rfl) (fun _ _ _ h=>h) ⟨Or.inl ⟨by rfl,?_⟩,fun _=>rfl⟩ ?_
    case refine_2=>intro w;go_simp;rfl
    refine wpAnyIn_ready (rs:=[0,6]) (by kernel_rfl) (by simp) ?_;refine AllReadyIn.cons rfl (fun K hK=>?_) ?_
    ·skip
     go_simp;refine hK _ _ ?_;clear hK K;refine wpAnyIn_ready (rs:=[6]) (by kernel_rfl) (by simp) ?_;refine AllReadyIn.cons rfl (fun K hK=>?_) ?_
     ·skip
      go_simp;refine hK _ _ ?_;clear hK K;refine wpAnyIn_ready (rs:=[7]) (by kernel_rfl) (by simp) ?_;refine AllReadyIn.cons rfl (fun K hK=>?_) ?_
      ·skip
       rw [if_pos (by rfl)];refine iN _ _ _ 64 64 rfl _ _ rfl rfl _ _ hr ?_;refine hK _ _ ?_;clear hK K;refine wpAnyIn_ready (rs:=[8]) (by kernel_rfl) (by simp) ?_;refine AllReadyIn.cons rfl (fun K hK=>?_) ?_
       ·skip
        go_simp;refine hK _ _ ?_;clear hK K;refine wpAnyIn_done (by kernel_rfl) ?_ _;exact ⟨((bK bd).trans hk2).from _,(bN bd).trans hb2,⟨_,Kq,LX,trivial⟩,hB.trans ((bN bd).trans hb2)⟩
       exact AllReadyIn.nil
      exact AllReadyIn.nil
     exact AllReadyIn.nil
    refine AllReadyIn.cons rfl (fun K hK=>?_) ?_
    ·skip
     go_simp;refine hK _ _ ?_;clear hK K;refine wpAnyIn_ready (rs:=[0]) (by kernel_rfl) (by simp) ?_;refine AllReadyIn.cons rfl (fun K hK=>?_) ?_
     ·skip
      go_simp;refine hK _ _ ?_;clear hK K;refine wpAnyIn_ready (rs:=[7]) (by kernel_rfl) (by simp) ?_;refine AllReadyIn.cons rfl (fun K hK=>?_) ?_
      ·skip
       rw [if_pos (by rfl)];refine iN _ _ _ 64 64 rfl _ _ rfl rfl _ _ hr ?_;refine hK _ _ ?_;clear hK K;refine wpAnyIn_ready (rs:=[8]) (by kernel_rfl) (by simp) ?_;refine AllReadyIn.cons rfl (fun K hK=>?_) ?_
       ·skip
        go_simp;refine hK _ _ ?_;clear hK K;refine wpAnyIn_done (by kernel_rfl) ?_ _;exact ⟨((bK bd).trans hk2).from _,(bN bd).trans hb2,⟨_,Kq,LX,trivial⟩,hB.trans ((bN bd).trans hb2)⟩
       exact AllReadyIn.nil
      exact AllReadyIn.nil
     exact AllReadyIn.nil
    exact AllReadyIn.nil
   exact AllReadyIn.nil
  exact AllReadyIn.nil
 case done =>
  rintro D ys W hD rfl ⟨⟨v,hv,hrow,-⟩,hB⟩ hK;obtain ⟨A9,Qd,rfl,_,_,hat⟩:=dH.at_ hrow;have hc:=hv.cell;gi_wp2;refine ⟨by simp,.inl ⟨_,_,rfl,run_takeDeferred hK,?_⟩⟩;have Dx:=belowK_b (n₀:=n₀) (w:=W0) (by omega) W D _ (.deferred none) (by omega) hK rfl rfl;have hE:Ext w (W.putObj D (.deferred none)):=Below.trans (show Below w.heap.size w W2 from G2) ((hB.trans Dx).mono hnw);refine ⟨.tuple #[.slice A9 (bo S m.af).length Qd,.int .i64 0],by simp[results,Tryz.results150,go_sem],A9,Qd,rfl,⟨?_,fun y hy=>Nat.le_trans hnw (xv hrow y hy)⟩,hE⟩;have AX:=World.ownsRow.kept hrow (grownBy_putObj' W D (.deferred none)) (by
   rcases hrow.2 with⟨h1,_⟩|⟨g9,c9,cur,h1,_,hgb,_⟩
   ·exact .inl (by rw[h1];rfl)
   ·refine .inr fun e'=>?_
    rw [h1]at e';obtain rfl:g9=D:=by simpa [Value.ownBlock]using e'
    rw [hgb]at hK;cases hK)
  obtain ⟨A8,acv,e8,_,_,Hh⟩:=dH.at_ AX;injection e8 with e8;rw [e8];exact Hh
 case stop =>
  rintro D c pre W hD hp hx hK;exact hx.elim
end
open Go.ChangeShapes Go.WideShapes Go.ChangeAt Go.RowKit
theorem Dy {S:ae} {l:List ay} {k:Nat} (h:k<l.length):bo S (l.take (k+1))=bo S (l.take k)++[(l[k].1,ar S.ah l[k].2)]:=by
 rw [List.take_succ_eq_append_getElem h,iR]
theorem bh.XL {w:World} {A:Option Addr} {l:List ay} (h:bh w A l) {k:Nat} (hk:k<l.length):∃b o,A=some ⟨b,o,none⟩/\b<w.heap.size/\w.cell? ⟨b,o+k*2,none⟩=some (.string (bs l[k].1))/\w.cell? ⟨b,o+k*2+1,none⟩=some (.int .i64 l[k].2):=by
 rcases h with h|⟨b,o,hA,hb,hc⟩
 ·rw[h]at hk;cases hk
 ·exact⟨b,o,hA,hb,hc k hk⟩
theorem ko {P:Program} {ops:Array Oper} {o:Oper} {a:Act} {K:Act->World->Prop} {Q:Exit->Act->World->Prop} {E:Prop} (w:World) (hgd:o.guard=none) (s x:Operand) (t:TypeId)
  (ho:o.op=.call {callee:=.builtin .append,args:=#[s,x],argTypes:=#[t,t]}) (vs vx:Value) (hs:a.eval s=vs) (hx:a.eval x=vx) {R:Value->World->Prop}
  (hr:∃v' w',(Builtin.append_ #[t,t] o.type #[vs,vx]).run P w=.ok v' w'/\R v' w') (h:∀v' w',R v' w'->K (a.put o.dst v') w') :
  if Region.wanted o (yielded ops a.tmps)=true then Oper.wp P o a w K Q else E:=by
 have hw:Region.wanted o (yielded ops a.tmps)=true:=by simp[Region.wanted,hgd]
 rw [if_pos hw];obtain ⟨v',w',h1,h2⟩:=hr;unfold Oper.wp execOp;simp only[ho,resolve,invoke,builtin,Sem.run_bind,Sem.run_pure,Result.andThen_ok,List.map_toArray,List.map_cons,List.map_nil,hs,hx,h1];exact h v' w' h2
theorem dH.XM {w w':World} {b:Nat} {v:Value} {k:Nat} {xs:List Value} (h:w.ownsRow b 153 2 v k xs) (hE:Ext w w'):w'.ownsRow b 153 2 v k xs:=
 World.ownsRow.kept h hE.grownBy (by cases v.ownBlock<;>simp)
theorem Hi (B:Nat) (g:cI) (S:ae) (X:cP) (cu cg no:Int) (w:World) (h:gR w B g S X) (hl:S.nodes.length<=1000000) (hu:aD S.nodes S.last) (hd:S.ah.length<=1000) (ES:(bf S cu cg no 1 4).af.length<=1000000) :
  Calls Tryz.prog 136 #[.pointer (some ⟨g.bF,0,none⟩),.agg #[cu,cg],.int .i64 no] w (qC w (bo S (bf S cu cg no 1 4).af) (bt S cu cg no 1 4)):=by
 have E0:Ext w (w.alloc (.cells #[cu,cg] 27)):=(Ext.refl _).alloc _;go_enter Tryz.func136,Tryz.ntmps136;go_wp2_with fail;refine (xq B g S X cu cg no 1 4 _ (h.ext E0) hl hu).mono ?_;rintro e w1 ⟨A1,c1,rfl,tN,b1⟩;obtain⟨m,hm⟩:=zE (bf S cu cg no 1 4);obtain⟨x,hx⟩:=zE (bt S cu cg no 1 4);rw [<-hm]at ES tN;rw [<-hm,<-hx];have XK:=tN.af;have F1:=E0.trans b1;obtain ⟨W2,cQ⟩:∃W,W=w1.alloc (.cells #[m.no,m.dev,m.kind,m.mode,m.uid,m.gid,m.mtime,m.ctime,m.ag,m.up,bs m.data,.slice A1 m.af.length c1] 66):=⟨_,rfl⟩;obtain ⟨b8,fM⟩:∃b,b=w1.heap.size:=⟨_,rfl⟩;have N2:Has W2 b8 (.cells #[m.no,m.dev,m.kind,m.mode,m.uid,m.gid,m.mtime,m.ctime,m.ag,m.up,bs m.data,.slice A1 m.af.length c1] 66):=by rw[cQ,fM];exact Has.new _ _
 have F2:Ext w W2:=by rw[cQ];exact F1.alloc _
 have mi:bh W2 A1 m.af:=XK.af.ext (by rw[cQ];exact (Ext.refl _).alloc _);have Hj:=zH hm;have JB:=zH hx;clear hm hx;obtain⟨es,hes⟩:=zE m.af;rw [<-hes]at ES mi;obtain⟨n,hn⟩:=zE es.length;rw [<-hn]at ES;have HN:=zH hn;have c11:W2.cell? ⟨b8,11,none⟩=some (.slice A1 n c1):=by rw[hn,hes];exact N2.cD.2.2.2.2.2.2.2.2.2.2.2
 have z8:=N2.lt;have HES:=zH hes;clear XK tN hes hn N2 E0 b1;go_upto_region 2 with fail;rw [<-cQ,<-fM];rw [<-HES.out];clear cQ fM F1;go_wp2_with fail;have HM:=zH ES;obtain ⟨i0,hi,hz0,hz1,hz2⟩:=info_parts jT;clear hi hz0 hz1 hz2;go_loopw [10,11] (fun u i wr=>∃k:Nat,k<=n/\i=.int .i64 k/\wr.ownsRow W2.heap.size 153 2 u (bo S (es.take k)).length (aq (bo S (es.take k)))/\Ext W2 wr) (fun _ i _=>n-(intOf i).toNat)
 case atStart=>exact⟨0,Nat.zero_le _,rfl,World.ownsRow_nil _ _ _ _,Ext.refl _⟩
 case round =>
  obtain ⟨k,hk,rfl,hown,hE⟩:=hrel;have q11:wr.cell? ⟨b8,11,none⟩=some (.slice A1 n c1):=(hE.cell z8).trans c11;have FC:(bo S (es.take k)).length<=2000000:=by rw[gG,List.length_take];omega
  by_cases hlt:(k:Int)<n
  ·have dI:k<es.length:=by have:=HN.out;omega
   obtain ⟨b,o,rfl,hb,e0,e1⟩:=mi.XL dI;have y1:(0:Int)<=(k:Int):=Int.natCast_nonneg _;have hs:=Dy (S:=S) dI
   generalize es[k]=z at e0 e1 hs
   obtain⟨L,hL⟩:=zE (bo S (es.take k));rw [<-hL]at hown hs FC;have HS:=zH hs;have HOW:=zH hown;have KS:Hid (∀w',Ext W2 w'->(Ext W2 w'/\w'.cell? ⟨b8,11,none⟩=some (.slice (some ⟨b,o,none⟩) n c1)/\w'.cell? ⟨b,o+k*2,none⟩=some (.string (bs z.1))/\w'.cell? ⟨b,o+k*2+1,none⟩=some (.int .i64 z.2))):=fun w' h'=>⟨h',(h'.cell z8).trans c11,(h'.cell hb).trans e0,(h'.cell hb).trans e1⟩
   have bL:Ext W2 wr.drew:=hE.drew;have hFw:∀w',Ext W2 w'->gR w' B g S X:=fun w' h'=>h.ext (F2.trans h')
   have HFW:=zH hFw;clear hs hL hown hFw;have AY:IntKind.i64.wrap ((k:Int)+1)=(k:Int)+1:=IntWalk.i64_in _ (by omega);have XN:Hid (Ext wr wr.drew):=zH ((Ext.refl wr).drew);go_wp2_with fail;go_region_held3 (fun w'=>Ext W2 w'/\w'.cell? ⟨b8,11,none⟩=some (.slice (some ⟨b,o,none⟩) n c1)/\w'.cell? ⟨b,o+k*2,none⟩=some (.string (bs z.1))/\w'.cell? ⟨b,o+k*2+1,none⟩=some (.int .i64 z.2))
    ((first|exact KS.out _ bL|exact KS.out _ (bL.trans zD)|exact KS.out _ ((bL.trans zD).alloc _)|exact KS.out _ Sg))
    ((first|(go_at_call 84;refine (g_ B g S X _ _ (HFW.out _ bL) hd).mono ?_;rintro e wd ⟨rfl,zD⟩)|(refine ko _ (by rfl) _ _ 64 (by rfl) _ _ (by rfl) (by rfl) (tO (z.1,ar S.ah z.2) wd (dH.XM HOW.out (XN.out.trans zD)) (bL.trans zD).size FC) ?_;rintro v9 w9 ⟨JC,JD⟩;have Sg:Ext W2 w9:=((bL.trans zD).alloc _).grown JD (fun g hv=>(World.ownsRow.lt (dH.XM HOW.out (XN.out.trans zD)) g hv).1))))
   rw [<-HS.out]at JC;have XO:=zH JC;clear JC JD;go_wp2_with fail;go_roundw
   case rel=>exact⟨k+1,by omega,by go_num,XO.out,Sg⟩
   case measure=>simp[intOf];omega
  ·have Ah:k=n:=by omega
   have hf:Hid (bo S (es.take k)=bo S es):=by show _=_;rw[Ah,HN.out,List.take_length]
   obtain ⟨A9,Qd,rfl,_,_,hat⟩:=dH.at_ hown;have JE:=zH hat;have XQ:=zH (xv hown);have HE:=zH (F2.trans hE);clear hown hat hE Ah;go_wp2_with fail;go_ret2;refine ⟨A9,Qd,?_,?_,HE.out⟩
   ·rw[<-JB.out,<-Hj.out,<-HES.out,<-hf.out];rfl
   ·rw[<-Hj.out,<-HES.out,<-hf.out];exact⟨JE.out,fun y hy=>Nat.le_trans F2.size (XQ.out y hy)⟩
def FE (n:ai):List Value:=[.int .i64 n.no,.int .i64 n.dev,.int .i64 n.kind,.int .i64 n.mode,.int .i64 n.uid,.int .i64 n.gid,.int .i64 n.ag,.int .i64 n.data.length,.int .i64 n.mtime,.int .i64 n.ctime]
def gU (n:ai):Value:=.agg #[n.no,n.dev,n.kind,n.mode,n.uid,n.gid,n.ag,.int .i64 n.data.length,n.mtime,n.ctime]
def cT (S:ae) (no:Int):Int:=if aJ S.nodes no=true then 0 else 5
theorem uR:(Tryz.prog.info? 95).map (·.size)=some 10:=by kernel_rfl
theorem Has.Qe {w:World} {b:Nat} {a0 a1 a2 a3 a4 a5 a6 a7 a8 a9:Value} {t:TypeId} (h:Has w b (.cells #[a0,a1,a2,a3,a4,a5,a6,a7,a8,a9] t)) (n:ai):Has (w.setCells b 0 (FE n)) b (.cells #[n.no,n.dev,n.kind,n.mode,n.uid,n.gid,n.ag,.int .i64 n.data.length,n.mtime,n.ctime] t):=by
 have h0:Has (w.setCell ⟨b,0,none⟩ (.int .i64 n.no)) b (.cells #[n.no,a1,a2,a3,a4,a5,a6,a7,a8,a9] t):=by have:=Has.setCell h 0 (.int .i64 n.no);simpa using this
 have h1:Has ((w.setCell ⟨b,0,none⟩ (.int .i64 n.no)).setCell ⟨b,1,none⟩ (.int .i64 n.dev)) b (.cells #[n.no,n.dev,a2,a3,a4,a5,a6,a7,a8,a9] t):=by have:=Has.setCell h0 1 (.int .i64 n.dev);simpa using this
 have h2:Has (((w.setCell ⟨b,0,none⟩ (.int .i64 n.no)).setCell ⟨b,1,none⟩ (.int .i64 n.dev)).setCell ⟨b,2,none⟩ (.int .i64 n.kind)) b (.cells #[n.no,n.dev,n.kind,a3,a4,a5,a6,a7,a8,a9] t):=by have:=Has.setCell h1 2 (.int .i64 n.kind);simpa using this
 have h3:Has ((((w.setCell ⟨b,0,none⟩ (.int .i64 n.no)).setCell ⟨b,1,none⟩ (.int .i64 n.dev)).setCell ⟨b,2,none⟩ (.int .i64 n.kind)).setCell ⟨b,3,none⟩ (.int .i64 n.mode)) b (.cells #[n.no,n.dev,n.kind,n.mode,a4,a5,a6,a7,a8,a9] t):=by have:=Has.setCell h2 3 (.int .i64 n.mode);simpa using this
 have h4:Has (((((w.setCell ⟨b,0,none⟩ (.int .i64 n.no)).setCell ⟨b,1,none⟩ (.int .i64 n.dev)).setCell ⟨b,2,none⟩ (.int .i64 n.kind)).setCell ⟨b,3,none⟩ (.int .i64 n.mode)).setCell ⟨b,4,none⟩ (.int .i64 n.uid)) b (.cells #[n.no,n.dev,n.kind,n.mode,n.uid,a5,a6,a7,a8,a9] t):=by have:=Has.setCell h3 4 (.int .i64 n.uid);simpa using this
 have h5:Has ((((((w.setCell ⟨b,0,none⟩ (.int .i64 n.no)).setCell ⟨b,1,none⟩ (.int .i64 n.dev)).setCell ⟨b,2,none⟩ (.int .i64 n.kind)).setCell ⟨b,3,none⟩ (.int .i64 n.mode)).setCell ⟨b,4,none⟩ (.int .i64 n.uid)).setCell ⟨b,5,none⟩ (.int .i64 n.gid)) b (.cells #[n.no,n.dev,n.kind,n.mode,n.uid,n.gid,a6,a7,a8,a9] t):=by have:=Has.setCell h4 5 (.int .i64 n.gid);simpa using this
 have h6:Has (((((((w.setCell ⟨b,0,none⟩ (.int .i64 n.no)).setCell ⟨b,1,none⟩ (.int .i64 n.dev)).setCell ⟨b,2,none⟩ (.int .i64 n.kind)).setCell ⟨b,3,none⟩ (.int .i64 n.mode)).setCell ⟨b,4,none⟩ (.int .i64 n.uid)).setCell ⟨b,5,none⟩ (.int .i64 n.gid)).setCell ⟨b,6,none⟩ (.int .i64 n.ag)) b (.cells #[n.no,n.dev,n.kind,n.mode,n.uid,n.gid,n.ag,a7,a8,a9] t):=by have:=Has.setCell h5 6 (.int .i64 n.ag);simpa using this
 have h7:Has ((((((((w.setCell ⟨b,0,none⟩ (.int .i64 n.no)).setCell ⟨b,1,none⟩ (.int .i64 n.dev)).setCell ⟨b,2,none⟩ (.int .i64 n.kind)).setCell ⟨b,3,none⟩ (.int .i64 n.mode)).setCell ⟨b,4,none⟩ (.int .i64 n.uid)).setCell ⟨b,5,none⟩ (.int .i64 n.gid)).setCell ⟨b,6,none⟩ (.int .i64 n.ag)).setCell ⟨b,7,none⟩ (.int .i64 n.data.length)) b (.cells #[n.no,n.dev,n.kind,n.mode,n.uid,n.gid,n.ag,.int .i64 n.data.length,a8,a9] t):=by have:=Has.setCell h6 7 (.int .i64 n.data.length);simpa using this
 have h8:Has (((((((((w.setCell ⟨b,0,none⟩ (.int .i64 n.no)).setCell ⟨b,1,none⟩ (.int .i64 n.dev)).setCell ⟨b,2,none⟩ (.int .i64 n.kind)).setCell ⟨b,3,none⟩ (.int .i64 n.mode)).setCell ⟨b,4,none⟩ (.int .i64 n.uid)).setCell ⟨b,5,none⟩ (.int .i64 n.gid)).setCell ⟨b,6,none⟩ (.int .i64 n.ag)).setCell ⟨b,7,none⟩ (.int .i64 n.data.length)).setCell ⟨b,8,none⟩ (.int .i64 n.mtime)) b (.cells #[n.no,n.dev,n.kind,n.mode,n.uid,n.gid,n.ag,.int .i64 n.data.length,n.mtime,a9] t):=by have:=Has.setCell h7 8 (.int .i64 n.mtime);simpa using this
 have h9:Has ((((((((((w.setCell ⟨b,0,none⟩ (.int .i64 n.no)).setCell ⟨b,1,none⟩ (.int .i64 n.dev)).setCell ⟨b,2,none⟩ (.int .i64 n.kind)).setCell ⟨b,3,none⟩ (.int .i64 n.mode)).setCell ⟨b,4,none⟩ (.int .i64 n.uid)).setCell ⟨b,5,none⟩ (.int .i64 n.gid)).setCell ⟨b,6,none⟩ (.int .i64 n.ag)).setCell ⟨b,7,none⟩ (.int .i64 n.data.length)).setCell ⟨b,8,none⟩ (.int .i64 n.mtime)).setCell ⟨b,9,none⟩ (.int .i64 n.ctime)) b (.cells #[n.no,n.dev,n.kind,n.mode,n.uid,n.gid,n.ag,.int .i64 n.data.length,n.mtime,n.ctime] t):=by have:=Has.setCell h8 9 (.int .i64 n.ctime);simpa using this
 exact h9
theorem LY (n:ai):(#[n.no,n.dev,n.kind,n.mode,n.uid,n.gid,n.ag,.int .i64 n.data.length,n.mtime,n.ctime]:Array Value).all (·.oneCell')=true:=all_oneCell_toArray (cs:=FE n) fun u hu=>by
 simp only[FE,List.mem_cons,List.not_mem_nil,or_false]at hu;rcases hu with rfl|rfl|rfl|rfl|rfl|rfl|rfl|rfl|rfl|rfl<;>rfl
theorem cY {ops:Array Oper} {rest:List Oper} {op:Oper} {a:Act} {w:World} {Q:Exit->Act->World->Prop} (hgd:op.guard=none) (x y:Operand) (ho:op.op=.store 95 x y)
  (b:Nat) (n:ai) (hx:a.eval x=.pointer (some ⟨b,0,none⟩)) (hy:a.eval y=.agg #[n.no,n.dev,n.kind,n.mode,n.uid,n.gid,n.ag,.int .i64 n.data.length,n.mtime,n.ctime]) {m:ai} (hb:Has w b (.cells #[m.no,m.dev,m.kind,m.mode,m.uid,m.gid,m.ag,.int .i64 m.data.length,m.mtime,m.ctime] 95))
  (h:∀w',Has w' b (.cells #[n.no,n.dev,n.kind,n.mode,n.uid,n.gid,n.ag,.int .i64 n.data.length,n.mtime,n.ctime] 95)->Only [b] w w'->wpList Tryz.prog ops Q rest (a.put op.dst undef) w'):wpList Tryz.prog ops Q (op::rest) a w:=by
 refine wpList_store_mid hgd 95 x y ho b 0 #[n.no,n.dev,n.kind,n.mode,n.uid,n.gid,n.ag,.int .i64 n.data.length,n.mtime,n.ctime] hx hy hb.there uR (LY n) ?_;exact h _ (hb.Qe n) (bH (FE n) 0 w)
theorem j5 {fn:Func} {p t:Tmp} (h:fn.results=#[.cell p 95,.tmp t]) (tmps:Array Value) (w:World) (g:Nat) (n:ai) (v:Value)
  (hp:tmps.getD p undef=.pointer (some ⟨g,0,none⟩)) (hv:tmps.getD t undef=v) (hg:Has w g (.cells #[n.no,n.dev,n.kind,n.mode,n.uid,n.gid,n.ag,.int .i64 n.data.length,n.mtime,n.ctime] 95)) :
  (results fn tmps).run Tryz.prog w=.ok (.tuple #[.agg #[n.no,n.dev,n.kind,n.mode,n.uid,n.gid,n.ag,.int .i64 n.data.length,n.mtime,n.ctime],v]) w:=
 kJ h tmps w g 95 _ _ v hp hv hg Tryz.underlying95 rfl uR
theorem Hk (B:Nat) (g:bG) (S:ae) (no:Int) (w:World) (h:dM w B g S) (hd:0<S.ah.length) :
  Calls Tryz.prog 93 #[.pointer (some ⟨g.bW,0,none⟩),.int .i64 no] w (aI w (.tuple #[gU (ac S.nodes no),.int .i64 (cT S no)])):=by
 obtain ⟨W0,aH⟩:∃W,W=w.alloc (.cells #[.int .i64 0,.int .i64 0,.int .i64 0,.int .i64 0,.int .i64 0,.int .i64 0,.int .i64 0,.int .i64 0,.int .i64 0,.int .i64 0] 95):=⟨_,rfl⟩;obtain ⟨b0,ez⟩:∃b,b=w.heap.size:=⟨_,rfl⟩;have E0:Ext w W0:=by rw[aH];exact (Ext.refl _).alloc _
 have R0:Has W0 b0 (.cells #[aa.no,aa.dev,aa.kind,aa.mode,aa.uid,aa.gid,aa.ag,.int .i64 aa.data.length,aa.mtime,aa.ctime] 95):=by rw[aH,ez];exact Has.new _ _
 have o7:w.heap.size<=b0:=by omega
 have h0:=h.ext E0;go_enter Tryz.func93,Tryz.ntmps93;go_upto_region 1 with fail;rw [show w.alloc _=W0 from aH.symm,<-ez];clear aH ez;go_wp2_with fail;refine (lL B g S _ h0 hd).mono ?_;rintro e w1 ⟨rfl,b1⟩;have R1:=R0.ext b1;have E1:=E0.trans b1;have h1:=h0.ext b1;have td:((S.ah.length:Int) == 0)=false:=by simp;intro e;rw[e]at hd;exact absurd hd (by simp)
 obtain ⟨_,_,cd,hWr,_⟩:=id h1;have v0:w1.cell? ⟨g.bW,0,none⟩=some (.pointer (some ⟨g.bT,0,none⟩)):=hWr.cell 0;have vz:=hWr.lt;clear hWr;go_wp2_with fail;refine (fK B g.bT g.bM S.nodes S.last no _ h1.2.1).mono ?_;rintro e w2 ⟨A2,k2,rfl,gv,b2⟩;have R2:=R1.ext b2;have E2:=E1.trans b2;obtain⟨m,hm⟩:=zE (ac S.nodes no);obtain⟨i,hi⟩:=zE (aJ S.nodes no);have hE:cT S no=if i=true then 0 else 5:=by rw[hi];rfl
 have hZ:i=false->m=aa:=fun e=>by rw[hm];exact (aU (hi.symm.trans e)).1
 rw [<-hm,<-hi];clear gv;obtain⟨W3,cj⟩:=zE (w2.alloc (.cells #[m.no,m.dev,m.kind,m.mode,m.uid,m.gid,m.mtime,m.ctime,m.ag,m.up,bs m.data,.slice A2 m.af.length k2] 66));obtain⟨b8,fM⟩:=zE w2.heap.size;have h_:Ext w2 W3:=by rw[cj];exact (Ext.refl _).alloc _
 have N3:Has W3 b8 (.cells #[m.no,m.dev,m.kind,m.mode,m.uid,m.gid,m.mtime,m.ctime,m.ag,m.up,bs m.data,.slice A2 m.af.length k2] 66):=by rw[cj,fM];exact Has.new _ _
 have R3:=R2.ext h_;have E3:=E2.trans h_;obtain⟨e0,wv⟩:=zE (cT S no);rw [<-wv];rw [<-wv]at hE;have HE:=zH hE;have HZ:=zH hZ;have Hj:=zH hm;have xx:=zH wv;clear hm hi hE hZ wv v0 vz;go_upto_region 4 with fail;rw [<-cj,<-fM];clear cj fM h_ R1 R2 E1 E2;unfold gU
 cases i
 ·have e1:Hid (e0=5):=zH (HE.out.trans rfl)
  have e2:Hid (m=aa):=zH (HZ.out rfl);go_wp2_with (refine cY rfl _ _ rfl b0 aa rfl rfl R3 ?_;intro w9 R9 O9);refine bodyPost_ret (v:=.tuple #[.agg #[aa.no,aa.dev,aa.kind,aa.mode,aa.uid,aa.gid,aa.ag,.int .i64 aa.data.length,aa.mtime,aa.ctime],.int .i64 5]) (j5 Tryz.results93 _ _ b0 aa _ rfl rfl R9) rfl ?_;refine ⟨by (try rw[<-Hj.out]);(try rw[<-xx.out]);rw[e1.out,e2.out];rfl,O9.after E3 (by simpa using o7)⟩
 ·have e1:Hid (e0=0):=zH (HE.out.trans rfl)
  obtain ⟨x0,x1,x2,x3,x4,x5,x6,x7,x8,x9,ki,ke⟩:=N3.cD;have xz:=N3.lt;go_wp2_with (refine cY rfl _ _ rfl b0 m rfl rfl R3 ?_;intro w9 R9 O9);refine bodyPost_ret (v:=.tuple #[.agg #[m.no,m.dev,m.kind,m.mode,m.uid,m.gid,m.ag,.int .i64 m.data.length,m.mtime,m.ctime],.int .i64 0]) (j5 Tryz.results93 _ _ b0 m _ rfl rfl R9) rfl ?_;refine ⟨by (try rw[<-Hj.out]);(try rw[<-xx.out]);rw[e1.out];rfl,O9.after E3 (by simpa using o7)⟩
theorem Hl (B:Nat) (g:cI) (S:ae) (X:cP) (no:Int) (w:World) (h:gR w B g S X) (hl:S.nodes.length<=1000000) (hu:aD S.nodes S.last) :
  Calls Tryz.prog 135 #[.pointer (some ⟨g.bF,0,none⟩),.int .i64 no] w (aI w (.tuple #[gU (ac S.nodes no),.int .i64 (cT S no)])):=by
 obtain ⟨W0,aH⟩:∃W,W=w.alloc (.cells #[.int .i64 0,.int .i64 0,.int .i64 0,.int .i64 0,.int .i64 0,.int .i64 0,.int .i64 0,.int .i64 0,.int .i64 0,.int .i64 0] 95):=⟨_,rfl⟩;obtain ⟨b0,ez⟩:∃b,b=w.heap.size:=⟨_,rfl⟩;have E0:Ext w W0:=by rw[aH];exact (Ext.refl _).alloc _
 have R0:Has W0 b0 (.cells #[aa.no,aa.dev,aa.kind,aa.mode,aa.uid,aa.gid,aa.ag,.int .i64 aa.data.length,aa.mtime,aa.ctime] 95):=by rw[aH,ez];exact Has.new _ _
 have o7:w.heap.size<=b0:=by omega
 have h0:=h.ext E0;go_enter Tryz.func135,Tryz.ntmps135;go_upto_region 1 with fail;rw [show w.alloc _=W0 from aH.symm,<-ez];clear aH ez;have R1:=R0;have E1:=E0;go_wp2_with fail;refine (eK B g S X no _ h0 hl hu).mono ?_;rintro e w2 ⟨A2,k2,rfl,gv,b2⟩;have R2:=R1.ext b2;have E2:=E1.trans b2;obtain⟨m,hm⟩:=zE (ac S.nodes no);have wu:((ac S.nodes no).no == 0)=!aJ S.nodes no:=by
  cases hi:aJ S.nodes no
  ·rw[(aU hi).1];rfl
  ·have h1:=(hu.2 _ (ak hi).2.2).1
   simp;omega
 rw [<-hm]at wu;obtain⟨i,hi⟩:=zE (aJ S.nodes no);have hE:cT S no=if i=true then 0 else 5:=by rw[hi];rfl
 have hZ:i=false->m=aa:=fun e=>by rw[hm];exact (aU (hi.symm.trans e)).1
 rw [<-hm];rw [<-hi]at wu;clear gv;obtain⟨W3,cj⟩:=zE (w2.alloc (.cells #[m.no,m.dev,m.kind,m.mode,m.uid,m.gid,m.mtime,m.ctime,m.ag,m.up,bs m.data,.slice A2 m.af.length k2] 66));obtain⟨b8,fM⟩:=zE w2.heap.size;have h_:Ext w2 W3:=by rw[cj];exact (Ext.refl _).alloc _
 have N3:Has W3 b8 (.cells #[m.no,m.dev,m.kind,m.mode,m.uid,m.gid,m.mtime,m.ctime,m.ag,m.up,bs m.data,.slice A2 m.af.length k2] 66):=by rw[cj,fM];exact Has.new _ _
 have R3:=R2.ext h_;have E3:=E2.trans h_;obtain⟨e0,wv⟩:=zE (cT S no);rw [<-wv];rw [<-wv]at hE;have HE:=zH hE;have HZ:=zH hZ;have Hj:=zH hm;have xx:=zH wv;have HNZ:=zH wu;clear hm hi hE hZ wv wu;go_upto_region 2 with fail;rw [<-cj,<-fM];clear cj fM h_ R1 R2 E1 E2;unfold gU
 cases i
 ·have e1:Hid (e0=5):=zH (HE.out.trans rfl)
  have e2:Hid (m=aa):=zH (HZ.out rfl);have tn:(m.no == 0)=true:=HNZ.out;have k0:W3.cell? ⟨b8,0,none⟩=some (.int .i64 m.no):=N3.cell 0;have kz:=N3.lt;go_wp2_with (refine cY rfl _ _ rfl b0 aa rfl rfl R3 ?_;intro w9 R9 O9);refine bodyPost_ret (v:=.tuple #[.agg #[aa.no,aa.dev,aa.kind,aa.mode,aa.uid,aa.gid,aa.ag,.int .i64 aa.data.length,aa.mtime,aa.ctime],.int .i64 5]) (j5 Tryz.results135 _ _ b0 aa _ rfl rfl R9) rfl ?_;refine ⟨by (try rw[<-Hj.out]);(try rw[<-xx.out]);rw[e1.out,e2.out];rfl,O9.after E3 (by simpa using o7)⟩
 ·have e1:Hid (e0=0):=zH (HE.out.trans rfl)
  have tn:(m.no == 0)=false:=HNZ.out;obtain ⟨x0,x1,x2,x3,x4,x5,x6,x7,x8,x9,ki,ke⟩:=N3.cD;have xz:=N3.lt;go_wp2_with (refine cY rfl _ _ rfl b0 m rfl rfl R3 ?_;intro w9 R9 O9);refine bodyPost_ret (v:=.tuple #[.agg #[m.no,m.dev,m.kind,m.mode,m.uid,m.gid,m.ag,.int .i64 m.data.length,m.mtime,m.ctime],.int .i64 0]) (j5 Tryz.results135 _ _ b0 m _ rfl rfl R9) rfl ?_;refine ⟨by (try rw[<-Hj.out]);(try rw[<-xx.out]);rw[e1.out];rfl,O9.after E3 (by simpa using o7)⟩
def dR (w:World) (b:Nat) (g:bG) (now count:Int) (A:Option Addr) (len cap:Nat) (dead:Bool):Prop:=
 Has w b (.cells #[.pointer (some ⟨g.bW,0,none⟩),.int .i64 now,.int .i64 count,.slice A len cap,.bool dead] 102)
theorem dR.ext {w w':World} {b:Nat} {g:bG} {now count:Int} {A:Option Addr} {len cap:Nat} {dead:Bool} (h:dR w b g now count A len cap dead) (hE:Ext w w'):dR w' b g now count A len cap dead:=Has.ext h hE
theorem FF {b:Nat} {g:bG} {now count:Int} {A:Option Addr} {len cap:Nat} {dead:Bool} (w:World) (h:dR w b g now count A len cap dead):Calls Tryz.prog 78 #[.pointer (some ⟨b,0,none⟩)] w (aI w (.bool false)):=by
 have c0:=Has.cell h 0;have z:=Has.lt h;go_enter Tryz.func78,Tryz.ntmps78;go_wp2_with fail;go_ret;exact aI.mk rfl (Ext.refl _)
theorem FG {b:Nat} {g:bG} {now count:Int} {A:Option Addr} {len cap:Nat} {dead:Bool} (w:World) (h:dR w b g now count A len cap dead):Calls Tryz.prog 54 #[.pointer (some ⟨b,0,none⟩)] w (aI w (.int .i64 (if dead=true then 20 else 0))):=by
 cases dead
 ·show Calls _ _ _ _ (aI w (.int .i64 0))
  go_enter Tryz.func54,Tryz.ntmps54;go_wp2_with fail;refine (FF _ h).mono ?_;rintro e w1 ⟨rfl,b1⟩;have h1:=h.ext b1;have c4:=Has.cell h1 4;have z:=Has.lt h1;go_wp2_with fail;go_ret;exact aI.mk rfl b1
 ·show Calls _ _ _ _ (aI w (.int .i64 20))
  go_enter Tryz.func54,Tryz.ntmps54;go_wp2_with fail;refine (FF _ h).mono ?_;rintro e w1 ⟨rfl,b1⟩;have h1:=h.ext b1;have c4:=Has.cell h1 4;have z:=Has.lt h1;go_wp2_with fail;go_ret;exact aI.mk rfl b1
def cK (w:World) (A:Option Addr) (l:List (Int×Int)):Prop:=
 l = []\/∃b o,A=some ⟨b,o,none⟩/\b<w.heap.size/\∀k,(h:k<l.length)->w.cell? ⟨b,o+k*2,none⟩=some (.int .i64 l[k].1)/\w.cell? ⟨b,o+k*2+1,none⟩=some (.int .i64 l[k].2)
theorem cK.ext {w w':World} {A:Option Addr} {l:List (Int×Int)} (h:cK w A l) (k:Ext w w'):cK w' A l:=by
 rcases h with h|⟨b,o,hA,hb,hc⟩
 ·exact .inl h
 ·exact .inr ⟨b,o,hA,by have:=k.size;omega,fun i hi=>⟨(k.cell hb).trans (hc i hi).1,(k.cell hb).trans (hc i hi).2⟩⟩
def cZ (A:Option Addr) (b:Nat):Prop:=∀x,A=some x->x.block≠b
theorem cK.only {w w':World} {A:Option Addr} {l:List (Int×Int)} {L:List Nat} (h:cK w A l) (o:Only L w w') (hL:∀b∈L,cZ A b):cK w' A l:=by
 rcases h with h|⟨b,o',hA,hb,hc⟩
 ·exact .inl h
 ·have hn:b∉L:=fun hb'=>hL b hb' _ hA rfl
  have e:w'.heap[b]?=w.heap[b]?:=o.block b hb hn;have ec:∀j,w'.cell? ⟨b,j,none⟩=w.cell? ⟨b,j,none⟩:=fun j=>by simp[World.cell?,e]
  exact .inr ⟨b,o',hA,by have:=o.size;omega,fun i hi=>⟨(ec _).trans (hc i hi).1,(ec _).trans (hc i hi).2⟩⟩
def uS (l:List (Int×Int)) (c:Int):Option (Int×Int):=l.find? fun x=>x.1 == c
def iS (l:List (Int×Int)) (c:Int):Int:=match uS l c with|some x=>x.2|none=>0
def fV (l:List (Int×Int)) (c:Int):Bool:=match uS l c with|some x=>x.2 == 20|none=>false
theorem TH {l:List (Int×Int)} {c:Int} {k:Nat} (hk:k<l.length) (h0:uS (l.take k) c=none) (h1:l[k].1=c):iS l c=l[k].2/\fV l c=(l[k].2 == 20):=by
 have:uS l c=some l[k]:=by
  unfold uS at h0|-;have e:l.find? (fun x=>x.1 == c)=(l.take k++l.drop k).find? (fun x=>x.1 == c):=by rw[List.take_append_drop]
  rw [e,List.find?_append,h0,List.drop_eq_getElem_cons hk,List.find?_cons];simp [h1]
 unfold iS fV;rw [this];exact ⟨rfl,rfl⟩
theorem LZ {l:List (Int×Int)} {c:Int} {k:Nat} (hk:k<l.length) (h0:uS (l.take k) c=none) (h1:l[k].1≠c):uS (l.take (k+1)) c=none:=by
 unfold uS at h0|-;rw [List.take_succ_eq_append_getElem hk,List.find?_append,h0];simp [h1]
theorem eU {b:Nat} {g:bG} {now count:Int} {A:Option Addr} {cap:Nat} (l:List (Int×Int)) (w:World) (h:dR w b g now count A l.length cap false) (hp:cK w A l) (ho:cZ A b) (hl:l.length<=1000000) (hc0:0<=count) (hc1:count<=1000000) :
  Calls Tryz.prog 116 #[.pointer (some ⟨b,0,none⟩)] w (fun e w'=>e=.returned (.int .i64 (iS l (count+1)))/\dR w' b g now (count+1) A l.length cap (fV l (count+1))/\Only [b] w w'):=by
 obtain⟨n,hn⟩:=zE l.length;rw [<-hn]at h hl|-;have HN:=zH hn;obtain⟨c,hc⟩:=zE (count+1);have AY:IntKind.i64.wrap (count+1)=c:=by rw[hc];exact IntWalk.i64_in _ (by omega)
 rw [<-hc];clear hn hc;go_enter Tryz.func116,Tryz.ntmps116;go_wp2_with fail;refine (FG _ h).mono ?_;rintro e w1 ⟨rfl,b1⟩;have h1:=h.ext b1;have c2:=Has.cell h1 2;have f2:=Has.free h1 2;have z:=Has.lt h1;obtain⟨W2,cQ⟩:=zE (w1.setCell ⟨b,2,none⟩ (.int .i64 c));have h2:dR W2 b g now c A n cap false:=by rw[cQ];exact Has.setCell h1 2 (.int .i64 c)
 have O2:Only [b] w W2:=by rw[cQ];exact Only.pre b1 (Only.setCell _ _ _ _)
 have hp2:cK W2 A l:=hp.only O2 (fun x hx=>by simp at hx;subst hx;exact ho);have HW2:=zH cQ;clear cQ h1 h hp;go_upto_region 5 with fail;rw [<-HW2.out];have c3:=Has.cell h2 3;have z2:=Has.lt h2;clear c2 f2 z b1 HW2;go_wp2_with fail;go_loopw [23] (fun i wr=>∃k:Nat,i=.int .i64 k/\k<=n/\uS (l.take k) c=none/\dR wr b g now c A n cap false/\cK wr A l/\Only [b] w wr) (fun i _=>n-(intOf i).toNat)
 case atStart=>exact⟨0,rfl,Nat.zero_le _,rfl,h2,hp2,O2⟩
 case round =>
  obtain ⟨k,rfl,hk,h0,hS,hP,hO⟩:=hrel
  by_cases hlt:(k:Int)<n
  ·have dI:k<l.length:=by have:=HN.out;omega
   have hP':=hP;obtain ⟨bl,o,rfl,mV,hcs⟩:=hP'.resolve_left (by rintro rfl;simp at dI);obtain ⟨e0,e1⟩:=hcs k dI;have y1:(0:Int)<=(k:Int):=Int.natCast_nonneg _;have w3w:IntKind.i64.wrap ((k:Int)+1)=(k:Int)+1:=IntWalk.i64_in _ (by omega);have hat:=TH (c:=c) dI h0;have SX:=LZ (c:=c) dI h0;obtain⟨x,hx⟩:=zE (l[k]);rw [<-hx]at e0 e1 hat SX;obtain ⟨x1,x2⟩:=x;obtain⟨W5,jJ⟩:=zE (wr.alloc (.cells #[.int .i64 x1,.int .i64 x2] 216));obtain⟨b5,gQ⟩:=zE wr.heap.size;have E5:Ext wr W5:=by rw[jJ];exact (Ext.refl _).alloc _
   have N5:Has W5 b5 (.cells #[.int .i64 x1,.int .i64 x2] 216):=by rw[jJ,gQ];exact Has.new _ _
   have S5:=hS.ext E5;have P5:=hP.ext E5;have O5:=hO.ext E5;have qZ:b5≠b:=by have:=Has.lt hS;omega
   clear hcs hx;go_upto_region 8 with fail;rw [<-jJ,<-gQ];clear jJ gQ e0 e1;have d2:=Has.cell S5 2;have d4:=Has.cell S5 4;have f4:=Has.free S5 4;have dz:=Has.lt S5;have n0:=N5.cell 0;have n1:=N5.cell 1;have nz:=N5.lt
   by_cases hq:x1=c
   ·have t1:(x1 == c)=true:=by simpa using hq
    have JE:=zH (hat hq);clear hq hat SX;go_quiet (fail);go_wp2_with fail;go_ret;rw [JE.out.1,JE.out.2];refine ⟨rfl,?_,(O5.ext ((Ext.refl _).drewN _)).then (Only.setCell _ _ _ _)⟩;exact Has.setCell (S5.ext ((Ext.refl _).drewN _)) 4 (.bool (x2 == 20))
   ·have t1:(x1 == c)=false:=by simpa using hq
    have HNX:=zH (SX hq);clear hq hat SX;go_quiet (fail);go_wp2_with fail;go_roundw
    case rel=>exact⟨k+1,by go_num,by omega,HNX.out,S5.ext ((Ext.refl _).drewN _),P5.ext ((Ext.refl _).drewN _),O5.ext ((Ext.refl _).drewN _)⟩
    case measure=>simp[intOf];omega
  ·have Ah:k=n:=by omega
   have hf:uS l c=none:=by rw[Ah,HN.out,List.take_length]at h0;exact h0
   have he:iS l c=0/\fV l c=false:=by unfold iS fV;rw[hf];exact⟨rfl,rfl⟩
   have HE:=zH he;clear hf he h0 Ah;go_wp2_with fail;go_ret;exact ⟨by rw[HE.out.1];rfl,by rw[HE.out.2];exact hS,hO⟩
theorem aaU (b n:Int) (w:World) (hl:cx b n=true):Calls Tryz.prog 63 #[.int .i64 b,.int .i64 n] w (fun e w'=>∃(g:bG) (B s:Nat),w.heap.size<=B/\B<=s/\e=.returned (.tuple #[.pointer (some ⟨s,0,none⟩),.int .i64 0])/\dM w' B g (cq cJ 0 b n)/\dR w' s g 0 0 none 0 0 false/\s∉g.list/\Ext w w'):=by
 go_enter Tryz.func63,Tryz.ntmps63;go_wp2_with fail;refine (Ki w.heap.size b n w (Nat.le_refl _) hl).mono ?_;rintro e w1 ⟨g,rfl,K,E1⟩;go_wp2_with fail;go_ret2;refine ⟨g,w.heap.size,w1.heap.size,Nat.le_refl _,E1.size,rfl,K.ext ((Ext.refl _).alloc _),Has.new _ _,?_,E1.alloc _⟩;have h1:=K.lt;simp only[bG.list,List.mem_cons,List.not_mem_nil,or_false];omega
theorem dR.apart {w:World} {B b:Nat} {g:bG} {now count:Int} {A:Option Addr} {len cap:Nat} {dead:Bool} (h:dR w b g now count A len cap dead) (hB:B<=b):db w B [b]:=db.cons (fun x hx=>by cases hx) hB (Has.fJ h (by decide))
theorem dM.rY {w w':World} {B b:Nat} {g:bG} {S:ae} {now count:Int} {A:Option Addr} {len cap:Nat} {dead:Bool} (K:dM w B g S) (h:dR w b g now count A len cap dead) (hB:B<=b) (hb:b∉g.list) (o:Only [b] w w'):dM w' B g S:=
 K.only o (h.apart hB) fun x hx hx'=>by simp at hx';subst hx';exact hb hx
theorem dR.only {w w':World} {b:Nat} {g:bG} {now count:Int} {A:Option Addr} {len cap:Nat} {dead:Bool} {L:List Nat} (h:dR w b g now count A len cap dead) (o:Only L w w') (hb:b∉L):dR w' b g now count A len cap dead:=o.has h hb
theorem Hm:(Tryz.prog.info? 216).map (fun i=>(i.zero,i.size,i.bytes))=some (some (.agg #[.int .i64 0,.int .i64 0]),2,16):=by kernel_rfl
theorem L0 {b:Nat} {g:bG} {now count:Int} {A:Option Addr} {len cap:Nat} {no:Int} (w:World) (h:dR w b g now count A len cap true):Calls Tryz.prog 45 #[.pointer (some ⟨b,0,none⟩),.int .i64 no] w (aI w (.tuple #[gU aa,.int .i64 20])):=by
 obtain ⟨W0,aH⟩:∃W,W=w.alloc (.cells #[.int .i64 0,.int .i64 0,.int .i64 0,.int .i64 0,.int .i64 0,.int .i64 0,.int .i64 0,.int .i64 0,.int .i64 0,.int .i64 0] 95):=⟨_,rfl⟩;obtain ⟨b0,ez⟩:∃b,b=w.heap.size:=⟨_,rfl⟩;have E0:Ext w W0:=by rw[aH];exact (Ext.refl _).alloc _
 have R0:Has W0 b0 (.cells #[aa.no,aa.dev,aa.kind,aa.mode,aa.uid,aa.gid,aa.ag,.int .i64 aa.data.length,aa.mtime,aa.ctime] 95):=by rw[aH,ez];exact Has.new _ _
 have o7:w.heap.size<=b0:=by omega
 have h0:=h.ext E0;go_enter Tryz.func45,Tryz.ntmps45;go_upto_region 1 with fail;rw [show w.alloc _=W0 from aH.symm,<-ez];clear aH ez;go_wp2_with fail;refine (FG _ h0).mono ?_;rintro e w1 ⟨rfl,b1⟩;have R1:=R0.ext b1;have E1:=E0.trans b1;go_wp2_with (refine cY rfl _ _ rfl b0 aa rfl rfl R1 ?_;intro w9 R9 O9);refine bodyPost_ret (v:=.tuple #[.agg #[aa.no,aa.dev,aa.kind,aa.mode,aa.uid,aa.gid,aa.ag,.int .i64 aa.data.length,aa.mtime,aa.ctime],.int .i64 20]) (j5 Tryz.results45 _ _ b0 aa _ rfl rfl R9) rfl ?_;exact ⟨rfl,O9.after E1 (by simpa using o7)⟩
theorem L3 {b B:Nat} {g:bG} {S:ae} {now count:Int} {A:Option Addr} {len cap:Nat} {no:Int} (w:World) (h:dR w b g now count A len cap false) (K:dM w B g S) (hd:0<S.ah.length):Calls Tryz.prog 45 #[.pointer (some ⟨b,0,none⟩),.int .i64 no] w (aI w (.tuple #[gU (ac S.nodes no),.int .i64 (cT S no)])):=by
 obtain ⟨W0,aH⟩:∃W,W=w.alloc (.cells #[.int .i64 0,.int .i64 0,.int .i64 0,.int .i64 0,.int .i64 0,.int .i64 0,.int .i64 0,.int .i64 0,.int .i64 0,.int .i64 0] 95):=⟨_,rfl⟩;obtain ⟨b0,ez⟩:∃b,b=w.heap.size:=⟨_,rfl⟩;have E0:Ext w W0:=by rw[aH];exact (Ext.refl _).alloc _
 have R0:Has W0 b0 (.cells #[aa.no,aa.dev,aa.kind,aa.mode,aa.uid,aa.gid,aa.ag,.int .i64 aa.data.length,aa.mtime,aa.ctime] 95):=by rw[aH,ez];exact Has.new _ _
 have o7:w.heap.size<=b0:=by omega
 have h0:=h.ext E0;have K0:=K.ext E0;go_enter Tryz.func45,Tryz.ntmps45;go_upto_region 1 with fail;rw [show w.alloc _=W0 from aH.symm,<-ez];clear aH ez;go_wp2_with fail;refine (FG _ h0).mono ?_;rintro e w1 ⟨rfl,b1⟩;have R1:=R0.ext b1;have E1:=E0.trans b1;have h1:=h0.ext b1;have K1:=K0.ext b1;have c0:=Has.cell h1 0;have cz:=Has.lt h1;go_wp2_with fail;refine (Hk B g S no _ K1 hd).mono ?_;rintro e w2 ⟨rfl,b2⟩;have R2:=R1.ext b2;have E2:=E1.trans b2;obtain⟨m,hm⟩:=zE (ac S.nodes no);obtain⟨x,hx⟩:=zE (cT S no);rw [<-hm,<-hx];have Hj:=zH hm;have JB:=zH hx;clear hm hx;unfold gU;go_wp2_with (refine cY rfl _ _ rfl b0 m rfl rfl R2 ?_;intro w9 R9 O9);refine bodyPost_ret (v:=.tuple #[.agg #[m.no,m.dev,m.kind,m.mode,m.uid,m.gid,m.ag,.int .i64 m.data.length,m.mtime,m.ctime],.int .i64 x]) (j5 Tryz.results45 _ _ b0 m _ rfl rfl R9) rfl ?_;exact ⟨by (try rw[<-Hj.out]);(try rw[<-JB.out]);rfl,O9.after E2 (by simpa using o7)⟩
theorem TI {b:Nat} {g:bG} {now count:Int} {A:Option Addr} {cap:Nat} (l:List (Int×Int)) (w:World) (cu cg:Int) (dir:Int) (nm:ByteArray) (mode:Int) (h:dR w b g now count A l.length cap false) (hp:cK w A l) (ho:cZ A b) (hl:l.length<=1000000) (hc0:0<=count) (hc1:count<=1000000) {x:Int} (hx:iS l (count+1)=x) (aV:x≠0) :
  Calls Tryz.prog 111 #[.pointer (some ⟨b,0,none⟩),.agg #[cu,cg],.int .i64 dir,.string nm,.int .i64 mode] w
   (fun e w'=>e=.returned (.tuple #[.int .i64 0,.int .i64 x])/\dR w' b g now (count+1) A l.length cap (fV l (count+1))/\Only [b] w w'):=by
 obtain⟨n,hn⟩:=zE l.length;have KC:Hid (∀u,Ext w u->Calls Tryz.prog 116 #[.pointer (some ⟨b,0,none⟩)] u (fun e w'=>e=.returned (.int .i64 x)/\dR w' b g now (count+1) A n cap (fV l (count+1))/\Only [b] u w')):=by
  show ∀u,_;intro u hu;rw [<-hx,hn];exact eU l u (h.ext hu) (hp.ext hu) ho hl hc0 hc1
 rw [<-hn];clear hn hx;have t1:(x != 0)=true:=by simpa using aV
 clear aV h hp ho hl hc0 hc1;go_enter Tryz.func111,Tryz.ntmps111;go_wp2_with fail;refine (KC.out _ ((Ext.refl _).alloc _)).mono ?_;rintro e w1 ⟨rfl,S1,O1⟩;go_wp2_with fail;go_ret2;exact ⟨rfl,S1,Only.pre ((Ext.refl _).alloc _) O1⟩
theorem TJ {b:Nat} {g:bG} {now count:Int} {A:Option Addr} {cap:Nat} (l:List (Int×Int)) (w:World) (cu cg:Int) (dir:Int) (nm:ByteArray) (mode:Int) (h:dR w b g now count A l.length cap false) (hp:cK w A l) (ho:cZ A b) (hl:l.length<=1000000) (hc0:0<=count) (hc1:count<=1000000) (B:Nat) (S:ae)
  (K:dM w B g S) (hb:b∉g.list) (yT:B<=b) (hx:iS l (count+1)=0/\fV l (count+1)=false) {T:ae} {y z:Int}
  (KD:∀u,dM u B g S->Calls Tryz.prog 156 #[.pointer (some ⟨g.bW,0,none⟩),.agg #[cu,cg],.int .i64 now,.int .i64 dir,.string nm,.int .i64 mode] u (Fv u B g T y z)) :
  Calls Tryz.prog 111 #[.pointer (some ⟨b,0,none⟩),.agg #[cu,cg],.int .i64 dir,.string nm,.int .i64 mode] w
   (fun e w'=>e=.returned (.tuple #[.int .i64 y,.int .i64 z])/\dM w' B g T/\dR w' b g now (count+1) A l.length cap false/\Only (b::g.list) w w'):=by
 obtain⟨n,hn⟩:=zE l.length;obtain ⟨W0,aH⟩:∃W,W=w.alloc (.cells #[cu,cg] 27):=⟨_,rfl⟩;obtain ⟨b0,ez⟩:∃b,b=w.heap.size:=⟨_,rfl⟩;have E0:Ext w W0:=by rw[aH];exact (Ext.refl _).alloc _
 have N0:Has W0 b0 (.cells #[cu,cg] 27):=by rw[aH,ez];exact Has.new _ _
 have qZ:b0≠b:=by have:=Has.lt h;omega
 have KC:Hid (Calls Tryz.prog 116 #[.pointer (some ⟨b,0,none⟩)] W0 (fun e w'=>e=.returned (.int .i64 0)/\dR w' b g now (count+1) A n cap false/\Only [b] W0 w')):=by
  show Calls _ _ _ _ _;have:=eU l W0 (h.ext E0) (hp.ext E0) ho hl hc0 hc1;rw [hx.1,hx.2,<-hn]at this;exact this
 have S0:=h.ext E0;have K0:=K.ext E0;have AZ:=zH KD;rw [<-hn];clear hn hx h hp ho hl hc0 hc1 K KD;go_enter Tryz.func111,Tryz.ntmps111;go_upto_region 1 with fail;rw [<-aH,<-ez];clear aH ez;go_wp2_with fail;refine KC.out.mono ?_;rintro e w1 ⟨rfl,S1,O1⟩;have K1:=K0.rY S0 yT hb O1;have N1:=O1.has N0 (by simpa using qZ);have c0:=Has.cell S1 0;have c1:=Has.cell S1 1;have cz:=Has.lt S1;have d0:=N1.cell 0;have d1:=N1.cell 1;have dz:=N1.lt;go_wp2_with fail;go_region_with (go_at_call 156;refine (AZ.out _ (K1.ext (Ext.refl _).drew)).mono ?_;rintro e w2 ⟨rfl,K2,O2⟩)
 all_goals
  go_wp2_with fail;go_ret2;refine ⟨rfl,K2,dR.only (dR.ext S1 (Ext.refl _).drew) O2 hb,?_⟩;exact (Only.pre E0 (O1.mono (fun x hx=>by simp at hx;subst hx;simp))).then ((Only.ax (Ext.refl _).drew).then (O2.mono (fun x hx=>by simp[hx])))
theorem Qf {b:Nat} {g:bG} {now count:Int} {A:Option Addr} {cap:Nat} (l:List (Int×Int)) (w:World) (cu cg:Int) (dir:Int) (nm:ByteArray) (mode:Int) (data:ByteArray) (h:dR w b g now count A l.length cap false) (hp:cK w A l) (ho:cZ A b) (hl:l.length<=1000000) (hc0:0<=count) (hc1:count<=1000000) {x:Int} (hx:iS l (count+1)=x) (aV:x≠0) :
  Calls Tryz.prog 113 #[.pointer (some ⟨b,0,none⟩),.agg #[cu,cg],.int .i64 dir,.string nm,.int .i64 mode,.string data] w
   (fun e w'=>e=.returned (.tuple #[.int .i64 0,.int .i64 x])/\dR w' b g now (count+1) A l.length cap (fV l (count+1))/\Only [b] w w'):=by
 obtain⟨n,hn⟩:=zE l.length;have KC:Hid (∀u,Ext w u->Calls Tryz.prog 116 #[.pointer (some ⟨b,0,none⟩)] u (fun e w'=>e=.returned (.int .i64 x)/\dR w' b g now (count+1) A n cap (fV l (count+1))/\Only [b] u w')):=by
  show ∀u,_;intro u hu;rw [<-hx,hn];exact eU l u (h.ext hu) (hp.ext hu) ho hl hc0 hc1
 rw [<-hn];clear hn hx;have t1:(x != 0)=true:=by simpa using aV
 clear aV h hp ho hl hc0 hc1;go_enter Tryz.func113,Tryz.ntmps113;go_wp2_with fail;refine (KC.out _ ((Ext.refl _).alloc _)).mono ?_;rintro e w1 ⟨rfl,S1,O1⟩;go_wp2_with fail;go_ret2;exact ⟨rfl,S1,Only.pre ((Ext.refl _).alloc _) O1⟩
theorem Qg {b:Nat} {g:bG} {now count:Int} {A:Option Addr} {cap:Nat} (l:List (Int×Int)) (w:World) (cu cg:Int) (dir:Int) (nm:ByteArray) (mode:Int) (data:ByteArray) (h:dR w b g now count A l.length cap false) (hp:cK w A l) (ho:cZ A b) (hl:l.length<=1000000) (hc0:0<=count) (hc1:count<=1000000) (B:Nat) (S:ae)
  (K:dM w B g S) (hb:b∉g.list) (yT:B<=b) (hx:iS l (count+1)=0/\fV l (count+1)=false) {T:ae} {y z:Int}
  (KD:∀u,dM u B g S->Calls Tryz.prog 157 #[.pointer (some ⟨g.bW,0,none⟩),.agg #[cu,cg],.int .i64 now,.int .i64 dir,.string nm,.int .i64 mode,.string data] u (Fv u B g T y z)) :
  Calls Tryz.prog 113 #[.pointer (some ⟨b,0,none⟩),.agg #[cu,cg],.int .i64 dir,.string nm,.int .i64 mode,.string data] w
   (fun e w'=>e=.returned (.tuple #[.int .i64 y,.int .i64 z])/\dM w' B g T/\dR w' b g now (count+1) A l.length cap false/\Only (b::g.list) w w'):=by
 obtain⟨n,hn⟩:=zE l.length;obtain ⟨W0,aH⟩:∃W,W=w.alloc (.cells #[cu,cg] 27):=⟨_,rfl⟩;obtain ⟨b0,ez⟩:∃b,b=w.heap.size:=⟨_,rfl⟩;have E0:Ext w W0:=by rw[aH];exact (Ext.refl _).alloc _
 have N0:Has W0 b0 (.cells #[cu,cg] 27):=by rw[aH,ez];exact Has.new _ _
 have qZ:b0≠b:=by have:=Has.lt h;omega
 have KC:Hid (Calls Tryz.prog 116 #[.pointer (some ⟨b,0,none⟩)] W0 (fun e w'=>e=.returned (.int .i64 0)/\dR w' b g now (count+1) A n cap false/\Only [b] W0 w')):=by
  show Calls _ _ _ _ _;have:=eU l W0 (h.ext E0) (hp.ext E0) ho hl hc0 hc1;rw [hx.1,hx.2,<-hn]at this;exact this
 have S0:=h.ext E0;have K0:=K.ext E0;have AZ:=zH KD;rw [<-hn];clear hn hx h hp ho hl hc0 hc1 K KD;go_enter Tryz.func113,Tryz.ntmps113;go_upto_region 1 with fail;rw [<-aH,<-ez];clear aH ez;go_wp2_with fail;refine KC.out.mono ?_;rintro e w1 ⟨rfl,S1,O1⟩;have K1:=K0.rY S0 yT hb O1;have N1:=O1.has N0 (by simpa using qZ);have c0:=Has.cell S1 0;have c1:=Has.cell S1 1;have cz:=Has.lt S1;have d0:=N1.cell 0;have d1:=N1.cell 1;have dz:=N1.lt;go_wp2_with fail;go_region_with (go_at_call 157;refine (AZ.out _ (K1.ext (Ext.refl _).drew)).mono ?_;rintro e w2 ⟨rfl,K2,O2⟩)
 all_goals
  go_wp2_with fail;go_ret2;refine ⟨rfl,K2,dR.only (dR.ext S1 (Ext.refl _).drew) O2 hb,?_⟩;exact (Only.pre E0 (O1.mono (fun x hx=>by simp at hx;subst hx;simp))).then ((Only.ax (Ext.refl _).drew).then (O2.mono (fun x hx=>by simp[hx])))
theorem L4 {b:Nat} {g:bG} {now count:Int} {A:Option Addr} {cap:Nat} (l:List (Int×Int)) (w:World) (cu cg:Int) (dir:Int) (nm:ByteArray) (text:ByteArray) (h:dR w b g now count A l.length cap false) (hp:cK w A l) (ho:cZ A b) (hl:l.length<=1000000) (hc0:0<=count) (hc1:count<=1000000) {x:Int} (hx:iS l (count+1)=x) (aV:x≠0) :
  Calls Tryz.prog 114 #[.pointer (some ⟨b,0,none⟩),.agg #[cu,cg],.int .i64 dir,.string nm,.string text] w
   (fun e w'=>e=.returned (.tuple #[.int .i64 0,.int .i64 x])/\dR w' b g now (count+1) A l.length cap (fV l (count+1))/\Only [b] w w'):=by
 obtain⟨n,hn⟩:=zE l.length;have KC:Hid (∀u,Ext w u->Calls Tryz.prog 116 #[.pointer (some ⟨b,0,none⟩)] u (fun e w'=>e=.returned (.int .i64 x)/\dR w' b g now (count+1) A n cap (fV l (count+1))/\Only [b] u w')):=by
  show ∀u,_;intro u hu;rw [<-hx,hn];exact eU l u (h.ext hu) (hp.ext hu) ho hl hc0 hc1
 rw [<-hn];clear hn hx;have t1:(x != 0)=true:=by simpa using aV
 clear aV h hp ho hl hc0 hc1;go_enter Tryz.func114,Tryz.ntmps114;go_wp2_with fail;refine (KC.out _ ((Ext.refl _).alloc _)).mono ?_;rintro e w1 ⟨rfl,S1,O1⟩;go_wp2_with fail;go_ret2;exact ⟨rfl,S1,Only.pre ((Ext.refl _).alloc _) O1⟩
theorem L9 {b:Nat} {g:bG} {now count:Int} {A:Option Addr} {cap:Nat} (l:List (Int×Int)) (w:World) (cu cg:Int) (dir:Int) (nm:ByteArray) (text:ByteArray) (h:dR w b g now count A l.length cap false) (hp:cK w A l) (ho:cZ A b) (hl:l.length<=1000000) (hc0:0<=count) (hc1:count<=1000000) (B:Nat) (S:ae)
  (K:dM w B g S) (hb:b∉g.list) (yT:B<=b) (hx:iS l (count+1)=0/\fV l (count+1)=false) {T:ae} {y z:Int}
  (KD:∀u,dM u B g S->Calls Tryz.prog 158 #[.pointer (some ⟨g.bW,0,none⟩),.agg #[cu,cg],.int .i64 now,.int .i64 dir,.string nm,.string text] u (Fv u B g T y z)) :
  Calls Tryz.prog 114 #[.pointer (some ⟨b,0,none⟩),.agg #[cu,cg],.int .i64 dir,.string nm,.string text] w
   (fun e w'=>e=.returned (.tuple #[.int .i64 y,.int .i64 z])/\dM w' B g T/\dR w' b g now (count+1) A l.length cap false/\Only (b::g.list) w w'):=by
 obtain⟨n,hn⟩:=zE l.length;obtain ⟨W0,aH⟩:∃W,W=w.alloc (.cells #[cu,cg] 27):=⟨_,rfl⟩;obtain ⟨b0,ez⟩:∃b,b=w.heap.size:=⟨_,rfl⟩;have E0:Ext w W0:=by rw[aH];exact (Ext.refl _).alloc _
 have N0:Has W0 b0 (.cells #[cu,cg] 27):=by rw[aH,ez];exact Has.new _ _
 have qZ:b0≠b:=by have:=Has.lt h;omega
 have KC:Hid (Calls Tryz.prog 116 #[.pointer (some ⟨b,0,none⟩)] W0 (fun e w'=>e=.returned (.int .i64 0)/\dR w' b g now (count+1) A n cap false/\Only [b] W0 w')):=by
  show Calls _ _ _ _ _;have:=eU l W0 (h.ext E0) (hp.ext E0) ho hl hc0 hc1;rw [hx.1,hx.2,<-hn]at this;exact this
 have S0:=h.ext E0;have K0:=K.ext E0;have AZ:=zH KD;rw [<-hn];clear hn hx h hp ho hl hc0 hc1 K KD;go_enter Tryz.func114,Tryz.ntmps114;go_upto_region 1 with fail;rw [<-aH,<-ez];clear aH ez;go_wp2_with fail;refine KC.out.mono ?_;rintro e w1 ⟨rfl,S1,O1⟩;have K1:=K0.rY S0 yT hb O1;have N1:=O1.has N0 (by simpa using qZ);have c0:=Has.cell S1 0;have c1:=Has.cell S1 1;have cz:=Has.lt S1;have d0:=N1.cell 0;have d1:=N1.cell 1;have dz:=N1.lt;go_wp2_with fail;go_region_with (go_at_call 158;refine (AZ.out _ (K1.ext (Ext.refl _).drew)).mono ?_;rintro e w2 ⟨rfl,K2,O2⟩)
 all_goals
  go_wp2_with fail;go_ret2;refine ⟨rfl,K2,dR.only (dR.ext S1 (Ext.refl _).drew) O2 hb,?_⟩;exact (Only.pre E0 (O1.mono (fun x hx=>by simp at hx;subst hx;simp))).then ((Only.ax (Ext.refl _).drew).then (O2.mono (fun x hx=>by simp[hx])))
theorem XR {b:Nat} {g:bG} {now count:Int} {A:Option Addr} {cap:Nat} (l:List (Int×Int)) (w:World) (cu cg:Int) (no:Int) (dir:Int) (nm:ByteArray) (h:dR w b g now count A l.length cap false) (hp:cK w A l) (ho:cZ A b) (hl:l.length<=1000000) (hc0:0<=count) (hc1:count<=1000000) {x:Int} (hx:iS l (count+1)=x) (aV:x≠0) :
  Calls Tryz.prog 115 #[.pointer (some ⟨b,0,none⟩),.agg #[cu,cg],.int .i64 no,.int .i64 dir,.string nm] w
   (fun e w'=>e=.returned (.int .i64 x)/\dR w' b g now (count+1) A l.length cap (fV l (count+1))/\Only [b] w w'):=by
 obtain⟨n,hn⟩:=zE l.length;have KC:Hid (∀u,Ext w u->Calls Tryz.prog 116 #[.pointer (some ⟨b,0,none⟩)] u (fun e w'=>e=.returned (.int .i64 x)/\dR w' b g now (count+1) A n cap (fV l (count+1))/\Only [b] u w')):=by
  show ∀u,_;intro u hu;rw [<-hx,hn];exact eU l u (h.ext hu) (hp.ext hu) ho hl hc0 hc1
 rw [<-hn];clear hn hx;have t1:(x != 0)=true:=by simpa using aV
 clear aV h hp ho hl hc0 hc1;go_enter Tryz.func115,Tryz.ntmps115;go_wp2_with fail;refine (KC.out _ ((Ext.refl _).alloc _)).mono ?_;rintro e w1 ⟨rfl,S1,O1⟩;go_wp2_with fail;go_ret;exact ⟨rfl,S1,Only.pre ((Ext.refl _).alloc _) O1⟩
theorem XS {b:Nat} {g:bG} {now count:Int} {A:Option Addr} {cap:Nat} (l:List (Int×Int)) (w:World) (cu cg:Int) (no:Int) (dir:Int) (nm:ByteArray) (h:dR w b g now count A l.length cap false) (hp:cK w A l) (ho:cZ A b) (hl:l.length<=1000000) (hc0:0<=count) (hc1:count<=1000000) (B:Nat) (S:ae)
  (K:dM w B g S) (hb:b∉g.list) (yT:B<=b) (hx:iS l (count+1)=0/\fV l (count+1)=false) {T:ae} {z:Int}
  (KD:∀u,dM u B g S->Calls Tryz.prog 159 #[.pointer (some ⟨g.bW,0,none⟩),.agg #[cu,cg],.int .i64 now,.int .i64 no,.int .i64 dir,.string nm] u (mA u B g T z)) :
  Calls Tryz.prog 115 #[.pointer (some ⟨b,0,none⟩),.agg #[cu,cg],.int .i64 no,.int .i64 dir,.string nm] w
   (fun e w'=>e=.returned (.int .i64 z)/\dM w' B g T/\dR w' b g now (count+1) A l.length cap false/\Only (b::g.list) w w'):=by
 obtain⟨n,hn⟩:=zE l.length;obtain ⟨W0,aH⟩:∃W,W=w.alloc (.cells #[cu,cg] 27):=⟨_,rfl⟩;obtain ⟨b0,ez⟩:∃b,b=w.heap.size:=⟨_,rfl⟩;have E0:Ext w W0:=by rw[aH];exact (Ext.refl _).alloc _
 have N0:Has W0 b0 (.cells #[cu,cg] 27):=by rw[aH,ez];exact Has.new _ _
 have qZ:b0≠b:=by have:=Has.lt h;omega
 have KC:Hid (Calls Tryz.prog 116 #[.pointer (some ⟨b,0,none⟩)] W0 (fun e w'=>e=.returned (.int .i64 0)/\dR w' b g now (count+1) A n cap false/\Only [b] W0 w')):=by
  show Calls _ _ _ _ _;have:=eU l W0 (h.ext E0) (hp.ext E0) ho hl hc0 hc1;rw [hx.1,hx.2,<-hn]at this;exact this
 have S0:=h.ext E0;have K0:=K.ext E0;have AZ:=zH KD;rw [<-hn];clear hn hx h hp ho hl hc0 hc1 K KD;go_enter Tryz.func115,Tryz.ntmps115;go_upto_region 1 with fail;rw [<-aH,<-ez];clear aH ez;go_wp2_with fail;refine KC.out.mono ?_;rintro e w1 ⟨rfl,S1,O1⟩;have K1:=K0.rY S0 yT hb O1;have N1:=O1.has N0 (by simpa using qZ);have c0:=Has.cell S1 0;have c1:=Has.cell S1 1;have cz:=Has.lt S1;have d0:=N1.cell 0;have d1:=N1.cell 1;have dz:=N1.lt;go_wp2_with fail;go_region_with (go_at_call 159;refine (AZ.out _ (K1.ext (Ext.refl _).drew)).mono ?_;rintro e w2 ⟨rfl,K2,O2⟩)
 all_goals
  go_wp2_with fail;go_ret;refine ⟨rfl,K2,dR.only (dR.ext S1 (Ext.refl _).drew) O2 hb,?_⟩;exact (Only.pre E0 (O1.mono (fun x hx=>by simp at hx;subst hx;simp))).then ((Only.ax (Ext.refl _).drew).then (O2.mono (fun x hx=>by simp[hx])))
theorem Qh {b:Nat} {g:bG} {now count:Int} {A:Option Addr} {cap:Nat} (l:List (Int×Int)) (w:World) (cu cg:Int) (dir:Int) (nm:ByteArray) (h:dR w b g now count A l.length cap false) (hp:cK w A l) (ho:cZ A b) (hl:l.length<=1000000) (hc0:0<=count) (hc1:count<=1000000) {x:Int} (hx:iS l (count+1)=x) (aV:x≠0) :
  Calls Tryz.prog 98 #[.pointer (some ⟨b,0,none⟩),.agg #[cu,cg],.int .i64 dir,.string nm] w
   (fun e w'=>e=.returned (.int .i64 x)/\dR w' b g now (count+1) A l.length cap (fV l (count+1))/\Only [b] w w'):=by
 obtain⟨n,hn⟩:=zE l.length;have KC:Hid (∀u,Ext w u->Calls Tryz.prog 116 #[.pointer (some ⟨b,0,none⟩)] u (fun e w'=>e=.returned (.int .i64 x)/\dR w' b g now (count+1) A n cap (fV l (count+1))/\Only [b] u w')):=by
  show ∀u,_;intro u hu;rw [<-hx,hn];exact eU l u (h.ext hu) (hp.ext hu) ho hl hc0 hc1
 rw [<-hn];clear hn hx;have t1:(x != 0)=true:=by simpa using aV
 clear aV h hp ho hl hc0 hc1;go_enter Tryz.func98,Tryz.ntmps98;go_wp2_with fail;refine (KC.out _ ((Ext.refl _).alloc _)).mono ?_;rintro e w1 ⟨rfl,S1,O1⟩;go_wp2_with fail;go_ret;exact ⟨rfl,S1,Only.pre ((Ext.refl _).alloc _) O1⟩
theorem Qi {b:Nat} {g:bG} {now count:Int} {A:Option Addr} {cap:Nat} (l:List (Int×Int)) (w:World) (cu cg:Int) (dir:Int) (nm:ByteArray) (h:dR w b g now count A l.length cap false) (hp:cK w A l) (ho:cZ A b) (hl:l.length<=1000000) (hc0:0<=count) (hc1:count<=1000000) (B:Nat) (S:ae)
  (K:dM w B g S) (hb:b∉g.list) (yT:B<=b) (hx:iS l (count+1)=0/\fV l (count+1)=false) {T:ae} {z:Int}
  (KD:∀u,dM u B g S->Calls Tryz.prog 146 #[.pointer (some ⟨g.bW,0,none⟩),.agg #[cu,cg],.int .i64 now,.int .i64 dir,.string nm] u (mA u B g T z)) :
  Calls Tryz.prog 98 #[.pointer (some ⟨b,0,none⟩),.agg #[cu,cg],.int .i64 dir,.string nm] w
   (fun e w'=>e=.returned (.int .i64 z)/\dM w' B g T/\dR w' b g now (count+1) A l.length cap false/\Only (b::g.list) w w'):=by
 obtain⟨n,hn⟩:=zE l.length;obtain ⟨W0,aH⟩:∃W,W=w.alloc (.cells #[cu,cg] 27):=⟨_,rfl⟩;obtain ⟨b0,ez⟩:∃b,b=w.heap.size:=⟨_,rfl⟩;have E0:Ext w W0:=by rw[aH];exact (Ext.refl _).alloc _
 have N0:Has W0 b0 (.cells #[cu,cg] 27):=by rw[aH,ez];exact Has.new _ _
 have qZ:b0≠b:=by have:=Has.lt h;omega
 have KC:Hid (Calls Tryz.prog 116 #[.pointer (some ⟨b,0,none⟩)] W0 (fun e w'=>e=.returned (.int .i64 0)/\dR w' b g now (count+1) A n cap false/\Only [b] W0 w')):=by
  show Calls _ _ _ _ _;have:=eU l W0 (h.ext E0) (hp.ext E0) ho hl hc0 hc1;rw [hx.1,hx.2,<-hn]at this;exact this
 have S0:=h.ext E0;have K0:=K.ext E0;have AZ:=zH KD;rw [<-hn];clear hn hx h hp ho hl hc0 hc1 K KD;go_enter Tryz.func98,Tryz.ntmps98;go_upto_region 1 with fail;rw [<-aH,<-ez];clear aH ez;go_wp2_with fail;refine KC.out.mono ?_;rintro e w1 ⟨rfl,S1,O1⟩;have K1:=K0.rY S0 yT hb O1;have N1:=O1.has N0 (by simpa using qZ);have c0:=Has.cell S1 0;have c1:=Has.cell S1 1;have cz:=Has.lt S1;have d0:=N1.cell 0;have d1:=N1.cell 1;have dz:=N1.lt;go_wp2_with fail;go_region_with (go_at_call 146;refine (AZ.out _ (K1.ext (Ext.refl _).drew)).mono ?_;rintro e w2 ⟨rfl,K2,O2⟩)
 all_goals
  go_wp2_with fail;go_ret;refine ⟨rfl,K2,dR.only (dR.ext S1 (Ext.refl _).drew) O2 hb,?_⟩;exact (Only.pre E0 (O1.mono (fun x hx=>by simp at hx;subst hx;simp))).then ((Only.ax (Ext.refl _).drew).then (O2.mono (fun x hx=>by simp[hx])))
theorem TK {b:Nat} {g:bG} {now count:Int} {A:Option Addr} {cap:Nat} (l:List (Int×Int)) (w:World) (cu cg:Int) (dir:Int) (nm:ByteArray) (h:dR w b g now count A l.length cap false) (hp:cK w A l) (ho:cZ A b) (hl:l.length<=1000000) (hc0:0<=count) (hc1:count<=1000000) {x:Int} (hx:iS l (count+1)=x) (aV:x≠0) :
  Calls Tryz.prog 97 #[.pointer (some ⟨b,0,none⟩),.agg #[cu,cg],.int .i64 dir,.string nm] w
   (fun e w'=>e=.returned (.int .i64 x)/\dR w' b g now (count+1) A l.length cap (fV l (count+1))/\Only [b] w w'):=by
 obtain⟨n,hn⟩:=zE l.length;have KC:Hid (∀u,Ext w u->Calls Tryz.prog 116 #[.pointer (some ⟨b,0,none⟩)] u (fun e w'=>e=.returned (.int .i64 x)/\dR w' b g now (count+1) A n cap (fV l (count+1))/\Only [b] u w')):=by
  show ∀u,_;intro u hu;rw [<-hx,hn];exact eU l u (h.ext hu) (hp.ext hu) ho hl hc0 hc1
 rw [<-hn];clear hn hx;have t1:(x != 0)=true:=by simpa using aV
 clear aV h hp ho hl hc0 hc1;go_enter Tryz.func97,Tryz.ntmps97;go_wp2_with fail;refine (KC.out _ ((Ext.refl _).alloc _)).mono ?_;rintro e w1 ⟨rfl,S1,O1⟩;go_wp2_with fail;go_ret;exact ⟨rfl,S1,Only.pre ((Ext.refl _).alloc _) O1⟩
theorem TL {b:Nat} {g:bG} {now count:Int} {A:Option Addr} {cap:Nat} (l:List (Int×Int)) (w:World) (cu cg:Int) (dir:Int) (nm:ByteArray) (h:dR w b g now count A l.length cap false) (hp:cK w A l) (ho:cZ A b) (hl:l.length<=1000000) (hc0:0<=count) (hc1:count<=1000000) (B:Nat) (S:ae)
  (K:dM w B g S) (hb:b∉g.list) (yT:B<=b) (hx:iS l (count+1)=0/\fV l (count+1)=false) {T:ae} {z:Int}
  (KD:∀u,dM u B g S->Calls Tryz.prog 145 #[.pointer (some ⟨g.bW,0,none⟩),.agg #[cu,cg],.int .i64 now,.int .i64 dir,.string nm] u (mA u B g T z)) :
  Calls Tryz.prog 97 #[.pointer (some ⟨b,0,none⟩),.agg #[cu,cg],.int .i64 dir,.string nm] w
   (fun e w'=>e=.returned (.int .i64 z)/\dM w' B g T/\dR w' b g now (count+1) A l.length cap false/\Only (b::g.list) w w'):=by
 obtain⟨n,hn⟩:=zE l.length;obtain ⟨W0,aH⟩:∃W,W=w.alloc (.cells #[cu,cg] 27):=⟨_,rfl⟩;obtain ⟨b0,ez⟩:∃b,b=w.heap.size:=⟨_,rfl⟩;have E0:Ext w W0:=by rw[aH];exact (Ext.refl _).alloc _
 have N0:Has W0 b0 (.cells #[cu,cg] 27):=by rw[aH,ez];exact Has.new _ _
 have qZ:b0≠b:=by have:=Has.lt h;omega
 have KC:Hid (Calls Tryz.prog 116 #[.pointer (some ⟨b,0,none⟩)] W0 (fun e w'=>e=.returned (.int .i64 0)/\dR w' b g now (count+1) A n cap false/\Only [b] W0 w')):=by
  show Calls _ _ _ _ _;have:=eU l W0 (h.ext E0) (hp.ext E0) ho hl hc0 hc1;rw [hx.1,hx.2,<-hn]at this;exact this
 have S0:=h.ext E0;have K0:=K.ext E0;have AZ:=zH KD;rw [<-hn];clear hn hx h hp ho hl hc0 hc1 K KD;go_enter Tryz.func97,Tryz.ntmps97;go_upto_region 1 with fail;rw [<-aH,<-ez];clear aH ez;go_wp2_with fail;refine KC.out.mono ?_;rintro e w1 ⟨rfl,S1,O1⟩;have K1:=K0.rY S0 yT hb O1;have N1:=O1.has N0 (by simpa using qZ);have c0:=Has.cell S1 0;have c1:=Has.cell S1 1;have cz:=Has.lt S1;have d0:=N1.cell 0;have d1:=N1.cell 1;have dz:=N1.lt;go_wp2_with fail;go_region_with (go_at_call 145;refine (AZ.out _ (K1.ext (Ext.refl _).drew)).mono ?_;rintro e w2 ⟨rfl,K2,O2⟩)
 all_goals
  go_wp2_with fail;go_ret;refine ⟨rfl,K2,dR.only (dR.ext S1 (Ext.refl _).drew) O2 hb,?_⟩;exact (Only.pre E0 (O1.mono (fun x hx=>by simp at hx;subst hx;simp))).then ((Only.ax (Ext.refl _).drew).then (O2.mono (fun x hx=>by simp[hx])))
theorem TM {b:Nat} {g:bG} {now count:Int} {A:Option Addr} {cap:Nat} (l:List (Int×Int)) (w:World) (cu cg:Int) (no:Int) (mode:Int) (h:dR w b g now count A l.length cap false) (hp:cK w A l) (ho:cZ A b) (hl:l.length<=1000000) (hc0:0<=count) (hc1:count<=1000000) {x:Int} (hx:iS l (count+1)=x) (aV:x≠0) :
  Calls Tryz.prog 68 #[.pointer (some ⟨b,0,none⟩),.agg #[cu,cg],.int .i64 no,.int .i64 mode] w
   (fun e w'=>e=.returned (.int .i64 x)/\dR w' b g now (count+1) A l.length cap (fV l (count+1))/\Only [b] w w'):=by
 obtain⟨n,hn⟩:=zE l.length;have KC:Hid (∀u,Ext w u->Calls Tryz.prog 116 #[.pointer (some ⟨b,0,none⟩)] u (fun e w'=>e=.returned (.int .i64 x)/\dR w' b g now (count+1) A n cap (fV l (count+1))/\Only [b] u w')):=by
  show ∀u,_;intro u hu;rw [<-hx,hn];exact eU l u (h.ext hu) (hp.ext hu) ho hl hc0 hc1
 rw [<-hn];clear hn hx;have t1:(x != 0)=true:=by simpa using aV
 clear aV h hp ho hl hc0 hc1;go_enter Tryz.func68,Tryz.ntmps68;go_wp2_with fail;refine (KC.out _ ((Ext.refl _).alloc _)).mono ?_;rintro e w1 ⟨rfl,S1,O1⟩;go_wp2_with fail;go_ret;exact ⟨rfl,S1,Only.pre ((Ext.refl _).alloc _) O1⟩
theorem TN {b:Nat} {g:bG} {now count:Int} {A:Option Addr} {cap:Nat} (l:List (Int×Int)) (w:World) (cu cg:Int) (no:Int) (mode:Int) (h:dR w b g now count A l.length cap false) (hp:cK w A l) (ho:cZ A b) (hl:l.length<=1000000) (hc0:0<=count) (hc1:count<=1000000) (B:Nat) (S:ae)
  (K:dM w B g S) (hb:b∉g.list) (yT:B<=b) (hx:iS l (count+1)=0/\fV l (count+1)=false) {T:ae} {z:Int}
  (KD:∀u,dM u B g S->Calls Tryz.prog 118 #[.pointer (some ⟨g.bW,0,none⟩),.agg #[cu,cg],.int .i64 now,.int .i64 no,.int .i64 mode] u (mA u B g T z)) :
  Calls Tryz.prog 68 #[.pointer (some ⟨b,0,none⟩),.agg #[cu,cg],.int .i64 no,.int .i64 mode] w
   (fun e w'=>e=.returned (.int .i64 z)/\dM w' B g T/\dR w' b g now (count+1) A l.length cap false/\Only (b::g.list) w w'):=by
 obtain⟨n,hn⟩:=zE l.length;obtain ⟨W0,aH⟩:∃W,W=w.alloc (.cells #[cu,cg] 27):=⟨_,rfl⟩;obtain ⟨b0,ez⟩:∃b,b=w.heap.size:=⟨_,rfl⟩;have E0:Ext w W0:=by rw[aH];exact (Ext.refl _).alloc _
 have N0:Has W0 b0 (.cells #[cu,cg] 27):=by rw[aH,ez];exact Has.new _ _
 have qZ:b0≠b:=by have:=Has.lt h;omega
 have KC:Hid (Calls Tryz.prog 116 #[.pointer (some ⟨b,0,none⟩)] W0 (fun e w'=>e=.returned (.int .i64 0)/\dR w' b g now (count+1) A n cap false/\Only [b] W0 w')):=by
  show Calls _ _ _ _ _;have:=eU l W0 (h.ext E0) (hp.ext E0) ho hl hc0 hc1;rw [hx.1,hx.2,<-hn]at this;exact this
 have S0:=h.ext E0;have K0:=K.ext E0;have AZ:=zH KD;rw [<-hn];clear hn hx h hp ho hl hc0 hc1 K KD;go_enter Tryz.func68,Tryz.ntmps68;go_upto_region 1 with fail;rw [<-aH,<-ez];clear aH ez;go_wp2_with fail;refine KC.out.mono ?_;rintro e w1 ⟨rfl,S1,O1⟩;have K1:=K0.rY S0 yT hb O1;have N1:=O1.has N0 (by simpa using qZ);have c0:=Has.cell S1 0;have c1:=Has.cell S1 1;have cz:=Has.lt S1;have d0:=N1.cell 0;have d1:=N1.cell 1;have dz:=N1.lt;go_wp2_with fail;go_region_with (go_at_call 118;refine (AZ.out _ (K1.ext (Ext.refl _).drew)).mono ?_;rintro e w2 ⟨rfl,K2,O2⟩)
 all_goals
  go_wp2_with fail;go_ret;refine ⟨rfl,K2,dR.only (dR.ext S1 (Ext.refl _).drew) O2 hb,?_⟩;exact (Only.pre E0 (O1.mono (fun x hx=>by simp at hx;subst hx;simp))).then ((Only.ax (Ext.refl _).drew).then (O2.mono (fun x hx=>by simp[hx])))
theorem TP {b:Nat} {g:bG} {now count:Int} {A:Option Addr} {cap:Nat} (l:List (Int×Int)) (w:World) (cu cg:Int) (no:Int) (uid:Int) (gid:Int) (h:dR w b g now count A l.length cap false) (hp:cK w A l) (ho:cZ A b) (hl:l.length<=1000000) (hc0:0<=count) (hc1:count<=1000000) {x:Int} (hx:iS l (count+1)=x) (aV:x≠0) :
  Calls Tryz.prog 67 #[.pointer (some ⟨b,0,none⟩),.agg #[cu,cg],.int .i64 no,.int .i64 uid,.int .i64 gid] w
   (fun e w'=>e=.returned (.int .i64 x)/\dR w' b g now (count+1) A l.length cap (fV l (count+1))/\Only [b] w w'):=by
 obtain⟨n,hn⟩:=zE l.length;have KC:Hid (∀u,Ext w u->Calls Tryz.prog 116 #[.pointer (some ⟨b,0,none⟩)] u (fun e w'=>e=.returned (.int .i64 x)/\dR w' b g now (count+1) A n cap (fV l (count+1))/\Only [b] u w')):=by
  show ∀u,_;intro u hu;rw [<-hx,hn];exact eU l u (h.ext hu) (hp.ext hu) ho hl hc0 hc1
 rw [<-hn];clear hn hx;have t1:(x != 0)=true:=by simpa using aV
 clear aV h hp ho hl hc0 hc1;go_enter Tryz.func67,Tryz.ntmps67;go_wp2_with fail;refine (KC.out _ ((Ext.refl _).alloc _)).mono ?_;rintro e w1 ⟨rfl,S1,O1⟩;go_wp2_with fail;go_ret;exact ⟨rfl,S1,Only.pre ((Ext.refl _).alloc _) O1⟩
theorem TQ {b:Nat} {g:bG} {now count:Int} {A:Option Addr} {cap:Nat} (l:List (Int×Int)) (w:World) (cu cg:Int) (no:Int) (uid:Int) (gid:Int) (h:dR w b g now count A l.length cap false) (hp:cK w A l) (ho:cZ A b) (hl:l.length<=1000000) (hc0:0<=count) (hc1:count<=1000000) (B:Nat) (S:ae)
  (K:dM w B g S) (hb:b∉g.list) (yT:B<=b) (hx:iS l (count+1)=0/\fV l (count+1)=false) {T:ae} {z:Int}
  (KD:∀u,dM u B g S->Calls Tryz.prog 117 #[.pointer (some ⟨g.bW,0,none⟩),.agg #[cu,cg],.int .i64 now,.int .i64 no,.int .i64 uid,.int .i64 gid] u (mA u B g T z)) :
  Calls Tryz.prog 67 #[.pointer (some ⟨b,0,none⟩),.agg #[cu,cg],.int .i64 no,.int .i64 uid,.int .i64 gid] w
   (fun e w'=>e=.returned (.int .i64 z)/\dM w' B g T/\dR w' b g now (count+1) A l.length cap false/\Only (b::g.list) w w'):=by
 obtain⟨n,hn⟩:=zE l.length;obtain ⟨W0,aH⟩:∃W,W=w.alloc (.cells #[cu,cg] 27):=⟨_,rfl⟩;obtain ⟨b0,ez⟩:∃b,b=w.heap.size:=⟨_,rfl⟩;have E0:Ext w W0:=by rw[aH];exact (Ext.refl _).alloc _
 have N0:Has W0 b0 (.cells #[cu,cg] 27):=by rw[aH,ez];exact Has.new _ _
 have qZ:b0≠b:=by have:=Has.lt h;omega
 have KC:Hid (Calls Tryz.prog 116 #[.pointer (some ⟨b,0,none⟩)] W0 (fun e w'=>e=.returned (.int .i64 0)/\dR w' b g now (count+1) A n cap false/\Only [b] W0 w')):=by
  show Calls _ _ _ _ _;have:=eU l W0 (h.ext E0) (hp.ext E0) ho hl hc0 hc1;rw [hx.1,hx.2,<-hn]at this;exact this
 have S0:=h.ext E0;have K0:=K.ext E0;have AZ:=zH KD;rw [<-hn];clear hn hx h hp ho hl hc0 hc1 K KD;go_enter Tryz.func67,Tryz.ntmps67;go_upto_region 1 with fail;rw [<-aH,<-ez];clear aH ez;go_wp2_with fail;refine KC.out.mono ?_;rintro e w1 ⟨rfl,S1,O1⟩;have K1:=K0.rY S0 yT hb O1;have N1:=O1.has N0 (by simpa using qZ);have c0:=Has.cell S1 0;have c1:=Has.cell S1 1;have cz:=Has.lt S1;have d0:=N1.cell 0;have d1:=N1.cell 1;have dz:=N1.lt;go_wp2_with fail;go_region_with (go_at_call 117;refine (AZ.out _ (K1.ext (Ext.refl _).drew)).mono ?_;rintro e w2 ⟨rfl,K2,O2⟩)
 all_goals
  go_wp2_with fail;go_ret;refine ⟨rfl,K2,dR.only (dR.ext S1 (Ext.refl _).drew) O2 hb,?_⟩;exact (Only.pre E0 (O1.mono (fun x hx=>by simp at hx;subst hx;simp))).then ((Only.ax (Ext.refl _).drew).then (O2.mono (fun x hx=>by simp[hx])))
theorem TR {b:Nat} {g:bG} {now count:Int} {A:Option Addr} {cap:Nat} (l:List (Int×Int)) (w:World) (cu cg:Int) (no:Int) (mtime:Int) (h:dR w b g now count A l.length cap false) (hp:cK w A l) (ho:cZ A b) (hl:l.length<=1000000) (hc0:0<=count) (hc1:count<=1000000) {x:Int} (hx:iS l (count+1)=x) (aV:x≠0) :
  Calls Tryz.prog 69 #[.pointer (some ⟨b,0,none⟩),.agg #[cu,cg],.int .i64 no,.int .i64 mtime] w
   (fun e w'=>e=.returned (.int .i64 x)/\dR w' b g now (count+1) A l.length cap (fV l (count+1))/\Only [b] w w'):=by
 obtain⟨n,hn⟩:=zE l.length;have KC:Hid (∀u,Ext w u->Calls Tryz.prog 116 #[.pointer (some ⟨b,0,none⟩)] u (fun e w'=>e=.returned (.int .i64 x)/\dR w' b g now (count+1) A n cap (fV l (count+1))/\Only [b] u w')):=by
  show ∀u,_;intro u hu;rw [<-hx,hn];exact eU l u (h.ext hu) (hp.ext hu) ho hl hc0 hc1
 rw [<-hn];clear hn hx;have t1:(x != 0)=true:=by simpa using aV
 clear aV h hp ho hl hc0 hc1;go_enter Tryz.func69,Tryz.ntmps69;go_wp2_with fail;refine (KC.out _ ((Ext.refl _).alloc _)).mono ?_;rintro e w1 ⟨rfl,S1,O1⟩;go_wp2_with fail;go_ret;exact ⟨rfl,S1,Only.pre ((Ext.refl _).alloc _) O1⟩
theorem TS {b:Nat} {g:bG} {now count:Int} {A:Option Addr} {cap:Nat} (l:List (Int×Int)) (w:World) (cu cg:Int) (no:Int) (mtime:Int) (h:dR w b g now count A l.length cap false) (hp:cK w A l) (ho:cZ A b) (hl:l.length<=1000000) (hc0:0<=count) (hc1:count<=1000000) (B:Nat) (S:ae)
  (K:dM w B g S) (hb:b∉g.list) (yT:B<=b) (hx:iS l (count+1)=0/\fV l (count+1)=false) {T:ae} {z:Int}
  (KD:∀u,dM u B g S->Calls Tryz.prog 119 #[.pointer (some ⟨g.bW,0,none⟩),.agg #[cu,cg],.int .i64 now,.int .i64 no,.int .i64 mtime] u (mA u B g T z)) :
  Calls Tryz.prog 69 #[.pointer (some ⟨b,0,none⟩),.agg #[cu,cg],.int .i64 no,.int .i64 mtime] w
   (fun e w'=>e=.returned (.int .i64 z)/\dM w' B g T/\dR w' b g now (count+1) A l.length cap false/\Only (b::g.list) w w'):=by
 obtain⟨n,hn⟩:=zE l.length;obtain ⟨W0,aH⟩:∃W,W=w.alloc (.cells #[cu,cg] 27):=⟨_,rfl⟩;obtain ⟨b0,ez⟩:∃b,b=w.heap.size:=⟨_,rfl⟩;have E0:Ext w W0:=by rw[aH];exact (Ext.refl _).alloc _
 have N0:Has W0 b0 (.cells #[cu,cg] 27):=by rw[aH,ez];exact Has.new _ _
 have qZ:b0≠b:=by have:=Has.lt h;omega
 have KC:Hid (Calls Tryz.prog 116 #[.pointer (some ⟨b,0,none⟩)] W0 (fun e w'=>e=.returned (.int .i64 0)/\dR w' b g now (count+1) A n cap false/\Only [b] W0 w')):=by
  show Calls _ _ _ _ _;have:=eU l W0 (h.ext E0) (hp.ext E0) ho hl hc0 hc1;rw [hx.1,hx.2,<-hn]at this;exact this
 have S0:=h.ext E0;have K0:=K.ext E0;have AZ:=zH KD;rw [<-hn];clear hn hx h hp ho hl hc0 hc1 K KD;go_enter Tryz.func69,Tryz.ntmps69;go_upto_region 1 with fail;rw [<-aH,<-ez];clear aH ez;go_wp2_with fail;refine KC.out.mono ?_;rintro e w1 ⟨rfl,S1,O1⟩;have K1:=K0.rY S0 yT hb O1;have N1:=O1.has N0 (by simpa using qZ);have c0:=Has.cell S1 0;have c1:=Has.cell S1 1;have cz:=Has.lt S1;have d0:=N1.cell 0;have d1:=N1.cell 1;have dz:=N1.lt;go_wp2_with fail;go_region_with (go_at_call 119;refine (AZ.out _ (K1.ext (Ext.refl _).drew)).mono ?_;rintro e w2 ⟨rfl,K2,O2⟩)
 all_goals
  go_wp2_with fail;go_ret;refine ⟨rfl,K2,dR.only (dR.ext S1 (Ext.refl _).drew) O2 hb,?_⟩;exact (Only.pre E0 (O1.mono (fun x hx=>by simp at hx;subst hx;simp))).then ((Only.ax (Ext.refl _).drew).then (O2.mono (fun x hx=>by simp[hx])))
end Go.Proofs.YtpibnfdolojpcaaGreat
