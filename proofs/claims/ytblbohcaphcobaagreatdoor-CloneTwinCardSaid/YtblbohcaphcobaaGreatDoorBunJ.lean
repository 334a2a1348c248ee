import Derived.Test.YtblbohcaphcobaaGreatDoorBunH
import Derived.Test.YtblbohcaphcobaaGreatDoorBunA
import Derived.Test.YtblbohcaphcobaaGreatDoorBunI
import Derived.RegionIn
import Derived.OwnWalkIn
import Derived.Deep.RegionHeld3
set_option maxHeartbeats 8000000
set_option maxRecDepth 100000
namespace Go.Proofs.YtblbohcaphcobaaGreatDoor
section
open Go.ChangeShapes Go.WideShapes Go.ChangeAt Go.RowKit Go.Shelf
attribute [local go_sem] Oper.semAt_some
section
variable {F:Fence} {n:Nat} {P:Program} {ops:Array Oper} {md:Region.Mode} {Q:Exit->Act->World->Prop}
theorem yN {i:Nat} {K:Act->World->Prop} {a:Act} {w:World} (hd:∀o,ops[i]?=some o->∀c,o.op≠.defer c) (h:wpOpIn F.plain n P ops Q i K a w):wpOpIn F n P ops Q i K a w:=by
 unfold wpOpIn at h|-;split
 ·rename_i ho;simp only[ho]at h;exact h
 ·rename_i o ho
  simp only[ho]at h;split
  ·rename_i hw
   simp only[hw,if_true]at h;unfold Oper.wpIn at h|-;refine ⟨h.1,?_⟩;have h2:=h.2;rw [Oper.semAt_eq _ _ _ (hd o ho)]at h2|-;exact h2
  ·rename_i hw;simp only[hw]at h;exact h
theorem oN (hd:∀(i:Nat) (o:Oper),ops[i]?=some o->∀c,o.op≠.defer c):∀(fuel:Nat) (listed:Array Bool) (a:Act) (w:World),wpAnyIn F.plain n P md ops Q fuel listed a w->wpAnyIn F n P md ops Q fuel listed a w
 | 0,_,_,_,h=>h
 | fuel+1,_,_,_,h=>⟨h.1,fun i hi=>yN (hd i) (wpOpIn_mono (fun a w=>oN hd fuel _ a w) (h.2 i hi))⟩
theorem lf {id:Nat} {a:Act} {w:World} {l:List Oper} (hd:l.all yg=true) (hm:P.follows .mixedOrders=true)
  (h:wpAnyIn F.plain n P .any l.toArray Q l.toArray.size (Array.replicate l.toArray.size false) a w.drew):(Code.region id l.toArray true).wpIn F n P Q a w:=
 wpIn_region_any hm (oN (fun i o ho=>yh (List.all_eq_true.1 hd o (List.mem_of_getElem? (by simpa using ho)))) _ _ _ _ h)
end
def dm (S:ac) (l:List ax):List ax:=l.map fun x=>(x.1,ak S.af x.2)
theorem jx (S:ac) (l:List ax) (x:ax):dm S (l++[x])=dm S l++[(x.1,ak S.af x.2)]:=by unfold dm;rw[List.map_append];rfl
theorem jy (S:ac) (l:List ax):(dm S l).length=l.length:=by unfold dm;rw[List.length_map]
def Fe (w w':World) (A:Option Addr) (L:List ax):Prop:=bU w' A L/\∀y,A.map (·.block)=some y->w.heap.size<=y
theorem Fe.base {w0 w w':World} {A:Option Addr} {L:List ax} (h:Fe w w' A L) (hs:Ext w0 w):Fe w0 w' A L:=⟨h.1,fun y hy=>Nat.le_trans hs.size (h.2 y hy)⟩
theorem GY {w:World} {base n cap k:Nat} {A:Option Addr} {xs:List Value} (h:w.ownsRow base 106 2 (.slice A n cap) k xs):∀y,A.map (·.block)=some y->base<=y:=by
 intro y hy;rcases h.2 with⟨h1,_⟩|⟨g,c,cur,h1,hb,_⟩
 ·injection h1 with h1;rw[h1]at hy;cases hy
 ·injection h1 with h1
  rw [h1]at hy;have:g=y:=by injection hy
  omega
def Ff (w:World) (L:List ax) (x:Int) (e:Ending) (w':World):Prop:=∃A cap,e=.returned (.tuple #[.slice A L.length cap,.int .i64 x])/\Fe w w' A L/\Ext w w'
theorem yO {base:Nat} {v:Value} {L:List ax} (x:ax) (wr:World) (h:dY wr base v L) (hb:base<=wr.heap.size) (hl:L.length<=2000000) :
  ∃ v' w2,(Builtin.append_ #[56,56] 56 #[v,.slice (some ⟨wr.heap.size,0,none⟩) 1 1]).run Tryz.prog (wr.alloc (.cells #[bs x.1,.int .i64 x.2] 106))=.ok v' w2/\(w2.ownsRow base 106 2 v' (L++[x]).length (au (L++[x])))/\(wr.alloc (.cells #[bs x.1,.int .i64 x.2] 106)).grownBy w2 v.ownBlock:=by
 obtain ⟨i0,hi,hz0,hz1,hz2⟩:=info_parts ki;obtain ⟨v',w2,hr,h2,h3,_⟩:=run_append_own (P:=Tryz.prog) (wr.alloc (.cells #[bs x.1,.int .i64 x.2] 106)) base 56 56 106 i0 (.agg #[.string ⟨#[]⟩,.int .i64 0]) 2 24 Tryz.underlying56 hi hz0 hz1 hz2 rfl (by decide) v L.length _ (World.ownsRow.alloc h _) ⟨wr.heap.size,0,none⟩ 1 1 (au [x]) rfl (pI wr x) (dw [x]) (by unfold maxLen;omega) (by omega) (by simp;omega);refine ⟨v',w2,hr,?_,h3⟩;rw [ef,List.length_append];exact h2
theorem dG {F:Fence} {n:Nat} {P:Program} (w:World) {o:Oper} {a:Act} {K:Act->World->Prop} {Q:Exit->Act->World->Prop} (s x:Operand) (t tn:TypeId)
  (ho:o.op=.call {callee:=.builtin .append,args:=#[s,x],argTypes:=#[t,tn]}) (vs vx:Value) (hs:a.eval s=vs) (hx:a.eval x=vx)
  (v':Value) (w':World) (hr:(Builtin.append_ #[t,tn] o.type #[vs,vx]).run P w=.ok v' w') (h:K (a.put o.dst v') w'):o.wpIn F n P a w K Q:=by
 unfold Oper.wpIn;refine ⟨?_,?_⟩
 ·simp[Oper.about,ho,resolve,Target.leads,Sem.run_pure]
 ·rw [Oper.semAt_plain F _ _ (by rw[ho];intro c hc';cases hc')]
  simp [execOp,ho,resolve,invoke,builtin,hs,hx,hr,Result.andThen];exact h
theorem GZ {c:Nat} (B:Nat) (g:bQ) (S:ac) (cu cg no:Int) (w:World) (h:eD w B g S) (T:dI c S) (hc:c<=1000000) :
  Calls Tryz.prog 132 #[.pointer (some ⟨g.bW,0,none⟩),.agg #[cu,cg],.int .i64 no] w (Ff w (dm S (aS S cu cg no 1 4).ae) (bf S cu cg no 1 4)):=by
 refine (callsIn_wide (n:=4)).1 ?_;obtain⟨F,hF⟩:=ar Fence.wide;have hro:F.round=none:=by rw[hF];rfl
 have h35:F.fn 132:=by rw[hF];trivial
 have hop:F.fn 129:=by rw[hF];trivial
 have Jo:F.fn 38:=by rw[hF];trivial
 have h42:F.fn 39:=by rw[hF];trivial
 have Z0:F.fn 75:=by rw[hF];trivial
 have OS:=T.aS cu cg no 1 4;obtain⟨m,hm⟩:=ar (aS S cu cg no 1 4);obtain⟨x,hx⟩:=ar (bf S cu cg no 1 4);have hOP:∀(k:Nat) (w':World),Ext w w'->CallsIn F k Tryz.prog 129 #[.pointer (some ⟨g.bW,0,none⟩),.agg #[cu,cg],.int .i64 no,.int .i64 1,.int .i64 4] w' (fun e w2=>∃A c,e=.returned (.tuple #[.agg #[m.no,m.dev,m.kind,m.mode,m.uid,m.gid,m.mtime,m.ctime,m.ah,m.up,bs m.data,.slice A m.ae.length c],.int .i64 x])/\ay w2 B m A c/\Ext w' w2):=by
  rw [hF,hm,hx];exact fun k w' h'=>callsIn_wide.2 (nN B g S cu cg no 1 4 w' (h.ext h') T.af)
 have hOV:∀(l k:Nat) (q:Int) (w':World),Ext w w'->CallsIn (F.inRound l).plain k Tryz.prog 38 #[.pointer (some ⟨g.bW,0,none⟩),.int .i64 q] w' (aH w' (.int .i64 (ak S.af q))):=by
  rw [hF];exact fun l k q w' h'=>callsIn_wide.2 (gH B g S q w' (h.ext h') T.af (by have:=T.eight;omega))
 have hz:¬x=0->m=ag:=fun h0=>by rw[hm];unfold aS;rw[if_neg (by rw[<-hx];exact h0)]
 rw [<-hm]at OS;rw [<-hF,<-hm,<-hx];have OG:m.ae.length<=1000000:=by have:=OS.2;omega
 have E0:Ext w ((w.alloc (.cells #[.pointer (some ⟨g.bW,0,none⟩)] 64)).alloc (.cells #[cu,cg] 27)):=((Ext.refl _).alloc _).alloc _;clear hF hm hx OS;refine callsIn_of_wp_marks Tryz.func132 rfl h35 ?_ hro;simp only[Tryz.ntmps132,List.size_toArray,List.length_cons,List.length_nil,Nat.reduceAdd,Nat.reduceSub,Array.replicate_succ,Array.replicate_zero,List.push_toArray,List.append_toArray,List.nil_append,List.cons_append]
 by_cases hx0:x=0
 case neg =>
  have t0:(x == 0)=false:=by simpa using hx0
  have oG:(x != 0)=true:=by simpa using hx0
  have hmz:=hz hx0;have HMZ:=zH hmz;clear hz hx0 hmz;gi_wp2_with (gi_at_call 129;refine (hOP _ _ E0).mono ?_;rintro e w1 ⟨A1,c1,rfl,Dl,b1⟩);refine ⟨.tuple #[.slice none 0 0,.int .i64 x],by simp[results,Tryz.results132,go_sem],none,0,?_,⟨.inl ?_,fun y hy=>by cases hy⟩,(E0.trans b1).alloc _⟩
  ·rw[HMZ.out];rfl
  ·rw[HMZ.out];rfl
 have hxe:=zH hx0;subst hx0;have Xa:=ki;obtain ⟨i0,hi,hz0,hz1,hz2⟩:=info_parts ki;have HI:=zH hi;have Xb:=zH hz0;have Z8:=zH hz1;have S7:=zH hz2;clear hz Xa hi hz0 hz1 hz2;gi_wp2_with first|(gi_at_call 129;refine (hOP _ _ E0).mono ?_;rintro e w1 ⟨A1,c1,rfl,Dl,b1⟩;have F0:=E0.trans b1;have hee:=Dl.ae;have hN:=Has.new w1 (.cells #[m.no,m.dev,m.kind,m.mode,m.uid,m.gid,m.mtime,m.ctime,m.ah,m.up,bs m.data,.slice A1 m.ae.length c1] 58);obtain⟨x0,x1,x2,x3,x4,x5,x6,x7,x8,x9,sy,sA⟩:=hN.dS)|(gi_at_make;refine wpListIn_make_own _ rfl _ _ 56 rfl (w1.heap.size+1) 106 i0 (.agg #[.string ⟨#[]⟩,.int .i64 0]) 2 Tryz.underlying56 HI.out Xb.out Z8.out .i64 .i64 m.ae.length m.ae.length rfl rfl rfl (by rw[S7.out];omega) (by unfold maxLen;omega) (by simp) ?_;intro wa hrow Z9;have hNa:Has wa w1.heap.size (.cells #[m.no,m.dev,m.kind,m.mode,m.uid,m.gid,m.mtime,m.ctime,m.ah,m.up,bs m.data,.slice A1 m.ae.length c1] 58):=(Z9.block w1.heap.size hN.lt (by simp)).trans hN;obtain⟨y0,y1,y2,y3,y4,y5,y6,y7,y8,y9,zD,Gx⟩:=hNa.dS;have ya:=hNa.lt)|(gi_at_call 39;refine (Jr F _ h42 hro _ _ _ _).mono ?_;rintro e w' ⟨rfl,rfl⟩)
 have HMZ:=zH OG;obtain⟨n₀,hn0⟩:=ar (w1.heap.size+1);obtain⟨W2,dF⟩:=ar (w1.alloc (.cells #[m.no,m.dev,m.kind,m.mode,m.uid,m.gid,m.mtime,m.ctime,m.ah,m.up,bs m.data,.slice A1 m.ae.length c1] 58));have ab7:W2.heap.size=n₀:=by rw[dF,hn0];simp
 have G2:Ext w W2:=by rw[dF];exact F0.alloc _
 have hsw:w.heap.size<w1.heap.size:=by have:=b1.size;simp at this;omega
 have cw2:W2.cell? ⟨w.heap.size,0,none⟩=some (.pointer (some ⟨g.bW,0,none⟩)):=by
  have h1:Has (w.alloc (.cells #[.pointer (some ⟨g.bW,0,none⟩)] 64)) w.heap.size (.cells #[.pointer (some ⟨g.bW,0,none⟩)] 64):=Has.new _ _;rw [dF];exact (((h1.alloc _).ext b1).alloc _).cell 0
 have eb2:oB n₀ W2 A1 m.ae:=by
  rcases hee.ae with h0|⟨b,o,hA,hb,hc⟩
  ·exact .inl h0
  ·refine .inr ⟨b,o,hA,by omega,fun k hk=>?_⟩
   rw [dF];exact ⟨(((Ext.refl _).alloc _).cell hb).trans (hc k hk).1,(((Ext.refl _).alloc _).cell hb).trans (hc k hk).2⟩
 rw [<-dF]at Z9;obtain⟨W0,bg⟩:=ar ((wa.alloc (.cells #[.slice (some ⟨w1.heap.size+1,0,none⟩) 0 m.ae.length] 56)).alloc (.cells #[.slice A1 m.ae.length c1] 56));have hza:n₀<=wa.heap.size:=by omega
 have B0:Below n₀ W2 W0:=by
  rw [bg];exact (((Below.refl n₀ W2).grown Z9 (by omega) (fun j e=>by cases e)).alloc (by omega) _).alloc (by simp;omega) _
 have bO:Boxed W0 wa.heap.size 56 (.slice (some ⟨w1.heap.size+1,0,none⟩) 0 m.ae.length):=by rw[bg];exact (Boxed.new wa _ _).alloc _
 have bS:Has W0 (wa.heap.size+1) (.cells #[.slice A1 m.ae.length c1] 56):=by rw[bg];have:=Has.new (wa.alloc (.cells #[.slice (some ⟨w1.heap.size+1,0,none⟩) 0 m.ae.length] 56)) (.cells #[.slice A1 m.ae.length c1] 56);rw[World.size_alloc]at this;exact this
 have r0:W0.ownsRow (w1.heap.size+1) 106 2 (.slice (some ⟨w1.heap.size+1,0,none⟩) 0 m.ae.length) 0 []:=by
  rw [bg];have e:(w1.alloc (.cells #[m.no,m.dev,m.kind,m.mode,m.uid,m.gid,m.mtime,m.ctime,m.ah,m.up,bs m.data,.slice A1 m.ae.length c1] 58)).heap.size=w1.heap.size+1:=by simp
  rw [e]at hrow;exact (hrow.alloc _).alloc _
 have hz0':W0.heap.size=wa.heap.size+2:=by rw[bg];simp
 have r0:W0.ownsRow n₀ 106 2 (.slice (some ⟨w1.heap.size+1,0,none⟩) 0 m.ae.length) 0 []:=by rw[hn0];exact r0
 have hnw:w.heap.size<=n₀:=by omega
 have IZ:w1.heap.size<n₀:=by omega
 rw [<-bg];clear bg y0 y1 y2 y3 y4 y5 y6 y7 y8 y9 zD Gx x0 x1 x2 x3 x4 x5 x6 x7 x8 x9 sy sA hrow Z9 hNa Dl hee hN;refine wpIn_rangeFunc_ownG (w0:=W0) hro (by omega) (gf:=75) (lb:=#[.pointer (some ⟨wa.heap.size+1,0,none⟩)]) rfl Z0 (enters_of Tryz.func75 (by kernel_rfl) rfl)
  (FX F (4-1) Z0 hro (by omega) (wa.heap.size+1) n₀ c1 A1 m.ae OG W0 (by omega) (by omega) (bS.cell 0) (eb2.below B0)) belowK_t (belowK_b (by omega)) (Below.refl _ _) (fun _=>rfl)
  (fun pre W=>(∃v,Boxed W wa.heap.size 56 v/\W.ownsRow n₀ 106 2 v (dm S pre).length (au (dm S pre))/\True)/\Below n₀ W2 W)
  (fun _ _ _=>False)
  (OwnFrom.and (Own.from (holdsRow_own n₀ wa.heap.size 56 106 2 (fun pre=>(dm S pre).length) (fun pre=>au (dm S pre)) (fun _ _=>True)) _) (ownFrom_below (by omega) (by omega)))
  (fun _ _ _ _ _ hs _ _=>hs)
  ⟨⟨_,bO,r0,trivial⟩,B0⟩
  (fun x=>{tmps:=#[.pointer (some ⟨g.bW,0,none⟩),.agg #[cu,cg],.int .i64 no,.pointer (some ⟨w.heap.size,0,none⟩),.pointer (some ⟨w.heap.size+1,0,none⟩),undef,.slice none 0 0,.int .i64 0,.pointer (some ⟨w1.heap.size,0,none⟩),.int .i64 0,.pointer (some ⟨wa.heap.size,0,none⟩),.string (bs x.1),.int .i64 x.2,.tuple #[.agg #[m.no,m.dev,m.kind,m.mode,m.uid,m.gid,m.mtime,m.ctime,m.ah,m.up,bs m.data,.slice A1 m.ae.length c1],.int .i64 0],.pointer (some ⟨g.bW,0,none⟩),.agg #[cu,cg],.int .i64 no,.tuple #[.agg #[m.no,m.dev,m.kind,m.mode,m.uid,m.gid,m.mtime,m.ctime,m.ah,m.up,bs m.data,.slice A1 m.ae.length c1],.int .i64 0],.agg #[m.no,m.dev,m.kind,m.mode,m.uid,m.gid,m.mtime,m.ctime,m.ah,m.up,bs m.data,.slice A1 m.ae.length c1],.int .i64 0,.int .i64 0,.bool false,undef,.pointer (some ⟨w1.heap.size,11,none⟩),.slice A1 m.ae.length c1,.int .i64 m.ae.length,.slice (some ⟨w1.heap.size+1,0,none⟩) 0 m.ae.length,.pointer (some ⟨w1.heap.size,11,none⟩),.slice A1 m.ae.length c1,.func (.func 75) #[] #[.pointer (some ⟨wa.heap.size+1,0,none⟩)],.string (bs x.1),.int .i64 x.2,undef,undef,undef,undef,undef,undef,undef,undef,undef],defers:=[]}) ?assign ?body ?done ?stop
 case assign =>
  intro l x W K hK;gi_wp2;exact hK
 case body =>
  rintro l pre x W ⟨⟨v,hv,hrow,-⟩,hB⟩ hpl;have hc:=hv.cell;have hf:=hv.frozen;have cw:=(hB.cell (p:=⟨w.heap.size,0,none⟩) (by show w.heap.size<n₀;omega)).trans cw2;have hzW:=hB.size;have NS:Ext w W.drew:=Ext.drew (show Ext w W from Below.trans (show Below w.heap.size w W2 from G2) (hB.mono hnw));have xn:W.drew.ownsRow n₀ 106 2 v (dm S pre).length (au (dm S pre)):=hrow;have hvd:Boxed W.drew wa.heap.size 56 v:=hv;have bN:∀{u:World},Ext W.drew u->Below n₀ W u:=fun {u} h=>(show Below n₀ W W.drew from⟨rfl,rfl,rfl,Nat.le_refl _,fun _ _=>rfl⟩).trans (h.mono (by show n₀<=W.heap.size;omega))
  have bK:∀{u:World},Ext W.drew u->KeepsOthers W u:=fun {u} h=>(show KeepsOthers W W.drew from⟨Nat.le_refl _,fun _ _ h _=>h⟩).trans (KeepsOthers.of_grownBy h.grownBy fun j o e _=>by cases e)
  clear G2 cw2 hOP h T B0 bO bS r0;gi_wp2;refine lf (by kernel_rfl) (by kernel_rfl) ?_;refine wpAnyIn_take (i:=1) (v:=?_) rfl rfl (by kernel_rfl) (by kernel_rfl) (by kernel_rfl) (fun _ _ _ h=>h) ⟨Or.inl ⟨by rfl,?_⟩,fun _=>rfl⟩ ?_
  case refine_2=>intro w;go_simp;rfl
  refine wpAnyIn_take (i:=3) (v:=?_) rfl rfl (by kernel_rfl) (by kernel_rfl) (by kernel_rfl) (fun _ _ _ h=>h) ⟨Or.inl ⟨by rfl,?_⟩,fun _=>rfl⟩ ?_
  case refine_2=>intro w;go_simp;rfl
  refine wpAnyIn_ready (rs:=[0,2]) (by kernel_rfl) (by simp) ?_;refine AllReadyIn.cons rfl (fun K hK=>?_) ?_
  ·skip
   go_simp;refine hK _ _ ?_;clear hK K;refine wpAnyIn_ready (rs:=[2]) (by kernel_rfl) (by simp) ?_;refine AllReadyIn.cons rfl (fun K hK=>?_) ?_
   ·skip
    go_simp;refine hK _ _ ?_;clear hK K;refine wpAnyIn_ready (rs:=[4]) (by kernel_rfl) (by simp) ?_;refine AllReadyIn.cons rfl (fun K hK=>?_) ?_
    ·skip
     go_simp;gi_wp2_with (gi_at_call 38;refine (hOV l _ _ _ NS).mono ?_;rintro e wd ⟨rfl,bd⟩);obtain ⟨v',w2,hr,nh,K_⟩:=yO (base:=n₀) (x.1,ak S.af x.2) wd (World.ownsRow.kept xn bd.grownBy (by cases v.ownBlock<;>simp)) (by have:=bd.size;simp at this;omega) (by rw[jy];omega);rw [<-jx]at nh;have La:Boxed wd wa.heap.size 56 v:=Has.ext hvd bd;obtain ⟨ut,JL,Dt,hk2,hb2⟩:=La.appended (n₀:=n₀) (by decide) (World.ownsRow.kept xn bd.grownBy (by cases v.ownBlock<;>simp)) (by have:=bd.size;simp at this;omega) (by omega) nh K_;obtain ⟨g',cap',hv'⟩:=ownsRow_succ (k:=(dm S pre).length) (by rw[show (dm S pre).length+1=(dm S (pre++[x])).length by rw[jx];simp];exact nh);subst hv';have I1:=La.cell;have hld:=La.lt;have hc1:=ut.cell;have Lb:=ut.frozen;refine wpAnyIn_take (i:=5) (v:=?_) rfl rfl (by kernel_rfl) (by kernel_rfl) (by kernel_rfl) (fun _ _ _ h=>h) ⟨Or.inl ⟨by rfl,?_⟩,fun _=>rfl⟩ ?_
     case refine_2=>intro w;go_simp;rfl
     refine wpAnyIn_ready (rs:=[6]) (by kernel_rfl) (by simp) ?_;refine AllReadyIn.cons rfl (fun K hK=>?_) ?_
     ·skip
      go_simp;refine hK _ _ ?_;clear hK K;refine wpAnyIn_ready (rs:=[7]) (by kernel_rfl) (by simp) ?_;refine AllReadyIn.cons rfl (fun K hK=>?_) ?_
      ·skip
       rw [if_pos (by rfl)];refine dG _ _ _ 56 56 rfl _ _ rfl rfl _ _ hr ?_;refine hK _ _ ?_;clear hK K;refine wpAnyIn_ready (rs:=[8]) (by kernel_rfl) (by simp) ?_;refine AllReadyIn.cons rfl (fun K hK=>?_) ?_
       ·skip
        go_simp;refine hK _ _ ?_;clear hK K;refine wpAnyIn_done (by kernel_rfl) ?_ _;exact ⟨((bK bd).trans hk2).from _,(bN bd).trans hb2,⟨_,JL,Dt,trivial⟩,hB.trans ((bN bd).trans hb2)⟩
       exact AllReadyIn.nil
      exact AllReadyIn.nil
     exact AllReadyIn.nil
    exact AllReadyIn.nil
   exact AllReadyIn.nil
  refine AllReadyIn.cons rfl (fun K hK=>?_) ?_
  ·skip
   go_simp;refine hK _ _ ?_;clear hK K;refine wpAnyIn_ready (rs:=[0,4]) (by kernel_rfl) (by simp) ?_;refine AllReadyIn.cons rfl (fun K hK=>?_) ?_
   ·skip
    go_simp;refine hK _ _ ?_;clear hK K;refine wpAnyIn_ready (rs:=[4]) (by kernel_rfl) (by simp) ?_;refine AllReadyIn.cons rfl (fun K hK=>?_) ?_
    ·skip
     go_simp;gi_wp2_with (gi_at_call 38;refine (hOV l _ _ _ NS).mono ?_;rintro e wd ⟨rfl,bd⟩);obtain ⟨v',w2,hr,nh,K_⟩:=yO (base:=n₀) (x.1,ak S.af x.2) wd (World.ownsRow.kept xn bd.grownBy (by cases v.ownBlock<;>simp)) (by have:=bd.size;simp at this;omega) (by rw[jy];omega);rw [<-jx]at nh;have La:Boxed wd wa.heap.size 56 v:=Has.ext hvd bd;obtain ⟨ut,JL,Dt,hk2,hb2⟩:=La.appended (n₀:=n₀) (by decide) (World.ownsRow.kept xn bd.grownBy (by cases v.ownBlock<;>simp)) (by have:=bd.size;simp at this;omega) (by omega) nh K_;obtain ⟨g',cap',hv'⟩:=ownsRow_succ (k:=(dm S pre).length) (by rw[show (dm S pre).length+1=(dm S (pre++[x])).length by rw[jx];simp];exact nh);subst hv';have I1:=La.cell;have hld:=La.lt;have hc1:=ut.cell;have Lb:=ut.frozen;refine wpAnyIn_take (i:=5) (v:=?_) rfl rfl (by kernel_rfl) (by kernel_rfl) (by kernel_rfl) (fun _ _ _ h=>h) ⟨Or.inl ⟨by rfl,?_⟩,fun _=>rfl⟩ ?_
     case refine_2=>intro w;go_simp;rfl
     refine wpAnyIn_ready (rs:=[6]) (by kernel_rfl) (by simp) ?_;refine AllReadyIn.cons rfl (fun K hK=>?_) ?_
     ·skip
      go_simp;refine hK _ _ ?_;clear hK K;refine wpAnyIn_ready (rs:=[7]) (by kernel_rfl) (by simp) ?_;refine AllReadyIn.cons rfl (fun K hK=>?_) ?_
      ·skip
       rw [if_pos (by rfl)];refine dG _ _ _ 56 56 rfl _ _ rfl rfl _ _ hr ?_;refine hK _ _ ?_;clear hK K;refine wpAnyIn_ready (rs:=[8]) (by kernel_rfl) (by simp) ?_;refine AllReadyIn.cons rfl (fun K hK=>?_) ?_
       ·skip
        go_simp;refine hK _ _ ?_;clear hK K;refine wpAnyIn_done (by kernel_rfl) ?_ _;exact ⟨((bK bd).trans hk2).from _,(bN bd).trans hb2,⟨_,JL,Dt,trivial⟩,hB.trans ((bN bd).trans hb2)⟩
       exact AllReadyIn.nil
      exact AllReadyIn.nil
     exact AllReadyIn.nil
    exact AllReadyIn.nil
   refine AllReadyIn.cons rfl (fun K hK=>?_) ?_
   ·skip
    go_simp;gi_wp2_with (gi_at_call 38;refine (hOV l _ _ _ NS).mono ?_;rintro e wd ⟨rfl,bd⟩);obtain ⟨v',w2,hr,nh,K_⟩:=yO (base:=n₀) (x.1,ak S.af x.2) wd (World.ownsRow.kept xn bd.grownBy (by cases v.ownBlock<;>simp)) (by have:=bd.size;simp at this;omega) (by rw[jy];omega);rw [<-jx]at nh;have La:Boxed wd wa.heap.size 56 v:=Has.ext hvd bd;obtain ⟨ut,JL,Dt,hk2,hb2⟩:=La.appended (n₀:=n₀) (by decide) (World.ownsRow.kept xn bd.grownBy (by cases v.ownBlock<;>simp)) (by have:=bd.size;simp at this;omega) (by omega) nh K_;obtain ⟨g',cap',hv'⟩:=ownsRow_succ (k:=(dm S pre).length) (by rw[show (dm S pre).length+1=(dm S (pre++[x])).length by rw[jx];simp];exact nh);subst hv';have I1:=La.cell;have hld:=La.lt;have hc1:=ut.cell;have Lb:=ut.frozen;refine wpAnyIn_take (i:=5) (v:=?_) rfl rfl (by kernel_rfl) (by kernel_rfl) (by kernel_rfl) (fun _ _ _ h=>h) ⟨Or.inl ⟨by rfl,?_⟩,fun _=>rfl⟩ ?_
    case refine_2=>intro w;go_simp;rfl
    refine wpAnyIn_ready (rs:=[0,6]) (by kernel_rfl) (by simp) ?_;refine AllReadyIn.cons rfl (fun K hK=>?_) ?_
    ·skip
     go_simp;refine hK _ _ ?_;clear hK K;refine wpAnyIn_ready (rs:=[6]) (by kernel_rfl) (by simp) ?_;refine AllReadyIn.cons rfl (fun K hK=>?_) ?_
     ·skip
      go_simp;refine hK _ _ ?_;clear hK K;refine wpAnyIn_ready (rs:=[7]) (by kernel_rfl) (by simp) ?_;refine AllReadyIn.cons rfl (fun K hK=>?_) ?_
      ·skip
       rw [if_pos (by rfl)];refine dG _ _ _ 56 56 rfl _ _ rfl rfl _ _ hr ?_;refine hK _ _ ?_;clear hK K;refine wpAnyIn_ready (rs:=[8]) (by kernel_rfl) (by simp) ?_;refine AllReadyIn.cons rfl (fun K hK=>?_) ?_
       ·skip
        go_simp;refine hK _ _ ?_;clear hK K;refine wpAnyIn_done (by kernel_rfl) ?_ _;exact ⟨((bK bd).trans hk2).from _,(bN bd).trans hb2,⟨_,JL,Dt,trivial⟩,hB.trans ((bN bd).trans hb2)⟩
       exact AllReadyIn.nil
      exact AllReadyIn.nil
     exact AllReadyIn.nil
    refine AllReadyIn.cons rfl (fun K hK=>?_) ?_
    ·skip
     go_simp;refine hK _ _ ?_;clear hK K;refine wpAnyIn_ready (rs:=[0]) (by kernel_rfl) (by simp) ?_;refine AllReadyIn.cons rfl (fun K hK=>?_) ?_
     ·skip
      go_simp;refine hK _ _ ?_;clear hK K;refine wpAnyIn_ready (rs:=[7]) (by kernel_rfl) (by simp) ?_;refine AllReadyIn.cons rfl (fun K hK=>?_) ?_
      ·skip
       rw [if_pos (by rfl)];refine dG _ _ _ 56 56 rfl _ _ rfl rfl _ _ hr ?_;refine hK _ _ ?_;clear hK K;refine wpAnyIn_ready (rs:=[8]) (by kernel_rfl) (by simp) ?_;refine AllReadyIn.cons rfl (fun K hK=>?_) ?_
       ·skip
        go_simp;refine hK _ _ ?_;clear hK K;refine wpAnyIn_done (by kernel_rfl) ?_ _;exact ⟨((bK bd).trans hk2).from _,(bN bd).trans hb2,⟨_,JL,Dt,trivial⟩,hB.trans ((bN bd).trans hb2)⟩
       exact AllReadyIn.nil
      exact AllReadyIn.nil
     exact AllReadyIn.nil
    exact AllReadyIn.nil
   exact AllReadyIn.nil
  exact AllReadyIn.nil
 case done =>
  rintro D ys W hD rfl ⟨⟨v,hv,hrow,-⟩,hB⟩ hK;obtain ⟨A9,Xc,rfl,_,_,hat⟩:=dY.at_ hrow;have hc:=hv.cell;gi_wp2;refine ⟨by simp,.inl ⟨_,_,rfl,run_takeDeferred hK,?_⟩⟩;have oZ:=belowK_b (n₀:=n₀) (w:=W0) (by omega) W D _ (.deferred none) (by omega) hK rfl rfl;have hE:Ext w (W.putObj D (.deferred none)):=Below.trans (show Below w.heap.size w W2 from G2) ((hB.trans oZ).mono hnw);refine ⟨.tuple #[.slice A9 (dm S m.ae).length Xc,.int .i64 0],by simp[results,Tryz.results132,go_sem],A9,Xc,rfl,⟨?_,fun y hy=>Nat.le_trans hnw (GY hrow y hy)⟩,hE⟩;have rY:=World.ownsRow.kept hrow (grownBy_putObj' W D (.deferred none)) (by
   rcases hrow.2 with⟨h1,_⟩|⟨g9,c9,cur,h1,_,hgb,_⟩
   ·exact .inl (by rw[h1];rfl)
   ·refine .inr fun e'=>?_
    rw [h1]at e';obtain rfl:g9=D:=by simpa [Value.ownBlock]using e'
    rw [hgb]at hK;cases hK)
  obtain ⟨A8,ab8,e8,_,_,Tc⟩:=dY.at_ rY;injection e8 with e8;rw [e8];exact Tc
 case stop =>
  rintro D c pre W hD hp hx hK;exact hx.elim
end
open Go.ChangeShapes Go.WideShapes Go.ChangeAt Go.RowKit
theorem bU.lt0 {w:World} {A:Option Addr} {l:List ax} (h:bU w A l) {k:Nat} (hk:k<l.length):∃b o,A=some ⟨b,o,none⟩/\b<w.heap.size/\w.cell? ⟨b,o+k*2,none⟩=some (.string (bs l[k].1))/\w.cell? ⟨b,o+k*2+1,none⟩=some (.int .i64 l[k].2):=by
 rcases h with h|⟨b,o,hA,hb,hc⟩
 ·rw[h]at hk;cases hk
 ·exact⟨b,o,hA,hb,hc k hk⟩
theorem sM {P:Program} {ops:Array Oper} {o:Oper} {a:Act} {K:Act->World->Prop} {Q:Exit->Act->World->Prop} {E:Prop} (w:World) (hgd:o.guard=none) (s x:Operand) (t:TypeId)
  (ho:o.op=.call {callee:=.builtin .append,args:=#[s,x],argTypes:=#[t,t]}) (vs vx:Value) (hs:a.eval s=vs) (hx:a.eval x=vx) {R:Value->World->Prop}
  (hr:∃v' w',(Builtin.append_ #[t,t] o.type #[vs,vx]).run P w=.ok v' w'/\R v' w') (h:∀v' w',R v' w'->K (a.put o.dst v') w') :
  if Region.wanted o (yielded ops a.tmps)=true then Oper.wp P o a w K Q else E:=by
 have hw:Region.wanted o (yielded ops a.tmps)=true:=by simp[Region.wanted,hgd]
 rw [if_pos hw];obtain ⟨v',w',h1,h2⟩:=hr;unfold Oper.wp execOp;simp only[ho,resolve,invoke,builtin,Sem.run_bind,Sem.run_pure,Result.andThen_ok,List.map_toArray,List.map_cons,List.map_nil,hs,hx,h1];exact h v' w' h2
def Bg (n:ai):List Value:=[.int .i64 n.no,.int .i64 n.dev,.int .i64 n.kind,.int .i64 n.mode,.int .i64 n.uid,.int .i64 n.gid,.int .i64 n.ah,.int .i64 n.data.length,.int .i64 n.mtime,.int .i64 n.ctime]
def gD (n:ai):Value:=.agg #[n.no,n.dev,n.kind,n.mode,n.uid,n.gid,n.ah,.int .i64 n.data.length,n.mtime,n.ctime]
def cK (S:ac) (no:Int):Int:=if aQ S.nodes no=true then 0 else 5
theorem o7:(Tryz.prog.info? 46).map (·.size)=some 10:=by kernel_rfl
theorem Has.Fg {w:World} {b:Nat} {a0 a1 a2 a3 a4 a5 a6 a7 a8 a9:Value} {t:TypeId} (h:Has w b (.cells #[a0,a1,a2,a3,a4,a5,a6,a7,a8,a9] t)) (n:ai):Has (w.setCells b 0 (Bg n)) b (.cells #[n.no,n.dev,n.kind,n.mode,n.uid,n.gid,n.ah,.int .i64 n.data.length,n.mtime,n.ctime] t):=by
 have h0:Has (w.setCell ⟨b,0,none⟩ (.int .i64 n.no)) b (.cells #[n.no,a1,a2,a3,a4,a5,a6,a7,a8,a9] t):=by have:=Has.setCell h 0 (.int .i64 n.no);simpa using this
 have h1:Has ((w.setCell ⟨b,0,none⟩ (.int .i64 n.no)).setCell ⟨b,1,none⟩ (.int .i64 n.dev)) b (.cells #[n.no,n.dev,a2,a3,a4,a5,a6,a7,a8,a9] t):=by have:=Has.setCell h0 1 (.int .i64 n.dev);simpa using this
 have h2:Has (((w.setCell ⟨b,0,none⟩ (.int .i64 n.no)).setCell ⟨b,1,none⟩ (.int .i64 n.dev)).setCell ⟨b,2,none⟩ (.int .i64 n.kind)) b (.cells #[n.no,n.dev,n.kind,a3,a4,a5,a6,a7,a8,a9] t):=by have:=Has.setCell h1 2 (.int .i64 n.kind);simpa using this
 have h3:Has ((((w.setCell ⟨b,0,none⟩ (.int .i64 n.no)).setCell ⟨b,1,none⟩ (.int .i64 n.dev)).setCell ⟨b,2,none⟩ (.int .i64 n.kind)).setCell ⟨b,3,none⟩ (.int .i64 n.mode)) b (.cells #[n.no,n.dev,n.kind,n.mode,a4,a5,a6,a7,a8,a9] t):=by have:=Has.setCell h2 3 (.int .i64 n.mode);simpa using this
 have h4:Has (((((w.setCell ⟨b,0,none⟩ (.int .i64 n.no)).setCell ⟨b,1,none⟩ (.int .i64 n.dev)).setCell ⟨b,2,none⟩ (.int .i64 n.kind)).setCell ⟨b,3,none⟩ (.int .i64 n.mode)).setCell ⟨b,4,none⟩ (.int .i64 n.uid)) b (.cells #[n.no,n.dev,n.kind,n.mode,n.uid,a5,a6,a7,a8,a9] t):=by have:=Has.setCell h3 4 (.int .i64 n.uid);simpa using this
 have h5:Has ((((((w.setCell ⟨b,0,none⟩ (.int .i64 n.no)).setCell ⟨b,1,none⟩ (.int .i64 n.dev)).setCell ⟨b,2,none⟩ (.int .i64 n.kind)).setCell ⟨b,3,none⟩ (.int .i64 n.mode)).setCell ⟨b,4,none⟩ (.int .i64 n.uid)).setCell ⟨b,5,none⟩ (.int .i64 n.gid)) b (.cells #[n.no,n.dev,n.kind,n.mode,n.uid,n.gid,a6,a7,a8,a9] t):=by have:=Has.setCell h4 5 (.int .i64 n.gid);simpa using this
 have h6:Has (((((((w.setCell ⟨b,0,none⟩ (.int .i64 n.no)).setCell ⟨b,1,none⟩ (.int .i64 n.dev)).setCell ⟨b,2,none⟩ (.int .i64 n.kind)).setCell ⟨b,3,none⟩ (.int .i64 n.mode)).setCell ⟨b,4,none⟩ (.int .i64 n.uid)).setCell ⟨b,5,none⟩ (.int .i64 n.gid)).setCell ⟨b,6,none⟩ (.int .i64 n.ah)) b (.cells #[n.no,n.dev,n.kind,n.mode,n.uid,n.gid,n.ah,a7,a8,a9] t):=by have:=Has.setCell h5 6 (.int .i64 n.ah);simpa using this
 have h7:Has ((((((((w.setCell ⟨b,0,none⟩ (.int .i64 n.no)).setCell ⟨b,1,none⟩ (.int .i64 n.dev)).setCell ⟨b,2,none⟩ (.int .i64 n.kind)).setCell ⟨b,3,none⟩ (.int .i64 n.mode)).setCell ⟨b,4,none⟩ (.int .i64 n.uid)).setCell ⟨b,5,none⟩ (.int .i64 n.gid)).setCell ⟨b,6,none⟩ (.int .i64 n.ah)).setCell ⟨b,7,none⟩ (.int .i64 n.data.length)) b (.cells #[n.no,n.dev,n.kind,n.mode,n.uid,n.gid,n.ah,.int .i64 n.data.length,a8,a9] t):=by have:=Has.setCell h6 7 (.int .i64 n.data.length);simpa using this
 have h8:Has (((((((((w.setCell ⟨b,0,none⟩ (.int .i64 n.no)).setCell ⟨b,1,none⟩ (.int .i64 n.dev)).setCell ⟨b,2,none⟩ (.int .i64 n.kind)).setCell ⟨b,3,none⟩ (.int .i64 n.mode)).setCell ⟨b,4,none⟩ (.int .i64 n.uid)).setCell ⟨b,5,none⟩ (.int .i64 n.gid)).setCell ⟨b,6,none⟩ (.int .i64 n.ah)).setCell ⟨b,7,none⟩ (.int .i64 n.data.length)).setCell ⟨b,8,none⟩ (.int .i64 n.mtime)) b (.cells #[n.no,n.dev,n.kind,n.mode,n.uid,n.gid,n.ah,.int .i64 n.data.length,n.mtime,a9] t):=by have:=Has.setCell h7 8 (.int .i64 n.mtime);simpa using this
 have h9:Has ((((((((((w.setCell ⟨b,0,none⟩ (.int .i64 n.no)).setCell ⟨b,1,none⟩ (.int .i64 n.dev)).setCell ⟨b,2,none⟩ (.int .i64 n.kind)).setCell ⟨b,3,none⟩ (.int .i64 n.mode)).setCell ⟨b,4,none⟩ (.int .i64 n.uid)).setCell ⟨b,5,none⟩ (.int .i64 n.gid)).setCell ⟨b,6,none⟩ (.int .i64 n.ah)).setCell ⟨b,7,none⟩ (.int .i64 n.data.length)).setCell ⟨b,8,none⟩ (.int .i64 n.mtime)).setCell ⟨b,9,none⟩ (.int .i64 n.ctime)) b (.cells #[n.no,n.dev,n.kind,n.mode,n.uid,n.gid,n.ah,.int .i64 n.data.length,n.mtime,n.ctime] t):=by have:=Has.setCell h8 9 (.int .i64 n.ctime);simpa using this
 exact h9
theorem Bh (n:ai):(#[n.no,n.dev,n.kind,n.mode,n.uid,n.gid,n.ah,.int .i64 n.data.length,n.mtime,n.ctime]:Array Value).all (·.oneCell')=true:=all_oneCell_toArray (cs:=Bg n) fun u hu=>by
 simp only[Bg,List.mem_cons,List.not_mem_nil,or_false]at hu;rcases hu with rfl|rfl|rfl|rfl|rfl|rfl|rfl|rfl|rfl|rfl<;>rfl
theorem fV {ops:Array Oper} {rest:List Oper} {op:Oper} {a:Act} {w:World} {Q:Exit->Act->World->Prop} (hgd:op.guard=none) (x y:Operand) (ho:op.op=.store 46 x y)
  (b:Nat) (n:ai) (hx:a.eval x=.pointer (some ⟨b,0,none⟩)) (hy:a.eval y=.agg #[n.no,n.dev,n.kind,n.mode,n.uid,n.gid,n.ah,.int .i64 n.data.length,n.mtime,n.ctime]) {m:ai} (hb:Has w b (.cells #[m.no,m.dev,m.kind,m.mode,m.uid,m.gid,m.ah,.int .i64 m.data.length,m.mtime,m.ctime] 46))
  (h:∀w',Has w' b (.cells #[n.no,n.dev,n.kind,n.mode,n.uid,n.gid,n.ah,.int .i64 n.data.length,n.mtime,n.ctime] 46)->Only [b] w w'->wpList Tryz.prog ops Q rest (a.put op.dst undef) w'):wpList Tryz.prog ops Q (op::rest) a w:=by
 refine wpList_store_mid hgd 46 x y ho b 0 #[n.no,n.dev,n.kind,n.mode,n.uid,n.gid,n.ah,.int .i64 n.data.length,n.mtime,n.ctime] hx hy hb.there o7 (Bh n) ?_;exact h _ (hb.Fg n) (cO (Bg n) 0 w)
theorem p_ {fn:Func} {p t:Tmp} (h:fn.results=#[.cell p 46,.tmp t]) (tmps:Array Value) (w:World) (g:Nat) (n:ai) (v:Value)
  (hp:tmps.getD p undef=.pointer (some ⟨g,0,none⟩)) (hv:tmps.getD t undef=v) (hg:Has w g (.cells #[n.no,n.dev,n.kind,n.mode,n.uid,n.gid,n.ah,.int .i64 n.data.length,n.mtime,n.ctime] 46)) :
  (results fn tmps).run Tryz.prog w=.ok (.tuple #[.agg #[n.no,n.dev,n.kind,n.mode,n.uid,n.gid,n.ah,.int .i64 n.data.length,n.mtime,n.ctime],v]) w:=
 ku h tmps w g 46 _ _ v hp hv hg Tryz.underlying46 rfl o7
theorem G0 (B:Nat) (g:bQ) (S:ac) (no:Int) (w:World) (h:eD w B g S) (hd:0<S.af.length) :
  Calls Tryz.prog 35 #[.pointer (some ⟨g.bW,0,none⟩),.int .i64 no] w (aH w (.tuple #[gD (aa S.nodes no),.int .i64 (cK S no)])):=by
 obtain ⟨W0,bg⟩:∃W,W=w.alloc (.cells #[.int .i64 0,.int .i64 0,.int .i64 0,.int .i64 0,.int .i64 0,.int .i64 0,.int .i64 0,.int .i64 0,.int .i64 0,.int .i64 0] 46):=⟨_,rfl⟩;obtain ⟨b0,gE⟩:∃b,b=w.heap.size:=⟨_,rfl⟩;have E0:Ext w W0:=by rw[bg];exact (Ext.refl _).alloc _
 have R0:Has W0 b0 (.cells #[ag.no,ag.dev,ag.kind,ag.mode,ag.uid,ag.gid,ag.ah,.int .i64 ag.data.length,ag.mtime,ag.ctime] 46):=by rw[bg,gE];exact Has.new _ _
 have vQ:w.heap.size<=b0:=by omega
 have h0:=h.ext E0;go_enter Tryz.func35,Tryz.ntmps35;go_upto_region 1 with fail;rw [show w.alloc _=W0 from bg.symm,<-gE];clear bg gE;go_wp2_with fail;refine (lI B g S _ h0 hd).mono ?_;rintro e w1 ⟨rfl,b1⟩;have R1:=R0.ext b1;have E1:=E0.trans b1;have h1:=h0.ext b1;have td:((S.af.length:Int) == 0)=false:=by simp;intro e;rw[e]at hd;exact absurd hd (by simp)
 obtain ⟨_,_,cd,hWr,_⟩:=id h1;have v0:w1.cell? ⟨g.bW,0,none⟩=some (.pointer (some ⟨g.bT,0,none⟩)):=hWr.cell 0;have vz:=hWr.lt;clear hWr;go_wp2_with fail;refine (fP B g.bT g.bM S.nodes S.last no _ h1.2.1).mono ?_;rintro e w2 ⟨A2,k2,rfl,iC,b2⟩;have R2:=R1.ext b2;have E2:=E1.trans b2;obtain⟨m,hm⟩:=ar (aa S.nodes no);obtain⟨i,hi⟩:=ar (aQ S.nodes no);have hE:cK S no=if i=true then 0 else 5:=by rw[hi];rfl
 have hZ:i=false->m=ag:=fun e=>by rw[hm];exact (aV (hi.symm.trans e)).1
 rw [<-hm,<-hi];clear iC;obtain⟨W3,du⟩:=ar (w2.alloc (.cells #[m.no,m.dev,m.kind,m.mode,m.uid,m.gid,m.mtime,m.ctime,m.ah,m.up,bs m.data,.slice A2 m.ae.length k2] 58));obtain⟨b8,fZ⟩:=ar w2.heap.size;have kD:Ext w2 W3:=by rw[du];exact (Ext.refl _).alloc _
 have N3:Has W3 b8 (.cells #[m.no,m.dev,m.kind,m.mode,m.uid,m.gid,m.mtime,m.ctime,m.ah,m.up,bs m.data,.slice A2 m.ae.length k2] 58):=by rw[du,fZ];exact Has.new _ _
 have R3:=R2.ext kD;have E3:=E2.trans kD;obtain⟨e0,Lc⟩:=ar (cK S no);rw [<-Lc];rw [<-Lc]at hE;have HE:=zH hE;have HZ:=zH hZ;have oM:=zH hm;have Vw:=zH Lc;clear hm hi hE hZ Lc v0 vz;go_upto_region 4 with fail;rw [<-du,<-fZ];clear du fZ kD R1 R2 E1 E2;unfold gD
 cases i
 ·have e1:Hid (e0=5):=zH (HE.out.trans rfl)
  have e2:Hid (m=ag):=zH (HZ.out rfl);go_wp2_with (refine fV rfl _ _ rfl b0 ag rfl rfl R3 ?_;intro w9 R9 O9);refine bodyPost_ret (v:=.tuple #[.agg #[ag.no,ag.dev,ag.kind,ag.mode,ag.uid,ag.gid,ag.ah,.int .i64 ag.data.length,ag.mtime,ag.ctime],.int .i64 5]) (p_ Tryz.results35 _ _ b0 ag _ rfl rfl R9) rfl ?_;refine ⟨by (try rw[<-oM.out]);(try rw[<-Vw.out]);rw[e1.out,e2.out];rfl,O9.after E3 (by simpa using vQ)⟩
 ·have e1:Hid (e0=0):=zH (HE.out.trans rfl)
  obtain ⟨x0,x1,x2,x3,x4,x5,x6,x7,x8,x9,sy,sA⟩:=N3.dS;have xz:=N3.lt;go_wp2_with (refine fV rfl _ _ rfl b0 m rfl rfl R3 ?_;intro w9 R9 O9);refine bodyPost_ret (v:=.tuple #[.agg #[m.no,m.dev,m.kind,m.mode,m.uid,m.gid,m.ah,.int .i64 m.data.length,m.mtime,m.ctime],.int .i64 0]) (p_ Tryz.results35 _ _ b0 m _ rfl rfl R9) rfl ?_;refine ⟨by (try rw[<-oM.out]);(try rw[<-Vw.out]);rw[e1.out];rfl,O9.after E3 (by simpa using vQ)⟩
def eQ (w:World) (b:Nat) (g:bQ) (now count:Int) (A:Option Addr) (len cap:Nat) (dead:Bool):Prop:=
 Has w b (.cells #[.pointer (some ⟨g.bW,0,none⟩),.int .i64 now,.int .i64 count,.slice A len cap,.bool dead] 66)
theorem eQ.ext {w w':World} {b:Nat} {g:bQ} {now count:Int} {A:Option Addr} {len cap:Nat} {dead:Bool} (h:eQ w b g now count A len cap dead) (hE:Ext w w'):eQ w' b g now count A len cap dead:=Has.ext h hE
theorem Fh {b:Nat} {g:bQ} {now count:Int} {A:Option Addr} {len cap:Nat} {dead:Bool} (w:World) (h:eQ w b g now count A len cap dead):Calls Tryz.prog 58 #[.pointer (some ⟨b,0,none⟩)] w (aH w (.bool false)):=by
 have c0:=Has.cell h 0;have z:=Has.lt h;go_enter Tryz.func58,Tryz.ntmps58;go_wp2_with fail;go_ret;exact aH.mk rfl (Ext.refl _)
theorem Fi {b:Nat} {g:bQ} {now count:Int} {A:Option Addr} {len cap:Nat} {dead:Bool} (w:World) (h:eQ w b g now count A len cap dead):Calls Tryz.prog 34 #[.pointer (some ⟨b,0,none⟩)] w (aH w (.int .i64 (if dead=true then 20 else 0))):=by
 cases dead
 ·show Calls _ _ _ _ (aH w (.int .i64 0))
  go_enter Tryz.func34,Tryz.ntmps34;go_wp2_with fail;refine (Fh _ h).mono ?_;rintro e w1 ⟨rfl,b1⟩;have h1:=h.ext b1;have c4:=Has.cell h1 4;have z:=Has.lt h1;go_wp2_with fail;go_ret;exact aH.mk rfl b1
 ·show Calls _ _ _ _ (aH w (.int .i64 20))
  go_enter Tryz.func34,Tryz.ntmps34;go_wp2_with fail;refine (Fh _ h).mono ?_;rintro e w1 ⟨rfl,b1⟩;have h1:=h.ext b1;have c4:=Has.cell h1 4;have z:=Has.lt h1;go_wp2_with fail;go_ret;exact aH.mk rfl b1
def cZ (w:World) (A:Option Addr) (l:List (Int×Int)):Prop:=
 l = []\/∃b o,A=some ⟨b,o,none⟩/\b<w.heap.size/\∀k,(h:k<l.length)->w.cell? ⟨b,o+k*2,none⟩=some (.int .i64 l[k].1)/\w.cell? ⟨b,o+k*2+1,none⟩=some (.int .i64 l[k].2)
theorem cZ.ext {w w':World} {A:Option Addr} {l:List (Int×Int)} (h:cZ w A l) (k:Ext w w'):cZ w' A l:=by
 rcases h with h|⟨b,o,hA,hb,hc⟩
 ·exact .inl h
 ·exact .inr ⟨b,o,hA,by have:=k.size;omega,fun i hi=>⟨(k.cell hb).trans (hc i hi).1,(k.cell hb).trans (hc i hi).2⟩⟩
def dK (A:Option Addr) (b:Nat):Prop:=∀x,A=some x->x.block≠b
theorem cZ.only {w w':World} {A:Option Addr} {l:List (Int×Int)} {L:List Nat} (h:cZ w A l) (o:Only L w w') (hL:∀b∈L,dK A b):cZ w' A l:=by
 rcases h with h|⟨b,o',hA,hb,hc⟩
 ·exact .inl h
 ·have hn:b∉L:=fun hb'=>hL b hb' _ hA rfl
  have e:w'.heap[b]?=w.heap[b]?:=o.block b hb hn;have ec:∀j,w'.cell? ⟨b,j,none⟩=w.cell? ⟨b,j,none⟩:=fun j=>by simp[World.cell?,e]
  exact .inr ⟨b,o',hA,by have:=o.size;omega,fun i hi=>⟨(ec _).trans (hc i hi).1,(ec _).trans (hc i hi).2⟩⟩
def uu (l:List (Int×Int)) (c:Int):Option (Int×Int):=l.find? fun x=>x.1 == c
def jz (l:List (Int×Int)) (c:Int):Int:=match uu l c with|some x=>x.2|none=>0
def gK (l:List (Int×Int)) (c:Int):Bool:=match uu l c with|some x=>x.2 == 20|none=>false
theorem Td {l:List (Int×Int)} {c:Int} {k:Nat} (hk:k<l.length) (h0:uu (l.take k) c=none) (h1:l[k].1=c):jz l c=l[k].2/\gK l c=(l[k].2 == 20):=by
 have:uu l c=some l[k]:=by
  unfold uu at h0|-;have e:l.find? (fun x=>x.1 == c)=(l.take k++l.drop k).find? (fun x=>x.1 == c):=by rw[List.take_append_drop]
  rw [e,List.find?_append,h0,List.drop_eq_getElem_cons hk,List.find?_cons];simp [h1]
 unfold jz gK;rw [this];exact ⟨rfl,rfl⟩
theorem Ld {l:List (Int×Int)} {c:Int} {k:Nat} (hk:k<l.length) (h0:uu (l.take k) c=none) (h1:l[k].1≠c):uu (l.take (k+1)) c=none:=by
 unfold uu at h0|-;rw [List.take_succ_eq_append_getElem hk,List.find?_append,h0];simp [h1]
theorem fW {b:Nat} {g:bQ} {now count:Int} {A:Option Addr} {cap:Nat} (l:List (Int×Int)) (w:World) (h:eQ w b g now count A l.length cap false) (hp:cZ w A l) (ho:dK A b) (hl:l.length<=1000000) (hc0:0<=count) (hc1:count<=1000000) :
  Calls Tryz.prog 81 #[.pointer (some ⟨b,0,none⟩)] w (fun e w'=>e=.returned (.int .i64 (jz l (count+1)))/\eQ w' b g now (count+1) A l.length cap (gK l (count+1))/\Only [b] w w'):=by
 obtain⟨n,hn⟩:=ar l.length;rw [<-hn]at h hl|-;have HN:=zH hn;obtain⟨c,hc⟩:=ar (count+1);have Du:IntKind.i64.wrap (count+1)=c:=by rw[hc];exact IntWalk.i64_in _ (by omega)
 rw [<-hc];clear hn hc;go_enter Tryz.func81,Tryz.ntmps81;go_wp2_with fail;refine (Fi _ h).mono ?_;rintro e w1 ⟨rfl,b1⟩;have h1:=h.ext b1;have c2:=Has.cell h1 2;have f2:=Has.free h1 2;have z:=Has.lt h1;obtain⟨W2,dF⟩:=ar (w1.setCell ⟨b,2,none⟩ (.int .i64 c));have h2:eQ W2 b g now c A n cap false:=by rw[dF];exact Has.setCell h1 2 (.int .i64 c)
 have O2:Only [b] w W2:=by rw[dF];exact Only.pre b1 (Only.setCell _ _ _ _)
 have Vx:cZ W2 A l:=hp.only O2 (fun x hx=>by simp at hx;subst hx;exact ho);have HW2:=zH dF;clear dF h1 h hp;go_upto_region 5 with fail;rw [<-HW2.out];have c3:=Has.cell h2 3;have z2:=Has.lt h2;clear c2 f2 z b1 HW2;go_wp2_with fail;go_loopw [23] (fun i wr=>∃k:Nat,i=.int .i64 k/\k<=n/\uu (l.take k) c=none/\eQ wr b g now c A n cap false/\cZ wr A l/\Only [b] w wr) (fun i _=>n-(intOf i).toNat)
 case atStart=>exact⟨0,rfl,Nat.zero_le _,rfl,h2,Vx,O2⟩
 case round =>
  obtain ⟨k,rfl,hk,h0,hS,hP,hO⟩:=hrel
  by_cases hlt:(k:Int)<n
  ·have dq:k<l.length:=by have:=HN.out;omega
   have hP':=hP;obtain ⟨bl,o,rfl,zy,hcs⟩:=hP'.resolve_left (by rintro rfl;simp at dq);obtain ⟨e0,e1⟩:=hcs k dq;have y1:(0:Int)<=(k:Int):=Int.natCast_nonneg _;have w3w:IntKind.i64.wrap ((k:Int)+1)=(k:Int)+1:=IntWalk.i64_in _ (by omega);have hat:=Td (c:=c) dq h0;have NG:=Ld (c:=c) dq h0;obtain⟨x,hx⟩:=ar (l[k]);rw [<-hx]at e0 e1 hat NG;obtain ⟨x1,x2⟩:=x;obtain⟨W5,kL⟩:=ar (wr.alloc (.cells #[.int .i64 x1,.int .i64 x2] 198));obtain⟨b5,jP⟩:=ar wr.heap.size;have E5:Ext wr W5:=by rw[kL];exact (Ext.refl _).alloc _
   have N5:Has W5 b5 (.cells #[.int .i64 x1,.int .i64 x2] 198):=by rw[kL,jP];exact Has.new _ _
   have S5:=hS.ext E5;have P5:=hP.ext E5;have O5:=hO.ext E5;have tN:b5≠b:=by have:=Has.lt hS;omega
   clear hcs hx;go_upto_region 8 with fail;rw [<-kL,<-jP];clear kL jP e0 e1;have d2:=Has.cell S5 2;have d4:=Has.cell S5 4;have f4:=Has.free S5 4;have dz:=Has.lt S5;have n0:=N5.cell 0;have n1:=N5.cell 1;have nz:=N5.lt
   by_cases hq:x1=c
   ·have t1:(x1 == c)=true:=by simpa using hq
    have NT:=zH (hat hq);clear hq hat NG;go_quiet (fail);go_wp2_with fail;go_ret;rw [NT.out.1,NT.out.2];refine ⟨rfl,?_,(O5.ext ((Ext.refl _).drewN _)).then (Only.setCell _ _ _ _)⟩;exact Has.setCell (S5.ext ((Ext.refl _).drewN _)) 4 (.bool (x2 == 20))
   ·have t1:(x1 == c)=false:=by simpa using hq
    have HNX:=zH (NG hq);clear hq hat NG;go_quiet (fail);go_wp2_with fail;go_roundw
    case rel=>exact⟨k+1,by go_num,by omega,HNX.out,S5.ext ((Ext.refl _).drewN _),P5.ext ((Ext.refl _).drewN _),O5.ext ((Ext.refl _).drewN _)⟩
    case measure=>simp[intOf];omega
  ·have JW:k=n:=by omega
   have hf:uu l c=none:=by rw[JW,HN.out,List.take_length]at h0;exact h0
   have he:jz l c=0/\gK l c=false:=by unfold jz gK;rw[hf];exact⟨rfl,rfl⟩
   have HE:=zH he;clear hf he h0 JW;go_wp2_with fail;go_ret;exact ⟨by rw[HE.out.1];rfl,by rw[HE.out.2];exact hS,hO⟩
theorem aaG (b n:Int) (w:World) (hl:cA b n=true):Calls Tryz.prog 43 #[.int .i64 b,.int .i64 n] w (fun e w'=>∃(g:bQ) (B s:Nat),w.heap.size<=B/\B<=s/\e=.returned (.tuple #[.pointer (some ⟨s,0,none⟩),.int .i64 0])/\eD w' B g (cr cE 0 b n)/\eQ w' s g 0 0 none 0 0 false/\s∉g.list/\Ext w w'):=by
 go_enter Tryz.func43,Tryz.ntmps43;go_wp2_with fail;refine (JF w.heap.size b n w (Nat.le_refl _) hl).mono ?_;rintro e w1 ⟨g,rfl,K,E1⟩;go_wp2_with fail;go_ret2;refine ⟨g,w.heap.size,w1.heap.size,Nat.le_refl _,E1.size,rfl,K.ext ((Ext.refl _).alloc _),Has.new _ _,?_,E1.alloc _⟩;have h1:=K.lt;simp only[bQ.list,List.mem_cons,List.not_mem_nil,or_false];omega
theorem eQ.apart {w:World} {B b:Nat} {g:bQ} {now count:Int} {A:Option Addr} {len cap:Nat} {dead:Bool} (h:eQ w b g now count A len cap dead) (hB:B<=b):dg w B [b]:=dg.cons (fun x hx=>by cases hx) hB (Has.gi h (by decide))
theorem eD.uv {w w':World} {B b:Nat} {g:bQ} {S:ac} {now count:Int} {A:Option Addr} {len cap:Nat} {dead:Bool} (K:eD w B g S) (h:eQ w b g now count A len cap dead) (hB:B<=b) (hb:b∉g.list) (o:Only [b] w w'):eD w' B g S:=
 K.only o (h.apart hB) fun x hx hx'=>by simp at hx';subst hx';exact hb hx
theorem eQ.only {w w':World} {b:Nat} {g:bQ} {now count:Int} {A:Option Addr} {len cap:Nat} {dead:Bool} {L:List Nat} (h:eQ w b g now count A len cap dead) (o:Only L w w') (hb:b∉L):eQ w' b g now count A len cap dead:=o.has h hb
theorem G8:(Tryz.prog.info? 198).map (fun i=>(i.zero,i.size,i.bytes))=some (some (.agg #[.int .i64 0,.int .i64 0]),2,16):=by kernel_rfl
theorem Le {b:Nat} {g:bQ} {now count:Int} {A:Option Addr} {len cap:Nat} {no:Int} (w:World) (h:eQ w b g now count A len cap true):Calls Tryz.prog 12 #[.pointer (some ⟨b,0,none⟩),.int .i64 no] w (aH w (.tuple #[gD ag,.int .i64 20])):=by
 obtain ⟨W0,bg⟩:∃W,W=w.alloc (.cells #[.int .i64 0,.int .i64 0,.int .i64 0,.int .i64 0,.int .i64 0,.int .i64 0,.int .i64 0,.int .i64 0,.int .i64 0,.int .i64 0] 46):=⟨_,rfl⟩;obtain ⟨b0,gE⟩:∃b,b=w.heap.size:=⟨_,rfl⟩;have E0:Ext w W0:=by rw[bg];exact (Ext.refl _).alloc _
 have R0:Has W0 b0 (.cells #[ag.no,ag.dev,ag.kind,ag.mode,ag.uid,ag.gid,ag.ah,.int .i64 ag.data.length,ag.mtime,ag.ctime] 46):=by rw[bg,gE];exact Has.new _ _
 have vQ:w.heap.size<=b0:=by omega
 have h0:=h.ext E0;go_enter Tryz.func12,Tryz.ntmps12;go_upto_region 1 with fail;rw [show w.alloc _=W0 from bg.symm,<-gE];clear bg gE;go_wp2_with fail;refine (Fi _ h0).mono ?_;rintro e w1 ⟨rfl,b1⟩;have R1:=R0.ext b1;have E1:=E0.trans b1;go_wp2_with (refine fV rfl _ _ rfl b0 ag rfl rfl R1 ?_;intro w9 R9 O9);refine bodyPost_ret (v:=.tuple #[.agg #[ag.no,ag.dev,ag.kind,ag.mode,ag.uid,ag.gid,ag.ah,.int .i64 ag.data.length,ag.mtime,ag.ctime],.int .i64 20]) (p_ Tryz.results12 _ _ b0 ag _ rfl rfl R9) rfl ?_;exact ⟨rfl,O9.after E1 (by simpa using vQ)⟩
theorem Lf {b B:Nat} {g:bQ} {S:ac} {now count:Int} {A:Option Addr} {len cap:Nat} {no:Int} (w:World) (h:eQ w b g now count A len cap false) (K:eD w B g S) (hd:0<S.af.length):Calls Tryz.prog 12 #[.pointer (some ⟨b,0,none⟩),.int .i64 no] w (aH w (.tuple #[gD (aa S.nodes no),.int .i64 (cK S no)])):=by
 obtain ⟨W0,bg⟩:∃W,W=w.alloc (.cells #[.int .i64 0,.int .i64 0,.int .i64 0,.int .i64 0,.int .i64 0,.int .i64 0,.int .i64 0,.int .i64 0,.int .i64 0,.int .i64 0] 46):=⟨_,rfl⟩;obtain ⟨b0,gE⟩:∃b,b=w.heap.size:=⟨_,rfl⟩;have E0:Ext w W0:=by rw[bg];exact (Ext.refl _).alloc _
 have R0:Has W0 b0 (.cells #[ag.no,ag.dev,ag.kind,ag.mode,ag.uid,ag.gid,ag.ah,.int .i64 ag.data.length,ag.mtime,ag.ctime] 46):=by rw[bg,gE];exact Has.new _ _
 have vQ:w.heap.size<=b0:=by omega
 have h0:=h.ext E0;have K0:=K.ext E0;go_enter Tryz.func12,Tryz.ntmps12;go_upto_region 1 with fail;rw [show w.alloc _=W0 from bg.symm,<-gE];clear bg gE;go_wp2_with fail;refine (Fi _ h0).mono ?_;rintro e w1 ⟨rfl,b1⟩;have R1:=R0.ext b1;have E1:=E0.trans b1;have h1:=h0.ext b1;have K1:=K0.ext b1;have c0:=Has.cell h1 0;have cz:=Has.lt h1;go_wp2_with fail;refine (G0 B g S no _ K1 hd).mono ?_;rintro e w2 ⟨rfl,b2⟩;have R2:=R1.ext b2;have E2:=E1.trans b2;obtain⟨m,hm⟩:=ar (aa S.nodes no);obtain⟨x,hx⟩:=ar (cK S no);rw [<-hm,<-hx];have oM:=zH hm;have Rp:=zH hx;clear hm hx;unfold gD;go_wp2_with (refine fV rfl _ _ rfl b0 m rfl rfl R2 ?_;intro w9 R9 O9);refine bodyPost_ret (v:=.tuple #[.agg #[m.no,m.dev,m.kind,m.mode,m.uid,m.gid,m.ah,.int .i64 m.data.length,m.mtime,m.ctime],.int .i64 x]) (p_ Tryz.results12 _ _ b0 m _ rfl rfl R9) rfl ?_;exact ⟨by (try rw[<-oM.out]);(try rw[<-Rp.out]);rfl,O9.after E2 (by simpa using vQ)⟩
theorem Te {b:Nat} {g:bQ} {now count:Int} {A:Option Addr} {cap:Nat} (l:List (Int×Int)) (w:World) (cu cg:Int) (dir:Int) (nm:ByteArray) (mode:Int) (h:eQ w b g now count A l.length cap false) (hp:cZ w A l) (ho:dK A b) (hl:l.length<=1000000) (hc0:0<=count) (hc1:count<=1000000) {x:Int} (hx:jz l (count+1)=x) (hx0:x≠0) :
  Calls Tryz.prog 64 #[.pointer (some ⟨b,0,none⟩),.agg #[cu,cg],.int .i64 dir,.string nm,.int .i64 mode] w
   (fun e w'=>e=.returned (.tuple #[.int .i64 0,.int .i64 x])/\eQ w' b g now (count+1) A l.length cap (gK l (count+1))/\Only [b] w w'):=by
 obtain⟨n,hn⟩:=ar l.length;have KC:Hid (∀u,Ext w u->Calls Tryz.prog 81 #[.pointer (some ⟨b,0,none⟩)] u (fun e w'=>e=.returned (.int .i64 x)/\eQ w' b g now (count+1) A n cap (gK l (count+1))/\Only [b] u w')):=by
  show ∀u,_;intro u hu;rw [<-hx,hn];exact fW l u (h.ext hu) (hp.ext hu) ho hl hc0 hc1
 rw [<-hn];clear hn hx;have t1:(x != 0)=true:=by simpa using hx0
 clear hx0 h hp ho hl hc0 hc1;go_enter Tryz.func64,Tryz.ntmps64;go_wp2_with fail;refine (KC.out _ ((Ext.refl _).alloc _)).mono ?_;rintro e w1 ⟨rfl,S1,O1⟩;go_wp2_with fail;go_ret2;exact ⟨rfl,S1,Only.pre ((Ext.refl _).alloc _) O1⟩
theorem Tf {b:Nat} {g:bQ} {now count:Int} {A:Option Addr} {cap:Nat} (l:List (Int×Int)) (w:World) (cu cg:Int) (dir:Int) (nm:ByteArray) (mode:Int) (h:eQ w b g now count A l.length cap false) (hp:cZ w A l) (ho:dK A b) (hl:l.length<=1000000) (hc0:0<=count) (hc1:count<=1000000) (B:Nat) (S:ac)
  (K:eD w B g S) (hb:b∉g.list) (Dv:B<=b) (hx:jz l (count+1)=0/\gK l (count+1)=false) {T:ac} {y z:Int}
  (KD:∀u,eD u B g S->Calls Tryz.prog 99 #[.pointer (some ⟨g.bW,0,none⟩),.agg #[cu,cg],.int .i64 now,.int .i64 dir,.string nm,.int .i64 mode] u (Fb u B g T y z)) :
  Calls Tryz.prog 64 #[.pointer (some ⟨b,0,none⟩),.agg #[cu,cg],.int .i64 dir,.string nm,.int .i64 mode] w
   (fun e w'=>e=.returned (.tuple #[.int .i64 y,.int .i64 z])/\eD w' B g T/\eQ w' b g now (count+1) A l.length cap false/\Only (b::g.list) w w'):=by
 obtain⟨n,hn⟩:=ar l.length;obtain ⟨W0,bg⟩:∃W,W=w.alloc (.cells #[cu,cg] 27):=⟨_,rfl⟩;obtain ⟨b0,gE⟩:∃b,b=w.heap.size:=⟨_,rfl⟩;have E0:Ext w W0:=by rw[bg];exact (Ext.refl _).alloc _
 have N0:Has W0 b0 (.cells #[cu,cg] 27):=by rw[bg,gE];exact Has.new _ _
 have tN:b0≠b:=by have:=Has.lt h;omega
 have KC:Hid (Calls Tryz.prog 81 #[.pointer (some ⟨b,0,none⟩)] W0 (fun e w'=>e=.returned (.int .i64 0)/\eQ w' b g now (count+1) A n cap false/\Only [b] W0 w')):=by
  show Calls _ _ _ _ _;have:=fW l W0 (h.ext E0) (hp.ext E0) ho hl hc0 hc1;rw [hx.1,hx.2,<-hn]at this;exact this
 have S0:=h.ext E0;have K0:=K.ext E0;have G9:=zH KD;rw [<-hn];clear hn hx h hp ho hl hc0 hc1 K KD;go_enter Tryz.func64,Tryz.ntmps64;go_upto_region 1 with fail;rw [<-bg,<-gE];clear bg gE;go_wp2_with fail;refine KC.out.mono ?_;rintro e w1 ⟨rfl,S1,O1⟩;have K1:=K0.uv S0 Dv hb O1;have N1:=O1.has N0 (by simpa using tN);have c0:=Has.cell S1 0;have c1:=Has.cell S1 1;have cz:=Has.lt S1;have d0:=N1.cell 0;have d1:=N1.cell 1;have dz:=N1.lt;go_wp2_with fail;go_region_with (go_at_call 99;refine (G9.out _ (K1.ext (Ext.refl _).drew)).mono ?_;rintro e w2 ⟨rfl,K2,O2⟩)
 all_goals
  go_wp2_with fail;go_ret2;refine ⟨rfl,K2,eQ.only (eQ.ext S1 (Ext.refl _).drew) O2 hb,?_⟩;exact (Only.pre E0 (O1.mono (fun x hx=>by simp at hx;subst hx;simp))).then ((Only.aw (Ext.refl _).drew).then (O2.mono (fun x hx=>by simp[hx])))
theorem PB {b:Nat} {g:bQ} {now count:Int} {A:Option Addr} {cap:Nat} (l:List (Int×Int)) (w:World) (cu cg:Int) (dir:Int) (nm:ByteArray) (mode:Int) (data:ByteArray) (h:eQ w b g now count A l.length cap false) (hp:cZ w A l) (ho:dK A b) (hl:l.length<=1000000) (hc0:0<=count) (hc1:count<=1000000) {x:Int} (hx:jz l (count+1)=x) (hx0:x≠0) :
  Calls Tryz.prog 66 #[.pointer (some ⟨b,0,none⟩),.agg #[cu,cg],.int .i64 dir,.string nm,.int .i64 mode,.string data] w
   (fun e w'=>e=.returned (.tuple #[.int .i64 0,.int .i64 x])/\eQ w' b g now (count+1) A l.length cap (gK l (count+1))/\Only [b] w w'):=by
 obtain⟨n,hn⟩:=ar l.length;have KC:Hid (∀u,Ext w u->Calls Tryz.prog 81 #[.pointer (some ⟨b,0,none⟩)] u (fun e w'=>e=.returned (.int .i64 x)/\eQ w' b g now (count+1) A n cap (gK l (count+1))/\Only [b] u w')):=by
  show ∀u,_;intro u hu;rw [<-hx,hn];exact fW l u (h.ext hu) (hp.ext hu) ho hl hc0 hc1
 rw [<-hn];clear hn hx;have t1:(x != 0)=true:=by simpa using hx0
 clear hx0 h hp ho hl hc0 hc1;go_enter Tryz.func66,Tryz.ntmps66;go_wp2_with fail;refine (KC.out _ ((Ext.refl _).alloc _)).mono ?_;rintro e w1 ⟨rfl,S1,O1⟩;go_wp2_with fail;go_ret2;exact ⟨rfl,S1,Only.pre ((Ext.refl _).alloc _) O1⟩
theorem PC {b:Nat} {g:bQ} {now count:Int} {A:Option Addr} {cap:Nat} (l:List (Int×Int)) (w:World) (cu cg:Int) (dir:Int) (nm:ByteArray) (mode:Int) (data:ByteArray) (h:eQ w b g now count A l.length cap false) (hp:cZ w A l) (ho:dK A b) (hl:l.length<=1000000) (hc0:0<=count) (hc1:count<=1000000) (B:Nat) (S:ac)
  (K:eD w B g S) (hb:b∉g.list) (Dv:B<=b) (hx:jz l (count+1)=0/\gK l (count+1)=false) {T:ac} {y z:Int}
  (KD:∀u,eD u B g S->Calls Tryz.prog 101 #[.pointer (some ⟨g.bW,0,none⟩),.agg #[cu,cg],.int .i64 now,.int .i64 dir,.string nm,.int .i64 mode,.string data] u (Fb u B g T y z)) :
  Calls Tryz.prog 66 #[.pointer (some ⟨b,0,none⟩),.agg #[cu,cg],.int .i64 dir,.string nm,.int .i64 mode,.string data] w
   (fun e w'=>e=.returned (.tuple #[.int .i64 y,.int .i64 z])/\eD w' B g T/\eQ w' b g now (count+1) A l.length cap false/\Only (b::g.list) w w'):=by
 obtain⟨n,hn⟩:=ar l.length;obtain ⟨W0,bg⟩:∃W,W=w.alloc (.cells #[cu,cg] 27):=⟨_,rfl⟩;obtain ⟨b0,gE⟩:∃b,b=w.heap.size:=⟨_,rfl⟩;have E0:Ext w W0:=by rw[bg];exact (Ext.refl _).alloc _
 have N0:Has W0 b0 (.cells #[cu,cg] 27):=by rw[bg,gE];exact Has.new _ _
 have tN:b0≠b:=by have:=Has.lt h;omega
 have KC:Hid (Calls Tryz.prog 81 #[.pointer (some ⟨b,0,none⟩)] W0 (fun e w'=>e=.returned (.int .i64 0)/\eQ w' b g now (count+1) A n cap false/\Only [b] W0 w')):=by
  show Calls _ _ _ _ _;have:=fW l W0 (h.ext E0) (hp.ext E0) ho hl hc0 hc1;rw [hx.1,hx.2,<-hn]at this;exact this
 have S0:=h.ext E0;have K0:=K.ext E0;have G9:=zH KD;rw [<-hn];clear hn hx h hp ho hl hc0 hc1 K KD;go_enter Tryz.func66,Tryz.ntmps66;go_upto_region 1 with fail;rw [<-bg,<-gE];clear bg gE;go_wp2_with fail;refine KC.out.mono ?_;rintro e w1 ⟨rfl,S1,O1⟩;have K1:=K0.uv S0 Dv hb O1;have N1:=O1.has N0 (by simpa using tN);have c0:=Has.cell S1 0;have c1:=Has.cell S1 1;have cz:=Has.lt S1;have d0:=N1.cell 0;have d1:=N1.cell 1;have dz:=N1.lt;go_wp2_with fail;go_region_with (go_at_call 101;refine (G9.out _ (K1.ext (Ext.refl _).drew)).mono ?_;rintro e w2 ⟨rfl,K2,O2⟩)
 all_goals
  go_wp2_with fail;go_ret2;refine ⟨rfl,K2,eQ.only (eQ.ext S1 (Ext.refl _).drew) O2 hb,?_⟩;exact (Only.pre E0 (O1.mono (fun x hx=>by simp at hx;subst hx;simp))).then ((Only.aw (Ext.refl _).drew).then (O2.mono (fun x hx=>by simp[hx])))
theorem Lg {b:Nat} {g:bQ} {now count:Int} {A:Option Addr} {cap:Nat} (l:List (Int×Int)) (w:World) (cu cg:Int) (dir:Int) (nm:ByteArray) (text:ByteArray) (h:eQ w b g now count A l.length cap false) (hp:cZ w A l) (ho:dK A b) (hl:l.length<=1000000) (hc0:0<=count) (hc1:count<=1000000) {x:Int} (hx:jz l (count+1)=x) (hx0:x≠0) :
  Calls Tryz.prog 68 #[.pointer (some ⟨b,0,none⟩),.agg #[cu,cg],.int .i64 dir,.string nm,.string text] w
   (fun e w'=>e=.returned (.tuple #[.int .i64 0,.int .i64 x])/\eQ w' b g now (count+1) A l.length cap (gK l (count+1))/\Only [b] w w'):=by
 obtain⟨n,hn⟩:=ar l.length;have KC:Hid (∀u,Ext w u->Calls Tryz.prog 81 #[.pointer (some ⟨b,0,none⟩)] u (fun e w'=>e=.returned (.int .i64 x)/\eQ w' b g now (count+1) A n cap (gK l (count+1))/\Only [b] u w')):=by
  show ∀u,_;intro u hu;rw [<-hx,hn];exact fW l u (h.ext hu) (hp.ext hu) ho hl hc0 hc1
 rw [<-hn];clear hn hx;have t1:(x != 0)=true:=by simpa using hx0
 clear hx0 h hp ho hl hc0 hc1;go_enter Tryz.func68,Tryz.ntmps68;go_wp2_with fail;refine (KC.out _ ((Ext.refl _).alloc _)).mono ?_;rintro e w1 ⟨rfl,S1,O1⟩;go_wp2_with fail;go_ret2;exact ⟨rfl,S1,Only.pre ((Ext.refl _).alloc _) O1⟩
theorem Lh {b:Nat} {g:bQ} {now count:Int} {A:Option Addr} {cap:Nat} (l:List (Int×Int)) (w:World) (cu cg:Int) (dir:Int) (nm:ByteArray) (text:ByteArray) (h:eQ w b g now count A l.length cap false) (hp:cZ w A l) (ho:dK A b) (hl:l.length<=1000000) (hc0:0<=count) (hc1:count<=1000000) (B:Nat) (S:ac)
  (K:eD w B g S) (hb:b∉g.list) (Dv:B<=b) (hx:jz l (count+1)=0/\gK l (count+1)=false) {T:ac} {y z:Int}
  (KD:∀u,eD u B g S->Calls Tryz.prog 103 #[.pointer (some ⟨g.bW,0,none⟩),.agg #[cu,cg],.int .i64 now,.int .i64 dir,.string nm,.string text] u (Fb u B g T y z)) :
  Calls Tryz.prog 68 #[.pointer (some ⟨b,0,none⟩),.agg #[cu,cg],.int .i64 dir,.string nm,.string text] w
   (fun e w'=>e=.returned (.tuple #[.int .i64 y,.int .i64 z])/\eD w' B g T/\eQ w' b g now (count+1) A l.length cap false/\Only (b::g.list) w w'):=by
 obtain⟨n,hn⟩:=ar l.length;obtain ⟨W0,bg⟩:∃W,W=w.alloc (.cells #[cu,cg] 27):=⟨_,rfl⟩;obtain ⟨b0,gE⟩:∃b,b=w.heap.size:=⟨_,rfl⟩;have E0:Ext w W0:=by rw[bg];exact (Ext.refl _).alloc _
 have N0:Has W0 b0 (.cells #[cu,cg] 27):=by rw[bg,gE];exact Has.new _ _
 have tN:b0≠b:=by have:=Has.lt h;omega
 have KC:Hid (Calls Tryz.prog 81 #[.pointer (some ⟨b,0,none⟩)] W0 (fun e w'=>e=.returned (.int .i64 0)/\eQ w' b g now (count+1) A n cap false/\Only [b] W0 w')):=by
  show Calls _ _ _ _ _;have:=fW l W0 (h.ext E0) (hp.ext E0) ho hl hc0 hc1;rw [hx.1,hx.2,<-hn]at this;exact this
 have S0:=h.ext E0;have K0:=K.ext E0;have G9:=zH KD;rw [<-hn];clear hn hx h hp ho hl hc0 hc1 K KD;go_enter Tryz.func68,Tryz.ntmps68;go_upto_region 1 with fail;rw [<-bg,<-gE];clear bg gE;go_wp2_with fail;refine KC.out.mono ?_;rintro e w1 ⟨rfl,S1,O1⟩;have K1:=K0.uv S0 Dv hb O1;have N1:=O1.has N0 (by simpa using tN);have c0:=Has.cell S1 0;have c1:=Has.cell S1 1;have cz:=Has.lt S1;have d0:=N1.cell 0;have d1:=N1.cell 1;have dz:=N1.lt;go_wp2_with fail;go_region_with (go_at_call 103;refine (G9.out _ (K1.ext (Ext.refl _).drew)).mono ?_;rintro e w2 ⟨rfl,K2,O2⟩)
 all_goals
  go_wp2_with fail;go_ret2;refine ⟨rfl,K2,eQ.only (eQ.ext S1 (Ext.refl _).drew) O2 hb,?_⟩;exact (Only.pre E0 (O1.mono (fun x hx=>by simp at hx;subst hx;simp))).then ((Only.aw (Ext.refl _).drew).then (O2.mono (fun x hx=>by simp[hx])))
theorem Xd {b:Nat} {g:bQ} {now count:Int} {A:Option Addr} {cap:Nat} (l:List (Int×Int)) (w:World) (cu cg:Int) (no:Int) (dir:Int) (nm:ByteArray) (h:eQ w b g now count A l.length cap false) (hp:cZ w A l) (ho:dK A b) (hl:l.length<=1000000) (hc0:0<=count) (hc1:count<=1000000) {x:Int} (hx:jz l (count+1)=x) (hx0:x≠0) :
  Calls Tryz.prog 63 #[.pointer (some ⟨b,0,none⟩),.agg #[cu,cg],.int .i64 no,.int .i64 dir,.string nm] w
   (fun e w'=>e=.returned (.int .i64 x)/\eQ w' b g now (count+1) A l.length cap (gK l (count+1))/\Only [b] w w'):=by
 obtain⟨n,hn⟩:=ar l.length;have KC:Hid (∀u,Ext w u->Calls Tryz.prog 81 #[.pointer (some ⟨b,0,none⟩)] u (fun e w'=>e=.returned (.int .i64 x)/\eQ w' b g now (count+1) A n cap (gK l (count+1))/\Only [b] u w')):=by
  show ∀u,_;intro u hu;rw [<-hx,hn];exact fW l u (h.ext hu) (hp.ext hu) ho hl hc0 hc1
 rw [<-hn];clear hn hx;have t1:(x != 0)=true:=by simpa using hx0
 clear hx0 h hp ho hl hc0 hc1;go_enter Tryz.func63,Tryz.ntmps63;go_wp2_with fail;refine (KC.out _ ((Ext.refl _).alloc _)).mono ?_;rintro e w1 ⟨rfl,S1,O1⟩;go_wp2_with fail;go_ret;exact ⟨rfl,S1,Only.pre ((Ext.refl _).alloc _) O1⟩
theorem Xe {b:Nat} {g:bQ} {now count:Int} {A:Option Addr} {cap:Nat} (l:List (Int×Int)) (w:World) (cu cg:Int) (no:Int) (dir:Int) (nm:ByteArray) (h:eQ w b g now count A l.length cap false) (hp:cZ w A l) (ho:dK A b) (hl:l.length<=1000000) (hc0:0<=count) (hc1:count<=1000000) (B:Nat) (S:ac)
  (K:eD w B g S) (hb:b∉g.list) (Dv:B<=b) (hx:jz l (count+1)=0/\gK l (count+1)=false) {T:ac} {z:Int}
  (KD:∀u,eD u B g S->Calls Tryz.prog 98 #[.pointer (some ⟨g.bW,0,none⟩),.agg #[cu,cg],.int .i64 now,.int .i64 no,.int .i64 dir,.string nm] u (wg u B g T z)) :
  Calls Tryz.prog 63 #[.pointer (some ⟨b,0,none⟩),.agg #[cu,cg],.int .i64 no,.int .i64 dir,.string nm] w
   (fun e w'=>e=.returned (.int .i64 z)/\eD w' B g T/\eQ w' b g now (count+1) A l.length cap false/\Only (b::g.list) w w'):=by
 obtain⟨n,hn⟩:=ar l.length;obtain ⟨W0,bg⟩:∃W,W=w.alloc (.cells #[cu,cg] 27):=⟨_,rfl⟩;obtain ⟨b0,gE⟩:∃b,b=w.heap.size:=⟨_,rfl⟩;have E0:Ext w W0:=by rw[bg];exact (Ext.refl _).alloc _
 have N0:Has W0 b0 (.cells #[cu,cg] 27):=by rw[bg,gE];exact Has.new _ _
 have tN:b0≠b:=by have:=Has.lt h;omega
 have KC:Hid (Calls Tryz.prog 81 #[.pointer (some ⟨b,0,none⟩)] W0 (fun e w'=>e=.returned (.int .i64 0)/\eQ w' b g now (count+1) A n cap false/\Only [b] W0 w')):=by
  show Calls _ _ _ _ _;have:=fW l W0 (h.ext E0) (hp.ext E0) ho hl hc0 hc1;rw [hx.1,hx.2,<-hn]at this;exact this
 have S0:=h.ext E0;have K0:=K.ext E0;have G9:=zH KD;rw [<-hn];clear hn hx h hp ho hl hc0 hc1 K KD;go_enter Tryz.func63,Tryz.ntmps63;go_upto_region 1 with fail;rw [<-bg,<-gE];clear bg gE;go_wp2_with fail;refine KC.out.mono ?_;rintro e w1 ⟨rfl,S1,O1⟩;have K1:=K0.uv S0 Dv hb O1;have N1:=O1.has N0 (by simpa using tN);have c0:=Has.cell S1 0;have c1:=Has.cell S1 1;have cz:=Has.lt S1;have d0:=N1.cell 0;have d1:=N1.cell 1;have dz:=N1.lt;go_wp2_with fail;go_region_with (go_at_call 98;refine (G9.out _ (K1.ext (Ext.refl _).drew)).mono ?_;rintro e w2 ⟨rfl,K2,O2⟩)
 all_goals
  go_wp2_with fail;go_ret;refine ⟨rfl,K2,eQ.only (eQ.ext S1 (Ext.refl _).drew) O2 hb,?_⟩;exact (Only.pre E0 (O1.mono (fun x hx=>by simp at hx;subst hx;simp))).then ((Only.aw (Ext.refl _).drew).then (O2.mono (fun x hx=>by simp[hx])))
theorem Tg {b:Nat} {g:bQ} {now count:Int} {A:Option Addr} {cap:Nat} (l:List (Int×Int)) (w:World) (cu cg:Int) (no:Int) (mode:Int) (h:eQ w b g now count A l.length cap false) (hp:cZ w A l) (ho:dK A b) (hl:l.length<=1000000) (hc0:0<=count) (hc1:count<=1000000) {x:Int} (hx:jz l (count+1)=x) (hx0:x≠0) :
  Calls Tryz.prog 48 #[.pointer (some ⟨b,0,none⟩),.agg #[cu,cg],.int .i64 no,.int .i64 mode] w
   (fun e w'=>e=.returned (.int .i64 x)/\eQ w' b g now (count+1) A l.length cap (gK l (count+1))/\Only [b] w w'):=by
 obtain⟨n,hn⟩:=ar l.length;have KC:Hid (∀u,Ext w u->Calls Tryz.prog 81 #[.pointer (some ⟨b,0,none⟩)] u (fun e w'=>e=.returned (.int .i64 x)/\eQ w' b g now (count+1) A n cap (gK l (count+1))/\Only [b] u w')):=by
  show ∀u,_;intro u hu;rw [<-hx,hn];exact fW l u (h.ext hu) (hp.ext hu) ho hl hc0 hc1
 rw [<-hn];clear hn hx;have t1:(x != 0)=true:=by simpa using hx0
 clear hx0 h hp ho hl hc0 hc1;go_enter Tryz.func48,Tryz.ntmps48;go_wp2_with fail;refine (KC.out _ ((Ext.refl _).alloc _)).mono ?_;rintro e w1 ⟨rfl,S1,O1⟩;go_wp2_with fail;go_ret;exact ⟨rfl,S1,Only.pre ((Ext.refl _).alloc _) O1⟩
theorem Th {b:Nat} {g:bQ} {now count:Int} {A:Option Addr} {cap:Nat} (l:List (Int×Int)) (w:World) (cu cg:Int) (no:Int) (mode:Int) (h:eQ w b g now count A l.length cap false) (hp:cZ w A l) (ho:dK A b) (hl:l.length<=1000000) (hc0:0<=count) (hc1:count<=1000000) (B:Nat) (S:ac)
  (K:eD w B g S) (hb:b∉g.list) (Dv:B<=b) (hx:jz l (count+1)=0/\gK l (count+1)=false) {T:ac} {z:Int}
  (KD:∀u,eD u B g S->Calls Tryz.prog 83 #[.pointer (some ⟨g.bW,0,none⟩),.agg #[cu,cg],.int .i64 now,.int .i64 no,.int .i64 mode] u (wg u B g T z)) :
  Calls Tryz.prog 48 #[.pointer (some ⟨b,0,none⟩),.agg #[cu,cg],.int .i64 no,.int .i64 mode] w
   (fun e w'=>e=.returned (.int .i64 z)/\eD w' B g T/\eQ w' b g now (count+1) A l.length cap false/\Only (b::g.list) w w'):=by
 obtain⟨n,hn⟩:=ar l.length;obtain ⟨W0,bg⟩:∃W,W=w.alloc (.cells #[cu,cg] 27):=⟨_,rfl⟩;obtain ⟨b0,gE⟩:∃b,b=w.heap.size:=⟨_,rfl⟩;have E0:Ext w W0:=by rw[bg];exact (Ext.refl _).alloc _
 have N0:Has W0 b0 (.cells #[cu,cg] 27):=by rw[bg,gE];exact Has.new _ _
 have tN:b0≠b:=by have:=Has.lt h;omega
 have KC:Hid (Calls Tryz.prog 81 #[.pointer (some ⟨b,0,none⟩)] W0 (fun e w'=>e=.returned (.int .i64 0)/\eQ w' b g now (count+1) A n cap false/\Only [b] W0 w')):=by
  show Calls _ _ _ _ _;have:=fW l W0 (h.ext E0) (hp.ext E0) ho hl hc0 hc1;rw [hx.1,hx.2,<-hn]at this;exact this
 have S0:=h.ext E0;have K0:=K.ext E0;have G9:=zH KD;rw [<-hn];clear hn hx h hp ho hl hc0 hc1 K KD;go_enter Tryz.func48,Tryz.ntmps48;go_upto_region 1 with fail;rw [<-bg,<-gE];clear bg gE;go_wp2_with fail;refine KC.out.mono ?_;rintro e w1 ⟨rfl,S1,O1⟩;have K1:=K0.uv S0 Dv hb O1;have N1:=O1.has N0 (by simpa using tN);have c0:=Has.cell S1 0;have c1:=Has.cell S1 1;have cz:=Has.lt S1;have d0:=N1.cell 0;have d1:=N1.cell 1;have dz:=N1.lt;go_wp2_with fail;go_region_with (go_at_call 83;refine (G9.out _ (K1.ext (Ext.refl _).drew)).mono ?_;rintro e w2 ⟨rfl,K2,O2⟩)
 all_goals
  go_wp2_with fail;go_ret;refine ⟨rfl,K2,eQ.only (eQ.ext S1 (Ext.refl _).drew) O2 hb,?_⟩;exact (Only.pre E0 (O1.mono (fun x hx=>by simp at hx;subst hx;simp))).then ((Only.aw (Ext.refl _).drew).then (O2.mono (fun x hx=>by simp[hx])))
theorem Ti {b:Nat} {g:bQ} {now count:Int} {A:Option Addr} {cap:Nat} (l:List (Int×Int)) (w:World) (cu cg:Int) (no:Int) (uid:Int) (gid:Int) (h:eQ w b g now count A l.length cap false) (hp:cZ w A l) (ho:dK A b) (hl:l.length<=1000000) (hc0:0<=count) (hc1:count<=1000000) {x:Int} (hx:jz l (count+1)=x) (hx0:x≠0) :
  Calls Tryz.prog 47 #[.pointer (some ⟨b,0,none⟩),.agg #[cu,cg],.int .i64 no,.int .i64 uid,.int .i64 gid] w
   (fun e w'=>e=.returned (.int .i64 x)/\eQ w' b g now (count+1) A l.length cap (gK l (count+1))/\Only [b] w w'):=by
 obtain⟨n,hn⟩:=ar l.length;have KC:Hid (∀u,Ext w u->Calls Tryz.prog 81 #[.pointer (some ⟨b,0,none⟩)] u (fun e w'=>e=.returned (.int .i64 x)/\eQ w' b g now (count+1) A n cap (gK l (count+1))/\Only [b] u w')):=by
  show ∀u,_;intro u hu;rw [<-hx,hn];exact fW l u (h.ext hu) (hp.ext hu) ho hl hc0 hc1
 rw [<-hn];clear hn hx;have t1:(x != 0)=true:=by simpa using hx0
 clear hx0 h hp ho hl hc0 hc1;go_enter Tryz.func47,Tryz.ntmps47;go_wp2_with fail;refine (KC.out _ ((Ext.refl _).alloc _)).mono ?_;rintro e w1 ⟨rfl,S1,O1⟩;go_wp2_with fail;go_ret;exact ⟨rfl,S1,Only.pre ((Ext.refl _).alloc _) O1⟩
theorem Tj {b:Nat} {g:bQ} {now count:Int} {A:Option Addr} {cap:Nat} (l:List (Int×Int)) (w:World) (cu cg:Int) (no:Int) (uid:Int) (gid:Int) (h:eQ w b g now count A l.length cap false) (hp:cZ w A l) (ho:dK A b) (hl:l.length<=1000000) (hc0:0<=count) (hc1:count<=1000000) (B:Nat) (S:ac)
  (K:eD w B g S) (hb:b∉g.list) (Dv:B<=b) (hx:jz l (count+1)=0/\gK l (count+1)=false) {T:ac} {z:Int}
  (KD:∀u,eD u B g S->Calls Tryz.prog 82 #[.pointer (some ⟨g.bW,0,none⟩),.agg #[cu,cg],.int .i64 now,.int .i64 no,.int .i64 uid,.int .i64 gid] u (wg u B g T z)) :
  Calls Tryz.prog 47 #[.pointer (some ⟨b,0,none⟩),.agg #[cu,cg],.int .i64 no,.int .i64 uid,.int .i64 gid] w
   (fun e w'=>e=.returned (.int .i64 z)/\eD w' B g T/\eQ w' b g now (count+1) A l.length cap false/\Only (b::g.list) w w'):=by
 obtain⟨n,hn⟩:=ar l.length;obtain ⟨W0,bg⟩:∃W,W=w.alloc (.cells #[cu,cg] 27):=⟨_,rfl⟩;obtain ⟨b0,gE⟩:∃b,b=w.heap.size:=⟨_,rfl⟩;have E0:Ext w W0:=by rw[bg];exact (Ext.refl _).alloc _
 have N0:Has W0 b0 (.cells #[cu,cg] 27):=by rw[bg,gE];exact Has.new _ _
 have tN:b0≠b:=by have:=Has.lt h;omega
 have KC:Hid (Calls Tryz.prog 81 #[.pointer (some ⟨b,0,none⟩)] W0 (fun e w'=>e=.returned (.int .i64 0)/\eQ w' b g now (count+1) A n cap false/\Only [b] W0 w')):=by
  show Calls _ _ _ _ _;have:=fW l W0 (h.ext E0) (hp.ext E0) ho hl hc0 hc1;rw [hx.1,hx.2,<-hn]at this;exact this
 have S0:=h.ext E0;have K0:=K.ext E0;have G9:=zH KD;rw [<-hn];clear hn hx h hp ho hl hc0 hc1 K KD;go_enter Tryz.func47,Tryz.ntmps47;go_upto_region 1 with fail;rw [<-bg,<-gE];clear bg gE;go_wp2_with fail;refine KC.out.mono ?_;rintro e w1 ⟨rfl,S1,O1⟩;have K1:=K0.uv S0 Dv hb O1;have N1:=O1.has N0 (by simpa using tN);have c0:=Has.cell S1 0;have c1:=Has.cell S1 1;have cz:=Has.lt S1;have d0:=N1.cell 0;have d1:=N1.cell 1;have dz:=N1.lt;go_wp2_with fail;go_region_with (go_at_call 82;refine (G9.out _ (K1.ext (Ext.refl _).drew)).mono ?_;rintro e w2 ⟨rfl,K2,O2⟩)
 all_goals
  go_wp2_with fail;go_ret;refine ⟨rfl,K2,eQ.only (eQ.ext S1 (Ext.refl _).drew) O2 hb,?_⟩;exact (Only.pre E0 (O1.mono (fun x hx=>by simp at hx;subst hx;simp))).then ((Only.aw (Ext.refl _).drew).then (O2.mono (fun x hx=>by simp[hx])))
theorem Tk {b:Nat} {g:bQ} {now count:Int} {A:Option Addr} {cap:Nat} (l:List (Int×Int)) (w:World) (cu cg:Int) (no:Int) (mtime:Int) (h:eQ w b g now count A l.length cap false) (hp:cZ w A l) (ho:dK A b) (hl:l.length<=1000000) (hc0:0<=count) (hc1:count<=1000000) {x:Int} (hx:jz l (count+1)=x) (hx0:x≠0) :
  Calls Tryz.prog 49 #[.pointer (some ⟨b,0,none⟩),.agg #[cu,cg],.int .i64 no,.int .i64 mtime] w
   (fun e w'=>e=.returned (.int .i64 x)/\eQ w' b g now (count+1) A l.length cap (gK l (count+1))/\Only [b] w w'):=by
 obtain⟨n,hn⟩:=ar l.length;have KC:Hid (∀u,Ext w u->Calls Tryz.prog 81 #[.pointer (some ⟨b,0,none⟩)] u (fun e w'=>e=.returned (.int .i64 x)/\eQ w' b g now (count+1) A n cap (gK l (count+1))/\Only [b] u w')):=by
  show ∀u,_;intro u hu;rw [<-hx,hn];exact fW l u (h.ext hu) (hp.ext hu) ho hl hc0 hc1
 rw [<-hn];clear hn hx;have t1:(x != 0)=true:=by simpa using hx0
 clear hx0 h hp ho hl hc0 hc1;go_enter Tryz.func49,Tryz.ntmps49;go_wp2_with fail;refine (KC.out _ ((Ext.refl _).alloc _)).mono ?_;rintro e w1 ⟨rfl,S1,O1⟩;go_wp2_with fail;go_ret;exact ⟨rfl,S1,Only.pre ((Ext.refl _).alloc _) O1⟩
theorem Tm {b:Nat} {g:bQ} {now count:Int} {A:Option Addr} {cap:Nat} (l:List (Int×Int)) (w:World) (cu cg:Int) (no:Int) (mtime:Int) (h:eQ w b g now count A l.length cap false) (hp:cZ w A l) (ho:dK A b) (hl:l.length<=1000000) (hc0:0<=count) (hc1:count<=1000000) (B:Nat) (S:ac)
  (K:eD w B g S) (hb:b∉g.list) (Dv:B<=b) (hx:jz l (count+1)=0/\gK l (count+1)=false) {T:ac} {z:Int}
  (KD:∀u,eD u B g S->Calls Tryz.prog 84 #[.pointer (some ⟨g.bW,0,none⟩),.agg #[cu,cg],.int .i64 now,.int .i64 no,.int .i64 mtime] u (wg u B g T z)) :
  Calls Tryz.prog 49 #[.pointer (some ⟨b,0,none⟩),.agg #[cu,cg],.int .i64 no,.int .i64 mtime] w
   (fun e w'=>e=.returned (.int .i64 z)/\eD w' B g T/\eQ w' b g now (count+1) A l.length cap false/\Only (b::g.list) w w'):=by
 obtain⟨n,hn⟩:=ar l.length;obtain ⟨W0,bg⟩:∃W,W=w.alloc (.cells #[cu,cg] 27):=⟨_,rfl⟩;obtain ⟨b0,gE⟩:∃b,b=w.heap.size:=⟨_,rfl⟩;have E0:Ext w W0:=by rw[bg];exact (Ext.refl _).alloc _
 have N0:Has W0 b0 (.cells #[cu,cg] 27):=by rw[bg,gE];exact Has.new _ _
 have tN:b0≠b:=by have:=Has.lt h;omega
 have KC:Hid (Calls Tryz.prog 81 #[.pointer (some ⟨b,0,none⟩)] W0 (fun e w'=>e=.returned (.int .i64 0)/\eQ w' b g now (count+1) A n cap false/\Only [b] W0 w')):=by
  show Calls _ _ _ _ _;have:=fW l W0 (h.ext E0) (hp.ext E0) ho hl hc0 hc1;rw [hx.1,hx.2,<-hn]at this;exact this
 have S0:=h.ext E0;have K0:=K.ext E0;have G9:=zH KD;rw [<-hn];clear hn hx h hp ho hl hc0 hc1 K KD;go_enter Tryz.func49,Tryz.ntmps49;go_upto_region 1 with fail;rw [<-bg,<-gE];clear bg gE;go_wp2_with fail;refine KC.out.mono ?_;rintro e w1 ⟨rfl,S1,O1⟩;have K1:=K0.uv S0 Dv hb O1;have N1:=O1.has N0 (by simpa using tN);have c0:=Has.cell S1 0;have c1:=Has.cell S1 1;have cz:=Has.lt S1;have d0:=N1.cell 0;have d1:=N1.cell 1;have dz:=N1.lt;go_wp2_with fail;go_region_with (go_at_call 84;refine (G9.out _ (K1.ext (Ext.refl _).drew)).mono ?_;rintro e w2 ⟨rfl,K2,O2⟩)
 all_goals
  go_wp2_with fail;go_ret;refine ⟨rfl,K2,eQ.only (eQ.ext S1 (Ext.refl _).drew) O2 hb,?_⟩;exact (Only.pre E0 (O1.mono (fun x hx=>by simp at hx;subst hx;simp))).then ((Only.aw (Ext.refl _).drew).then (O2.mono (fun x hx=>by simp[hx])))
end Go.Proofs.YtblbohcaphcobaaGreatDoor
