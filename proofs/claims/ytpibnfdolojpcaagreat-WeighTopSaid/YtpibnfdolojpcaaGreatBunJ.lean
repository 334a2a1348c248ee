import Derived.Test.YtpibnfdolojpcaaGreatBunH
import Derived.Test.YtpibnfdolojpcaaGreatBunA
import Derived.Test.YtpibnfdolojpcaaGreatBunI
import Derived.RegionIn
import Derived.OwnWalkIn
import Derived.Deep.RegionHeld3
set_option maxHeartbeats 8000000
set_option maxRecDepth 100000
namespace Go.Proofs.YtpibnfdolojpcaaGreat
open Go.ChangeShapes Go.WideShapes Go.ChangeAt Go.RowKit Go.Shelf
attribute [local go_sem] Oper.semAt_some
section
variable {F:Fence} {n:Nat} {P:Program} {ops:Array Oper} {md:Region.Mode} {Q:Exit→Act→World→Prop}
theorem wpOpIn_plain {i:Nat} {K:Act→World→Prop} {a:Act} {w:World} (hd:∀o,ops[i]?=some o→∀c,o.op≠.defer c) (h:wpOpIn F.plain n P ops Q i K a w):wpOpIn F n P ops Q i K a w:=by
 unfold wpOpIn at h⊢;split
 ·rename_i ho;simp only[ho]at h;exact h
 ·rename_i o ho
  simp only[ho]at h;split
  ·rename_i hw
   simp only[hw,if_true]at h;unfold Oper.wpIn at h⊢;refine ⟨h.1,?_⟩;have h2:=h.2;rw [Oper.semAt_eq _ _ _ (hd o ho)]at h2⊢;exact h2
  ·rename_i hw;simp only[hw]at h;exact h
theorem wpAnyIn_plain (hd:∀(i:Nat) (o:Oper),ops[i]?=some o→∀c,o.op≠.defer c):∀(fuel:Nat) (listed:Array Bool) (a:Act) (w:World),wpAnyIn F.plain n P md ops Q fuel listed a w→wpAnyIn F n P md ops Q fuel listed a w
 | 0,_,_,_,h=>h
 | fuel+1,_,_,_,h=>⟨h.1,fun i hi=>wpOpIn_plain (hd i) (wpOpIn_mono (fun a w=>wpAnyIn_plain hd fuel _ a w) (h.2 i hi))⟩
theorem wpIn_region_any_r {id:Nat} {a:Act} {w:World} {l:List Oper} (hd:l.all noDefer=true) (hm:P.follows .mixedOrders=true)
  (h:wpAnyIn F.plain n P .any l.toArray Q l.toArray.size (Array.replicate l.toArray.size false) a w.drew):(Code.region id l.toArray true).wpIn F n P Q a w:=
 wpIn_region_any hm (wpAnyIn_plain (fun i o ho=>noDefer_spec (List.all_eq_true.1 hd o (List.mem_of_getElem? (by simpa using ho)))) _ _ _ _ h)
end
def listF (S:TreeD) (l:List EntD):List EntD:=l.map fun x=>(x.1,overF S.devs x.2)
theorem listF_snoc (S:TreeD) (l:List EntD) (x:EntD):listF S (l++[x])=listF S l++[(x.1,overF S.devs x.2)]:=by unfold listF;rw[List.map_append];rfl
theorem listF_len (S:TreeD) (l:List EntD):(listF S l).length=l.length:=by unfold listF;rw[List.length_map]
def ListQ (w:World) (L:List EntD) (x:Int) (e:Ending) (w':World):Prop:=∃A cap,e=.returned (.tuple #[.slice A L.length cap,.int .i64 x])∧EntsAt w' A L∧Ext w w'
theorem app_ent {base:Nat} {v:Value} {L:List EntD} (x:EntD) (wr:World) (h:OwnE wr base v L) (hb:base≤wr.heap.size) (hl:L.length≤2000000) :
  ∃ v' w2,(Builtin.append_ #[64,64] 64 #[v,.slice (some ⟨wr.heap.size,0,none⟩) 1 1]).run Tryz.prog (wr.alloc (.cells #[.string (bs x.1),.int .i64 x.2] 153))=.ok v' w2∧(w2.ownsRow base 153 2 v' (L++[x]).length (entCells (L++[x])))∧(wr.alloc (.cells #[.string (bs x.1),.int .i64 x.2] 153)).grownBy w2 v.ownBlock:=by
 obtain ⟨i0,hi,hz0,hz1,hz2⟩:=info_parts infoEnt;obtain ⟨v',w2,hr,h2,h3,_⟩:=run_append_own (P:=Tryz.prog) (wr.alloc (.cells #[.string (bs x.1),.int .i64 x.2] 153)) base 64 64 153 i0 (.agg #[.string ⟨#[]⟩,.int .i64 0]) 2 24 Tryz.underlying64 hi hz0 hz1 hz2 rfl (by decide) v L.length _ (World.ownsRow.alloc h _) ⟨wr.heap.size,0,none⟩ 1 1 (entCells [x]) rfl (news_one wr x) (entCells_one [x]) (by unfold maxLen;omega) (by omega) (by simp;omega);refine ⟨v',w2,hr,?_,h3⟩;rw [entCells_append,List.length_append];exact h2
theorem wpIn_append_run {F:Fence} {n:Nat} {P:Program} (w:World) {o:Oper} {a:Act} {K:Act→World→Prop} {Q:Exit→Act→World→Prop} (s x:Operand) (t tn:TypeId)
  (ho:o.op=.call {callee:=.builtin .append,args:=#[s,x],argTypes:=#[t,tn]}) (vs vx:Value) (hs:a.eval s=vs) (hx:a.eval x=vx)
  (v':Value) (w':World) (hr:(Builtin.append_ #[t,tn] o.type #[vs,vx]).run P w=.ok v' w') (h:K (a.put o.dst v') w'):o.wpIn F n P a w K Q:=by
 unfold Oper.wpIn;refine ⟨?_,?_⟩
 ·simp[Oper.about,ho,resolve,Target.leads,Sem.run_pure]
 ·rw [Oper.semAt_plain F _ _ (by rw[ho];intro c hc';cases hc')]
  simp [execOp,ho,resolve,invoke,builtin,hs,hx,hr,Result.andThen];exact h
theorem plist_any {c:Nat} (B:Nat) (g:GhW) (S:TreeD) (cu cg no:Int) (w:World) (h:WAt w B g S) (T:Tre c S) (hc:c≤1000000) :
  Calls Tryz.prog 150 #[.pointer (some ⟨g.bW,0,none⟩),.agg #[.int .i64 cu,.int .i64 cg],.int .i64 no] w (ListQ w (listF S (openN S cu cg no 1 4).ents) (openE S cu cg no 1 4)):=by
 refine (callsIn_wide (n:=4)).1 ?_;obtain ⟨F,hF⟩:∃F,F=Fence.wide:=⟨_,rfl⟩;have hro:F.round=none:=by rw[hF];rfl
 have h35:F.fn 150:=by rw[hF];trivial
 have hop:F.fn 99:=by rw[hF];trivial
 have hov:F.fn 101:=by rw[hF];trivial
 have h42:F.fn 178:=by rw[hF];trivial
 have h50:F.fn 202:=by rw[hF];trivial
 have hor:=T.openN cu cg no 1 4;obtain ⟨m,hm⟩:∃m,m=openN S cu cg no 1 4:=⟨_,rfl⟩;obtain ⟨x,hx⟩:∃x,x=openE S cu cg no 1 4:=⟨_,rfl⟩;have hOP:∀(k:Nat) (w':World),Ext w w'→CallsIn F k Tryz.prog 99 #[.pointer (some ⟨g.bW,0,none⟩),.agg #[.int .i64 cu,.int .i64 cg],.int .i64 no,.int .i64 1,.int .i64 4] w' (fun e w2=>∃A c,e=.returned (.tuple #[.agg #[.int .i64 m.no,.int .i64 m.dev,.int .i64 m.kind,.int .i64 m.mode,.int .i64 m.uid,.int .i64 m.gid,.int .i64 m.mtime,.int .i64 m.ctime,.int .i64 m.links,.int .i64 m.up,.string (bs m.data),.slice A m.ents.length c],.int .i64 x])∧NodeOk w2 B m A c∧Ext w' w2):=by
  rw [hF,hm,hx];exact fun k w' h'=>callsIn_wide.2 (popen_any B g S cu cg no 1 4 w' (h.ext h') T.devs)
 have hOV:∀(l k:Nat) (q:Int) (w':World),Ext w w'→CallsIn (F.inRound l).plain k Tryz.prog 101 #[.pointer (some ⟨g.bW,0,none⟩),.int .i64 q] w' (Ret w' (.int .i64 (overF S.devs q))):=by
  rw [hF];exact fun l k q w' h'=>callsIn_wide.2 (pover_any B g S q w' (h.ext h') T.devs (by have:=T.eight;omega))
 have hz:¬x=0→m=nodeZ:=fun h0=>by rw[hm];unfold openN;rw[if_neg (by rw[←hx];exact h0)]
 rw [←hm]at hor;rw [←hF,←hm,←hx];have hml:m.ents.length≤1000000:=by have:=hor.2;omega
 have E0:Ext w ((w.alloc (.cells #[.pointer (some ⟨g.bW,0,none⟩)] 100)).alloc (.cells #[.int .i64 cu,.int .i64 cg] 27)):=((Ext.refl _).alloc _).alloc _;clear hF hm hx hor;refine callsIn_of_wp_marks Tryz.func150 rfl h35 ?_ hro;simp only[Tryz.ntmps150,List.size_toArray,List.length_cons,List.length_nil,Nat.reduceAdd,Nat.reduceSub,Array.replicate_succ,Array.replicate_zero,List.push_toArray,List.append_toArray,List.nil_append,List.cons_append]
 by_cases hx0:x=0
 case neg =>
  have t0:(x == 0)=false:=by simpa using hx0
  have t0b:(x != 0)=true:=by simpa using hx0
  have hmz:=hz hx0;have HMZ:=zH hmz;clear hz hx0 hmz;gi_wp2_with (gi_at_call 99;refine (hOP _ _ E0).mono ?_;rintro e w1 ⟨A1,c1,rfl,ok1,b1⟩);refine ⟨.tuple #[.slice none 0 0,.int .i64 x],by simp[results,Tryz.results150,go_sem],none,0,?_,.inl ?_,(E0.trans b1).alloc _⟩
  ·rw[HMZ.out];rfl
  ·rw[HMZ.out];rfl
 have hxe:=zH hx0;subst hx0;have hinfo:=infoEnt;obtain ⟨i0,hi,hz0,hz1,hz2⟩:=info_parts infoEnt;have HI:=zH hi;have HZ0:=zH hz0;have HZ1:=zH hz1;have HZ2:=zH hz2;clear hz hinfo hi hz0 hz1 hz2;gi_wp2_with first|(gi_at_call 99;refine (hOP _ _ E0).mono ?_;rintro e w1 ⟨A1,c1,rfl,ok1,b1⟩;have F0:=E0.trans b1;have hee:=ok1.ents;have hN:=Has.new w1 (.cells #[.int .i64 m.no,.int .i64 m.dev,.int .i64 m.kind,.int .i64 m.mode,.int .i64 m.uid,.int .i64 m.gid,.int .i64 m.mtime,.int .i64 m.ctime,.int .i64 m.links,.int .i64 m.up,.string (bs m.data),.slice A1 m.ents.length c1] 66);obtain⟨x0,x1,x2,x3,x4,x5,x6,x7,x8,x9,x10,x11⟩:=hN.node12)|(gi_at_make;refine wpListIn_make_own _ rfl _ _ 64 rfl (w1.heap.size+1) 153 i0 (.agg #[.string ⟨#[]⟩,.int .i64 0]) 2 Tryz.underlying64 HI.out HZ0.out HZ1.out .i64 .i64 m.ents.length m.ents.length rfl rfl rfl (by rw[HZ2.out];omega) (by unfold maxLen;omega) (by simp) ?_;intro wa hrow hga;have hNa:Has wa w1.heap.size (.cells #[.int .i64 m.no,.int .i64 m.dev,.int .i64 m.kind,.int .i64 m.mode,.int .i64 m.uid,.int .i64 m.gid,.int .i64 m.mtime,.int .i64 m.ctime,.int .i64 m.links,.int .i64 m.up,.string (bs m.data),.slice A1 m.ents.length c1] 66):=(hga.block w1.heap.size hN.lt (by simp)).trans hN;obtain⟨y0,y1,y2,y3,y4,y5,y6,y7,y8,y9,y10,y11⟩:=hNa.node12;have ya:=hNa.lt)|(gi_at_call 178;refine (all_in F _ h42 hro _ _ _ _).mono ?_;rintro e w' ⟨rfl,rfl⟩)
 have HMZ:=zH hml;obtain ⟨n₀,hn0⟩:∃n₀,n₀=w1.heap.size+1:=⟨_,rfl⟩;obtain ⟨W2,hW2⟩:∃W2,W2=w1.alloc (.cells #[.int .i64 m.no,.int .i64 m.dev,.int .i64 m.kind,.int .i64 m.mode,.int .i64 m.uid,.int .i64 m.gid,.int .i64 m.mtime,.int .i64 m.ctime,.int .i64 m.links,.int .i64 m.up,.string (bs m.data),.slice A1 m.ents.length c1] 66):=⟨_,rfl⟩;have hz2':W2.heap.size=n₀:=by rw[hW2,hn0];simp
 have G2:Ext w W2:=by rw[hW2];exact F0.alloc _
 have hsw:w.heap.size<w1.heap.size:=by have:=b1.size;simp at this;omega
 have cw2:W2.cell? ⟨w.heap.size,0,none⟩=some (.pointer (some ⟨g.bW,0,none⟩)):=by
  have h1:Has (w.alloc (.cells #[.pointer (some ⟨g.bW,0,none⟩)] 100)) w.heap.size (.cells #[.pointer (some ⟨g.bW,0,none⟩)] 100):=Has.new _ _;rw [hW2];exact (((h1.alloc _).ext b1).alloc _).cell 0
 have eb2:EntsB n₀ W2 A1 m.ents:=by
  rcases hee.ents with h0|⟨b,o,hA,hb,hc⟩
  ·exact .inl h0
  ·refine .inr ⟨b,o,hA,by omega,fun k hk=>?_⟩
   rw [hW2];exact ⟨(((Ext.refl _).alloc _).cell hb).trans (hc k hk).1,(((Ext.refl _).alloc _).cell hb).trans (hc k hk).2⟩
 rw [←hW2]at hga;obtain ⟨W0,hW0⟩:∃W0,W0=(wa.alloc (.cells #[.slice (some ⟨w1.heap.size+1,0,none⟩) 0 m.ents.length] 64)).alloc (.cells #[.slice A1 m.ents.length c1] 64):=⟨_,rfl⟩;have hza:n₀≤wa.heap.size:=by omega
 have B0:Below n₀ W2 W0:=by
  rw [hW0];exact (((Below.refl n₀ W2).grown hga (by omega) (fun j e=>by cases e)).alloc (by omega) _).alloc (by simp;omega) _
 have bO:Boxed W0 wa.heap.size 64 (.slice (some ⟨w1.heap.size+1,0,none⟩) 0 m.ents.length):=by rw[hW0];exact (Boxed.new wa _ _).alloc _
 have bS:Has W0 (wa.heap.size+1) (.cells #[.slice A1 m.ents.length c1] 64):=by rw[hW0];have:=Has.new (wa.alloc (.cells #[.slice (some ⟨w1.heap.size+1,0,none⟩) 0 m.ents.length] 64)) (.cells #[.slice A1 m.ents.length c1] 64);rw[World.size_alloc]at this;exact this
 have r0:W0.ownsRow (w1.heap.size+1) 153 2 (.slice (some ⟨w1.heap.size+1,0,none⟩) 0 m.ents.length) 0 []:=by
  rw [hW0];have e:(w1.alloc (.cells #[.int .i64 m.no,.int .i64 m.dev,.int .i64 m.kind,.int .i64 m.mode,.int .i64 m.uid,.int .i64 m.gid,.int .i64 m.mtime,.int .i64 m.ctime,.int .i64 m.links,.int .i64 m.up,.string (bs m.data),.slice A1 m.ents.length c1] 66)).heap.size=w1.heap.size+1:=by simp
  rw [e]at hrow;exact (hrow.alloc _).alloc _
 have hz0':W0.heap.size=wa.heap.size+2:=by rw[hW0];simp
 have r0:W0.ownsRow n₀ 153 2 (.slice (some ⟨w1.heap.size+1,0,none⟩) 0 m.ents.length) 0 []:=by rw[hn0];exact r0
 have hnw:w.heap.size≤n₀:=by omega
 have hln:w1.heap.size<n₀:=by omega
 rw [←hW0];clear hW0 y0 y1 y2 y3 y4 y5 y6 y7 y8 y9 y10 y11 x0 x1 x2 x3 x4 x5 x6 x7 x8 x9 x10 x11 hrow hga hNa ok1 hee hN;refine wpIn_rangeFunc_ownG (w0:=W0) hro (by omega) (gf:=202) (lb:=#[.pointer (some ⟨wa.heap.size+1,0,none⟩)]) rfl h50 (enters_of Tryz.func202 (by kernel_rfl) rfl)
  (all_stops F (4-1) h50 hro (by omega) (wa.heap.size+1) n₀ c1 A1 m.ents hml W0 (by omega) (by omega) (bS.cell 0) (eb2.below B0)) belowK_t (belowK_b (by omega)) (Below.refl _ _) (fun _=>rfl)
  (fun pre W=>(∃v,Boxed W wa.heap.size 64 v∧W.ownsRow n₀ 153 2 v (listF S pre).length (entCells (listF S pre))∧True)∧Below n₀ W2 W)
  (fun _ _ _=>False)
  (OwnFrom.and (Own.from (holdsRow_own n₀ wa.heap.size 64 153 2 (fun pre=>(listF S pre).length) (fun pre=>entCells (listF S pre)) (fun _ _=>True)) _) (ownFrom_below (by omega) (by omega)))
  (fun _ _ _ _ _ hs _ _=>hs)
  ⟨⟨_,bO,r0,trivial⟩,B0⟩
  (fun x=>{tmps:=#[.pointer (some ⟨g.bW,0,none⟩),.agg #[.int .i64 cu,.int .i64 cg],.int .i64 no,.pointer (some ⟨w.heap.size,0,none⟩),.pointer (some ⟨w.heap.size+1,0,none⟩),undef,.slice none 0 0,.int .i64 0,.pointer (some ⟨w1.heap.size,0,none⟩),.int .i64 0,.pointer (some ⟨wa.heap.size,0,none⟩),.string (bs x.1),.int .i64 x.2,.tuple #[.agg #[.int .i64 m.no,.int .i64 m.dev,.int .i64 m.kind,.int .i64 m.mode,.int .i64 m.uid,.int .i64 m.gid,.int .i64 m.mtime,.int .i64 m.ctime,.int .i64 m.links,.int .i64 m.up,.string (bs m.data),.slice A1 m.ents.length c1],.int .i64 0],.pointer (some ⟨g.bW,0,none⟩),.agg #[.int .i64 cu,.int .i64 cg],.int .i64 no,.tuple #[.agg #[.int .i64 m.no,.int .i64 m.dev,.int .i64 m.kind,.int .i64 m.mode,.int .i64 m.uid,.int .i64 m.gid,.int .i64 m.mtime,.int .i64 m.ctime,.int .i64 m.links,.int .i64 m.up,.string (bs m.data),.slice A1 m.ents.length c1],.int .i64 0],.agg #[.int .i64 m.no,.int .i64 m.dev,.int .i64 m.kind,.int .i64 m.mode,.int .i64 m.uid,.int .i64 m.gid,.int .i64 m.mtime,.int .i64 m.ctime,.int .i64 m.links,.int .i64 m.up,.string (bs m.data),.slice A1 m.ents.length c1],.int .i64 0,.int .i64 0,.bool false,undef,.pointer (some ⟨w1.heap.size,11,none⟩),.slice A1 m.ents.length c1,.int .i64 m.ents.length,.slice (some ⟨w1.heap.size+1,0,none⟩) 0 m.ents.length,.pointer (some ⟨w1.heap.size,11,none⟩),.slice A1 m.ents.length c1,.func (.func 202) #[] #[.pointer (some ⟨wa.heap.size+1,0,none⟩)],.string (bs x.1),.int .i64 x.2,undef,undef,undef,undef,undef,undef,undef,undef,undef],defers:=[]}) ?assign ?body ?done ?stop
 case assign =>
  intro l x W K hK;gi_wp2;exact hK
 case body =>
  rintro l pre x W ⟨⟨v,hv,hrow,-⟩,hB⟩ hpl;have hc:=hv.cell;have hf:=hv.frozen;have cw:=(hB.cell (p:=⟨w.heap.size,0,none⟩) (by show w.heap.size<n₀;omega)).trans cw2;have hzW:=hB.size;have hEd:Ext w W.drew:=Ext.drew (show Ext w W from Below.trans (show Below w.heap.size w W2 from G2) (hB.mono hnw));have hrowd:W.drew.ownsRow n₀ 153 2 v (listF S pre).length (entCells (listF S pre)):=hrow;have hvd:Boxed W.drew wa.heap.size 64 v:=hv;have bN:∀{u:World},Ext W.drew u→Below n₀ W u:=fun {u} h=>(show Below n₀ W W.drew from⟨rfl,rfl,rfl,Nat.le_refl _,fun _ _=>rfl⟩).trans (h.mono (by show n₀≤W.heap.size;omega))
  have bK:∀{u:World},Ext W.drew u→KeepsOthers W u:=fun {u} h=>(show KeepsOthers W W.drew from⟨Nat.le_refl _,fun _ _ h _=>h⟩).trans (KeepsOthers.of_grownBy h.grownBy fun j o e _=>by cases e)
  clear G2 cw2 hOP h T B0 bO bS r0;gi_wp2;refine wpIn_region_any_r (by kernel_rfl) (by kernel_rfl) ?_;refine wpAnyIn_take (i:=1) (v:=?_) rfl rfl (by kernel_rfl) (by kernel_rfl) (by kernel_rfl) (fun _ _ _ h=>h) ⟨Or.inl ⟨by rfl,?_⟩,fun _=>rfl⟩ ?_
  case refine_2=>intro w;go_simp;rfl
  refine wpAnyIn_take (i:=3) (v:=?_) rfl rfl (by kernel_rfl) (by kernel_rfl) (by kernel_rfl) (fun _ _ _ h=>h) ⟨Or.inl ⟨by rfl,?_⟩,fun _=>rfl⟩ ?_
  case refine_2=>intro w;go_simp;rfl
  refine wpAnyIn_ready (rs:=[0,2]) (by kernel_rfl) (by simp) ?_;refine AllReadyIn.cons rfl (fun K hK=>?_) ?_
  ·skip
   go_simp;refine hK _ _ ?_;clear hK K;refine wpAnyIn_ready (rs:=[2]) (by kernel_rfl) (by simp) ?_;refine AllReadyIn.cons rfl (fun K hK=>?_) ?_
   ·skip
    go_simp;refine hK _ _ ?_;clear hK K;refine wpAnyIn_ready (rs:=[4]) (by kernel_rfl) (by simp) ?_;refine AllReadyIn.cons rfl (fun K hK=>?_) ?_
    ·skip
     go_simp;gi_wp2_with (gi_at_call 101;refine (hOV l _ _ _ hEd).mono ?_;rintro e wd ⟨rfl,bd⟩);obtain ⟨v',w2,hr,hrow',hg2⟩:=app_ent (base:=n₀) (x.1,overF S.devs x.2) wd (World.ownsRow.kept hrowd bd.grownBy (by cases v.ownBlock<;>simp)) (by have:=bd.size;simp at this;omega) (by rw[listF_len];omega);rw [←listF_snoc]at hrow';have hvw:Boxed wd wa.heap.size 64 v:=Has.ext hvd bd;obtain ⟨hv1,hv2,hr3,hk2,hb2⟩:=hvw.appended (n₀:=n₀) (by decide) (World.ownsRow.kept hrowd bd.grownBy (by cases v.ownBlock<;>simp)) (by have:=bd.size;simp at this;omega) (by omega) hrow' hg2;obtain ⟨g',cap',hv'⟩:=ownsRow_succ (k:=(listF S pre).length) (by rw[show (listF S pre).length+1=(listF S (pre++[x])).length by rw[listF_snoc];simp];exact hrow');subst hv';have hcd:=hvw.cell;have hld:=hvw.lt;have hc1:=hv1.cell;have hf1:=hv1.frozen;refine wpAnyIn_take (i:=5) (v:=?_) rfl rfl (by kernel_rfl) (by kernel_rfl) (by kernel_rfl) (fun _ _ _ h=>h) ⟨Or.inl ⟨by rfl,?_⟩,fun _=>rfl⟩ ?_
     case refine_2=>intro w;go_simp;rfl
     refine wpAnyIn_ready (rs:=[6]) (by kernel_rfl) (by simp) ?_;refine AllReadyIn.cons rfl (fun K hK=>?_) ?_
     ·skip
      go_simp;refine hK _ _ ?_;clear hK K;refine wpAnyIn_ready (rs:=[7]) (by kernel_rfl) (by simp) ?_;refine AllReadyIn.cons rfl (fun K hK=>?_) ?_
      ·skip
       rw [if_pos (by rfl)];refine wpIn_append_run _ _ _ 64 64 rfl _ _ rfl rfl _ _ hr ?_;refine hK _ _ ?_;clear hK K;refine wpAnyIn_ready (rs:=[8]) (by kernel_rfl) (by simp) ?_;refine AllReadyIn.cons rfl (fun K hK=>?_) ?_
       ·skip
        go_simp;refine hK _ _ ?_;clear hK K;refine wpAnyIn_done (by kernel_rfl) ?_ _;exact ⟨((bK bd).trans hk2).from _,(bN bd).trans hb2,⟨_,hv2,hr3,trivial⟩,hB.trans ((bN bd).trans hb2)⟩
       exact AllReadyIn.nil
      exact AllReadyIn.nil
     exact AllReadyIn.nil
    exact AllReadyIn.nil
   exact AllReadyIn.nil
  refine AllReadyIn.cons rfl (fun K hK=>?_) ?_
  ·skip
   go_simp;refine hK _ _ ?_;clear hK K;refine wpAnyIn_ready (rs:=[0,4]) (by kernel_rfl) (by simp) ?_;refine AllReadyIn.cons rfl (fun K hK=>?_) ?_
   ·skip
    go_simp;refine hK _ _ ?_;clear hK K;refine wpAnyIn_ready (rs:=[4]) (by kernel_rfl) (by simp) ?_;refine AllReadyIn.cons rfl (fun K hK=>?_) ?_
    ·skip
     go_simp;gi_wp2_with (gi_at_call 101;refine (hOV l _ _ _ hEd).mono ?_;rintro e wd ⟨rfl,bd⟩);obtain ⟨v',w2,hr,hrow',hg2⟩:=app_ent (base:=n₀) (x.1,overF S.devs x.2) wd (World.ownsRow.kept hrowd bd.grownBy (by cases v.ownBlock<;>simp)) (by have:=bd.size;simp at this;omega) (by rw[listF_len];omega);rw [←listF_snoc]at hrow';have hvw:Boxed wd wa.heap.size 64 v:=Has.ext hvd bd;obtain ⟨hv1,hv2,hr3,hk2,hb2⟩:=hvw.appended (n₀:=n₀) (by decide) (World.ownsRow.kept hrowd bd.grownBy (by cases v.ownBlock<;>simp)) (by have:=bd.size;simp at this;omega) (by omega) hrow' hg2;obtain ⟨g',cap',hv'⟩:=ownsRow_succ (k:=(listF S pre).length) (by rw[show (listF S pre).length+1=(listF S (pre++[x])).length by rw[listF_snoc];simp];exact hrow');subst hv';have hcd:=hvw.cell;have hld:=hvw.lt;have hc1:=hv1.cell;have hf1:=hv1.frozen;refine wpAnyIn_take (i:=5) (v:=?_) rfl rfl (by kernel_rfl) (by kernel_rfl) (by kernel_rfl) (fun _ _ _ h=>h) ⟨Or.inl ⟨by rfl,?_⟩,fun _=>rfl⟩ ?_
     case refine_2=>intro w;go_simp;rfl
     refine wpAnyIn_ready (rs:=[6]) (by kernel_rfl) (by simp) ?_;refine AllReadyIn.cons rfl (fun K hK=>?_) ?_
     ·skip
      go_simp;refine hK _ _ ?_;clear hK K;refine wpAnyIn_ready (rs:=[7]) (by kernel_rfl) (by simp) ?_;refine AllReadyIn.cons rfl (fun K hK=>?_) ?_
      ·skip
       rw [if_pos (by rfl)];refine wpIn_append_run _ _ _ 64 64 rfl _ _ rfl rfl _ _ hr ?_;refine hK _ _ ?_;clear hK K;refine wpAnyIn_ready (rs:=[8]) (by kernel_rfl) (by simp) ?_;refine AllReadyIn.cons rfl (fun K hK=>?_) ?_
       ·skip
        go_simp;refine hK _ _ ?_;clear hK K;refine wpAnyIn_done (by kernel_rfl) ?_ _;exact ⟨((bK bd).trans hk2).from _,(bN bd).trans hb2,⟨_,hv2,hr3,trivial⟩,hB.trans ((bN bd).trans hb2)⟩
       exact AllReadyIn.nil
      exact AllReadyIn.nil
     exact AllReadyIn.nil
    exact AllReadyIn.nil
   refine AllReadyIn.cons rfl (fun K hK=>?_) ?_
   ·skip
    go_simp;gi_wp2_with (gi_at_call 101;refine (hOV l _ _ _ hEd).mono ?_;rintro e wd ⟨rfl,bd⟩);obtain ⟨v',w2,hr,hrow',hg2⟩:=app_ent (base:=n₀) (x.1,overF S.devs x.2) wd (World.ownsRow.kept hrowd bd.grownBy (by cases v.ownBlock<;>simp)) (by have:=bd.size;simp at this;omega) (by rw[listF_len];omega);rw [←listF_snoc]at hrow';have hvw:Boxed wd wa.heap.size 64 v:=Has.ext hvd bd;obtain ⟨hv1,hv2,hr3,hk2,hb2⟩:=hvw.appended (n₀:=n₀) (by decide) (World.ownsRow.kept hrowd bd.grownBy (by cases v.ownBlock<;>simp)) (by have:=bd.size;simp at this;omega) (by omega) hrow' hg2;obtain ⟨g',cap',hv'⟩:=ownsRow_succ (k:=(listF S pre).length) (by rw[show (listF S pre).length+1=(listF S (pre++[x])).length by rw[listF_snoc];simp];exact hrow');subst hv';have hcd:=hvw.cell;have hld:=hvw.lt;have hc1:=hv1.cell;have hf1:=hv1.frozen;refine wpAnyIn_take (i:=5) (v:=?_) rfl rfl (by kernel_rfl) (by kernel_rfl) (by kernel_rfl) (fun _ _ _ h=>h) ⟨Or.inl ⟨by rfl,?_⟩,fun _=>rfl⟩ ?_
    case refine_2=>intro w;go_simp;rfl
    refine wpAnyIn_ready (rs:=[0,6]) (by kernel_rfl) (by simp) ?_;refine AllReadyIn.cons rfl (fun K hK=>?_) ?_
    ·skip
     go_simp;refine hK _ _ ?_;clear hK K;refine wpAnyIn_ready (rs:=[6]) (by kernel_rfl) (by simp) ?_;refine AllReadyIn.cons rfl (fun K hK=>?_) ?_
     ·skip
      go_simp;refine hK _ _ ?_;clear hK K;refine wpAnyIn_ready (rs:=[7]) (by kernel_rfl) (by simp) ?_;refine AllReadyIn.cons rfl (fun K hK=>?_) ?_
      ·skip
       rw [if_pos (by rfl)];refine wpIn_append_run _ _ _ 64 64 rfl _ _ rfl rfl _ _ hr ?_;refine hK _ _ ?_;clear hK K;refine wpAnyIn_ready (rs:=[8]) (by kernel_rfl) (by simp) ?_;refine AllReadyIn.cons rfl (fun K hK=>?_) ?_
       ·skip
        go_simp;refine hK _ _ ?_;clear hK K;refine wpAnyIn_done (by kernel_rfl) ?_ _;exact ⟨((bK bd).trans hk2).from _,(bN bd).trans hb2,⟨_,hv2,hr3,trivial⟩,hB.trans ((bN bd).trans hb2)⟩
       exact AllReadyIn.nil
      exact AllReadyIn.nil
     exact AllReadyIn.nil
    refine AllReadyIn.cons rfl (fun K hK=>?_) ?_
    ·skip
     go_simp;refine hK _ _ ?_;clear hK K;refine wpAnyIn_ready (rs:=[0]) (by kernel_rfl) (by simp) ?_;refine AllReadyIn.cons rfl (fun K hK=>?_) ?_
     ·skip
      go_simp;refine hK _ _ ?_;clear hK K;refine wpAnyIn_ready (rs:=[7]) (by kernel_rfl) (by simp) ?_;refine AllReadyIn.cons rfl (fun K hK=>?_) ?_
      ·skip
       rw [if_pos (by rfl)];refine wpIn_append_run _ _ _ 64 64 rfl _ _ rfl rfl _ _ hr ?_;refine hK _ _ ?_;clear hK K;refine wpAnyIn_ready (rs:=[8]) (by kernel_rfl) (by simp) ?_;refine AllReadyIn.cons rfl (fun K hK=>?_) ?_
       ·skip
        go_simp;refine hK _ _ ?_;clear hK K;refine wpAnyIn_done (by kernel_rfl) ?_ _;exact ⟨((bK bd).trans hk2).from _,(bN bd).trans hb2,⟨_,hv2,hr3,trivial⟩,hB.trans ((bN bd).trans hb2)⟩
       exact AllReadyIn.nil
      exact AllReadyIn.nil
     exact AllReadyIn.nil
    exact AllReadyIn.nil
   exact AllReadyIn.nil
  exact AllReadyIn.nil
 case done =>
  rintro D ys W hD rfl ⟨⟨v,hv,hrow,-⟩,hB⟩ hK;obtain ⟨A9,cap9,rfl,_,_,hat⟩:=OwnE.at_ hrow;have hc:=hv.cell;gi_wp2;refine ⟨by simp,.inl ⟨_,_,rfl,run_takeDeferred hK,?_⟩⟩;have hB2:=belowK_b (n₀:=n₀) (w:=W0) (by omega) W D _ (.deferred none) (by omega) hK rfl rfl;have hE:Ext w (W.putObj D (.deferred none)):=Below.trans (show Below w.heap.size w W2 from G2) ((hB.trans hB2).mono hnw);refine ⟨.tuple #[.slice A9 (listF S m.ents).length cap9,.int .i64 0],by simp[results,Tryz.results150,go_sem],A9,cap9,rfl,?_,hE⟩;have hrow2:=World.ownsRow.kept hrow (grownBy_putObj' W D (.deferred none)) (by
   rcases hrow.2 with⟨h1,_⟩|⟨g9,c9,cur,h1,_,hgb,_⟩
   ·exact .inl (by rw[h1];rfl)
   ·refine .inr fun e'=>?_
    rw [h1]at e';obtain rfl:g9=D:=by simpa [Value.ownBlock]using e'
    rw [hgb]at hK;cases hK)
  obtain ⟨A8,cap8,e8,_,_,hat8⟩:=OwnE.at_ hrow2;injection e8 with e8;rw [e8];exact hat8
 case stop =>
  rintro D c pre W hD hp hx hK;exact hx.elim
end Go.Proofs.YtpibnfdolojpcaaGreat
namespace Go.Proofs.YtpibnfdolojpcaaGreat
open Go.ChangeShapes Go.WideShapes Go.ChangeAt Go.RowKit
theorem listF_take {S:TreeD} {l:List EntD} {k:Nat} (h:k<l.length):listF S (l.take (k+1))=listF S (l.take k)++[(l[k].1,overF S.devs l[k].2)]:=by
 rw [List.take_succ_eq_append_getElem h,listF_snoc]
theorem EntsAt.lt0 {w:World} {A:Option Addr} {l:List EntD} (h:EntsAt w A l) {k:Nat} (hk:k<l.length):∃b o,A=some ⟨b,o,none⟩∧b<w.heap.size∧w.cell? ⟨b,o+k*2,none⟩=some (.string (bs l[k].1))∧w.cell? ⟨b,o+k*2+1,none⟩=some (.int .i64 l[k].2):=by
 rcases h with h|⟨b,o,hA,hb,hc⟩
 ·rw[h]at hk;cases hk
 ·exact⟨b,o,hA,hb,hc k hk⟩
theorem step_append_ent {P:Program} {ops:Array Oper} {o:Oper} {a:Act} {K:Act→World→Prop} {Q:Exit→Act→World→Prop} {E:Prop} (w:World) (hgd:o.guard=none) (s x:Operand) (t:TypeId)
  (ho:o.op=.call {callee:=.builtin .append,args:=#[s,x],argTypes:=#[t,t]}) (vs vx:Value) (hs:a.eval s=vs) (hx:a.eval x=vx) {R:Value→World→Prop}
  (hr:∃v' w',(Builtin.append_ #[t,t] o.type #[vs,vx]).run P w=.ok v' w'∧R v' w') (h:∀v' w',R v' w'→K (a.put o.dst v') w') :
  if Region.wanted o (yielded ops a.tmps)=true then Oper.wp P o a w K Q else E:=by
 have hw:Region.wanted o (yielded ops a.tmps)=true:=by simp[Region.wanted,hgd]
 rw [if_pos hw];obtain ⟨v',w',h1,h2⟩:=hr;unfold Oper.wp execOp;simp only[ho,resolve,invoke,builtin,Sem.run_bind,Sem.run_pure,Result.andThen_ok,List.map_toArray,List.map_cons,List.map_nil,hs,hx,h1];exact h v' w' h2
theorem OwnE.ext2 {w w':World} {b:Nat} {v:Value} {k:Nat} {xs:List Value} (h:w.ownsRow b 153 2 v k xs) (hE:Ext w w'):w'.ownsRow b 153 2 v k xs:=
 World.ownsRow.kept h hE.grownBy (by cases v.ownBlock<;>simp)
theorem rlist_any (B:Nat) (g:GhF) (S:TreeD) (X:Xtra) (cu cg no:Int) (w:World) (h:FAt w B g S X) (hl:S.nodes.length≤1000000) (hu:NosUp S.nodes S.last) (hd:S.devs.length≤1000) (hml:(openN S cu cg no 1 4).ents.length≤1000000) :
  Calls Tryz.prog 136 #[.pointer (some ⟨g.bF,0,none⟩),.agg #[.int .i64 cu,.int .i64 cg],.int .i64 no] w (ListQ w (listF S (openN S cu cg no 1 4).ents) (openE S cu cg no 1 4)):=by
 have E0:Ext w (w.alloc (.cells #[.int .i64 cu,.int .i64 cg] 27)):=(Ext.refl _).alloc _;go_enter Tryz.func136,Tryz.ntmps136;go_wp2_with fail;refine (ropen_any B g S X cu cg no 1 4 _ (h.ext E0) hl hu).mono ?_;rintro e w1 ⟨A1,c1,rfl,ok1,b1⟩;obtain ⟨m,hm⟩:∃m,m=openN S cu cg no 1 4:=⟨_,rfl⟩;obtain ⟨x,hx⟩:∃x,x=openE S cu cg no 1 4:=⟨_,rfl⟩;rw [←hm]at hml ok1;rw [←hm,←hx];have hee:=ok1.ents;have F1:=E0.trans b1;obtain ⟨W2,hW2⟩:∃W,W=w1.alloc (.cells #[.int .i64 m.no,.int .i64 m.dev,.int .i64 m.kind,.int .i64 m.mode,.int .i64 m.uid,.int .i64 m.gid,.int .i64 m.mtime,.int .i64 m.ctime,.int .i64 m.links,.int .i64 m.up,.string (bs m.data),.slice A1 m.ents.length c1] 66):=⟨_,rfl⟩;obtain ⟨b8,hb8⟩:∃b,b=w1.heap.size:=⟨_,rfl⟩;have N2:Has W2 b8 (.cells #[.int .i64 m.no,.int .i64 m.dev,.int .i64 m.kind,.int .i64 m.mode,.int .i64 m.uid,.int .i64 m.gid,.int .i64 m.mtime,.int .i64 m.ctime,.int .i64 m.links,.int .i64 m.up,.string (bs m.data),.slice A1 m.ents.length c1] 66):=by rw[hW2,hb8];exact Has.new _ _
 have F2:Ext w W2:=by rw[hW2];exact F1.alloc _
 have he2:EntsAt W2 A1 m.ents:=hee.ents.ext (by rw[hW2];exact (Ext.refl _).alloc _);have HMM:=zH hm;have HXX:=zH hx;clear hm hx;obtain ⟨es,hes⟩:∃es,es=m.ents:=⟨_,rfl⟩;rw [←hes]at hml he2;obtain ⟨n,hn⟩:∃n,n=es.length:=⟨_,rfl⟩;rw [←hn]at hml;have HN:=zH hn;have c11:W2.cell? ⟨b8,11,none⟩=some (.slice A1 n c1):=by rw[hn,hes];exact N2.node12.2.2.2.2.2.2.2.2.2.2.2
 have z8:=N2.lt;have HES:=zH hes;clear hee ok1 hes hn N2 E0 b1;go_upto_region 2 with fail;rw [←hW2,←hb8];rw [←HES.out];clear hW2 hb8 F1;go_wp2_with fail;have HM:=zH hml;obtain ⟨i0,hi,hz0,hz1,hz2⟩:=info_parts infoEnt;clear hi hz0 hz1 hz2;go_loopw [10,11] (fun u i wr=>∃k:Nat,k≤n∧i=.int .i64 k∧wr.ownsRow W2.heap.size 153 2 u (listF S (es.take k)).length (entCells (listF S (es.take k)))∧Ext W2 wr) (fun _ i _=>n-(intOf i).toNat)
 case atStart=>exact⟨0,Nat.zero_le _,rfl,World.ownsRow_nil _ _ _ _,Ext.refl _⟩
 case round =>
  obtain ⟨k,hk,rfl,hown,hE⟩:=hrel;have q11:wr.cell? ⟨b8,11,none⟩=some (.slice A1 n c1):=(hE.cell z8).trans c11;have hll:(listF S (es.take k)).length≤2000000:=by rw[listF_len,List.length_take];omega
  by_cases hlt:(k:Int)<n
  ·have hkl:k<es.length:=by have:=HN.out;omega
   obtain ⟨b,o,rfl,hb,e0,e1⟩:=he2.lt0 hkl;have y1:(0:Int)≤(k:Int):=Int.natCast_nonneg _;have hs:=listF_take (S:=S) hkl
   generalize es[k]=z at e0 e1 hs
   obtain ⟨L,hL⟩:∃L,L=listF S (es.take k):=⟨_,rfl⟩;rw [←hL]at hown hs hll;have HS:=zH hs;have HOW:=zH hown;have KS:Hid (∀w',Ext W2 w'→(Ext W2 w'∧w'.cell? ⟨b8,11,none⟩=some (.slice (some ⟨b,o,none⟩) n c1)∧w'.cell? ⟨b,o+k*2,none⟩=some (.string (bs z.1))∧w'.cell? ⟨b,o+k*2+1,none⟩=some (.int .i64 z.2))):=fun w' h'=>⟨h',(h'.cell z8).trans c11,(h'.cell hb).trans e0,(h'.cell hb).trans e1⟩
   have hW1:Ext W2 wr.drew:=hE.drew;have hFw:∀w',Ext W2 w'→FAt w' B g S X:=fun w' h'=>h.ext (F2.trans h')
   have HFW:=zH hFw;clear hs hL hown hFw;have w1w:IntKind.i64.wrap ((k:Int)+1)=(k:Int)+1:=IntWalk.i64_in _ (by omega);have HWR:Hid (Ext wr wr.drew):=zH ((Ext.refl wr).drew);go_wp2_with fail;go_region_held3 (fun w'=>Ext W2 w'∧w'.cell? ⟨b8,11,none⟩=some (.slice (some ⟨b,o,none⟩) n c1)∧w'.cell? ⟨b,o+k*2,none⟩=some (.string (bs z.1))∧w'.cell? ⟨b,o+k*2+1,none⟩=some (.int .i64 z.2))
    ((first|exact KS.out _ hW1|exact KS.out _ (hW1.trans hbd)|exact KS.out _ ((hW1.trans hbd).alloc _)|exact KS.out _ hE9))
    ((first|(go_at_call 84;refine (rover_any B g S X _ _ (HFW.out _ hW1) hd).mono ?_;rintro e wd ⟨rfl,hbd⟩)|(refine step_append_ent _ (by rfl) _ _ 64 (by rfl) _ _ (by rfl) (by rfl) (app_ent (z.1,overF S.devs z.2) wd (OwnE.ext2 HOW.out (HWR.out.trans hbd)) (hW1.trans hbd).size hll) ?_;rintro v9 w9 ⟨hO9,hg9⟩;have hE9:Ext W2 w9:=((hW1.trans hbd).alloc _).grown hg9 (fun g hv=>(World.ownsRow.lt (OwnE.ext2 HOW.out (HWR.out.trans hbd)) g hv).1))))
   rw [←HS.out]at hO9;have HO9:=zH hO9;clear hO9 hg9;go_wp2_with fail;go_roundw
   case rel=>exact⟨k+1,by omega,by go_num,HO9.out,hE9⟩
   case measure=>simp[intOf];omega
  ·have hkn:k=n:=by omega
   have hf:Hid (listF S (es.take k)=listF S es):=by show _=_;rw[hkn,HN.out,List.take_length]
   obtain ⟨A9,cap9,rfl,_,_,hat⟩:=OwnE.at_ hown;have HAT:=zH hat;have HE:=zH (F2.trans hE);clear hown hat hE hkn;go_wp2_with fail;go_ret2;refine ⟨A9,cap9,?_,?_,HE.out⟩
   ·rw[←HXX.out,←HMM.out,←HES.out,←hf.out];rfl
   ·rw[←HMM.out,←HES.out,←hf.out];exact HAT.out
def statL (n:NodeD):List Value:=[.int .i64 n.no,.int .i64 n.dev,.int .i64 n.kind,.int .i64 n.mode,.int .i64 n.uid,.int .i64 n.gid,.int .i64 n.links,.int .i64 n.data.length,.int .i64 n.mtime,.int .i64 n.ctime]
def statV (n:NodeD):Value:=.agg #[.int .i64 n.no,.int .i64 n.dev,.int .i64 n.kind,.int .i64 n.mode,.int .i64 n.uid,.int .i64 n.gid,.int .i64 n.links,.int .i64 n.data.length,.int .i64 n.mtime,.int .i64 n.ctime]
def statE (S:TreeD) (no:Int):Int:=if isN S.nodes no=true then 0 else 5
theorem infoStat10:(Tryz.prog.info? 95).map (·.size)=some 10:=by kernel_rfl
theorem Has.setStat {w:World} {b:Nat} {a0 a1 a2 a3 a4 a5 a6 a7 a8 a9:Value} {t:TypeId} (h:Has w b (.cells #[a0,a1,a2,a3,a4,a5,a6,a7,a8,a9] t)) (n:NodeD):Has (w.setCells b 0 (statL n)) b (.cells #[.int .i64 n.no,.int .i64 n.dev,.int .i64 n.kind,.int .i64 n.mode,.int .i64 n.uid,.int .i64 n.gid,.int .i64 n.links,.int .i64 n.data.length,.int .i64 n.mtime,.int .i64 n.ctime] t):=by
 have h0:Has (w.setCell ⟨b,0,none⟩ (.int .i64 n.no)) b (.cells #[.int .i64 n.no,a1,a2,a3,a4,a5,a6,a7,a8,a9] t):=by have:=Has.setCell h 0 (.int .i64 n.no);simpa using this
 have h1:Has ((w.setCell ⟨b,0,none⟩ (.int .i64 n.no)).setCell ⟨b,1,none⟩ (.int .i64 n.dev)) b (.cells #[.int .i64 n.no,.int .i64 n.dev,a2,a3,a4,a5,a6,a7,a8,a9] t):=by have:=Has.setCell h0 1 (.int .i64 n.dev);simpa using this
 have h2:Has (((w.setCell ⟨b,0,none⟩ (.int .i64 n.no)).setCell ⟨b,1,none⟩ (.int .i64 n.dev)).setCell ⟨b,2,none⟩ (.int .i64 n.kind)) b (.cells #[.int .i64 n.no,.int .i64 n.dev,.int .i64 n.kind,a3,a4,a5,a6,a7,a8,a9] t):=by have:=Has.setCell h1 2 (.int .i64 n.kind);simpa using this
 have h3:Has ((((w.setCell ⟨b,0,none⟩ (.int .i64 n.no)).setCell ⟨b,1,none⟩ (.int .i64 n.dev)).setCell ⟨b,2,none⟩ (.int .i64 n.kind)).setCell ⟨b,3,none⟩ (.int .i64 n.mode)) b (.cells #[.int .i64 n.no,.int .i64 n.dev,.int .i64 n.kind,.int .i64 n.mode,a4,a5,a6,a7,a8,a9] t):=by have:=Has.setCell h2 3 (.int .i64 n.mode);simpa using this
 have h4:Has (((((w.setCell ⟨b,0,none⟩ (.int .i64 n.no)).setCell ⟨b,1,none⟩ (.int .i64 n.dev)).setCell ⟨b,2,none⟩ (.int .i64 n.kind)).setCell ⟨b,3,none⟩ (.int .i64 n.mode)).setCell ⟨b,4,none⟩ (.int .i64 n.uid)) b (.cells #[.int .i64 n.no,.int .i64 n.dev,.int .i64 n.kind,.int .i64 n.mode,.int .i64 n.uid,a5,a6,a7,a8,a9] t):=by have:=Has.setCell h3 4 (.int .i64 n.uid);simpa using this
 have h5:Has ((((((w.setCell ⟨b,0,none⟩ (.int .i64 n.no)).setCell ⟨b,1,none⟩ (.int .i64 n.dev)).setCell ⟨b,2,none⟩ (.int .i64 n.kind)).setCell ⟨b,3,none⟩ (.int .i64 n.mode)).setCell ⟨b,4,none⟩ (.int .i64 n.uid)).setCell ⟨b,5,none⟩ (.int .i64 n.gid)) b (.cells #[.int .i64 n.no,.int .i64 n.dev,.int .i64 n.kind,.int .i64 n.mode,.int .i64 n.uid,.int .i64 n.gid,a6,a7,a8,a9] t):=by have:=Has.setCell h4 5 (.int .i64 n.gid);simpa using this
 have h6:Has (((((((w.setCell ⟨b,0,none⟩ (.int .i64 n.no)).setCell ⟨b,1,none⟩ (.int .i64 n.dev)).setCell ⟨b,2,none⟩ (.int .i64 n.kind)).setCell ⟨b,3,none⟩ (.int .i64 n.mode)).setCell ⟨b,4,none⟩ (.int .i64 n.uid)).setCell ⟨b,5,none⟩ (.int .i64 n.gid)).setCell ⟨b,6,none⟩ (.int .i64 n.links)) b (.cells #[.int .i64 n.no,.int .i64 n.dev,.int .i64 n.kind,.int .i64 n.mode,.int .i64 n.uid,.int .i64 n.gid,.int .i64 n.links,a7,a8,a9] t):=by have:=Has.setCell h5 6 (.int .i64 n.links);simpa using this
 have h7:Has ((((((((w.setCell ⟨b,0,none⟩ (.int .i64 n.no)).setCell ⟨b,1,none⟩ (.int .i64 n.dev)).setCell ⟨b,2,none⟩ (.int .i64 n.kind)).setCell ⟨b,3,none⟩ (.int .i64 n.mode)).setCell ⟨b,4,none⟩ (.int .i64 n.uid)).setCell ⟨b,5,none⟩ (.int .i64 n.gid)).setCell ⟨b,6,none⟩ (.int .i64 n.links)).setCell ⟨b,7,none⟩ (.int .i64 n.data.length)) b (.cells #[.int .i64 n.no,.int .i64 n.dev,.int .i64 n.kind,.int .i64 n.mode,.int .i64 n.uid,.int .i64 n.gid,.int .i64 n.links,.int .i64 n.data.length,a8,a9] t):=by have:=Has.setCell h6 7 (.int .i64 n.data.length);simpa using this
 have h8:Has (((((((((w.setCell ⟨b,0,none⟩ (.int .i64 n.no)).setCell ⟨b,1,none⟩ (.int .i64 n.dev)).setCell ⟨b,2,none⟩ (.int .i64 n.kind)).setCell ⟨b,3,none⟩ (.int .i64 n.mode)).setCell ⟨b,4,none⟩ (.int .i64 n.uid)).setCell ⟨b,5,none⟩ (.int .i64 n.gid)).setCell ⟨b,6,none⟩ (.int .i64 n.links)).setCell ⟨b,7,none⟩ (.int .i64 n.data.length)).setCell ⟨b,8,none⟩ (.int .i64 n.mtime)) b (.cells #[.int .i64 n.no,.int .i64 n.dev,.int .i64 n.kind,.int .i64 n.mode,.int .i64 n.uid,.int .i64 n.gid,.int .i64 n.links,.int .i64 n.data.length,.int .i64 n.mtime,a9] t):=by have:=Has.setCell h7 8 (.int .i64 n.mtime);simpa using this
 have h9:Has ((((((((((w.setCell ⟨b,0,none⟩ (.int .i64 n.no)).setCell ⟨b,1,none⟩ (.int .i64 n.dev)).setCell ⟨b,2,none⟩ (.int .i64 n.kind)).setCell ⟨b,3,none⟩ (.int .i64 n.mode)).setCell ⟨b,4,none⟩ (.int .i64 n.uid)).setCell ⟨b,5,none⟩ (.int .i64 n.gid)).setCell ⟨b,6,none⟩ (.int .i64 n.links)).setCell ⟨b,7,none⟩ (.int .i64 n.data.length)).setCell ⟨b,8,none⟩ (.int .i64 n.mtime)).setCell ⟨b,9,none⟩ (.int .i64 n.ctime)) b (.cells #[.int .i64 n.no,.int .i64 n.dev,.int .i64 n.kind,.int .i64 n.mode,.int .i64 n.uid,.int .i64 n.gid,.int .i64 n.links,.int .i64 n.data.length,.int .i64 n.mtime,.int .i64 n.ctime] t):=by have:=Has.setCell h8 9 (.int .i64 n.ctime);simpa using this
 exact h9
theorem stat_all (n:NodeD):(#[.int .i64 n.no,.int .i64 n.dev,.int .i64 n.kind,.int .i64 n.mode,.int .i64 n.uid,.int .i64 n.gid,.int .i64 n.links,.int .i64 n.data.length,.int .i64 n.mtime,.int .i64 n.ctime]:Array Value).all (·.oneCell')=true:=all_oneCell_toArray (cs:=statL n) fun u hu=>by
 simp only[statL,List.mem_cons,List.not_mem_nil,or_false]at hu;rcases hu with rfl|rfl|rfl|rfl|rfl|rfl|rfl|rfl|rfl|rfl<;>rfl
theorem wpList_store_stat {ops:Array Oper} {rest:List Oper} {op:Oper} {a:Act} {w:World} {Q:Exit→Act→World→Prop} (hgd:op.guard=none) (x y:Operand) (ho:op.op=.store 95 x y)
  (b:Nat) (n:NodeD) (hx:a.eval x=.pointer (some ⟨b,0,none⟩)) (hy:a.eval y=.agg #[.int .i64 n.no,.int .i64 n.dev,.int .i64 n.kind,.int .i64 n.mode,.int .i64 n.uid,.int .i64 n.gid,.int .i64 n.links,.int .i64 n.data.length,.int .i64 n.mtime,.int .i64 n.ctime]) {m:NodeD} (hb:Has w b (.cells #[.int .i64 m.no,.int .i64 m.dev,.int .i64 m.kind,.int .i64 m.mode,.int .i64 m.uid,.int .i64 m.gid,.int .i64 m.links,.int .i64 m.data.length,.int .i64 m.mtime,.int .i64 m.ctime] 95))
  (h:∀w',Has w' b (.cells #[.int .i64 n.no,.int .i64 n.dev,.int .i64 n.kind,.int .i64 n.mode,.int .i64 n.uid,.int .i64 n.gid,.int .i64 n.links,.int .i64 n.data.length,.int .i64 n.mtime,.int .i64 n.ctime] 95)→Only [b] w w'→wpList Tryz.prog ops Q rest (a.put op.dst undef) w'):wpList Tryz.prog ops Q (op::rest) a w:=by
 refine wpList_store_mid hgd 95 x y ho b 0 #[.int .i64 n.no,.int .i64 n.dev,.int .i64 n.kind,.int .i64 n.mode,.int .i64 n.uid,.int .i64 n.gid,.int .i64 n.links,.int .i64 n.data.length,.int .i64 n.mtime,.int .i64 n.ctime] hx hy hb.there infoStat10 (stat_all n) ?_;exact h _ (hb.setStat n) (only_setCells (statL n) 0 w)
theorem res_stat {fn:Func} {p t:Tmp} (h:fn.results=#[.cell p 95,.tmp t]) (tmps:Array Value) (w:World) (g:Nat) (n:NodeD) (v:Value)
  (hp:tmps.getD p undef=.pointer (some ⟨g,0,none⟩)) (hv:tmps.getD t undef=v) (hg:Has w g (.cells #[.int .i64 n.no,.int .i64 n.dev,.int .i64 n.kind,.int .i64 n.mode,.int .i64 n.uid,.int .i64 n.gid,.int .i64 n.links,.int .i64 n.data.length,.int .i64 n.mtime,.int .i64 n.ctime] 95)) :
  (results fn tmps).run Tryz.prog w=.ok (.tuple #[.agg #[.int .i64 n.no,.int .i64 n.dev,.int .i64 n.kind,.int .i64 n.mode,.int .i64 n.uid,.int .i64 n.gid,.int .i64 n.links,.int .i64 n.data.length,.int .i64 n.mtime,.int .i64 n.ctime],v]) w:=
 res_cell_tmp h tmps w g 95 _ _ v hp hv hg Tryz.underlying95 rfl infoStat10
theorem pstat_any (B:Nat) (g:GhW) (S:TreeD) (no:Int) (w:World) (h:WAt w B g S) (hd:0<S.devs.length) :
  Calls Tryz.prog 93 #[.pointer (some ⟨g.bW,0,none⟩),.int .i64 no] w (Ret w (.tuple #[statV (getN S.nodes no),.int .i64 (statE S no)])):=by
 obtain ⟨W0,hW0⟩:∃W,W=w.alloc (.cells #[.int .i64 0,.int .i64 0,.int .i64 0,.int .i64 0,.int .i64 0,.int .i64 0,.int .i64 0,.int .i64 0,.int .i64 0,.int .i64 0] 95):=⟨_,rfl⟩;obtain ⟨b0,hb0⟩:∃b,b=w.heap.size:=⟨_,rfl⟩;have E0:Ext w W0:=by rw[hW0];exact (Ext.refl _).alloc _
 have R0:Has W0 b0 (.cells #[.int .i64 nodeZ.no,.int .i64 nodeZ.dev,.int .i64 nodeZ.kind,.int .i64 nodeZ.mode,.int .i64 nodeZ.uid,.int .i64 nodeZ.gid,.int .i64 nodeZ.links,.int .i64 nodeZ.data.length,.int .i64 nodeZ.mtime,.int .i64 nodeZ.ctime] 95):=by rw[hW0,hb0];exact Has.new _ _
 have hbw:w.heap.size≤b0:=by omega
 have h0:=h.ext E0;go_enter Tryz.func93,Tryz.ntmps93;go_upto_region 1 with fail;rw [show w.alloc _=W0 from hW0.symm,←hb0];clear hW0 hb0;go_wp2_with fail;refine (pdevs_any B g S _ h0 hd).mono ?_;rintro e w1 ⟨rfl,b1⟩;have R1:=R0.ext b1;have E1:=E0.trans b1;have h1:=h0.ext b1;have td:((S.devs.length:Int) == 0)=false:=by simp;intro e;rw[e]at hd;exact absurd hd (by simp)
 obtain ⟨_,_,cd,hWr,_⟩:=id h1;have v0:w1.cell? ⟨g.bW,0,none⟩=some (.pointer (some ⟨g.bT,0,none⟩)):=hWr.cell 0;have vz:=hWr.lt;clear hWr;go_wp2_with fail;refine (tget_any B g.bT g.bM S.nodes S.last no _ h1.2.1).mono ?_;rintro e w2 ⟨A2,k2,rfl,ok2,b2⟩;have R2:=R1.ext b2;have E2:=E1.trans b2;obtain ⟨m,hm⟩:∃m,m=getN S.nodes no:=⟨_,rfl⟩;obtain ⟨i,hi⟩:∃i,i=isN S.nodes no:=⟨_,rfl⟩;have hE:statE S no=if i=true then 0 else 5:=by rw[hi];rfl
 have hZ:i=false→m=nodeZ:=fun e=>by rw[hm];exact (isN_false (hi.symm.trans e)).1
 rw [←hm,←hi];clear ok2;obtain ⟨W3,hW3⟩:∃W3,W3=w2.alloc (.cells #[.int .i64 m.no,.int .i64 m.dev,.int .i64 m.kind,.int .i64 m.mode,.int .i64 m.uid,.int .i64 m.gid,.int .i64 m.mtime,.int .i64 m.ctime,.int .i64 m.links,.int .i64 m.up,.string (bs m.data),.slice A2 m.ents.length k2] 66):=⟨_,rfl⟩;obtain ⟨b8,hb8⟩:∃b8,b8=w2.heap.size:=⟨_,rfl⟩;have E23:Ext w2 W3:=by rw[hW3];exact (Ext.refl _).alloc _
 have N3:Has W3 b8 (.cells #[.int .i64 m.no,.int .i64 m.dev,.int .i64 m.kind,.int .i64 m.mode,.int .i64 m.uid,.int .i64 m.gid,.int .i64 m.mtime,.int .i64 m.ctime,.int .i64 m.links,.int .i64 m.up,.string (bs m.data),.slice A2 m.ents.length k2] 66):=by rw[hW3,hb8];exact Has.new _ _
 have R3:=R2.ext E23;have E3:=E2.trans E23;obtain ⟨e0,he0⟩:∃e0,e0=statE S no:=⟨_,rfl⟩;rw [←he0];rw [←he0]at hE;have HE:=zH hE;have HZ:=zH hZ;have HMM:=zH hm;have HEE:=zH he0;clear hm hi hE hZ he0 v0 vz;go_upto_region 4 with fail;rw [←hW3,←hb8];clear hW3 hb8 E23 R1 R2 E1 E2;unfold statV
 cases i
 ·have e1:Hid (e0=5):=zH (HE.out.trans rfl)
  have e2:Hid (m=nodeZ):=zH (HZ.out rfl);go_wp2_with (refine wpList_store_stat rfl _ _ rfl b0 nodeZ rfl rfl R3 ?_;intro w9 R9 O9);refine bodyPost_ret (v:=.tuple #[.agg #[.int .i64 nodeZ.no,.int .i64 nodeZ.dev,.int .i64 nodeZ.kind,.int .i64 nodeZ.mode,.int .i64 nodeZ.uid,.int .i64 nodeZ.gid,.int .i64 nodeZ.links,.int .i64 nodeZ.data.length,.int .i64 nodeZ.mtime,.int .i64 nodeZ.ctime],.int .i64 5]) (res_stat Tryz.results93 _ _ b0 nodeZ _ rfl rfl R9) rfl ?_;refine ⟨by (try rw[←HMM.out]);(try rw[←HEE.out]);rw[e1.out,e2.out];rfl,O9.after E3 (by simpa using hbw)⟩
 ·have e1:Hid (e0=0):=zH (HE.out.trans rfl)
  obtain ⟨x0,x1,x2,x3,x4,x5,x6,x7,x8,x9,x10,x11⟩:=N3.node12;have xz:=N3.lt;go_wp2_with (refine wpList_store_stat rfl _ _ rfl b0 m rfl rfl R3 ?_;intro w9 R9 O9);refine bodyPost_ret (v:=.tuple #[.agg #[.int .i64 m.no,.int .i64 m.dev,.int .i64 m.kind,.int .i64 m.mode,.int .i64 m.uid,.int .i64 m.gid,.int .i64 m.links,.int .i64 m.data.length,.int .i64 m.mtime,.int .i64 m.ctime],.int .i64 0]) (res_stat Tryz.results93 _ _ b0 m _ rfl rfl R9) rfl ?_;refine ⟨by (try rw[←HMM.out]);(try rw[←HEE.out]);rw[e1.out];rfl,O9.after E3 (by simpa using hbw)⟩
theorem rstat_any (B:Nat) (g:GhF) (S:TreeD) (X:Xtra) (no:Int) (w:World) (h:FAt w B g S X) (hl:S.nodes.length≤1000000) (hu:NosUp S.nodes S.last) :
  Calls Tryz.prog 135 #[.pointer (some ⟨g.bF,0,none⟩),.int .i64 no] w (Ret w (.tuple #[statV (getN S.nodes no),.int .i64 (statE S no)])):=by
 obtain ⟨W0,hW0⟩:∃W,W=w.alloc (.cells #[.int .i64 0,.int .i64 0,.int .i64 0,.int .i64 0,.int .i64 0,.int .i64 0,.int .i64 0,.int .i64 0,.int .i64 0,.int .i64 0] 95):=⟨_,rfl⟩;obtain ⟨b0,hb0⟩:∃b,b=w.heap.size:=⟨_,rfl⟩;have E0:Ext w W0:=by rw[hW0];exact (Ext.refl _).alloc _
 have R0:Has W0 b0 (.cells #[.int .i64 nodeZ.no,.int .i64 nodeZ.dev,.int .i64 nodeZ.kind,.int .i64 nodeZ.mode,.int .i64 nodeZ.uid,.int .i64 nodeZ.gid,.int .i64 nodeZ.links,.int .i64 nodeZ.data.length,.int .i64 nodeZ.mtime,.int .i64 nodeZ.ctime] 95):=by rw[hW0,hb0];exact Has.new _ _
 have hbw:w.heap.size≤b0:=by omega
 have h0:=h.ext E0;go_enter Tryz.func135,Tryz.ntmps135;go_upto_region 1 with fail;rw [show w.alloc _=W0 from hW0.symm,←hb0];clear hW0 hb0;have R1:=R0;have E1:=E0;go_wp2_with fail;refine (rget_any B g S X no _ h0 hl hu).mono ?_;rintro e w2 ⟨A2,k2,rfl,ok2,b2⟩;have R2:=R1.ext b2;have E2:=E1.trans b2;obtain ⟨m,hm⟩:∃m,m=getN S.nodes no:=⟨_,rfl⟩;have hnz:((getN S.nodes no).no == 0)=!isN S.nodes no:=by
  cases hi:isN S.nodes no
  ·rw[(isN_false hi).1];rfl
  ·have h1:=(hu.2 _ (isN_true hi).2.2).1
   simp;omega
 rw [←hm]at hnz;obtain ⟨i,hi⟩:∃i,i=isN S.nodes no:=⟨_,rfl⟩;have hE:statE S no=if i=true then 0 else 5:=by rw[hi];rfl
 have hZ:i=false→m=nodeZ:=fun e=>by rw[hm];exact (isN_false (hi.symm.trans e)).1
 rw [←hm];rw [←hi]at hnz;clear ok2;obtain ⟨W3,hW3⟩:∃W3,W3=w2.alloc (.cells #[.int .i64 m.no,.int .i64 m.dev,.int .i64 m.kind,.int .i64 m.mode,.int .i64 m.uid,.int .i64 m.gid,.int .i64 m.mtime,.int .i64 m.ctime,.int .i64 m.links,.int .i64 m.up,.string (bs m.data),.slice A2 m.ents.length k2] 66):=⟨_,rfl⟩;obtain ⟨b8,hb8⟩:∃b8,b8=w2.heap.size:=⟨_,rfl⟩;have E23:Ext w2 W3:=by rw[hW3];exact (Ext.refl _).alloc _
 have N3:Has W3 b8 (.cells #[.int .i64 m.no,.int .i64 m.dev,.int .i64 m.kind,.int .i64 m.mode,.int .i64 m.uid,.int .i64 m.gid,.int .i64 m.mtime,.int .i64 m.ctime,.int .i64 m.links,.int .i64 m.up,.string (bs m.data),.slice A2 m.ents.length k2] 66):=by rw[hW3,hb8];exact Has.new _ _
 have R3:=R2.ext E23;have E3:=E2.trans E23;obtain ⟨e0,he0⟩:∃e0,e0=statE S no:=⟨_,rfl⟩;rw [←he0];rw [←he0]at hE;have HE:=zH hE;have HZ:=zH hZ;have HMM:=zH hm;have HEE:=zH he0;have HNZ:=zH hnz;clear hm hi hE hZ he0 hnz;go_upto_region 2 with fail;rw [←hW3,←hb8];clear hW3 hb8 E23 R1 R2 E1 E2;unfold statV
 cases i
 ·have e1:Hid (e0=5):=zH (HE.out.trans rfl)
  have e2:Hid (m=nodeZ):=zH (HZ.out rfl);have tn:(m.no == 0)=true:=HNZ.out;have k0:W3.cell? ⟨b8,0,none⟩=some (.int .i64 m.no):=N3.cell 0;have kz:=N3.lt;go_wp2_with (refine wpList_store_stat rfl _ _ rfl b0 nodeZ rfl rfl R3 ?_;intro w9 R9 O9);refine bodyPost_ret (v:=.tuple #[.agg #[.int .i64 nodeZ.no,.int .i64 nodeZ.dev,.int .i64 nodeZ.kind,.int .i64 nodeZ.mode,.int .i64 nodeZ.uid,.int .i64 nodeZ.gid,.int .i64 nodeZ.links,.int .i64 nodeZ.data.length,.int .i64 nodeZ.mtime,.int .i64 nodeZ.ctime],.int .i64 5]) (res_stat Tryz.results135 _ _ b0 nodeZ _ rfl rfl R9) rfl ?_;refine ⟨by (try rw[←HMM.out]);(try rw[←HEE.out]);rw[e1.out,e2.out];rfl,O9.after E3 (by simpa using hbw)⟩
 ·have e1:Hid (e0=0):=zH (HE.out.trans rfl)
  have tn:(m.no == 0)=false:=HNZ.out;obtain ⟨x0,x1,x2,x3,x4,x5,x6,x7,x8,x9,x10,x11⟩:=N3.node12;have xz:=N3.lt;go_wp2_with (refine wpList_store_stat rfl _ _ rfl b0 m rfl rfl R3 ?_;intro w9 R9 O9);refine bodyPost_ret (v:=.tuple #[.agg #[.int .i64 m.no,.int .i64 m.dev,.int .i64 m.kind,.int .i64 m.mode,.int .i64 m.uid,.int .i64 m.gid,.int .i64 m.links,.int .i64 m.data.length,.int .i64 m.mtime,.int .i64 m.ctime],.int .i64 0]) (res_stat Tryz.results135 _ _ b0 m _ rfl rfl R9) rfl ?_;refine ⟨by (try rw[←HMM.out]);(try rw[←HEE.out]);rw[e1.out];rfl,O9.after E3 (by simpa using hbw)⟩
def SAt (w:World) (b:Nat) (g:GhW) (now count:Int) (A:Option Addr) (len cap:Nat) (dead:Bool):Prop:=
 Has w b (.cells #[.pointer (some ⟨g.bW,0,none⟩),.int .i64 now,.int .i64 count,.slice A len cap,.bool dead] 102)
theorem SAt.ext {w w':World} {b:Nat} {g:GhW} {now count:Int} {A:Option Addr} {len cap:Nat} {dead:Bool} (h:SAt w b g now count A len cap dead) (hE:Ext w w'):SAt w' b g now count A len cap dead:=Has.ext h hE
theorem noneS {b:Nat} {g:GhW} {now count:Int} {A:Option Addr} {len cap:Nat} {dead:Bool} (w:World) (h:SAt w b g now count A len cap dead):Calls Tryz.prog 78 #[.pointer (some ⟨b,0,none⟩)] w (Ret w (.bool false)):=by
 have c0:=Has.cell h 0;have z:=Has.lt h;go_enter Tryz.func78,Tryz.ntmps78;go_wp2_with fail;go_ret;exact Ret.mk rfl (Ext.refl _)
theorem readS {b:Nat} {g:GhW} {now count:Int} {A:Option Addr} {len cap:Nat} {dead:Bool} (w:World) (h:SAt w b g now count A len cap dead):Calls Tryz.prog 54 #[.pointer (some ⟨b,0,none⟩)] w (Ret w (.int .i64 (if dead=true then 20 else 0))):=by
 cases dead
 ·show Calls _ _ _ _ (Ret w (.int .i64 0))
  go_enter Tryz.func54,Tryz.ntmps54;go_wp2_with fail;refine (noneS _ h).mono ?_;rintro e w1 ⟨rfl,b1⟩;have h1:=h.ext b1;have c4:=Has.cell h1 4;have z:=Has.lt h1;go_wp2_with fail;go_ret;exact Ret.mk rfl b1
 ·show Calls _ _ _ _ (Ret w (.int .i64 20))
  go_enter Tryz.func54,Tryz.ntmps54;go_wp2_with fail;refine (noneS _ h).mono ?_;rintro e w1 ⟨rfl,b1⟩;have h1:=h.ext b1;have c4:=Has.cell h1 4;have z:=Has.lt h1;go_wp2_with fail;go_ret;exact Ret.mk rfl b1
def PlanAt (w:World) (A:Option Addr) (l:List (Int×Int)):Prop:=
 l = []∨∃b o,A=some ⟨b,o,none⟩∧b<w.heap.size∧∀k,(h:k<l.length)→w.cell? ⟨b,o+k*2,none⟩=some (.int .i64 l[k].1)∧w.cell? ⟨b,o+k*2+1,none⟩=some (.int .i64 l[k].2)
theorem PlanAt.ext {w w':World} {A:Option Addr} {l:List (Int×Int)} (h:PlanAt w A l) (k:Ext w w'):PlanAt w' A l:=by
 rcases h with h|⟨b,o,hA,hb,hc⟩
 ·exact .inl h
 ·exact .inr ⟨b,o,hA,by have:=k.size;omega,fun i hi=>⟨(k.cell hb).trans (hc i hi).1,(k.cell hb).trans (hc i hi).2⟩⟩
def PlanOff (A:Option Addr) (b:Nat):Prop:=∀x,A=some x→x.block≠b
theorem PlanAt.only {w w':World} {A:Option Addr} {l:List (Int×Int)} {L:List Nat} (h:PlanAt w A l) (o:Only L w w') (hL:∀b∈L,PlanOff A b):PlanAt w' A l:=by
 rcases h with h|⟨b,o',hA,hb,hc⟩
 ·exact .inl h
 ·have hn:b∉L:=fun hb'=>hL b hb' _ hA rfl
  have e:w'.heap[b]?=w.heap[b]?:=o.block b hb hn;have ec:∀j,w'.cell? ⟨b,j,none⟩=w.cell? ⟨b,j,none⟩:=fun j=>by simp[World.cell?,e]
  exact .inr ⟨b,o',hA,by have:=o.size;omega,fun i hi=>⟨(ec _).trans (hc i hi).1,(ec _).trans (hc i hi).2⟩⟩
def hitO (l:List (Int×Int)) (c:Int):Option (Int×Int):=l.find? fun x=>x.1 == c
def hitE (l:List (Int×Int)) (c:Int):Int:=match hitO l c with|some x=>x.2|none=>0
def hitD (l:List (Int×Int)) (c:Int):Bool:=match hitO l c with|some x=>x.2 == 20|none=>false
theorem hit_at {l:List (Int×Int)} {c:Int} {k:Nat} (hk:k<l.length) (h0:hitO (l.take k) c=none) (h1:l[k].1=c):hitE l c=l[k].2∧hitD l c=(l[k].2 == 20):=by
 have:hitO l c=some l[k]:=by
  unfold hitO at h0⊢;have e:l.find? (fun x=>x.1 == c)=(l.take k++l.drop k).find? (fun x=>x.1 == c):=by rw[List.take_append_drop]
  rw [e,List.find?_append,h0,List.drop_eq_getElem_cons hk,List.find?_cons];simp [h1]
 unfold hitE hitD;rw [this];exact ⟨rfl,rfl⟩
theorem hit_next {l:List (Int×Int)} {c:Int} {k:Nat} (hk:k<l.length) (h0:hitO (l.take k) c=none) (h1:l[k].1≠c):hitO (l.take (k+1)) c=none:=by
 unfold hitO at h0⊢;rw [List.take_succ_eq_append_getElem hk,List.find?_append,h0];simp [h1]
theorem changeS {b:Nat} {g:GhW} {now count:Int} {A:Option Addr} {cap:Nat} (l:List (Int×Int)) (w:World) (h:SAt w b g now count A l.length cap false) (hp:PlanAt w A l) (ho:PlanOff A b) (hl:l.length≤1000000) (hc0:0≤count) (hc1:count≤1000000) :
  Calls Tryz.prog 116 #[.pointer (some ⟨b,0,none⟩)] w (fun e w'=>e=.returned (.int .i64 (hitE l (count+1)))∧SAt w' b g now (count+1) A l.length cap (hitD l (count+1))∧Only [b] w w'):=by
 obtain ⟨n,hn⟩:∃n,n=l.length:=⟨_,rfl⟩;rw [←hn]at h hl⊢;have HN:=zH hn;obtain ⟨c,hc⟩:∃c,c=count+1:=⟨_,rfl⟩;have w1w:IntKind.i64.wrap (count+1)=c:=by rw[hc];exact IntWalk.i64_in _ (by omega)
 rw [←hc];clear hn hc;go_enter Tryz.func116,Tryz.ntmps116;go_wp2_with fail;refine (readS _ h).mono ?_;rintro e w1 ⟨rfl,b1⟩;have h1:=h.ext b1;have c2:=Has.cell h1 2;have f2:=Has.free h1 2;have z:=Has.lt h1;obtain ⟨W2,hW2⟩:∃W2,W2=w1.setCell ⟨b,2,none⟩ (.int .i64 c):=⟨_,rfl⟩;have h2:SAt W2 b g now c A n cap false:=by rw[hW2];exact Has.setCell h1 2 (.int .i64 c)
 have O2:Only [b] w W2:=by rw[hW2];exact Only.pre b1 (Only.setCell _ _ _ _)
 have hp2:PlanAt W2 A l:=hp.only O2 (fun x hx=>by simp at hx;subst hx;exact ho);have HW2:=zH hW2;clear hW2 h1 h hp;go_upto_region 5 with fail;rw [←HW2.out];have c3:=Has.cell h2 3;have z2:=Has.lt h2;clear c2 f2 z b1 HW2;go_wp2_with fail;go_loopw [23] (fun i wr=>∃k:Nat,i=.int .i64 k∧k≤n∧hitO (l.take k) c=none∧SAt wr b g now c A n cap false∧PlanAt wr A l∧Only [b] w wr) (fun i _=>n-(intOf i).toNat)
 case atStart=>exact⟨0,rfl,Nat.zero_le _,rfl,h2,hp2,O2⟩
 case round =>
  obtain ⟨k,rfl,hk,h0,hS,hP,hO⟩:=hrel
  by_cases hlt:(k:Int)<n
  ·have hkl:k<l.length:=by have:=HN.out;omega
   have hP':=hP;obtain ⟨bl,o,rfl,hbl,hcs⟩:=hP'.resolve_left (by rintro rfl;simp at hkl);obtain ⟨e0,e1⟩:=hcs k hkl;have y1:(0:Int)≤(k:Int):=Int.natCast_nonneg _;have w3w:IntKind.i64.wrap ((k:Int)+1)=(k:Int)+1:=IntWalk.i64_in _ (by omega);have hat:=hit_at (c:=c) hkl h0;have hnx:=hit_next (c:=c) hkl h0;obtain ⟨x,hx⟩:∃x,x=l[k]:=⟨_,rfl⟩;rw [←hx]at e0 e1 hat hnx;obtain ⟨x1,x2⟩:=x;obtain ⟨W5,hW5⟩:∃W5,W5=wr.alloc (.cells #[.int .i64 x1,.int .i64 x2] 216):=⟨_,rfl⟩;obtain ⟨b5,hb5⟩:∃b5,b5=wr.heap.size:=⟨_,rfl⟩;have E5:Ext wr W5:=by rw[hW5];exact (Ext.refl _).alloc _
   have N5:Has W5 b5 (.cells #[.int .i64 x1,.int .i64 x2] 216):=by rw[hW5,hb5];exact Has.new _ _
   have S5:=hS.ext E5;have P5:=hP.ext E5;have O5:=hO.ext E5;have hbb:b5≠b:=by have:=Has.lt hS;omega
   clear hcs hx;go_upto_region 8 with fail;rw [←hW5,←hb5];clear hW5 hb5 e0 e1;have d2:=Has.cell S5 2;have d4:=Has.cell S5 4;have f4:=Has.free S5 4;have dz:=Has.lt S5;have n0:=N5.cell 0;have n1:=N5.cell 1;have nz:=N5.lt
   by_cases hq:x1=c
   ·have t1:(x1 == c)=true:=by simpa using hq
    have HAT:=zH (hat hq);clear hq hat hnx;go_quiet (fail);go_wp2_with fail;go_ret;rw [HAT.out.1,HAT.out.2];refine ⟨rfl,?_,(O5.ext ((Ext.refl _).drewN _)).then (Only.setCell _ _ _ _)⟩;exact Has.setCell (S5.ext ((Ext.refl _).drewN _)) 4 (.bool (x2 == 20))
   ·have t1:(x1 == c)=false:=by simpa using hq
    have HNX:=zH (hnx hq);clear hq hat hnx;go_quiet (fail);go_wp2_with fail;go_roundw
    case rel=>exact⟨k+1,by go_num,by omega,HNX.out,S5.ext ((Ext.refl _).drewN _),P5.ext ((Ext.refl _).drewN _),O5.ext ((Ext.refl _).drewN _)⟩
    case measure=>simp[intOf];omega
  ·have hkn:k=n:=by omega
   have hf:hitO l c=none:=by rw[hkn,HN.out,List.take_length]at h0;exact h0
   have he:hitE l c=0∧hitD l c=false:=by unfold hitE hitD;rw[hf];exact⟨rfl,rfl⟩
   have HE:=zH he;clear hf he h0 hkn;go_wp2_with fail;go_ret;exact ⟨by rw[HE.out.1];rfl,by rw[HE.out.2];exact hS,hO⟩
theorem newS (b n:Int) (w:World) (hl:limitsF b n=true):Calls Tryz.prog 63 #[.int .i64 b,.int .i64 n] w (fun e w'=>∃(g:GhW) (B s:Nat),w.heap.size≤B∧B≤s∧e=.returned (.tuple #[.pointer (some ⟨s,0,none⟩),.int .i64 0])∧WAt w' B g (rootT emptyT 0 b n)∧SAt w' s g 0 0 none 0 0 false∧s∉g.list∧Ext w w'):=by
 go_enter Tryz.func63,Tryz.ntmps63;go_wp2_with fail;refine (pnew_any w.heap.size b n w (Nat.le_refl _) hl).mono ?_;rintro e w1 ⟨g,rfl,K,E1⟩;go_wp2_with fail;go_ret2;refine ⟨g,w.heap.size,w1.heap.size,Nat.le_refl _,E1.size,rfl,K.ext ((Ext.refl _).alloc _),Has.new _ _,?_,E1.alloc _⟩;have h1:=K.lt;simp only[GhW.list,List.mem_cons,List.not_mem_nil,or_false];omega
theorem SAt.apart {w:World} {B b:Nat} {g:GhW} {now count:Int} {A:Option Addr} {len cap:Nat} {dead:Bool} (h:SAt w b g now count A len cap dead) (hB:B≤b):Apart w B [b]:=Apart.cons (fun x hx=>by cases hx) hB (Has.noTag h (by decide))
theorem WAt.offS {w w':World} {B b:Nat} {g:GhW} {S:TreeD} {now count:Int} {A:Option Addr} {len cap:Nat} {dead:Bool} (K:WAt w B g S) (h:SAt w b g now count A len cap dead) (hB:B≤b) (hb:b∉g.list) (o:Only [b] w w'):WAt w' B g S:=
 K.only o (h.apart hB) fun x hx hx'=>by simp at hx';subst hx';exact hb hx
theorem SAt.only {w w':World} {b:Nat} {g:GhW} {now count:Int} {A:Option Addr} {len cap:Nat} {dead:Bool} {L:List Nat} (h:SAt w b g now count A len cap dead) (o:Only L w w') (hb:b∉L):SAt w' b g now count A len cap dead:=o.has h hb
theorem infoFault:(Tryz.prog.info? 216).map (fun i=>(i.zero,i.size,i.bytes))=some (some (.agg #[.int .i64 0,.int .i64 0]),2,16):=by kernel_rfl
theorem statDead {b:Nat} {g:GhW} {now count:Int} {A:Option Addr} {len cap:Nat} {no:Int} (w:World) (h:SAt w b g now count A len cap true):Calls Tryz.prog 45 #[.pointer (some ⟨b,0,none⟩),.int .i64 no] w (Ret w (.tuple #[statV nodeZ,.int .i64 20])):=by
 obtain ⟨W0,hW0⟩:∃W,W=w.alloc (.cells #[.int .i64 0,.int .i64 0,.int .i64 0,.int .i64 0,.int .i64 0,.int .i64 0,.int .i64 0,.int .i64 0,.int .i64 0,.int .i64 0] 95):=⟨_,rfl⟩;obtain ⟨b0,hb0⟩:∃b,b=w.heap.size:=⟨_,rfl⟩;have E0:Ext w W0:=by rw[hW0];exact (Ext.refl _).alloc _
 have R0:Has W0 b0 (.cells #[.int .i64 nodeZ.no,.int .i64 nodeZ.dev,.int .i64 nodeZ.kind,.int .i64 nodeZ.mode,.int .i64 nodeZ.uid,.int .i64 nodeZ.gid,.int .i64 nodeZ.links,.int .i64 nodeZ.data.length,.int .i64 nodeZ.mtime,.int .i64 nodeZ.ctime] 95):=by rw[hW0,hb0];exact Has.new _ _
 have hbw:w.heap.size≤b0:=by omega
 have h0:=h.ext E0;go_enter Tryz.func45,Tryz.ntmps45;go_upto_region 1 with fail;rw [show w.alloc _=W0 from hW0.symm,←hb0];clear hW0 hb0;go_wp2_with fail;refine (readS _ h0).mono ?_;rintro e w1 ⟨rfl,b1⟩;have R1:=R0.ext b1;have E1:=E0.trans b1;go_wp2_with (refine wpList_store_stat rfl _ _ rfl b0 nodeZ rfl rfl R1 ?_;intro w9 R9 O9);refine bodyPost_ret (v:=.tuple #[.agg #[.int .i64 nodeZ.no,.int .i64 nodeZ.dev,.int .i64 nodeZ.kind,.int .i64 nodeZ.mode,.int .i64 nodeZ.uid,.int .i64 nodeZ.gid,.int .i64 nodeZ.links,.int .i64 nodeZ.data.length,.int .i64 nodeZ.mtime,.int .i64 nodeZ.ctime],.int .i64 20]) (res_stat Tryz.results45 _ _ b0 nodeZ _ rfl rfl R9) rfl ?_;exact ⟨rfl,O9.after E1 (by simpa using hbw)⟩
theorem statLive {b B:Nat} {g:GhW} {S:TreeD} {now count:Int} {A:Option Addr} {len cap:Nat} {no:Int} (w:World) (h:SAt w b g now count A len cap false) (K:WAt w B g S) (hd:0<S.devs.length):Calls Tryz.prog 45 #[.pointer (some ⟨b,0,none⟩),.int .i64 no] w (Ret w (.tuple #[statV (getN S.nodes no),.int .i64 (statE S no)])):=by
 obtain ⟨W0,hW0⟩:∃W,W=w.alloc (.cells #[.int .i64 0,.int .i64 0,.int .i64 0,.int .i64 0,.int .i64 0,.int .i64 0,.int .i64 0,.int .i64 0,.int .i64 0,.int .i64 0] 95):=⟨_,rfl⟩;obtain ⟨b0,hb0⟩:∃b,b=w.heap.size:=⟨_,rfl⟩;have E0:Ext w W0:=by rw[hW0];exact (Ext.refl _).alloc _
 have R0:Has W0 b0 (.cells #[.int .i64 nodeZ.no,.int .i64 nodeZ.dev,.int .i64 nodeZ.kind,.int .i64 nodeZ.mode,.int .i64 nodeZ.uid,.int .i64 nodeZ.gid,.int .i64 nodeZ.links,.int .i64 nodeZ.data.length,.int .i64 nodeZ.mtime,.int .i64 nodeZ.ctime] 95):=by rw[hW0,hb0];exact Has.new _ _
 have hbw:w.heap.size≤b0:=by omega
 have h0:=h.ext E0;have K0:=K.ext E0;go_enter Tryz.func45,Tryz.ntmps45;go_upto_region 1 with fail;rw [show w.alloc _=W0 from hW0.symm,←hb0];clear hW0 hb0;go_wp2_with fail;refine (readS _ h0).mono ?_;rintro e w1 ⟨rfl,b1⟩;have R1:=R0.ext b1;have E1:=E0.trans b1;have h1:=h0.ext b1;have K1:=K0.ext b1;have c0:=Has.cell h1 0;have cz:=Has.lt h1;go_wp2_with fail;refine (pstat_any B g S no _ K1 hd).mono ?_;rintro e w2 ⟨rfl,b2⟩;have R2:=R1.ext b2;have E2:=E1.trans b2;obtain ⟨m,hm⟩:∃m,m=getN S.nodes no:=⟨_,rfl⟩;obtain ⟨x,hx⟩:∃x,x=statE S no:=⟨_,rfl⟩;rw [←hm,←hx];have HMM:=zH hm;have HXX:=zH hx;clear hm hx;unfold statV;go_wp2_with (refine wpList_store_stat rfl _ _ rfl b0 m rfl rfl R2 ?_;intro w9 R9 O9);refine bodyPost_ret (v:=.tuple #[.agg #[.int .i64 m.no,.int .i64 m.dev,.int .i64 m.kind,.int .i64 m.mode,.int .i64 m.uid,.int .i64 m.gid,.int .i64 m.links,.int .i64 m.data.length,.int .i64 m.mtime,.int .i64 m.ctime],.int .i64 x]) (res_stat Tryz.results45 _ _ b0 m _ rfl rfl R9) rfl ?_;exact ⟨by (try rw[←HMM.out]);(try rw[←HXX.out]);rfl,O9.after E2 (by simpa using hbw)⟩
theorem mkdirF {b:Nat} {g:GhW} {now count:Int} {A:Option Addr} {cap:Nat} (l:List (Int×Int)) (w:World) (cu cg:Int) (dir:Int) (nm:ByteArray) (mode:Int) (h:SAt w b g now count A l.length cap false) (hp:PlanAt w A l) (ho:PlanOff A b) (hl:l.length≤1000000) (hc0:0≤count) (hc1:count≤1000000) {x:Int} (hx:hitE l (count+1)=x) (hx0:x≠0) :
  Calls Tryz.prog 111 #[.pointer (some ⟨b,0,none⟩),.agg #[.int .i64 cu,.int .i64 cg],.int .i64 dir,.string nm,.int .i64 mode] w
   (fun e w'=>e=.returned (.tuple #[.int .i64 0,.int .i64 x])∧SAt w' b g now (count+1) A l.length cap (hitD l (count+1))∧Only [b] w w'):=by
 obtain ⟨n,hn⟩:∃n,n=l.length:=⟨_,rfl⟩;have KC:Hid (∀u,Ext w u→Calls Tryz.prog 116 #[.pointer (some ⟨b,0,none⟩)] u (fun e w'=>e=.returned (.int .i64 x)∧SAt w' b g now (count+1) A n cap (hitD l (count+1))∧Only [b] u w')):=by
  show ∀u,_;intro u hu;rw [←hx,hn];exact changeS l u (h.ext hu) (hp.ext hu) ho hl hc0 hc1
 rw [←hn];clear hn hx;have t1:(x != 0)=true:=by simpa using hx0
 clear hx0 h hp ho hl hc0 hc1;go_enter Tryz.func111,Tryz.ntmps111;go_wp2_with fail;refine (KC.out _ ((Ext.refl _).alloc _)).mono ?_;rintro e w1 ⟨rfl,S1,O1⟩;go_wp2_with fail;go_ret2;exact ⟨rfl,S1,Only.pre ((Ext.refl _).alloc _) O1⟩
theorem mkdirG {b:Nat} {g:GhW} {now count:Int} {A:Option Addr} {cap:Nat} (l:List (Int×Int)) (w:World) (cu cg:Int) (dir:Int) (nm:ByteArray) (mode:Int) (h:SAt w b g now count A l.length cap false) (hp:PlanAt w A l) (ho:PlanOff A b) (hl:l.length≤1000000) (hc0:0≤count) (hc1:count≤1000000) (B:Nat) (S:TreeD)
  (K:WAt w B g S) (hb:b∉g.list) (hbB:B≤b) (hx:hitE l (count+1)=0∧hitD l (count+1)=false) {T:TreeD} {y z:Int}
  (KD:∀u,WAt u B g S→Calls Tryz.prog 156 #[.pointer (some ⟨g.bW,0,none⟩),.agg #[.int .i64 cu,.int .i64 cg],.int .i64 now,.int .i64 dir,.string nm,.int .i64 mode] u (NoR u B g T y z)) :
  Calls Tryz.prog 111 #[.pointer (some ⟨b,0,none⟩),.agg #[.int .i64 cu,.int .i64 cg],.int .i64 dir,.string nm,.int .i64 mode] w
   (fun e w'=>e=.returned (.tuple #[.int .i64 y,.int .i64 z])∧WAt w' B g T∧SAt w' b g now (count+1) A l.length cap false∧Only (b::g.list) w w'):=by
 obtain ⟨n,hn⟩:∃n,n=l.length:=⟨_,rfl⟩;obtain ⟨W0,hW0⟩:∃W,W=w.alloc (.cells #[.int .i64 cu,.int .i64 cg] 27):=⟨_,rfl⟩;obtain ⟨b0,hb0⟩:∃b,b=w.heap.size:=⟨_,rfl⟩;have E0:Ext w W0:=by rw[hW0];exact (Ext.refl _).alloc _
 have N0:Has W0 b0 (.cells #[.int .i64 cu,.int .i64 cg] 27):=by rw[hW0,hb0];exact Has.new _ _
 have hbb:b0≠b:=by have:=Has.lt h;omega
 have KC:Hid (Calls Tryz.prog 116 #[.pointer (some ⟨b,0,none⟩)] W0 (fun e w'=>e=.returned (.int .i64 0)∧SAt w' b g now (count+1) A n cap false∧Only [b] W0 w')):=by
  show Calls _ _ _ _ _;have:=changeS l W0 (h.ext E0) (hp.ext E0) ho hl hc0 hc1;rw [hx.1,hx.2,←hn]at this;exact this
 have S0:=h.ext E0;have K0:=K.ext E0;have HKD:=zH KD;rw [←hn];clear hn hx h hp ho hl hc0 hc1 K KD;go_enter Tryz.func111,Tryz.ntmps111;go_upto_region 1 with fail;rw [←hW0,←hb0];clear hW0 hb0;go_wp2_with fail;refine KC.out.mono ?_;rintro e w1 ⟨rfl,S1,O1⟩;have K1:=K0.offS S0 hbB hb O1;have N1:=O1.has N0 (by simpa using hbb);have c0:=Has.cell S1 0;have c1:=Has.cell S1 1;have cz:=Has.lt S1;have d0:=N1.cell 0;have d1:=N1.cell 1;have dz:=N1.lt;go_wp2_with fail;go_region_with (go_at_call 156;refine (HKD.out _ (K1.ext (Ext.refl _).drew)).mono ?_;rintro e w2 ⟨rfl,K2,O2⟩)
 all_goals
  go_wp2_with fail;go_ret2;refine ⟨rfl,K2,SAt.only (SAt.ext S1 (Ext.refl _).drew) O2 hb,?_⟩;exact (Only.pre E0 (O1.mono (fun x hx=>by simp at hx;subst hx;simp))).then ((Only.of_ext (Ext.refl _).drew).then (O2.mono (fun x hx=>by simp[hx])))
theorem createF {b:Nat} {g:GhW} {now count:Int} {A:Option Addr} {cap:Nat} (l:List (Int×Int)) (w:World) (cu cg:Int) (dir:Int) (nm:ByteArray) (mode:Int) (data:ByteArray) (h:SAt w b g now count A l.length cap false) (hp:PlanAt w A l) (ho:PlanOff A b) (hl:l.length≤1000000) (hc0:0≤count) (hc1:count≤1000000) {x:Int} (hx:hitE l (count+1)=x) (hx0:x≠0) :
  Calls Tryz.prog 113 #[.pointer (some ⟨b,0,none⟩),.agg #[.int .i64 cu,.int .i64 cg],.int .i64 dir,.string nm,.int .i64 mode,.string data] w
   (fun e w'=>e=.returned (.tuple #[.int .i64 0,.int .i64 x])∧SAt w' b g now (count+1) A l.length cap (hitD l (count+1))∧Only [b] w w'):=by
 obtain ⟨n,hn⟩:∃n,n=l.length:=⟨_,rfl⟩;have KC:Hid (∀u,Ext w u→Calls Tryz.prog 116 #[.pointer (some ⟨b,0,none⟩)] u (fun e w'=>e=.returned (.int .i64 x)∧SAt w' b g now (count+1) A n cap (hitD l (count+1))∧Only [b] u w')):=by
  show ∀u,_;intro u hu;rw [←hx,hn];exact changeS l u (h.ext hu) (hp.ext hu) ho hl hc0 hc1
 rw [←hn];clear hn hx;have t1:(x != 0)=true:=by simpa using hx0
 clear hx0 h hp ho hl hc0 hc1;go_enter Tryz.func113,Tryz.ntmps113;go_wp2_with fail;refine (KC.out _ ((Ext.refl _).alloc _)).mono ?_;rintro e w1 ⟨rfl,S1,O1⟩;go_wp2_with fail;go_ret2;exact ⟨rfl,S1,Only.pre ((Ext.refl _).alloc _) O1⟩
theorem createG {b:Nat} {g:GhW} {now count:Int} {A:Option Addr} {cap:Nat} (l:List (Int×Int)) (w:World) (cu cg:Int) (dir:Int) (nm:ByteArray) (mode:Int) (data:ByteArray) (h:SAt w b g now count A l.length cap false) (hp:PlanAt w A l) (ho:PlanOff A b) (hl:l.length≤1000000) (hc0:0≤count) (hc1:count≤1000000) (B:Nat) (S:TreeD)
  (K:WAt w B g S) (hb:b∉g.list) (hbB:B≤b) (hx:hitE l (count+1)=0∧hitD l (count+1)=false) {T:TreeD} {y z:Int}
  (KD:∀u,WAt u B g S→Calls Tryz.prog 157 #[.pointer (some ⟨g.bW,0,none⟩),.agg #[.int .i64 cu,.int .i64 cg],.int .i64 now,.int .i64 dir,.string nm,.int .i64 mode,.string data] u (NoR u B g T y z)) :
  Calls Tryz.prog 113 #[.pointer (some ⟨b,0,none⟩),.agg #[.int .i64 cu,.int .i64 cg],.int .i64 dir,.string nm,.int .i64 mode,.string data] w
   (fun e w'=>e=.returned (.tuple #[.int .i64 y,.int .i64 z])∧WAt w' B g T∧SAt w' b g now (count+1) A l.length cap false∧Only (b::g.list) w w'):=by
 obtain ⟨n,hn⟩:∃n,n=l.length:=⟨_,rfl⟩;obtain ⟨W0,hW0⟩:∃W,W=w.alloc (.cells #[.int .i64 cu,.int .i64 cg] 27):=⟨_,rfl⟩;obtain ⟨b0,hb0⟩:∃b,b=w.heap.size:=⟨_,rfl⟩;have E0:Ext w W0:=by rw[hW0];exact (Ext.refl _).alloc _
 have N0:Has W0 b0 (.cells #[.int .i64 cu,.int .i64 cg] 27):=by rw[hW0,hb0];exact Has.new _ _
 have hbb:b0≠b:=by have:=Has.lt h;omega
 have KC:Hid (Calls Tryz.prog 116 #[.pointer (some ⟨b,0,none⟩)] W0 (fun e w'=>e=.returned (.int .i64 0)∧SAt w' b g now (count+1) A n cap false∧Only [b] W0 w')):=by
  show Calls _ _ _ _ _;have:=changeS l W0 (h.ext E0) (hp.ext E0) ho hl hc0 hc1;rw [hx.1,hx.2,←hn]at this;exact this
 have S0:=h.ext E0;have K0:=K.ext E0;have HKD:=zH KD;rw [←hn];clear hn hx h hp ho hl hc0 hc1 K KD;go_enter Tryz.func113,Tryz.ntmps113;go_upto_region 1 with fail;rw [←hW0,←hb0];clear hW0 hb0;go_wp2_with fail;refine KC.out.mono ?_;rintro e w1 ⟨rfl,S1,O1⟩;have K1:=K0.offS S0 hbB hb O1;have N1:=O1.has N0 (by simpa using hbb);have c0:=Has.cell S1 0;have c1:=Has.cell S1 1;have cz:=Has.lt S1;have d0:=N1.cell 0;have d1:=N1.cell 1;have dz:=N1.lt;go_wp2_with fail;go_region_with (go_at_call 157;refine (HKD.out _ (K1.ext (Ext.refl _).drew)).mono ?_;rintro e w2 ⟨rfl,K2,O2⟩)
 all_goals
  go_wp2_with fail;go_ret2;refine ⟨rfl,K2,SAt.only (SAt.ext S1 (Ext.refl _).drew) O2 hb,?_⟩;exact (Only.pre E0 (O1.mono (fun x hx=>by simp at hx;subst hx;simp))).then ((Only.of_ext (Ext.refl _).drew).then (O2.mono (fun x hx=>by simp[hx])))
theorem symlinkF {b:Nat} {g:GhW} {now count:Int} {A:Option Addr} {cap:Nat} (l:List (Int×Int)) (w:World) (cu cg:Int) (dir:Int) (nm:ByteArray) (text:ByteArray) (h:SAt w b g now count A l.length cap false) (hp:PlanAt w A l) (ho:PlanOff A b) (hl:l.length≤1000000) (hc0:0≤count) (hc1:count≤1000000) {x:Int} (hx:hitE l (count+1)=x) (hx0:x≠0) :
  Calls Tryz.prog 114 #[.pointer (some ⟨b,0,none⟩),.agg #[.int .i64 cu,.int .i64 cg],.int .i64 dir,.string nm,.string text] w
   (fun e w'=>e=.returned (.tuple #[.int .i64 0,.int .i64 x])∧SAt w' b g now (count+1) A l.length cap (hitD l (count+1))∧Only [b] w w'):=by
 obtain ⟨n,hn⟩:∃n,n=l.length:=⟨_,rfl⟩;have KC:Hid (∀u,Ext w u→Calls Tryz.prog 116 #[.pointer (some ⟨b,0,none⟩)] u (fun e w'=>e=.returned (.int .i64 x)∧SAt w' b g now (count+1) A n cap (hitD l (count+1))∧Only [b] u w')):=by
  show ∀u,_;intro u hu;rw [←hx,hn];exact changeS l u (h.ext hu) (hp.ext hu) ho hl hc0 hc1
 rw [←hn];clear hn hx;have t1:(x != 0)=true:=by simpa using hx0
 clear hx0 h hp ho hl hc0 hc1;go_enter Tryz.func114,Tryz.ntmps114;go_wp2_with fail;refine (KC.out _ ((Ext.refl _).alloc _)).mono ?_;rintro e w1 ⟨rfl,S1,O1⟩;go_wp2_with fail;go_ret2;exact ⟨rfl,S1,Only.pre ((Ext.refl _).alloc _) O1⟩
theorem symlinkG {b:Nat} {g:GhW} {now count:Int} {A:Option Addr} {cap:Nat} (l:List (Int×Int)) (w:World) (cu cg:Int) (dir:Int) (nm:ByteArray) (text:ByteArray) (h:SAt w b g now count A l.length cap false) (hp:PlanAt w A l) (ho:PlanOff A b) (hl:l.length≤1000000) (hc0:0≤count) (hc1:count≤1000000) (B:Nat) (S:TreeD)
  (K:WAt w B g S) (hb:b∉g.list) (hbB:B≤b) (hx:hitE l (count+1)=0∧hitD l (count+1)=false) {T:TreeD} {y z:Int}
  (KD:∀u,WAt u B g S→Calls Tryz.prog 158 #[.pointer (some ⟨g.bW,0,none⟩),.agg #[.int .i64 cu,.int .i64 cg],.int .i64 now,.int .i64 dir,.string nm,.string text] u (NoR u B g T y z)) :
  Calls Tryz.prog 114 #[.pointer (some ⟨b,0,none⟩),.agg #[.int .i64 cu,.int .i64 cg],.int .i64 dir,.string nm,.string text] w
   (fun e w'=>e=.returned (.tuple #[.int .i64 y,.int .i64 z])∧WAt w' B g T∧SAt w' b g now (count+1) A l.length cap false∧Only (b::g.list) w w'):=by
 obtain ⟨n,hn⟩:∃n,n=l.length:=⟨_,rfl⟩;obtain ⟨W0,hW0⟩:∃W,W=w.alloc (.cells #[.int .i64 cu,.int .i64 cg] 27):=⟨_,rfl⟩;obtain ⟨b0,hb0⟩:∃b,b=w.heap.size:=⟨_,rfl⟩;have E0:Ext w W0:=by rw[hW0];exact (Ext.refl _).alloc _
 have N0:Has W0 b0 (.cells #[.int .i64 cu,.int .i64 cg] 27):=by rw[hW0,hb0];exact Has.new _ _
 have hbb:b0≠b:=by have:=Has.lt h;omega
 have KC:Hid (Calls Tryz.prog 116 #[.pointer (some ⟨b,0,none⟩)] W0 (fun e w'=>e=.returned (.int .i64 0)∧SAt w' b g now (count+1) A n cap false∧Only [b] W0 w')):=by
  show Calls _ _ _ _ _;have:=changeS l W0 (h.ext E0) (hp.ext E0) ho hl hc0 hc1;rw [hx.1,hx.2,←hn]at this;exact this
 have S0:=h.ext E0;have K0:=K.ext E0;have HKD:=zH KD;rw [←hn];clear hn hx h hp ho hl hc0 hc1 K KD;go_enter Tryz.func114,Tryz.ntmps114;go_upto_region 1 with fail;rw [←hW0,←hb0];clear hW0 hb0;go_wp2_with fail;refine KC.out.mono ?_;rintro e w1 ⟨rfl,S1,O1⟩;have K1:=K0.offS S0 hbB hb O1;have N1:=O1.has N0 (by simpa using hbb);have c0:=Has.cell S1 0;have c1:=Has.cell S1 1;have cz:=Has.lt S1;have d0:=N1.cell 0;have d1:=N1.cell 1;have dz:=N1.lt;go_wp2_with fail;go_region_with (go_at_call 158;refine (HKD.out _ (K1.ext (Ext.refl _).drew)).mono ?_;rintro e w2 ⟨rfl,K2,O2⟩)
 all_goals
  go_wp2_with fail;go_ret2;refine ⟨rfl,K2,SAt.only (SAt.ext S1 (Ext.refl _).drew) O2 hb,?_⟩;exact (Only.pre E0 (O1.mono (fun x hx=>by simp at hx;subst hx;simp))).then ((Only.of_ext (Ext.refl _).drew).then (O2.mono (fun x hx=>by simp[hx])))
theorem linkF {b:Nat} {g:GhW} {now count:Int} {A:Option Addr} {cap:Nat} (l:List (Int×Int)) (w:World) (cu cg:Int) (no:Int) (dir:Int) (nm:ByteArray) (h:SAt w b g now count A l.length cap false) (hp:PlanAt w A l) (ho:PlanOff A b) (hl:l.length≤1000000) (hc0:0≤count) (hc1:count≤1000000) {x:Int} (hx:hitE l (count+1)=x) (hx0:x≠0) :
  Calls Tryz.prog 115 #[.pointer (some ⟨b,0,none⟩),.agg #[.int .i64 cu,.int .i64 cg],.int .i64 no,.int .i64 dir,.string nm] w
   (fun e w'=>e=.returned (.int .i64 x)∧SAt w' b g now (count+1) A l.length cap (hitD l (count+1))∧Only [b] w w'):=by
 obtain ⟨n,hn⟩:∃n,n=l.length:=⟨_,rfl⟩;have KC:Hid (∀u,Ext w u→Calls Tryz.prog 116 #[.pointer (some ⟨b,0,none⟩)] u (fun e w'=>e=.returned (.int .i64 x)∧SAt w' b g now (count+1) A n cap (hitD l (count+1))∧Only [b] u w')):=by
  show ∀u,_;intro u hu;rw [←hx,hn];exact changeS l u (h.ext hu) (hp.ext hu) ho hl hc0 hc1
 rw [←hn];clear hn hx;have t1:(x != 0)=true:=by simpa using hx0
 clear hx0 h hp ho hl hc0 hc1;go_enter Tryz.func115,Tryz.ntmps115;go_wp2_with fail;refine (KC.out _ ((Ext.refl _).alloc _)).mono ?_;rintro e w1 ⟨rfl,S1,O1⟩;go_wp2_with fail;go_ret;exact ⟨rfl,S1,Only.pre ((Ext.refl _).alloc _) O1⟩
theorem linkG {b:Nat} {g:GhW} {now count:Int} {A:Option Addr} {cap:Nat} (l:List (Int×Int)) (w:World) (cu cg:Int) (no:Int) (dir:Int) (nm:ByteArray) (h:SAt w b g now count A l.length cap false) (hp:PlanAt w A l) (ho:PlanOff A b) (hl:l.length≤1000000) (hc0:0≤count) (hc1:count≤1000000) (B:Nat) (S:TreeD)
  (K:WAt w B g S) (hb:b∉g.list) (hbB:B≤b) (hx:hitE l (count+1)=0∧hitD l (count+1)=false) {T:TreeD} {z:Int}
  (KD:∀u,WAt u B g S→Calls Tryz.prog 159 #[.pointer (some ⟨g.bW,0,none⟩),.agg #[.int .i64 cu,.int .i64 cg],.int .i64 now,.int .i64 no,.int .i64 dir,.string nm] u (ErrR u B g T z)) :
  Calls Tryz.prog 115 #[.pointer (some ⟨b,0,none⟩),.agg #[.int .i64 cu,.int .i64 cg],.int .i64 no,.int .i64 dir,.string nm] w
   (fun e w'=>e=.returned (.int .i64 z)∧WAt w' B g T∧SAt w' b g now (count+1) A l.length cap false∧Only (b::g.list) w w'):=by
 obtain ⟨n,hn⟩:∃n,n=l.length:=⟨_,rfl⟩;obtain ⟨W0,hW0⟩:∃W,W=w.alloc (.cells #[.int .i64 cu,.int .i64 cg] 27):=⟨_,rfl⟩;obtain ⟨b0,hb0⟩:∃b,b=w.heap.size:=⟨_,rfl⟩;have E0:Ext w W0:=by rw[hW0];exact (Ext.refl _).alloc _
 have N0:Has W0 b0 (.cells #[.int .i64 cu,.int .i64 cg] 27):=by rw[hW0,hb0];exact Has.new _ _
 have hbb:b0≠b:=by have:=Has.lt h;omega
 have KC:Hid (Calls Tryz.prog 116 #[.pointer (some ⟨b,0,none⟩)] W0 (fun e w'=>e=.returned (.int .i64 0)∧SAt w' b g now (count+1) A n cap false∧Only [b] W0 w')):=by
  show Calls _ _ _ _ _;have:=changeS l W0 (h.ext E0) (hp.ext E0) ho hl hc0 hc1;rw [hx.1,hx.2,←hn]at this;exact this
 have S0:=h.ext E0;have K0:=K.ext E0;have HKD:=zH KD;rw [←hn];clear hn hx h hp ho hl hc0 hc1 K KD;go_enter Tryz.func115,Tryz.ntmps115;go_upto_region 1 with fail;rw [←hW0,←hb0];clear hW0 hb0;go_wp2_with fail;refine KC.out.mono ?_;rintro e w1 ⟨rfl,S1,O1⟩;have K1:=K0.offS S0 hbB hb O1;have N1:=O1.has N0 (by simpa using hbb);have c0:=Has.cell S1 0;have c1:=Has.cell S1 1;have cz:=Has.lt S1;have d0:=N1.cell 0;have d1:=N1.cell 1;have dz:=N1.lt;go_wp2_with fail;go_region_with (go_at_call 159;refine (HKD.out _ (K1.ext (Ext.refl _).drew)).mono ?_;rintro e w2 ⟨rfl,K2,O2⟩)
 all_goals
  go_wp2_with fail;go_ret;refine ⟨rfl,K2,SAt.only (SAt.ext S1 (Ext.refl _).drew) O2 hb,?_⟩;exact (Only.pre E0 (O1.mono (fun x hx=>by simp at hx;subst hx;simp))).then ((Only.of_ext (Ext.refl _).drew).then (O2.mono (fun x hx=>by simp[hx])))
theorem chmodF {b:Nat} {g:GhW} {now count:Int} {A:Option Addr} {cap:Nat} (l:List (Int×Int)) (w:World) (cu cg:Int) (no:Int) (mode:Int) (h:SAt w b g now count A l.length cap false) (hp:PlanAt w A l) (ho:PlanOff A b) (hl:l.length≤1000000) (hc0:0≤count) (hc1:count≤1000000) {x:Int} (hx:hitE l (count+1)=x) (hx0:x≠0) :
  Calls Tryz.prog 68 #[.pointer (some ⟨b,0,none⟩),.agg #[.int .i64 cu,.int .i64 cg],.int .i64 no,.int .i64 mode] w
   (fun e w'=>e=.returned (.int .i64 x)∧SAt w' b g now (count+1) A l.length cap (hitD l (count+1))∧Only [b] w w'):=by
 obtain ⟨n,hn⟩:∃n,n=l.length:=⟨_,rfl⟩;have KC:Hid (∀u,Ext w u→Calls Tryz.prog 116 #[.pointer (some ⟨b,0,none⟩)] u (fun e w'=>e=.returned (.int .i64 x)∧SAt w' b g now (count+1) A n cap (hitD l (count+1))∧Only [b] u w')):=by
  show ∀u,_;intro u hu;rw [←hx,hn];exact changeS l u (h.ext hu) (hp.ext hu) ho hl hc0 hc1
 rw [←hn];clear hn hx;have t1:(x != 0)=true:=by simpa using hx0
 clear hx0 h hp ho hl hc0 hc1;go_enter Tryz.func68,Tryz.ntmps68;go_wp2_with fail;refine (KC.out _ ((Ext.refl _).alloc _)).mono ?_;rintro e w1 ⟨rfl,S1,O1⟩;go_wp2_with fail;go_ret;exact ⟨rfl,S1,Only.pre ((Ext.refl _).alloc _) O1⟩
theorem chmodG {b:Nat} {g:GhW} {now count:Int} {A:Option Addr} {cap:Nat} (l:List (Int×Int)) (w:World) (cu cg:Int) (no:Int) (mode:Int) (h:SAt w b g now count A l.length cap false) (hp:PlanAt w A l) (ho:PlanOff A b) (hl:l.length≤1000000) (hc0:0≤count) (hc1:count≤1000000) (B:Nat) (S:TreeD)
  (K:WAt w B g S) (hb:b∉g.list) (hbB:B≤b) (hx:hitE l (count+1)=0∧hitD l (count+1)=false) {T:TreeD} {z:Int}
  (KD:∀u,WAt u B g S→Calls Tryz.prog 118 #[.pointer (some ⟨g.bW,0,none⟩),.agg #[.int .i64 cu,.int .i64 cg],.int .i64 now,.int .i64 no,.int .i64 mode] u (ErrR u B g T z)) :
  Calls Tryz.prog 68 #[.pointer (some ⟨b,0,none⟩),.agg #[.int .i64 cu,.int .i64 cg],.int .i64 no,.int .i64 mode] w
   (fun e w'=>e=.returned (.int .i64 z)∧WAt w' B g T∧SAt w' b g now (count+1) A l.length cap false∧Only (b::g.list) w w'):=by
 obtain ⟨n,hn⟩:∃n,n=l.length:=⟨_,rfl⟩;obtain ⟨W0,hW0⟩:∃W,W=w.alloc (.cells #[.int .i64 cu,.int .i64 cg] 27):=⟨_,rfl⟩;obtain ⟨b0,hb0⟩:∃b,b=w.heap.size:=⟨_,rfl⟩;have E0:Ext w W0:=by rw[hW0];exact (Ext.refl _).alloc _
 have N0:Has W0 b0 (.cells #[.int .i64 cu,.int .i64 cg] 27):=by rw[hW0,hb0];exact Has.new _ _
 have hbb:b0≠b:=by have:=Has.lt h;omega
 have KC:Hid (Calls Tryz.prog 116 #[.pointer (some ⟨b,0,none⟩)] W0 (fun e w'=>e=.returned (.int .i64 0)∧SAt w' b g now (count+1) A n cap false∧Only [b] W0 w')):=by
  show Calls _ _ _ _ _;have:=changeS l W0 (h.ext E0) (hp.ext E0) ho hl hc0 hc1;rw [hx.1,hx.2,←hn]at this;exact this
 have S0:=h.ext E0;have K0:=K.ext E0;have HKD:=zH KD;rw [←hn];clear hn hx h hp ho hl hc0 hc1 K KD;go_enter Tryz.func68,Tryz.ntmps68;go_upto_region 1 with fail;rw [←hW0,←hb0];clear hW0 hb0;go_wp2_with fail;refine KC.out.mono ?_;rintro e w1 ⟨rfl,S1,O1⟩;have K1:=K0.offS S0 hbB hb O1;have N1:=O1.has N0 (by simpa using hbb);have c0:=Has.cell S1 0;have c1:=Has.cell S1 1;have cz:=Has.lt S1;have d0:=N1.cell 0;have d1:=N1.cell 1;have dz:=N1.lt;go_wp2_with fail;go_region_with (go_at_call 118;refine (HKD.out _ (K1.ext (Ext.refl _).drew)).mono ?_;rintro e w2 ⟨rfl,K2,O2⟩)
 all_goals
  go_wp2_with fail;go_ret;refine ⟨rfl,K2,SAt.only (SAt.ext S1 (Ext.refl _).drew) O2 hb,?_⟩;exact (Only.pre E0 (O1.mono (fun x hx=>by simp at hx;subst hx;simp))).then ((Only.of_ext (Ext.refl _).drew).then (O2.mono (fun x hx=>by simp[hx])))
theorem chownF {b:Nat} {g:GhW} {now count:Int} {A:Option Addr} {cap:Nat} (l:List (Int×Int)) (w:World) (cu cg:Int) (no:Int) (uid:Int) (gid:Int) (h:SAt w b g now count A l.length cap false) (hp:PlanAt w A l) (ho:PlanOff A b) (hl:l.length≤1000000) (hc0:0≤count) (hc1:count≤1000000) {x:Int} (hx:hitE l (count+1)=x) (hx0:x≠0) :
  Calls Tryz.prog 67 #[.pointer (some ⟨b,0,none⟩),.agg #[.int .i64 cu,.int .i64 cg],.int .i64 no,.int .i64 uid,.int .i64 gid] w
   (fun e w'=>e=.returned (.int .i64 x)∧SAt w' b g now (count+1) A l.length cap (hitD l (count+1))∧Only [b] w w'):=by
 obtain ⟨n,hn⟩:∃n,n=l.length:=⟨_,rfl⟩;have KC:Hid (∀u,Ext w u→Calls Tryz.prog 116 #[.pointer (some ⟨b,0,none⟩)] u (fun e w'=>e=.returned (.int .i64 x)∧SAt w' b g now (count+1) A n cap (hitD l (count+1))∧Only [b] u w')):=by
  show ∀u,_;intro u hu;rw [←hx,hn];exact changeS l u (h.ext hu) (hp.ext hu) ho hl hc0 hc1
 rw [←hn];clear hn hx;have t1:(x != 0)=true:=by simpa using hx0
 clear hx0 h hp ho hl hc0 hc1;go_enter Tryz.func67,Tryz.ntmps67;go_wp2_with fail;refine (KC.out _ ((Ext.refl _).alloc _)).mono ?_;rintro e w1 ⟨rfl,S1,O1⟩;go_wp2_with fail;go_ret;exact ⟨rfl,S1,Only.pre ((Ext.refl _).alloc _) O1⟩
theorem chownG {b:Nat} {g:GhW} {now count:Int} {A:Option Addr} {cap:Nat} (l:List (Int×Int)) (w:World) (cu cg:Int) (no:Int) (uid:Int) (gid:Int) (h:SAt w b g now count A l.length cap false) (hp:PlanAt w A l) (ho:PlanOff A b) (hl:l.length≤1000000) (hc0:0≤count) (hc1:count≤1000000) (B:Nat) (S:TreeD)
  (K:WAt w B g S) (hb:b∉g.list) (hbB:B≤b) (hx:hitE l (count+1)=0∧hitD l (count+1)=false) {T:TreeD} {z:Int}
  (KD:∀u,WAt u B g S→Calls Tryz.prog 117 #[.pointer (some ⟨g.bW,0,none⟩),.agg #[.int .i64 cu,.int .i64 cg],.int .i64 now,.int .i64 no,.int .i64 uid,.int .i64 gid] u (ErrR u B g T z)) :
  Calls Tryz.prog 67 #[.pointer (some ⟨b,0,none⟩),.agg #[.int .i64 cu,.int .i64 cg],.int .i64 no,.int .i64 uid,.int .i64 gid] w
   (fun e w'=>e=.returned (.int .i64 z)∧WAt w' B g T∧SAt w' b g now (count+1) A l.length cap false∧Only (b::g.list) w w'):=by
 obtain ⟨n,hn⟩:∃n,n=l.length:=⟨_,rfl⟩;obtain ⟨W0,hW0⟩:∃W,W=w.alloc (.cells #[.int .i64 cu,.int .i64 cg] 27):=⟨_,rfl⟩;obtain ⟨b0,hb0⟩:∃b,b=w.heap.size:=⟨_,rfl⟩;have E0:Ext w W0:=by rw[hW0];exact (Ext.refl _).alloc _
 have N0:Has W0 b0 (.cells #[.int .i64 cu,.int .i64 cg] 27):=by rw[hW0,hb0];exact Has.new _ _
 have hbb:b0≠b:=by have:=Has.lt h;omega
 have KC:Hid (Calls Tryz.prog 116 #[.pointer (some ⟨b,0,none⟩)] W0 (fun e w'=>e=.returned (.int .i64 0)∧SAt w' b g now (count+1) A n cap false∧Only [b] W0 w')):=by
  show Calls _ _ _ _ _;have:=changeS l W0 (h.ext E0) (hp.ext E0) ho hl hc0 hc1;rw [hx.1,hx.2,←hn]at this;exact this
 have S0:=h.ext E0;have K0:=K.ext E0;have HKD:=zH KD;rw [←hn];clear hn hx h hp ho hl hc0 hc1 K KD;go_enter Tryz.func67,Tryz.ntmps67;go_upto_region 1 with fail;rw [←hW0,←hb0];clear hW0 hb0;go_wp2_with fail;refine KC.out.mono ?_;rintro e w1 ⟨rfl,S1,O1⟩;have K1:=K0.offS S0 hbB hb O1;have N1:=O1.has N0 (by simpa using hbb);have c0:=Has.cell S1 0;have c1:=Has.cell S1 1;have cz:=Has.lt S1;have d0:=N1.cell 0;have d1:=N1.cell 1;have dz:=N1.lt;go_wp2_with fail;go_region_with (go_at_call 117;refine (HKD.out _ (K1.ext (Ext.refl _).drew)).mono ?_;rintro e w2 ⟨rfl,K2,O2⟩)
 all_goals
  go_wp2_with fail;go_ret;refine ⟨rfl,K2,SAt.only (SAt.ext S1 (Ext.refl _).drew) O2 hb,?_⟩;exact (Only.pre E0 (O1.mono (fun x hx=>by simp at hx;subst hx;simp))).then ((Only.of_ext (Ext.refl _).drew).then (O2.mono (fun x hx=>by simp[hx])))
theorem utimeF {b:Nat} {g:GhW} {now count:Int} {A:Option Addr} {cap:Nat} (l:List (Int×Int)) (w:World) (cu cg:Int) (no:Int) (mtime:Int) (h:SAt w b g now count A l.length cap false) (hp:PlanAt w A l) (ho:PlanOff A b) (hl:l.length≤1000000) (hc0:0≤count) (hc1:count≤1000000) {x:Int} (hx:hitE l (count+1)=x) (hx0:x≠0) :
  Calls Tryz.prog 69 #[.pointer (some ⟨b,0,none⟩),.agg #[.int .i64 cu,.int .i64 cg],.int .i64 no,.int .i64 mtime] w
   (fun e w'=>e=.returned (.int .i64 x)∧SAt w' b g now (count+1) A l.length cap (hitD l (count+1))∧Only [b] w w'):=by
 obtain ⟨n,hn⟩:∃n,n=l.length:=⟨_,rfl⟩;have KC:Hid (∀u,Ext w u→Calls Tryz.prog 116 #[.pointer (some ⟨b,0,none⟩)] u (fun e w'=>e=.returned (.int .i64 x)∧SAt w' b g now (count+1) A n cap (hitD l (count+1))∧Only [b] u w')):=by
  show ∀u,_;intro u hu;rw [←hx,hn];exact changeS l u (h.ext hu) (hp.ext hu) ho hl hc0 hc1
 rw [←hn];clear hn hx;have t1:(x != 0)=true:=by simpa using hx0
 clear hx0 h hp ho hl hc0 hc1;go_enter Tryz.func69,Tryz.ntmps69;go_wp2_with fail;refine (KC.out _ ((Ext.refl _).alloc _)).mono ?_;rintro e w1 ⟨rfl,S1,O1⟩;go_wp2_with fail;go_ret;exact ⟨rfl,S1,Only.pre ((Ext.refl _).alloc _) O1⟩
theorem utimeG {b:Nat} {g:GhW} {now count:Int} {A:Option Addr} {cap:Nat} (l:List (Int×Int)) (w:World) (cu cg:Int) (no:Int) (mtime:Int) (h:SAt w b g now count A l.length cap false) (hp:PlanAt w A l) (ho:PlanOff A b) (hl:l.length≤1000000) (hc0:0≤count) (hc1:count≤1000000) (B:Nat) (S:TreeD)
  (K:WAt w B g S) (hb:b∉g.list) (hbB:B≤b) (hx:hitE l (count+1)=0∧hitD l (count+1)=false) {T:TreeD} {z:Int}
  (KD:∀u,WAt u B g S→Calls Tryz.prog 119 #[.pointer (some ⟨g.bW,0,none⟩),.agg #[.int .i64 cu,.int .i64 cg],.int .i64 now,.int .i64 no,.int .i64 mtime] u (ErrR u B g T z)) :
  Calls Tryz.prog 69 #[.pointer (some ⟨b,0,none⟩),.agg #[.int .i64 cu,.int .i64 cg],.int .i64 no,.int .i64 mtime] w
   (fun e w'=>e=.returned (.int .i64 z)∧WAt w' B g T∧SAt w' b g now (count+1) A l.length cap false∧Only (b::g.list) w w'):=by
 obtain ⟨n,hn⟩:∃n,n=l.length:=⟨_,rfl⟩;obtain ⟨W0,hW0⟩:∃W,W=w.alloc (.cells #[.int .i64 cu,.int .i64 cg] 27):=⟨_,rfl⟩;obtain ⟨b0,hb0⟩:∃b,b=w.heap.size:=⟨_,rfl⟩;have E0:Ext w W0:=by rw[hW0];exact (Ext.refl _).alloc _
 have N0:Has W0 b0 (.cells #[.int .i64 cu,.int .i64 cg] 27):=by rw[hW0,hb0];exact Has.new _ _
 have hbb:b0≠b:=by have:=Has.lt h;omega
 have KC:Hid (Calls Tryz.prog 116 #[.pointer (some ⟨b,0,none⟩)] W0 (fun e w'=>e=.returned (.int .i64 0)∧SAt w' b g now (count+1) A n cap false∧Only [b] W0 w')):=by
  show Calls _ _ _ _ _;have:=changeS l W0 (h.ext E0) (hp.ext E0) ho hl hc0 hc1;rw [hx.1,hx.2,←hn]at this;exact this
 have S0:=h.ext E0;have K0:=K.ext E0;have HKD:=zH KD;rw [←hn];clear hn hx h hp ho hl hc0 hc1 K KD;go_enter Tryz.func69,Tryz.ntmps69;go_upto_region 1 with fail;rw [←hW0,←hb0];clear hW0 hb0;go_wp2_with fail;refine KC.out.mono ?_;rintro e w1 ⟨rfl,S1,O1⟩;have K1:=K0.offS S0 hbB hb O1;have N1:=O1.has N0 (by simpa using hbb);have c0:=Has.cell S1 0;have c1:=Has.cell S1 1;have cz:=Has.lt S1;have d0:=N1.cell 0;have d1:=N1.cell 1;have dz:=N1.lt;go_wp2_with fail;go_region_with (go_at_call 119;refine (HKD.out _ (K1.ext (Ext.refl _).drew)).mono ?_;rintro e w2 ⟨rfl,K2,O2⟩)
 all_goals
  go_wp2_with fail;go_ret;refine ⟨rfl,K2,SAt.only (SAt.ext S1 (Ext.refl _).drew) O2 hb,?_⟩;exact (Only.pre E0 (O1.mono (fun x hx=>by simp at hx;subst hx;simp))).then ((Only.of_ext (Ext.refl _).drew).then (O2.mono (fun x hx=>by simp[hx])))
end Go.Proofs.YtpibnfdolojpcaaGreat
