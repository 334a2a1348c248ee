import Derived.Test.YtpibnfdolojpcaaGreatBunK
import Derived.Test.YtpibnfdolojpcaaGreatBunJ
import Derived.Test.YtpibnfdolojpcaaGreatBunL
import Derived.Test.YtpibnfdolojpcaaGreatBunC
set_option maxHeartbeats 4000000
set_option maxRecDepth 100000
namespace Go.Proofs.YtpibnfdolojpcaaGreat
section
open Go.ChangeShapes Go.WideShapes Go.ChangeAt Go.RowKit
def fk (s:av) (e:Int):Int:=if s.dead=true then 20 else e
def zK (s:av) (n:Int):Int:=if s.dead=true then 0 else n
def sa {α:Type} (s:av) (l:List α):List α:=if s.dead=true then [] else l
def q_ (s:av) (n:ai):ai:=if s.dead=true then aa else n
def Yq (s:av) (x:iz×Int):iz×Int:=if s.dead=true then (bC,20) else x
section
variable {c:Nat} {w:World} {B b:Nat} {g:bG} {s:av}
theorem PS.stat (h:PS w B b g s) (hs:eH c s) (no:Int) :
  Calls Tryz.prog 45 #[.pointer (some ⟨b,0,none⟩),.int .i64 no] w (aI w (.tuple #[gU (q_ s (ac s.t.nodes no)),.int .i64 (fk s (cT s.t no))])):=by
 obtain ⟨A,cap,h1,h2,h3,h4,h5⟩:=h;unfold q_ fk
 cases hd:s.dead
 ·rw [hd]at h2
  rw [if_neg (by decide),if_neg (by decide)];exact L3 w h2 h1 hs.fE.ah
 ·rw [hd]at h2
  rw [if_pos rfl,if_pos rfl];exact L0 w h2
theorem PS.Mu (h:PS w B b g s):Calls Tryz.prog 54 #[.pointer (some ⟨b,0,none⟩)] w (aI w (.int .i64 (fk s 0))):=by
 obtain ⟨A,cap,h1,h2,h3,h4,h5⟩:=h;exact FG w h2
theorem PS.look (h:PS w B b g s) (hs:eH c s) (hc:c<=900) (cu cg dir:Int) (nm:List UInt8) :
  Calls Tryz.prog 28 #[.pointer (some ⟨b,0,none⟩),.agg #[cu,cg],.int .i64 dir,bs nm] w (aI w (.tuple #[.int .i64 (zK s (ep s.t cu cg dir nm)),.int .i64 (fk s (du s.t cu cg dir nm))])):=by
 obtain ⟨W0,aH⟩:∃W,W=w.alloc (.cells #[cu,cg] 27):=⟨_,rfl⟩;obtain ⟨b0,ez⟩:∃b,b=w.heap.size:=⟨_,rfl⟩;have E0:Ext w W0:=by rw[aH];exact (Ext.refl _).alloc _
 have N0:Has W0 b0 (.cells #[cu,cg] 27):=by rw[aH,ez];exact Has.new _ _
 have h0:=h.ext E0;have KR:=zH h0.Mu;obtain ⟨A,cap,h1,h2,h3,h4,h5⟩:=id h0;have HZ:Hid (s.dead=true->fk s 0=20):=fun hd=>by unfold fk;rw[if_pos hd]
 have HO:Hid (s.dead=false->fk s 0=0):=fun hd=>by unfold fk;rw[if_neg (by rw[hd];decide)]
 cases hd:s.dead
 ·have KK:Hid (∀u,Ext W0 u->Calls Tryz.prog 55 #[.pointer (some ⟨g.bW,0,none⟩),.agg #[cu,cg],.int .i64 dir,bs nm] u (aI u (.tuple #[.int .i64 (ep s.t cu cg dir nm),.int .i64 (du s.t cu cg dir nm)]))):=by
   show ∀u,_;intro u hE;have hu:=h1.ext hE;exact G5 B g s.t cu cg dir nm u hu hs.fE (by omega) (by have:=hs.di hc;omega)
  have e1:Hid (Value.int .i64 (zK s (ep s.t cu cg dir nm))=.int .i64 (ep s.t cu cg dir nm)):=by show _=_;unfold zK;rw[if_neg (by rw[hd];decide)]
  have e2:Hid (fk s (du s.t cu cg dir nm)=du s.t cu cg dir nm):=by show _=_;unfold fk;rw[if_neg (by rw[hd];decide)]
  rw [e1.out,e2.out];rw [HO.out hd]at KR;have HS:=zH h2;clear HO HZ h h0 h1 h2 h3 h4 hd e1 e2;obtain ⟨y,hy⟩:∃y:Value,y=.int .i64 (ep s.t cu cg dir nm):=⟨_,rfl⟩;obtain⟨z,hz⟩:=zE (du s.t cu cg dir nm);rw [<-hy,<-hz]at KK|-;clear hy hz;go_enter Tryz.func28,Tryz.ntmps28;go_upto_region 1 with fail;rw [<-aH,<-ez];clear aH ez;go_wp2_with fail;refine KR.out.mono ?_;rintro e w1 ⟨rfl,b1⟩;have S1:=Has.ext HS.out b1;have c0:=Has.cell S1 0;have cz:=Has.lt S1;have N1:=N0.ext b1;have d0:=N1.cell 0;have d1:=N1.cell 1;have dz:=N1.lt;go_wp2_with fail;go_region_with (go_at_call 55;refine (KK.out _ (b1.trans (Ext.refl _).drew)).mono ?_;rintro e w2 ⟨rfl,b2⟩)
  all_goals
   go_wp2_with fail;go_ret2;exact aI.mk rfl (E0.trans ((b1.trans (Ext.refl _).drew).trans b2))
 ·have e1:Hid (Value.int .i64 (zK s (ep s.t cu cg dir nm))=.int .i64 0):=by show _=_;unfold zK;rw[if_pos hd]
  have e2:Hid (fk s (du s.t cu cg dir nm)=20):=by show _=_;unfold fk;rw[if_pos hd]
  rw [e1.out,e2.out];rw [HZ.out hd]at KR;clear HO HZ h h0 h1 h2 h3 h4 hd e1 e2;go_enter Tryz.func28,Tryz.ntmps28;go_upto_region 1 with fail;rw [<-aH,<-ez];clear aH ez;go_wp2_with fail;refine KR.out.mono ?_;rintro e w1 ⟨rfl,b1⟩;go_wp2_with fail;go_ret2;exact aI.mk rfl (E0.trans b1)
theorem PS.list (h:PS w B b g s) (hs:eH c s) (hc:c<=900) (cu cg no:Int) :
  Calls Tryz.prog 102 #[.pointer (some ⟨b,0,none⟩),.agg #[cu,cg],.int .i64 no] w (qC w (sa s (bo s.t (bf s.t cu cg no 1 4).af)) (fk s (bt s.t cu cg no 1 4))):=by
 obtain ⟨W0,aH⟩:∃W,W=w.alloc (.cells #[cu,cg] 27):=⟨_,rfl⟩;obtain ⟨b0,ez⟩:∃b,b=w.heap.size:=⟨_,rfl⟩;have E0:Ext w W0:=by rw[aH];exact (Ext.refl _).alloc _
 have N0:Has W0 b0 (.cells #[cu,cg] 27):=by rw[aH,ez];exact Has.new _ _
 have h0:=h.ext E0;have KR:=zH h0.Mu;obtain ⟨A,cap,h1,h2,h3,h4,h5⟩:=id h0;have HZ:Hid (s.dead=true->fk s 0=20):=fun hd=>by unfold fk;rw[if_pos hd]
 have HO:Hid (s.dead=false->fk s 0=0):=fun hd=>by unfold fk;rw[if_neg (by rw[hd];decide)]
 cases hd:s.dead
 ·have KK:Hid (∀u,Ext W0 u->Calls Tryz.prog 150 #[.pointer (some ⟨g.bW,0,none⟩),.agg #[cu,cg],.int .i64 no] u (qC u (bo s.t (bf s.t cu cg no 1 4).af) (bt s.t cu cg no 1 4))):=by
   show ∀u,_;intro u hE;have hu:=h1.ext hE;exact Hf B g s.t cu cg no u hu hs.fE (by omega)
  have e1:Hid (sa s (bo s.t (bf s.t cu cg no 1 4).af)=bo s.t (bf s.t cu cg no 1 4).af):=by show _=_;unfold sa;rw[if_neg (by rw[hd];decide)]
  have e2:Hid (fk s (bt s.t cu cg no 1 4)=bt s.t cu cg no 1 4):=by show _=_;unfold fk;rw[if_neg (by rw[hd];decide)]
  rw [e1.out,e2.out];rw [HO.out hd]at KR;have HS:=zH h2;clear HO HZ h h0 h1 h2 h3 h4 hd e1 e2;obtain⟨y,hy⟩:=zE (bo s.t (bf s.t cu cg no 1 4).af);obtain⟨z,hz⟩:=zE (bt s.t cu cg no 1 4);rw [<-hy,<-hz]at KK|-;clear hy hz;go_enter Tryz.func102,Tryz.ntmps102;go_upto_region 1 with fail;rw [<-aH,<-ez];clear aH ez;go_wp2_with fail;refine KR.out.mono ?_;rintro e w1 ⟨rfl,b1⟩;have S1:=Has.ext HS.out b1;have c0:=Has.cell S1 0;have cz:=Has.lt S1;have N1:=N0.ext b1;have d0:=N1.cell 0;have d1:=N1.cell 1;have dz:=N1.lt;go_wp2_with fail;go_region_law (go_simp;go_at_call 150;refine (KK.out _ (b1.trans (Ext.refl _).drew)).mono ?_;rintro e w2 ⟨A2,Ql,rfl,i2,b2⟩)
  all_goals
   go_wp2_with fail;go_ret2;exact ⟨A2,Ql,rfl,i2.base (E0.trans (b1.trans (Ext.refl _).drew)),E0.trans ((b1.trans (Ext.refl _).drew).trans b2)⟩
 ·have e1:Hid (sa s (bo s.t (bf s.t cu cg no 1 4).af)=[]):=by show _=_;unfold sa;rw[if_pos hd]
  have e2:Hid (fk s (bt s.t cu cg no 1 4)=20):=by show _=_;unfold fk;rw[if_pos hd]
  rw [e1.out,e2.out];rw [HZ.out hd]at KR;clear HO HZ h h0 h1 h2 h3 h4 hd e1 e2;go_enter Tryz.func102,Tryz.ntmps102;go_upto_region 1 with fail;rw [<-aH,<-ez];clear aH ez;go_wp2_with fail;refine KR.out.mono ?_;rintro e w1 ⟨rfl,b1⟩;go_wp2_with fail;go_ret2;exact ⟨none,0,rfl,⟨.inl rfl,fun y hy=>by cases hy⟩,E0.trans b1⟩
theorem PS.find (h:PS w B b g s) (hs:eH c s) (hc:c<=900) (cu cg:Int) (p:List UInt8) (eV:Bool) (hp:p.length<=1000000) :
  Calls Tryz.prog 110 #[.pointer (some ⟨b,0,none⟩),.agg #[cu,cg],bs p,.bool eV] w (iT w (Yq s (dV s.t cu cg p eV))):=by
 obtain ⟨W0,aH⟩:∃W,W=(w.alloc (.cells #[cu,cg] 27)).alloc (.cells #[.int .i64 0,.string ⟨#[]⟩,.int .i64 0,.bool false] 82):=⟨_,rfl⟩;obtain ⟨b5,gQ⟩:∃b,b=w.heap.size:=⟨_,rfl⟩;obtain ⟨b0,ez⟩:∃b,b=w.heap.size+1:=⟨_,rfl⟩;have E0:Ext w W0:=by rw[aH];exact ((Ext.refl _).alloc _).alloc _
 have R0:Has W0 b0 (.cells (fy bC).toArray 82):=by rw[aH,ez];have:=Has.new (w.alloc (.cells #[cu,cg] 27)) (.cells #[.int .i64 0,.string ⟨#[]⟩,.int .i64 0,.bool false] 82);rw[World.size_alloc]at this;exact this
 have C0:Has W0 b5 (.cells #[cu,cg] 27):=by rw[aH,gQ];exact (Has.new w _).alloc _
 have o7:w.heap.size<=b0:=by omega
 have h0:=h.ext E0;have KR:=zH h0.Mu;obtain ⟨A,cap,h1,h2,h3,h4,h5⟩:=id h0;have HZ:Hid (s.dead=true->fk s 0=20):=fun hd=>by unfold fk;rw[if_pos hd]
 have HO:Hid (s.dead=false->fk s 0=0):=fun hd=>by unfold fk;rw[if_neg (by rw[hd];decide)]
 cases hd:s.dead
 ·have KK:Hid (∀u,Ext W0 u->Calls Tryz.prog 155 #[.pointer (some ⟨g.bW,0,none⟩),.agg #[cu,cg],bs p,.bool eV] u (iT u (dV s.t cu cg p eV))):=by
   show ∀u,_;intro u hE;exact Bq B g s.t cu cg p eV u (h1.ext hE) hs.fE (by omega) hp
  have e1:Hid (Yq s (dV s.t cu cg p eV)=dV s.t cu cg p eV):=by show _=_;unfold Yq;rw[if_neg (by rw[hd];decide)]
  rw [e1.out];rw [HO.out hd]at KR;have HS:=zH h2;clear HO HZ h h0 h1 h2 h3 h4 hd e1;obtain⟨P,hP⟩:=zE (bs p);rw [<-hP]at KK|-;obtain⟨R,hR⟩:=zE (dV s.t cu cg p eV);rw [<-hR]at KK|-;clear hP hR;obtain ⟨rd,re⟩:=R;unfold iT at KK;go_enter Tryz.func110,Tryz.ntmps110;go_upto_region 1 with fail;rw [show (w.alloc _).alloc _=W0 from aH.symm,<-ez,<-gQ];clear aH ez gQ;go_wp2_with fail;refine KR.out.mono ?_;rintro e w1 ⟨rfl,b1⟩;have S1:=Has.ext HS.out b1;have c0:=Has.cell S1 0;have cz:=Has.lt S1;have N1:=C0.ext b1;have d0:=N1.cell 0;have d1:=N1.cell 1;have dz:=N1.lt;have R1:=R0.ext b1;go_wp2_with fail;go_region_law (go_simp;go_at_call 155;refine (KK.out _ (b1.trans (Ext.refl _).drew)).mono ?_;rintro e w2 ⟨rfl,b2⟩;have R2:=R1.ext ((Ext.refl w1).drew.trans b2);have r0:=R2.cell 0;have r1:=R2.cell 1;have r2:=R2.cell 2;have r3:=R2.cell 3;have g0:=R2.free 0;have g1:=R2.free 1;have g2:=R2.free 2;have g3:=R2.free 3;have rz:=R2.lt)
  all_goals
   obtain ⟨R9,O9⟩:=fj rd R2;go_wp2_with fail;refine bodyPost_ret (v:=.tuple #[.agg (fy rd).toArray,.int .i64 re]) (cB Tryz.results110 _ _ b0 rd _ rfl rfl R9) rfl ?_;exact iT.mk (E0.trans ((b1.trans (Ext.refl _).drew).trans b2)) o7 O9 rfl
 ·have e1:Hid (Yq s (dV s.t cu cg p eV)=(bC,20)):=by show _=_;unfold Yq;rw[if_pos hd]
  rw [e1.out];rw [HZ.out hd]at KR;clear HO HZ h h0 h1 h2 h3 h4 hd e1;go_enter Tryz.func110,Tryz.ntmps110;go_upto_region 1 with fail;rw [show (w.alloc _).alloc _=W0 from aH.symm,<-ez,<-gQ];clear aH ez gQ;go_wp2_with fail;refine KR.out.mono ?_;rintro e w1 ⟨rfl,b1⟩;have R1:=R0.ext b1;go_wp2_with (refine b_ rfl _ _ rfl b0 bC bC rfl rfl R1 ?_;intro w9 R9 O9);refine bodyPost_ret (v:=.tuple #[.agg (fy bC).toArray,.int .i64 20]) (cB Tryz.results110 _ _ b0 bC _ rfl rfl R9) rfl ?_;exact iT.mk (E0.trans b1) o7 O9 rfl
end
end
section
open Go.ChangeShapes Go.WideShapes Go.ChangeAt Go.RowKit
theorem RS.Mv {w:World} {B:Nat} {f:cI} {s:av} (h:RS w B f s):w.cell? ⟨f.bF,6,none⟩=some (.bool s.dead)/\f.bF<w.heap.size:=by
 obtain ⟨A,cap,h,_⟩:=h;obtain ⟨_,_,c6,_,_,z⟩:=h.TT;exact ⟨c6,z⟩
section
variable {c:Nat} {w:World} {B:Nat} {f:cI} {s:av}
theorem RS.Mw (h:RS w B f s) (hs:eH c s) (hc:c<=900) (no:Int) :
  Calls Tryz.prog 91 #[.pointer (some ⟨f.bF,0,none⟩),.int .i64 no] w (aI w (.tuple #[gU (q_ s (ac s.t.nodes no)),.int .i64 (fk s (cT s.t no))])):=by
 obtain ⟨W0,aH⟩:∃W,W=w.alloc (.cells #[.int .i64 0,.int .i64 0,.int .i64 0,.int .i64 0,.int .i64 0,.int .i64 0,.int .i64 0,.int .i64 0,.int .i64 0,.int .i64 0] 95):=⟨_,rfl⟩;obtain ⟨b0,ez⟩:∃b,b=w.heap.size:=⟨_,rfl⟩;have E0:Ext w W0:=by rw[aH];exact (Ext.refl _).alloc _
 have R0:Has W0 b0 (.cells #[aa.no,aa.dev,aa.kind,aa.mode,aa.uid,aa.gid,aa.ag,.int .i64 aa.data.length,aa.mtime,aa.ctime] 95):=by rw[aH,ez];exact Has.new _ _
 have o7:w.heap.size<=b0:=by omega
 have h0:=h.ext E0;obtain ⟨c6,cz⟩:=h0.Mv;obtain ⟨X,F0⟩:=h0.Sh;have oh:=hs.fE.count;have jq:=hs.di hc;have KS:Hid (Calls Tryz.prog 135 #[.pointer (some ⟨f.bF,0,none⟩),.int .i64 no] W0 (aI W0 (.tuple #[gU (ac s.t.nodes no),.int .i64 (cT s.t no)]))):=Hl B f s.t X no W0 F0 (by omega) hs.fE.bc;unfold q_ fk
 cases hd:s.dead
 ·rw [if_neg (by decide),if_neg (by decide)]
  rw [hd]at c6;clear h h0 F0 hs hd oh jq;obtain⟨m,hm⟩:=zE (ac s.t.nodes no);obtain⟨x,hx⟩:=zE (cT s.t no);rw [<-hm,<-hx]at KS|-;clear hm hx;unfold gU at KS;go_enter Tryz.func91,Tryz.ntmps91;go_upto_region 1 with fail;rw [show w.alloc _=W0 from aH.symm,<-ez];clear aH ez;go_wp2_with fail;refine KS.out.mono ?_;rintro e w2 ⟨rfl,b2⟩;have R2:=R0.ext b2;have E2:=E0.trans b2;go_wp2_with (refine cY rfl _ _ rfl b0 m rfl rfl R2 ?_;intro w9 R9 O9);refine bodyPost_ret (v:=.tuple #[.agg #[m.no,m.dev,m.kind,m.mode,m.uid,m.gid,m.ag,.int .i64 m.data.length,m.mtime,m.ctime],.int .i64 x]) (j5 Tryz.results91 _ _ b0 m _ rfl rfl R9) rfl ?_;exact ⟨rfl,O9.after E2 (by simpa using o7)⟩
 ·rw [if_pos rfl,if_pos rfl]
  rw [hd]at c6;clear h h0 F0 hs hd oh jq KS;go_enter Tryz.func91,Tryz.ntmps91;go_upto_region 1 with fail;rw [show w.alloc _=W0 from aH.symm,<-ez];clear aH ez;go_wp2_with (refine cY rfl _ _ rfl b0 aa rfl rfl R0 ?_;intro w9 R9 O9);refine bodyPost_ret (v:=.tuple #[.agg #[aa.no,aa.dev,aa.kind,aa.mode,aa.uid,aa.gid,aa.ag,.int .i64 aa.data.length,aa.mtime,aa.ctime],.int .i64 20]) (j5 Tryz.results91 _ _ b0 aa _ rfl rfl R9) rfl ?_;exact ⟨rfl,O9.after E0 (by simpa using o7)⟩
theorem RS.Un (h:RS w B f s) (hs:eH c s) (hc:c<=900) (cu cg dir:Int) (nm:List UInt8) :
  Calls Tryz.prog 43 #[.pointer (some ⟨f.bF,0,none⟩),.agg #[cu,cg],.int .i64 dir,bs nm] w (aI w (.tuple #[.int .i64 (zK s (ep s.t cu cg dir nm)),.int .i64 (fk s (du s.t cu cg dir nm))])):=by
 obtain ⟨W0,aH⟩:∃W,W=w.alloc (.cells #[cu,cg] 27):=⟨_,rfl⟩;obtain ⟨b0,ez⟩:∃b,b=w.heap.size:=⟨_,rfl⟩;have E0:Ext w W0:=by rw[aH];exact (Ext.refl _).alloc _
 have N0:Has W0 b0 (.cells #[cu,cg] 27):=by rw[aH,ez];exact Has.new _ _
 have d0:=N0.cell 0;have d1:=N0.cell 1;have dz:=N0.lt;have h0:=h.ext E0;obtain ⟨c6,cz⟩:=h0.Mv;obtain ⟨X,F0⟩:=h0.Sh;have oh:=hs.fE.count;have jq:=hs.di hc;have KS:Hid (∀u,Ext W0 u->Calls Tryz.prog 90 #[.pointer (some ⟨f.bF,0,none⟩),.agg #[cu,cg],.int .i64 dir,bs nm] u (aI u (.tuple #[.int .i64 (ep s.t cu cg dir nm),.int .i64 (du s.t cu cg dir nm)]))):=by
  show ∀u,_;intro u hE;have hu:=F0.ext hE;exact G6 B f s.t X cu cg dir nm u hu hs.fE (by omega) (by omega)
 cases hd:s.dead
 ·have e1:Hid (Value.int .i64 (zK s (ep s.t cu cg dir nm))=.int .i64 (ep s.t cu cg dir nm)):=by show _=_;unfold zK;rw[if_neg (by rw[hd];decide)]
  have e2:Hid (fk s (du s.t cu cg dir nm)=du s.t cu cg dir nm):=by show _=_;unfold fk;rw[if_neg (by rw[hd];decide)]
  rw [e1.out,e2.out];rw [hd]at c6;clear h h0 F0 hs hd oh jq e1 e2;obtain ⟨y,hy⟩:∃y:Value,y=.int .i64 (ep s.t cu cg dir nm):=⟨_,rfl⟩;obtain⟨z,hz⟩:=zE (du s.t cu cg dir nm);rw [<-hy,<-hz]at KS|-;clear hy hz;go_enter Tryz.func43,Tryz.ntmps43;go_upto_region 1 with fail;rw [show w.alloc _=W0 from aH.symm,<-ez];clear aH ez;go_wp2_with fail;refine (KS.out _ (Ext.refl _)).mono ?_;rintro e w2 ⟨rfl,b2⟩;go_wp2_with fail;go_ret2;exact aI.mk rfl (E0.trans b2)
 ·have e1:Hid (Value.int .i64 (zK s (ep s.t cu cg dir nm))=.int .i64 0):=by show _=_;unfold zK;rw[if_pos hd]
  have e2:Hid (fk s (du s.t cu cg dir nm)=20):=by show _=_;unfold fk;rw[if_pos hd]
  rw [e1.out,e2.out];rw [hd]at c6;clear h h0 F0 hs hd oh jq e1 e2 KS;go_enter Tryz.func43,Tryz.ntmps43;go_upto_region 1 with fail;rw [show w.alloc _=W0 from aH.symm,<-ez];clear aH ez;go_wp2_with fail;go_ret2;exact aI.mk rfl E0
theorem RS.Uo (h:RS w B f s) (hs:eH c s) (hc:c<=900) (cu cg no:Int) :
  Calls Tryz.prog 92 #[.pointer (some ⟨f.bF,0,none⟩),.agg #[cu,cg],.int .i64 no] w (qC w (sa s (bo s.t (bf s.t cu cg no 1 4).af)) (fk s (bt s.t cu cg no 1 4))):=by
 obtain ⟨W0,aH⟩:∃W,W=w.alloc (.cells #[cu,cg] 27):=⟨_,rfl⟩;obtain ⟨b0,ez⟩:∃b,b=w.heap.size:=⟨_,rfl⟩;have E0:Ext w W0:=by rw[aH];exact (Ext.refl _).alloc _
 have N0:Has W0 b0 (.cells #[cu,cg] 27):=by rw[aH,ez];exact Has.new _ _
 have d0:=N0.cell 0;have d1:=N0.cell 1;have dz:=N0.lt;have h0:=h.ext E0;obtain ⟨c6,cz⟩:=h0.Mv;obtain ⟨X,F0⟩:=h0.Sh;have oh:=hs.fE.count;have jq:=hs.di hc;have KS:Hid (∀u,Ext W0 u->Calls Tryz.prog 136 #[.pointer (some ⟨f.bF,0,none⟩),.agg #[cu,cg],.int .i64 no] u (qC u (bo s.t (bf s.t cu cg no 1 4).af) (bt s.t cu cg no 1 4))):=by
  show ∀u,_;intro u hE;have hu:=F0.ext hE;exact Hi B f s.t X cu cg no u hu (by have:=hs.fE.count;omega) hs.fE.bc (by have:=hs.fE.eight;omega) (by have:=(hs.fE.bf cu cg no 1 4).2;omega)
 cases hd:s.dead
 ·have e1:Hid (sa s (bo s.t (bf s.t cu cg no 1 4).af)=bo s.t (bf s.t cu cg no 1 4).af):=by show _=_;unfold sa;rw[if_neg (by rw[hd];decide)]
  have e2:Hid (fk s (bt s.t cu cg no 1 4)=bt s.t cu cg no 1 4):=by show _=_;unfold fk;rw[if_neg (by rw[hd];decide)]
  rw [e1.out,e2.out];rw [hd]at c6;clear h h0 F0 hs hd oh jq e1 e2;obtain⟨y,hy⟩:=zE (bo s.t (bf s.t cu cg no 1 4).af);obtain⟨z,hz⟩:=zE (bt s.t cu cg no 1 4);rw [<-hy,<-hz]at KS|-;clear hy hz;go_enter Tryz.func92,Tryz.ntmps92;go_upto_region 1 with fail;rw [show w.alloc _=W0 from aH.symm,<-ez];clear aH ez;go_wp2_with fail;refine (KS.out _ (Ext.refl _)).mono ?_;rintro e w2 ⟨A2,Ql,rfl,i2,b2⟩;go_wp2_with fail;go_ret2;exact ⟨A2,Ql,rfl,i2.base E0,E0.trans b2⟩
 ·have e1:Hid (sa s (bo s.t (bf s.t cu cg no 1 4).af)=[]):=by show _=_;unfold sa;rw[if_pos hd]
  have e2:Hid (fk s (bt s.t cu cg no 1 4)=20):=by show _=_;unfold fk;rw[if_pos hd]
  rw [e1.out,e2.out];rw [hd]at c6;clear h h0 F0 hs hd oh jq e1 e2 KS;go_enter Tryz.func92,Tryz.ntmps92;go_upto_region 1 with fail;rw [show w.alloc _=W0 from aH.symm,<-ez];clear aH ez;go_wp2_with fail;go_ret2;exact ⟨none,0,rfl,⟨.inl rfl,fun y hy=>by cases hy⟩,E0⟩
end
end
end Go.Proofs.YtpibnfdolojpcaaGreat
