import Derived.Test.YtpibnfdolojpcaaGreatBunK
import Derived.Test.YtpibnfdolojpcaaGreatBunJ
import Derived.Test.YtpibnfdolojpcaaGreatBunL
import Derived.Test.YtpibnfdolojpcaaGreatBunC
set_option maxHeartbeats 4000000
set_option maxRecDepth 100000
namespace Go.Proofs.YtpibnfdolojpcaaGreat
open Go.Proofs.Tryz
open Go.ChangeShapes Go.WideShapes Go.ChangeAt Go.RowKit
section
def gY (s:aH) (e:Int):Int:=if s.dead=true then 20 else e
def H_ (s:aH) (n:Int):Int:=if s.dead=true then 0 else n
def tV {α:Type} (s:aH) (l:List α):List α:=if s.dead=true then [] else l
def vA (s:aH) (n:ak):ak:=if s.dead=true then aj else n
def rdF (s:aH) (x:jU×Int):jU×Int:=if s.dead=true then (cF,20) else x
section
variable {c:Nat} {w:World} {B b:Nat} {g:dL} {s:aH}
theorem PS.stat (h:PS w B b g s) (hs:d_ c s) (no:Int) :
  Calls prog 45 #[((),b),no] w (aO w (.tuple #[iU (vA s (aa s.t.nodes no)),.int .i64 (gY s (dQ s.t no))])):=by
 obtain⟨A,cap,h1,h2,h3,h4,h5⟩:=h;unfold vA gY
 cases hd:s.dead
 ·rw [hd]at h2
  rw[ac (by decide),ac (by decide)];exact TP w h2 h1 hs.fN.ae
 ·rw [hd]at h2
  rw[af rfl,af rfl];exact TN w h2
theorem PS.Uk (h:PS w B b g s):Calls prog 54 #[((),b)] w (aO w (.int .i64 (gY s 0))):=by
 obtain⟨A,cap,h1,h2,h3,h4,h5⟩:=h;exact M_ w h2
theorem PS.look (h:PS w B b g s) (hs:d_ c s) (hc:c<=900) (cu cg dir:Int) (nm:List UInt8) :
  Calls prog 28 #[((),b),.agg #[cu,cg],dir,bs nm] w (aO w (.tuple #[.int .i64 (H_ s (fE s.t cu cg dir nm)),.int .i64 (gY s (eK s.t cu cg dir nm))])):=by
 obtain⟨W0,aJ⟩:=ai (w.alloc (.cells #[cu,cg] 27));obtain⟨b0,eN⟩:=ai w.heap.size;have E0:Ext w W0:=by rw[aJ];exact (Ext.refl _).alloc _
 have N0:Has W0 b0 (.cells #[cu,cg] 27):=by rw[aJ,eN];exact Has.new _ _
 have h0:=h.ext E0;have KR:=zH h0.Uk;obtain⟨A,cap,h1,h2,h3,h4,h5⟩:=id h0;have HZ:Hid (s.dead=true->gY s 0=20):=fun hd=>by unfold gY;rw[af hd]
 have HO:Hid (s.dead=false->gY s 0=0):=fun hd=>by unfold gY;rw[ac (by rw[hd];decide)]
 cases hd:s.dead
 ·have KK:Hid (∀u,Ext W0 u->Calls prog 55 #[((),g.bW),.agg #[cu,cg],dir,bs nm] u (aO u (.tuple #[.int .i64 (fE s.t cu cg dir nm),.int .i64 (eK s.t cu cg dir nm)]))):=by
   show ∀u,_;intro u hE;have hu:=h1.ext hE;exact O_ B g s.t cu cg dir nm u hu hs.fN (by omega) (by have:=hs.dU hc;omega)
  have e1:Hid (Value.int .i64 (H_ s (fE s.t cu cg dir nm))=.int .i64 (fE s.t cu cg dir nm)):=by show _=_;unfold H_;rw[ac (by rw[hd];decide)]
  have e2:Hid (gY s (eK s.t cu cg dir nm)=eK s.t cu cg dir nm):=by show _=_;unfold gY;rw[ac (by rw[hd];decide)]
  rw[e1.o,e2.o];rw[HO.o hd]at KR;have HS:=zH h2;clear HO HZ h h0 h1 h2 h3 h4 hd e1 e2;obtain⟨y,hy⟩:∃y:Value,y=.int .i64 (fE s.t cu cg dir nm):=⟨_,rfl⟩;obtain⟨z,hz⟩:=ai (eK s.t cu cg dir nm);rw[<-hy,<-hz]at KK|-;clear hy hz;go_in;go_upto_region 1 with fail;rw[<-aJ,<-eN];clear aJ eN;go_wp2_with fail;refine KR.o.mono ?_;rintro e w1 ⟨rfl,b1⟩;have S1:=Has.ext HS.o b1;have c0:=Has.cell S1 0;have cz:=Has.lt S1;have N1:=N0.ext b1;have d0:=N1.cell 0;have d1:=N1.cell 1;have dz:=N1.lt;go_wp2_with fail;go_region_with (go_at_call 55;refine (KK.o _ (b1.trans (Ext.refl _).drew)).mono ?_;rintro e w2 ⟨rfl,b2⟩)
  all_goals
   go_wp2;go_ret2;exact aO.mk rfl (E0.trans ((b1.trans (Ext.refl _).drew).trans b2))
 ·have e1:Hid (Value.int .i64 (H_ s (fE s.t cu cg dir nm))=.int .i64 0):=by show _=_;unfold H_;rw[af hd]
  have e2:Hid (gY s (eK s.t cu cg dir nm)=20):=by show _=_;unfold gY;rw[af hd]
  rw[e1.o,e2.o];rw[HZ.o hd]at KR;clear HO HZ h h0 h1 h2 h3 h4 hd e1 e2;go_in;go_upto_region 1 with fail;rw[<-aJ,<-eN];clear aJ eN;go_wp2_with fail;refine KR.o.mono ?_;rintro e w1 ⟨rfl,b1⟩;go_wp2;go_ret2;exact aO.mk rfl (E0.trans b1)
theorem PS.list (h:PS w B b g s) (hs:d_ c s) (hc:c<=900) (cu cg no:Int) :
  Calls prog 102 #[((),b),.agg #[cu,cg],no] w (tu w (tV s (b_ s.t (bV s.t cu cg no 1 4).ah)) (gY s (cE s.t cu cg no 1 4))):=by
 obtain⟨W0,aJ⟩:=ai (w.alloc (.cells #[cu,cg] 27));obtain⟨b0,eN⟩:=ai w.heap.size;have E0:Ext w W0:=by rw[aJ];exact (Ext.refl _).alloc _
 have N0:Has W0 b0 (.cells #[cu,cg] 27):=by rw[aJ,eN];exact Has.new _ _
 have h0:=h.ext E0;have KR:=zH h0.Uk;obtain⟨A,cap,h1,h2,h3,h4,h5⟩:=id h0;have HZ:Hid (s.dead=true->gY s 0=20):=fun hd=>by unfold gY;rw[af hd]
 have HO:Hid (s.dead=false->gY s 0=0):=fun hd=>by unfold gY;rw[ac (by rw[hd];decide)]
 cases hd:s.dead
 ·have KK:Hid (∀u,Ext W0 u->Calls prog 150 #[((),g.bW),.agg #[cu,cg],no] u (tu u (b_ s.t (bV s.t cu cg no 1 4).ah) (cE s.t cu cg no 1 4))):=by
   show ∀u,_;intro u hE;have hu:=h1.ext hE;exact Pt B g s.t cu cg no u hu hs.fN (by omega)
  have e1:Hid (tV s (b_ s.t (bV s.t cu cg no 1 4).ah)=b_ s.t (bV s.t cu cg no 1 4).ah):=by show _=_;unfold tV;rw[ac (by rw[hd];decide)]
  have e2:Hid (gY s (cE s.t cu cg no 1 4)=cE s.t cu cg no 1 4):=by show _=_;unfold gY;rw[ac (by rw[hd];decide)]
  rw[e1.o,e2.o];rw[HO.o hd]at KR;have HS:=zH h2;clear HO HZ h h0 h1 h2 h3 h4 hd e1 e2;obtain⟨y,hy⟩:=ai (b_ s.t (bV s.t cu cg no 1 4).ah);obtain⟨z,hz⟩:=ai (cE s.t cu cg no 1 4);rw[<-hy,<-hz]at KK|-;clear hy hz;go_in;go_upto_region 1 with fail;rw[<-aJ,<-eN];clear aJ eN;go_wp2_with fail;refine KR.o.mono ?_;rintro e w1 ⟨rfl,b1⟩;have S1:=Has.ext HS.o b1;have c0:=Has.cell S1 0;have cz:=Has.lt S1;have N1:=N0.ext b1;have d0:=N1.cell 0;have d1:=N1.cell 1;have dz:=N1.lt;go_wp2_with fail;go_region_law (go_simp;go_at_call 150;refine (KK.o _ (b1.trans (Ext.refl _).drew)).mono ?_;rintro e w2 ⟨A2,PD,rfl,i2,b2⟩)
  all_goals
   go_wp2;go_ret2;exact⟨A2,PD,rfl,i2.base (E0.trans (b1.trans (Ext.refl _).drew)),E0.trans ((b1.trans (Ext.refl _).drew).trans b2)⟩
 ·have e1:Hid (tV s (b_ s.t (bV s.t cu cg no 1 4).ah)=[]):=by show _=_;unfold tV;rw[af hd]
  have e2:Hid (gY s (cE s.t cu cg no 1 4)=20):=by show _=_;unfold gY;rw[af hd]
  rw[e1.o,e2.o];rw[HZ.o hd]at KR;clear HO HZ h h0 h1 h2 h3 h4 hd e1 e2;go_in;go_upto_region 1 with fail;rw[<-aJ,<-eN];clear aJ eN;go_wp2_with fail;refine KR.o.mono ?_;rintro e w1 ⟨rfl,b1⟩;go_wp2;go_ret2;exact⟨none,0,rfl,⟨.inl rfl,fun y hy=>by cases hy⟩,E0.trans b1⟩
theorem PS.find (h:PS w B b g s) (hs:d_ c s) (hc:c<=900) (cu cg:Int) (p:List UInt8) (gh:Bool) (hp:p.length<=1000000) :
  Calls prog 110 #[((),b),.agg #[cu,cg],bs p,.bool gh] w (ku w (rdF s (fq s.t cu cg p gh))):=by
 obtain⟨W0,aJ⟩:=ai ((w.alloc (.cells #[cu,cg] 27)).alloc (.cells #[(),.string ⟨#[]⟩,(),.bool false] 82));obtain⟨b5,fu⟩:=ai w.heap.size;obtain⟨b0,eN⟩:=ai (w.heap.size+1);have E0:Ext w W0:=by rw[aJ];exact ((Ext.refl _).alloc _).alloc _
 have R0:Has W0 b0 (.cells (gX cF).toArray 82):=by rw[aJ,eN];have:=Has.new (w.alloc (.cells #[cu,cg] 27)) (.cells #[(),.string ⟨#[]⟩,(),.bool false] 82);rw[bi]at this;exact this
 have C0:Has W0 b5 (.cells #[cu,cg] 27):=by rw[aJ,fu];exact (Has.new w _).alloc _
 have qY:w.heap.size<=b0:=by omega
 have h0:=h.ext E0;have KR:=zH h0.Uk;obtain⟨A,cap,h1,h2,h3,h4,h5⟩:=id h0;have HZ:Hid (s.dead=true->gY s 0=20):=fun hd=>by unfold gY;rw[af hd]
 have HO:Hid (s.dead=false->gY s 0=0):=fun hd=>by unfold gY;rw[ac (by rw[hd];decide)]
 cases hd:s.dead
 ·have KK:Hid (∀u,Ext W0 u->Calls prog 155 #[((),g.bW),.agg #[cu,cg],bs p,.bool gh] u (ku u (fq s.t cu cg p gh))):=by
   show ∀u,_;intro u hE;exact Hx B g s.t cu cg p gh u (h1.ext hE) hs.fN (by omega) hp
  have e1:Hid (rdF s (fq s.t cu cg p gh)=fq s.t cu cg p gh):=by show _=_;unfold rdF;rw[ac (by rw[hd];decide)]
  rw[e1.o];rw[HO.o hd]at KR;have HS:=zH h2;clear HO HZ h h0 h1 h2 h3 h4 hd e1;obtain⟨P,hP⟩:=ai (bs p);rw[<-hP]at KK|-;obtain⟨R,hR⟩:=ai (fq s.t cu cg p gh);rw[<-hR]at KK|-;clear hP hR;obtain⟨rd,re⟩:=R;unfold ku at KK;go_in;go_upto_region 1 with fail;rw[show (w.alloc _).alloc _=W0 from aJ.symm,<-eN,<-fu];clear aJ eN fu;go_wp2_with fail;refine KR.o.mono ?_;rintro e w1 ⟨rfl,b1⟩;have S1:=Has.ext HS.o b1;have c0:=Has.cell S1 0;have cz:=Has.lt S1;have N1:=C0.ext b1;have d0:=N1.cell 0;have d1:=N1.cell 1;have dz:=N1.lt;have R1:=R0.ext b1;go_wp2_with fail;go_region_law (go_simp;go_at_call 155;refine (KK.o _ (b1.trans (Ext.refl _).drew)).mono ?_;rintro e w2 ⟨rfl,b2⟩;have R2:=R1.ext ((Ext.refl w1).drew.trans b2);have r0:=R2.cell 0;have r1:=R2.cell 1;have r2:=R2.cell 2;have r3:=R2.cell 3;have g0:=R2.free 0;have g1:=R2.free 1;have g2:=R2.free 2;have g3:=R2.free 3;have rz:=R2.lt)
  all_goals
   obtain⟨R9,O9⟩:=gO rd R2;go_wp2_with fail;refine aT (v:=.tuple #[.agg (gX rd).toArray,re]) (dk results110 _ _ b0 rd _ rfl rfl R9) rfl ?_;exact ku.mk (E0.trans ((b1.trans (Ext.refl _).drew).trans b2)) qY O9 rfl
 ·have e1:Hid (rdF s (fq s.t cu cg p gh)=(cF,20)):=by show _=_;unfold rdF;rw[af hd]
  rw[e1.o];rw[HZ.o hd]at KR;clear HO HZ h h0 h1 h2 h3 h4 hd e1;go_in;go_upto_region 1 with fail;rw[show (w.alloc _).alloc _=W0 from aJ.symm,<-eN,<-fu];clear aJ eN fu;go_wp2_with fail;refine KR.o.mono ?_;rintro e w1 ⟨rfl,b1⟩;have R1:=R0.ext b1;go_wp2_with (refine cX rfl _ _ rfl b0 cF cF rfl rfl R1 ?_;intro w9 R9 O9);refine aT (v:=.tuple #[.agg (gX cF).toArray,.int .i64 20]) (dk results110 _ _ b0 cF _ rfl rfl R9) rfl ?_;exact ku.mk (E0.trans b1) qY O9 rfl
end
end
section
theorem RS.Ul {w:World} {B:Nat} {f:cI} {s:aH} (h:RS w B f s):w.cell? (f.bF,6)=some (.bool s.dead)/\f.bF<w.heap.size:=by
 obtain⟨A,cap,h,_⟩:=h;obtain⟨_,_,c6,_,_,z⟩:=h.AX;exact⟨c6,z⟩
theorem iQ.pre {w w1 w':World} {B:Nat} {f:cI} {s:aH} (o:Only f.list w w1) (h:iQ w1 B f s w'):iQ w B f s w':=by
 obtain⟨f',h1,h2,h3⟩:=h;exact⟨f',h1,o.then h2,cI.pE (cI.ew _ _) h3 o.size⟩
section
variable {c:Nat} {w:World} {B:Nat} {f:cI} {s:aH}
theorem RS.Li (h:RS w B f s) (hs:d_ c s) (hc:c<=900) (no:Int) :
  Calls prog 91 #[((),f.bF),no] w (aO w (.tuple #[iU (vA s (aa s.t.nodes no)),.int .i64 (gY s (dQ s.t no))])):=by
 obtain⟨W0,aJ⟩:=ai (w.alloc (.cells #[(),(),(),(),(),(),(),(),(),()] 95));obtain⟨b0,eN⟩:=ai w.heap.size;have E0:Ext w W0:=by rw[aJ];exact (Ext.refl _).alloc _
 have R0:Has W0 b0 (.cells #[aj.no,aj.dev,aj.kind,aj.mode,aj.uid,aj.gid,aj.ar,aj.data.length,aj.mtime,aj.ctime] 95):=by rw[aJ,eN];exact Has.new _ _
 have qY:w.heap.size<=b0:=by omega
 have h0:=h.ext E0;obtain⟨c6,cz⟩:=h0.Ul;obtain⟨X,F0⟩:=h0.Wj;have rW:=hs.fN.count;have lf:=hs.dU hc;have KS:Hid (Calls prog 135 #[((),f.bF),no] W0 (aO W0 (.tuple #[iU (aa s.t.nodes no),.int .i64 (dQ s.t no)]))):=Py B f s.t X no W0 F0 (by omega) hs.fN.bL;unfold vA gY
 cases hd:s.dead
 ·rw [ac (by decide),ac (by decide)]
  rw[hd]at c6;clear h h0 F0 hs hd rW lf;obtain⟨m,hm⟩:=ai (aa s.t.nodes no);obtain⟨x,hx⟩:=ai (dQ s.t no);rw[<-hm,<-hx]at KS|-;clear hm hx;unfold iU at KS;go_in;go_upto_region 1 with fail;rw[show w.alloc _=W0 from aJ.symm,<-eN];clear aJ eN;go_wp2_with fail;refine KS.o.mono ?_;rintro e w2 ⟨rfl,b2⟩;have R2:=R0.ext b2;have E2:=E0.trans b2;go_wp2_with (refine dR rfl _ _ rfl b0 m rfl rfl R2 ?_;intro w9 R9 O9);refine aT (v:=.tuple #[.agg #[m.no,m.dev,m.kind,m.mode,m.uid,m.gid,m.ar,m.data.length,m.mtime,m.ctime],x]) (ma results91 _ _ b0 m _ rfl rfl R9) rfl ?_;exact⟨rfl,O9.after E2 (by simpa using qY)⟩
 ·rw [af rfl,af rfl]
  rw[hd]at c6;clear h h0 F0 hs hd rW lf KS;go_in;go_upto_region 1 with fail;rw[show w.alloc _=W0 from aJ.symm,<-eN];clear aJ eN;go_wp2_with (refine dR rfl _ _ rfl b0 aj rfl rfl R0 ?_;intro w9 R9 O9);refine aT (v:=.tuple #[.agg #[aj.no,aj.dev,aj.kind,aj.mode,aj.uid,aj.gid,aj.ar,aj.data.length,aj.mtime,aj.ctime],.int .i64 20]) (ma results91 _ _ b0 aj _ rfl rfl R9) rfl ?_;exact⟨rfl,O9.after E0 (by simpa using qY)⟩
theorem RS.Lj (h:RS w B f s) (hs:d_ c s) (hc:c<=900) (cu cg dir:Int) (nm:List UInt8) :
  Calls prog 43 #[((),f.bF),.agg #[cu,cg],dir,bs nm] w (aO w (.tuple #[.int .i64 (H_ s (fE s.t cu cg dir nm)),.int .i64 (gY s (eK s.t cu cg dir nm))])):=by
 obtain⟨W0,aJ⟩:=ai (w.alloc (.cells #[cu,cg] 27));obtain⟨b0,eN⟩:=ai w.heap.size;have E0:Ext w W0:=by rw[aJ];exact (Ext.refl _).alloc _
 have N0:Has W0 b0 (.cells #[cu,cg] 27):=by rw[aJ,eN];exact Has.new _ _
 have d0:=N0.cell 0;have d1:=N0.cell 1;have dz:=N0.lt;have h0:=h.ext E0;obtain⟨c6,cz⟩:=h0.Ul;obtain⟨X,F0⟩:=h0.Wj;have rW:=hs.fN.count;have lf:=hs.dU hc;have KS:Hid (∀u,Ext W0 u->Calls prog 90 #[((),f.bF),.agg #[cu,cg],dir,bs nm] u (aO u (.tuple #[.int .i64 (fE s.t cu cg dir nm),.int .i64 (eK s.t cu cg dir nm)]))):=by
  show ∀u,_;intro u hE;have hu:=F0.ext hE;exact Pb B f s.t X cu cg dir nm u hu hs.fN (by omega) (by omega)
 cases hd:s.dead
 ·have e1:Hid (Value.int .i64 (H_ s (fE s.t cu cg dir nm))=.int .i64 (fE s.t cu cg dir nm)):=by show _=_;unfold H_;rw[ac (by rw[hd];decide)]
  have e2:Hid (gY s (eK s.t cu cg dir nm)=eK s.t cu cg dir nm):=by show _=_;unfold gY;rw[ac (by rw[hd];decide)]
  rw[e1.o,e2.o];rw[hd]at c6;clear h h0 F0 hs hd rW lf e1 e2;obtain⟨y,hy⟩:∃y:Value,y=.int .i64 (fE s.t cu cg dir nm):=⟨_,rfl⟩;obtain⟨z,hz⟩:=ai (eK s.t cu cg dir nm);rw[<-hy,<-hz]at KS|-;clear hy hz;go_in;go_upto_region 1 with fail;rw[show w.alloc _=W0 from aJ.symm,<-eN];clear aJ eN;go_wp2_with fail;refine (KS.o _ (Ext.refl _)).mono ?_;rintro e w2 ⟨rfl,b2⟩;go_wp2;go_ret2;exact aO.mk rfl (E0.trans b2)
 ·have e1:Hid (Value.int .i64 (H_ s (fE s.t cu cg dir nm))=.int .i64 0):=by show _=_;unfold H_;rw[af hd]
  have e2:Hid (gY s (eK s.t cu cg dir nm)=20):=by show _=_;unfold gY;rw[af hd]
  rw[e1.o,e2.o];rw[hd]at c6;clear h h0 F0 hs hd rW lf e1 e2 KS;go_in;go_upto_region 1 with fail;rw[show w.alloc _=W0 from aJ.symm,<-eN];clear aJ eN;go_wp2;go_ret2;exact aO.mk rfl E0
theorem RS.Um (h:RS w B f s) (hs:d_ c s) (hc:c<=900) (cu cg no:Int) :
  Calls prog 92 #[((),f.bF),.agg #[cu,cg],no] w (tu w (tV s (b_ s.t (bV s.t cu cg no 1 4).ah)) (gY s (cE s.t cu cg no 1 4))):=by
 obtain⟨W0,aJ⟩:=ai (w.alloc (.cells #[cu,cg] 27));obtain⟨b0,eN⟩:=ai w.heap.size;have E0:Ext w W0:=by rw[aJ];exact (Ext.refl _).alloc _
 have N0:Has W0 b0 (.cells #[cu,cg] 27):=by rw[aJ,eN];exact Has.new _ _
 have d0:=N0.cell 0;have d1:=N0.cell 1;have dz:=N0.lt;have h0:=h.ext E0;obtain⟨c6,cz⟩:=h0.Ul;obtain⟨X,F0⟩:=h0.Wj;have rW:=hs.fN.count;have lf:=hs.dU hc;have KS:Hid (∀u,Ext W0 u->Calls prog 136 #[((),f.bF),.agg #[cu,cg],no] u (tu u (b_ s.t (bV s.t cu cg no 1 4).ah) (cE s.t cu cg no 1 4))):=by
  show ∀u,_;intro u hE;have hu:=F0.ext hE;exact Pv B f s.t X cu cg no u hu (by have:=hs.fN.count;omega) hs.fN.bL (by have:=hs.fN.eight;omega) (by have:=(hs.fN.bV cu cg no 1 4).2;omega)
 cases hd:s.dead
 ·have e1:Hid (tV s (b_ s.t (bV s.t cu cg no 1 4).ah)=b_ s.t (bV s.t cu cg no 1 4).ah):=by show _=_;unfold tV;rw[ac (by rw[hd];decide)]
  have e2:Hid (gY s (cE s.t cu cg no 1 4)=cE s.t cu cg no 1 4):=by show _=_;unfold gY;rw[ac (by rw[hd];decide)]
  rw[e1.o,e2.o];rw[hd]at c6;clear h h0 F0 hs hd rW lf e1 e2;obtain⟨y,hy⟩:=ai (b_ s.t (bV s.t cu cg no 1 4).ah);obtain⟨z,hz⟩:=ai (cE s.t cu cg no 1 4);rw[<-hy,<-hz]at KS|-;clear hy hz;go_in;go_upto_region 1 with fail;rw[show w.alloc _=W0 from aJ.symm,<-eN];clear aJ eN;go_wp2_with fail;refine (KS.o _ (Ext.refl _)).mono ?_;rintro e w2 ⟨A2,PD,rfl,i2,b2⟩;go_wp2;go_ret2;exact⟨A2,PD,rfl,i2.base E0,E0.trans b2⟩
 ·have e1:Hid (tV s (b_ s.t (bV s.t cu cg no 1 4).ah)=[]):=by show _=_;unfold tV;rw[af hd]
  have e2:Hid (gY s (cE s.t cu cg no 1 4)=20):=by show _=_;unfold gY;rw[af hd]
  rw[e1.o,e2.o];rw[hd]at c6;clear h h0 F0 hs hd rW lf e1 e2 KS;go_in;go_upto_region 1 with fail;rw[show w.alloc _=W0 from aJ.symm,<-eN];clear aJ eN;go_wp2;go_ret2;exact⟨none,0,rfl,⟨.inl rfl,fun y hy=>by cases hy⟩,E0⟩
theorem RS.Un (h:RS w B f s) (hs:d_ c s) (hc:c<=800) (cu cg:Int) (dir:Int) (nm:List UInt8) (ie:nm.length<=1000000) :
  Calls prog 108 #[((),f.bF),.agg #[cu,cg],dir,bs nm] w (fun e w'=>e=.returned (.int .i64 (yw s cu cg (.unlink dir nm)))/\iQ w B f (ul s cu cg (.unlink dir nm)) w'):=by
 obtain⟨W0,aJ⟩:=ai (w.alloc (.cells #[cu,cg] 27));obtain⟨b0,eN⟩:=ai w.heap.size;have E0:Ext w W0:=by rw[aJ];exact (Ext.refl _).alloc _
 have N0:Has W0 b0 (.cells #[cu,cg] 27):=by rw[aJ,eN];exact Has.new _ _
 have hn0:b0∉f.list:=fun hb=>by have:=h.lt b0 hb;omega
 have KG:=zH ((h.ext E0).goes hs (by omega:c<=900));have HS:=zH hs.go;obtain⟨z,hz⟩:=ai (vU s);have HZ:=zH hz;rw[<-hz]at KG;clear h hz hs;go_in;go_upto_region 1 with fail;rw[show w.alloc _=W0 from aJ.symm,<-eN];clear aJ eN;go_wp2_with fail;refine KG.o.mono ?_;rintro e w1 ⟨rfl,R1,O1⟩;have N1:=O1.has N0 hn0;have d0:=N1.cell 0;have d1:=N1.cell 1;have dz:=N1.lt;have ZN:=Only.pre E0 O1
 by_cases hz0:z=0
 ·have tz:(z != 0)=false:=by simpa using hz0
  have key:=KY (cu:=cu) (cg:=cg) (x:=.unlink dir nm) (show vU s=0 from HZ.o▸hz0);have KD:=R1.unlink HS.o (by omega) cu cg dir nm ie;rw[key.1,key.2.1,key.2.2.1,<-key.2.2.2.1]at KD;have AV:=zH KD;clear key KD hz0;go_wp2_with fail;refine AV.o.mono ?_;rintro e w2 ⟨rfl,K2⟩;go_wp2;go_ret;exact⟨rfl,K2.pre ZN⟩
 ·have tz:(z != 0)=true:=by simpa using hz0
  have key:=KZ (cu:=cu) (cg:=cg) (x:=.unlink dir nm) (s:=s) (by rw[<-HZ.o];exact hz0);have HK:=zH key;clear key hz0;go_wp2;go_ret;exact⟨by rw[HK.o.2.1,<-HZ.o];rfl,by rw[HK.o.1];exact⟨f,R1,ZN,cI.ew _ _⟩⟩
theorem RS.XV (h:RS w B f s) (hs:d_ c s) (hc:c<=800) (cu cg:Int) (dir:Int) (nm:List UInt8) (ie:nm.length<=1000000) :
  Calls prog 107 #[((),f.bF),.agg #[cu,cg],dir,bs nm] w (fun e w'=>e=.returned (.int .i64 (yw s cu cg (.j8 dir nm)))/\iQ w B f (ul s cu cg (.j8 dir nm)) w'):=by
 obtain⟨W0,aJ⟩:=ai (w.alloc (.cells #[cu,cg] 27));obtain⟨b0,eN⟩:=ai w.heap.size;have E0:Ext w W0:=by rw[aJ];exact (Ext.refl _).alloc _
 have N0:Has W0 b0 (.cells #[cu,cg] 27):=by rw[aJ,eN];exact Has.new _ _
 have hn0:b0∉f.list:=fun hb=>by have:=h.lt b0 hb;omega
 have KG:=zH ((h.ext E0).goes hs (by omega:c<=900));have HS:=zH hs.go;obtain⟨z,hz⟩:=ai (vU s);have HZ:=zH hz;rw[<-hz]at KG;clear h hz hs;go_in;go_upto_region 1 with fail;rw[show w.alloc _=W0 from aJ.symm,<-eN];clear aJ eN;go_wp2_with fail;refine KG.o.mono ?_;rintro e w1 ⟨rfl,R1,O1⟩;have N1:=O1.has N0 hn0;have d0:=N1.cell 0;have d1:=N1.cell 1;have dz:=N1.lt;have ZN:=Only.pre E0 O1
 by_cases hz0:z=0
 ·have tz:(z != 0)=false:=by simpa using hz0
  have key:=KY (cu:=cu) (cg:=cg) (x:=.j8 dir nm) (show vU s=0 from HZ.o▸hz0);have KD:=R1.j8 HS.o (by omega) cu cg dir nm ie;rw[key.1,key.2.1,key.2.2.1,<-key.2.2.2.1]at KD;have AV:=zH KD;clear key KD hz0;go_wp2_with fail;refine AV.o.mono ?_;rintro e w2 ⟨rfl,K2⟩;go_wp2;go_ret;exact⟨rfl,K2.pre ZN⟩
 ·have tz:(z != 0)=true:=by simpa using hz0
  have key:=KZ (cu:=cu) (cg:=cg) (x:=.j8 dir nm) (s:=s) (by rw[<-HZ.o];exact hz0);have HK:=zH key;clear key hz0;go_wp2;go_ret;exact⟨by rw[HK.o.2.1,<-HZ.o];rfl,by rw[HK.o.1];exact⟨f,R1,ZN,cI.ew _ _⟩⟩
theorem RS.XW (h:RS w B f s) (hs:d_ c s) (hc:c<=800) (cu cg:Int) (no mode:Int) :
  Calls prog 106 #[((),f.bF),.agg #[cu,cg],no,mode] w (fun e w'=>e=.returned (.int .i64 (yw s cu cg (.ee no mode)))/\iQ w B f (ul s cu cg (.ee no mode)) w'):=by
 obtain⟨W0,aJ⟩:=ai (w.alloc (.cells #[cu,cg] 27));obtain⟨b0,eN⟩:=ai w.heap.size;have E0:Ext w W0:=by rw[aJ];exact (Ext.refl _).alloc _
 have N0:Has W0 b0 (.cells #[cu,cg] 27):=by rw[aJ,eN];exact Has.new _ _
 have hn0:b0∉f.list:=fun hb=>by have:=h.lt b0 hb;omega
 have KG:=zH ((h.ext E0).goes hs (by omega:c<=900));have HS:=zH hs.go;obtain⟨z,hz⟩:=ai (vU s);have HZ:=zH hz;rw[<-hz]at KG;clear h hz hs;go_in;go_upto_region 1 with fail;rw[show w.alloc _=W0 from aJ.symm,<-eN];clear aJ eN;go_wp2_with fail;refine KG.o.mono ?_;rintro e w1 ⟨rfl,R1,O1⟩;have N1:=O1.has N0 hn0;have d0:=N1.cell 0;have d1:=N1.cell 1;have dz:=N1.lt;have ZN:=Only.pre E0 O1
 by_cases hz0:z=0
 ·have tz:(z != 0)=false:=by simpa using hz0
  have key:=KY (cu:=cu) (cg:=cg) (x:=.ee no mode) (show vU s=0 from HZ.o▸hz0);have KD:=R1.ee HS.o (by omega) cu cg no mode;rw[key.1,key.2.1,key.2.2.1,<-key.2.2.2.1]at KD;have AV:=zH KD;clear key KD hz0;go_wp2_with fail;refine AV.o.mono ?_;rintro e w2 ⟨rfl,K2⟩;go_wp2;go_ret;exact⟨rfl,K2.pre ZN⟩
 ·have tz:(z != 0)=true:=by simpa using hz0
  have key:=KZ (cu:=cu) (cg:=cg) (x:=.ee no mode) (s:=s) (by rw[<-HZ.o];exact hz0);have HK:=zH key;clear key hz0;go_wp2;go_ret;exact⟨by rw[HK.o.2.1,<-HZ.o];rfl,by rw[HK.o.1];exact⟨f,R1,ZN,cI.ew _ _⟩⟩
end
end
end Go.Proofs.YtpibnfdolojpcaaGreat
