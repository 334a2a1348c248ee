import Derived.Test.YtblbohcaphcobaaGreatDoorBunK
import Derived.Test.YtblbohcaphcobaaGreatDoorBunJ
import Derived.Test.YtblbohcaphcobaaGreatDoorBunL
import Derived.Test.YtblbohcaphcobaaGreatDoorBunC
set_option maxHeartbeats 4000000
set_option maxRecDepth 100000
namespace Go.Proofs.YtblbohcaphcobaaGreatDoor
section
open Go.ChangeShapes Go.WideShapes Go.ChangeAt Go.RowKit
def dR (s:aA) (e:Int):Int:=if s.dead=true then 20 else e
def RG (s:aA) (n:Int):Int:=if s.dead=true then 0 else n
def nr {α:Type} (s:aA) (l:List α):List α:=if s.dead=true then [] else l
def wB (s:aA) (n:ai):ai:=if s.dead=true then ag else n
def XJ (s:aA) (x:gR×Int):gR×Int:=if s.dead=true then (bu,20) else x
section
variable {c:Nat} {w:World} {B b:Nat} {g:bQ} {s:aA}
theorem PS.stat (h:PS w B b g s) (hs:fT c s) (no:Int) :
  Calls Tryz.prog 12 #[.pointer (some ⟨b,0,none⟩),.int .i64 no] w (aH w (.tuple #[gD (wB s (aa s.t.nodes no)),.int .i64 (dR s (cK s.t no))])):=by
 obtain ⟨A,cap,h1,h2,h3,h4,h5⟩:=h;unfold wB dR
 cases hd:s.dead
 ·rw [hd]at h2
  rw [if_neg (by decide),if_neg (by decide)];exact Lf w h2 h1 hs.eE.af
 ·rw [hd]at h2
  rw [if_pos rfl,if_pos rfl];exact Le w h2
theorem PS.BH (h:PS w B b g s):Calls Tryz.prog 34 #[.pointer (some ⟨b,0,none⟩)] w (aH w (.int .i64 (dR s 0))):=by
 obtain ⟨A,cap,h1,h2,h3,h4,h5⟩:=h;exact Fi w h2
theorem PS.look (h:PS w B b g s) (hs:fT c s) (hc:c<=900) (cu cg dir:Int) (nm:List UInt8) :
  Calls Tryz.prog 104 #[.pointer (some ⟨b,0,none⟩),.agg #[cu,cg],.int .i64 dir,bs nm] w (aH w (.tuple #[.int .i64 (RG s (lc s.t cu cg dir nm)),.int .i64 (dR s (iH s.t cu cg dir nm))])):=by
 obtain ⟨W0,bg⟩:∃W,W=w.alloc (.cells #[cu,cg] 27):=⟨_,rfl⟩;obtain ⟨b0,gE⟩:∃b,b=w.heap.size:=⟨_,rfl⟩;have E0:Ext w W0:=by rw[bg];exact (Ext.refl _).alloc _
 have N0:Has W0 b0 (.cells #[cu,cg] 27):=by rw[bg,gE];exact Has.new _ _
 have h0:=h.ext E0;have KR:=zH h0.BH;obtain ⟨A,cap,h1,h2,h3,h4,h5⟩:=id h0;have HZ:Hid (s.dead=true->dR s 0=20):=fun hd=>by unfold dR;rw[if_pos hd]
 have HO:Hid (s.dead=false->dR s 0=0):=fun hd=>by unfold dR;rw[if_neg (by rw[hd];decide)]
 cases hd:s.dead
 ·have KK:Hid (∀u,Ext W0 u->Calls Tryz.prog 131 #[.pointer (some ⟨g.bW,0,none⟩),.agg #[cu,cg],.int .i64 dir,bs nm] u (aH u (.tuple #[.int .i64 (lc s.t cu cg dir nm),.int .i64 (iH s.t cu cg dir nm)]))):=by
   show ∀u,_;intro u hE;have hu:=h1.ext hE;exact GN B g s.t cu cg dir nm u hu hs.eE (by omega) (by have:=hs.di hc;omega)
  have e1:Hid (Value.int .i64 (RG s (lc s.t cu cg dir nm))=.int .i64 (lc s.t cu cg dir nm)):=by show _=_;unfold RG;rw[if_neg (by rw[hd];decide)]
  have e2:Hid (dR s (iH s.t cu cg dir nm)=iH s.t cu cg dir nm):=by show _=_;unfold dR;rw[if_neg (by rw[hd];decide)]
  rw [e1.out,e2.out];rw [HO.out hd]at KR;have HS:=zH h2;clear HO HZ h h0 h1 h2 h3 h4 hd e1 e2;obtain ⟨y,hy⟩:∃y:Value,y=.int .i64 (lc s.t cu cg dir nm):=⟨_,rfl⟩;obtain⟨z,hz⟩:=ar (iH s.t cu cg dir nm);rw [<-hy,<-hz]at KK|-;clear hy hz;go_enter Tryz.func104,Tryz.ntmps104;go_upto_region 1 with fail;rw [<-bg,<-gE];clear bg gE;go_wp2_with fail;refine KR.out.mono ?_;rintro e w1 ⟨rfl,b1⟩;have S1:=Has.ext HS.out b1;have c0:=Has.cell S1 0;have cz:=Has.lt S1;have N1:=N0.ext b1;have d0:=N1.cell 0;have d1:=N1.cell 1;have dz:=N1.lt;go_wp2_with fail;go_region_with (go_at_call 131;refine (KK.out _ (b1.trans (Ext.refl _).drew)).mono ?_;rintro e w2 ⟨rfl,b2⟩)
  all_goals
   go_wp2_with fail;go_ret2;exact aH.mk rfl (E0.trans ((b1.trans (Ext.refl _).drew).trans b2))
 ·have e1:Hid (Value.int .i64 (RG s (lc s.t cu cg dir nm))=.int .i64 0):=by show _=_;unfold RG;rw[if_pos hd]
  have e2:Hid (dR s (iH s.t cu cg dir nm)=20):=by show _=_;unfold dR;rw[if_pos hd]
  rw [e1.out,e2.out];rw [HZ.out hd]at KR;clear HO HZ h h0 h1 h2 h3 h4 hd e1 e2;go_enter Tryz.func104,Tryz.ntmps104;go_upto_region 1 with fail;rw [<-bg,<-gE];clear bg gE;go_wp2_with fail;refine KR.out.mono ?_;rintro e w1 ⟨rfl,b1⟩;go_wp2_with fail;go_ret2;exact aH.mk rfl (E0.trans b1)
theorem PS.reads (h:PS w B b g s) (hs:fT c s) (hc:c<=900) (cu cg no:Int) :
  Calls Tryz.prog 65 #[.pointer (some ⟨b,0,none⟩),.agg #[cu,cg],.int .i64 no] w (aH w (.tuple #[.string (bs (nr s (aS s.t cu cg no 2 4).data)),.int .i64 (dR s (bf s.t cu cg no 2 4))])):=by
 obtain ⟨W0,bg⟩:∃W,W=w.alloc (.cells #[cu,cg] 27):=⟨_,rfl⟩;obtain ⟨b0,gE⟩:∃b,b=w.heap.size:=⟨_,rfl⟩;have E0:Ext w W0:=by rw[bg];exact (Ext.refl _).alloc _
 have N0:Has W0 b0 (.cells #[cu,cg] 27):=by rw[bg,gE];exact Has.new _ _
 have h0:=h.ext E0;have KR:=zH h0.BH;obtain ⟨A,cap,h1,h2,h3,h4,h5⟩:=id h0;have HZ:Hid (s.dead=true->dR s 0=20):=fun hd=>by unfold dR;rw[if_pos hd]
 have HO:Hid (s.dead=false->dR s 0=0):=fun hd=>by unfold dR;rw[if_neg (by rw[hd];decide)]
 cases hd:s.dead
 ·have KK:Hid (∀u,Ext W0 u->Calls Tryz.prog 100 #[.pointer (some ⟨g.bW,0,none⟩),.agg #[cu,cg],.int .i64 no] u (aH u (.tuple #[.string (bs (aS s.t cu cg no 2 4).data),.int .i64 (bf s.t cu cg no 2 4)]))):=by
   show ∀u,_;intro u hE;have hu:=h1.ext hE;exact GP B g s.t cu cg no u hu hs.eE (by have:=hs.di hc;omega)
  have e1:Hid (Value.string (bs (nr s (aS s.t cu cg no 2 4).data))=.string (bs (aS s.t cu cg no 2 4).data)):=by show _=_;unfold nr;rw[if_neg (by rw[hd];decide)]
  have e2:Hid (dR s (bf s.t cu cg no 2 4)=bf s.t cu cg no 2 4):=by show _=_;unfold dR;rw[if_neg (by rw[hd];decide)]
  rw [e1.out,e2.out];rw [HO.out hd]at KR;have HS:=zH h2;clear HO HZ h h0 h1 h2 h3 h4 hd e1 e2;obtain ⟨y,hy⟩:∃y:Value,y=.string (bs (aS s.t cu cg no 2 4).data):=⟨_,rfl⟩;obtain⟨z,hz⟩:=ar (bf s.t cu cg no 2 4);rw [<-hy,<-hz]at KK|-;clear hy hz;go_enter Tryz.func65,Tryz.ntmps65;go_upto_region 1 with fail;rw [<-bg,<-gE];clear bg gE;go_wp2_with fail;refine KR.out.mono ?_;rintro e w1 ⟨rfl,b1⟩;have S1:=Has.ext HS.out b1;have c0:=Has.cell S1 0;have cz:=Has.lt S1;have N1:=N0.ext b1;have d0:=N1.cell 0;have d1:=N1.cell 1;have dz:=N1.lt;go_wp2_with fail;go_region_with (go_at_call 100;refine (KK.out _ (b1.trans (Ext.refl _).drew)).mono ?_;rintro e w2 ⟨rfl,b2⟩)
  all_goals
   go_wp2_with fail;go_ret2;exact aH.mk rfl (E0.trans ((b1.trans (Ext.refl _).drew).trans b2))
 ·have e1:Hid (Value.string (bs (nr s (aS s.t cu cg no 2 4).data))=.string (bs [])):=by show _=_;unfold nr;rw[if_pos hd]
  have e2:Hid (dR s (bf s.t cu cg no 2 4)=20):=by show _=_;unfold dR;rw[if_pos hd]
  rw [e1.out,e2.out];rw [HZ.out hd]at KR;clear HO HZ h h0 h1 h2 h3 h4 hd e1 e2;go_enter Tryz.func65,Tryz.ntmps65;go_upto_region 1 with fail;rw [<-bg,<-gE];clear bg gE;go_wp2_with fail;refine KR.out.mono ?_;rintro e w1 ⟨rfl,b1⟩;go_wp2_with fail;go_ret2;exact aH.mk rfl (E0.trans b1)
theorem PS.target (h:PS w B b g s) (hs:fT c s) (hc:c<=900) (no:Int) :
  Calls Tryz.prog 67 #[.pointer (some ⟨b,0,none⟩),.int .i64 no] w (aH w (.tuple #[.string (bs (nr s (aS s.t 0 0 no 3 0).data)),.int .i64 (dR s (bf s.t 0 0 no 3 0))])):=by
 have E0:Ext w w:=Ext.refl _;have h0:=h.ext E0;have KR:=zH h0.BH;obtain ⟨A,cap,h1,h2,h3,h4,h5⟩:=id h0;have HZ:Hid (s.dead=true->dR s 0=20):=fun hd=>by unfold dR;rw[if_pos hd]
 have HO:Hid (s.dead=false->dR s 0=0):=fun hd=>by unfold dR;rw[if_neg (by rw[hd];decide)]
 cases hd:s.dead
 ·have KK:Hid (∀u,Ext w u->Calls Tryz.prog 102 #[.pointer (some ⟨g.bW,0,none⟩),.int .i64 no] u (aH u (.tuple #[.string (bs (aS s.t 0 0 no 3 0).data),.int .i64 (bf s.t 0 0 no 3 0)]))):=by
   show ∀u,_;intro u hE;have hu:=h1.ext hE;exact AV B g s.t no u hu hs.eE (by have:=hs.di hc;omega)
  have e1:Hid (Value.string (bs (nr s (aS s.t 0 0 no 3 0).data))=.string (bs (aS s.t 0 0 no 3 0).data)):=by show _=_;unfold nr;rw[if_neg (by rw[hd];decide)]
  have e2:Hid (dR s (bf s.t 0 0 no 3 0)=bf s.t 0 0 no 3 0):=by show _=_;unfold dR;rw[if_neg (by rw[hd];decide)]
  rw [e1.out,e2.out];rw [HO.out hd]at KR;have HS:=zH h2;clear HO HZ h h0 h1 h2 h3 h4 hd e1 e2;obtain ⟨y,hy⟩:∃y:Value,y=.string (bs (aS s.t 0 0 no 3 0).data):=⟨_,rfl⟩;obtain⟨z,hz⟩:=ar (bf s.t 0 0 no 3 0);rw [<-hy,<-hz]at KK|-;clear hy hz;go_enter Tryz.func67,Tryz.ntmps67;go_wp2_with fail;refine KR.out.mono ?_;rintro e w1 ⟨rfl,b1⟩;have S1:=Has.ext HS.out b1;have c0:=Has.cell S1 0;have cz:=Has.lt S1;go_wp2_with fail;refine (KK.out _ b1).mono ?_;rintro e w2 ⟨rfl,b2⟩;go_wp2_with fail;go_ret2;exact aH.mk rfl (E0.trans (b1.trans b2))
 ·have e1:Hid (Value.string (bs (nr s (aS s.t 0 0 no 3 0).data))=.string (bs [])):=by show _=_;unfold nr;rw[if_pos hd]
  have e2:Hid (dR s (bf s.t 0 0 no 3 0)=20):=by show _=_;unfold dR;rw[if_pos hd]
  rw [e1.out,e2.out];rw [HZ.out hd]at KR;clear HO HZ h h0 h1 h2 h3 h4 hd e1 e2;go_enter Tryz.func67,Tryz.ntmps67;go_wp2_with fail;refine KR.out.mono ?_;rintro e w1 ⟨rfl,b1⟩;go_wp2_with fail;go_ret2;exact aH.mk rfl (E0.trans b1)
theorem PS.list (h:PS w B b g s) (hs:fT c s) (hc:c<=900) (cu cg no:Int) :
  Calls Tryz.prog 105 #[.pointer (some ⟨b,0,none⟩),.agg #[cu,cg],.int .i64 no] w (Ff w (nr s (dm s.t (aS s.t cu cg no 1 4).ae)) (dR s (bf s.t cu cg no 1 4))):=by
 obtain ⟨W0,bg⟩:∃W,W=w.alloc (.cells #[cu,cg] 27):=⟨_,rfl⟩;obtain ⟨b0,gE⟩:∃b,b=w.heap.size:=⟨_,rfl⟩;have E0:Ext w W0:=by rw[bg];exact (Ext.refl _).alloc _
 have N0:Has W0 b0 (.cells #[cu,cg] 27):=by rw[bg,gE];exact Has.new _ _
 have h0:=h.ext E0;have KR:=zH h0.BH;obtain ⟨A,cap,h1,h2,h3,h4,h5⟩:=id h0;have HZ:Hid (s.dead=true->dR s 0=20):=fun hd=>by unfold dR;rw[if_pos hd]
 have HO:Hid (s.dead=false->dR s 0=0):=fun hd=>by unfold dR;rw[if_neg (by rw[hd];decide)]
 cases hd:s.dead
 ·have KK:Hid (∀u,Ext W0 u->Calls Tryz.prog 132 #[.pointer (some ⟨g.bW,0,none⟩),.agg #[cu,cg],.int .i64 no] u (Ff u (dm s.t (aS s.t cu cg no 1 4).ae) (bf s.t cu cg no 1 4))):=by
   show ∀u,_;intro u hE;have hu:=h1.ext hE;exact GZ B g s.t cu cg no u hu hs.eE (by omega)
  have e1:Hid (nr s (dm s.t (aS s.t cu cg no 1 4).ae)=dm s.t (aS s.t cu cg no 1 4).ae):=by show _=_;unfold nr;rw[if_neg (by rw[hd];decide)]
  have e2:Hid (dR s (bf s.t cu cg no 1 4)=bf s.t cu cg no 1 4):=by show _=_;unfold dR;rw[if_neg (by rw[hd];decide)]
  rw [e1.out,e2.out];rw [HO.out hd]at KR;have HS:=zH h2;clear HO HZ h h0 h1 h2 h3 h4 hd e1 e2;obtain⟨y,hy⟩:=ar (dm s.t (aS s.t cu cg no 1 4).ae);obtain⟨z,hz⟩:=ar (bf s.t cu cg no 1 4);rw [<-hy,<-hz]at KK|-;clear hy hz;go_enter Tryz.func105,Tryz.ntmps105;go_upto_region 1 with fail;rw [<-bg,<-gE];clear bg gE;go_wp2_with fail;refine KR.out.mono ?_;rintro e w1 ⟨rfl,b1⟩;have S1:=Has.ext HS.out b1;have c0:=Has.cell S1 0;have cz:=Has.lt S1;have N1:=N0.ext b1;have d0:=N1.cell 0;have d1:=N1.cell 1;have dz:=N1.lt;go_wp2_with fail;go_region_law (go_simp;go_at_call 132;refine (KK.out _ (b1.trans (Ext.refl _).drew)).mono ?_;rintro e w2 ⟨A2,Ll,rfl,i2,b2⟩)
  all_goals
   go_wp2_with fail;go_ret2;exact ⟨A2,Ll,rfl,i2.base (E0.trans (b1.trans (Ext.refl _).drew)),E0.trans ((b1.trans (Ext.refl _).drew).trans b2)⟩
 ·have e1:Hid (nr s (dm s.t (aS s.t cu cg no 1 4).ae)=[]):=by show _=_;unfold nr;rw[if_pos hd]
  have e2:Hid (dR s (bf s.t cu cg no 1 4)=20):=by show _=_;unfold dR;rw[if_pos hd]
  rw [e1.out,e2.out];rw [HZ.out hd]at KR;clear HO HZ h h0 h1 h2 h3 h4 hd e1 e2;go_enter Tryz.func105,Tryz.ntmps105;go_upto_region 1 with fail;rw [<-bg,<-gE];clear bg gE;go_wp2_with fail;refine KR.out.mono ?_;rintro e w1 ⟨rfl,b1⟩;go_wp2_with fail;go_ret2;exact ⟨none,0,rfl,⟨.inl rfl,fun y hy=>by cases hy⟩,E0.trans b1⟩
theorem PS.find (h:PS w B b g s) (hs:fT c s) (hc:c<=900) (cu cg:Int) (p:List UInt8) (eN:Bool) (hp:p.length<=1000000) :
  Calls Tryz.prog 79 #[.pointer (some ⟨b,0,none⟩),.agg #[cu,cg],bs p,.bool eN] w (gZ w (XJ s (dP s.t cu cg p eN))):=by
 obtain ⟨W0,bg⟩:∃W,W=(w.alloc (.cells #[cu,cg] 27)).alloc (.cells #[.int .i64 0,.string ⟨#[]⟩,.int .i64 0,.bool false] 89):=⟨_,rfl⟩;obtain ⟨b5,jP⟩:∃b,b=w.heap.size:=⟨_,rfl⟩;obtain ⟨b0,gE⟩:∃b,b=w.heap.size+1:=⟨_,rfl⟩;have E0:Ext w W0:=by rw[bg];exact ((Ext.refl _).alloc _).alloc _
 have R0:Has W0 b0 (.cells (fj bu).toArray 89):=by rw[bg,gE];have:=Has.new (w.alloc (.cells #[cu,cg] 27)) (.cells #[.int .i64 0,.string ⟨#[]⟩,.int .i64 0,.bool false] 89);rw[World.size_alloc]at this;exact this
 have C0:Has W0 b5 (.cells #[cu,cg] 27):=by rw[bg,jP];exact (Has.new w _).alloc _
 have vQ:w.heap.size<=b0:=by omega
 have h0:=h.ext E0;have KR:=zH h0.BH;obtain ⟨A,cap,h1,h2,h3,h4,h5⟩:=id h0;have HZ:Hid (s.dead=true->dR s 0=20):=fun hd=>by unfold dR;rw[if_pos hd]
 have HO:Hid (s.dead=false->dR s 0=0):=fun hd=>by unfold dR;rw[if_neg (by rw[hd];decide)]
 cases hd:s.dead
 ·have KK:Hid (∀u,Ext W0 u->Calls Tryz.prog 112 #[.pointer (some ⟨g.bW,0,none⟩),.agg #[cu,cg],bs p,.bool eN] u (gZ u (dP s.t cu cg p eN))):=by
   show ∀u,_;intro u hE;exact BB B g s.t cu cg p eN u (h1.ext hE) hs.eE (by omega) hp
  have e1:Hid (XJ s (dP s.t cu cg p eN)=dP s.t cu cg p eN):=by show _=_;unfold XJ;rw[if_neg (by rw[hd];decide)]
  rw [e1.out];rw [HO.out hd]at KR;have HS:=zH h2;clear HO HZ h h0 h1 h2 h3 h4 hd e1;obtain⟨P,hP⟩:=ar (bs p);rw [<-hP]at KK|-;obtain⟨R,hR⟩:=ar (dP s.t cu cg p eN);rw [<-hR]at KK|-;clear hP hR;obtain ⟨rd,re⟩:=R;unfold gZ at KK;go_enter Tryz.func79,Tryz.ntmps79;go_upto_region 1 with fail;rw [show (w.alloc _).alloc _=W0 from bg.symm,<-gE,<-jP];clear bg gE jP;go_wp2_with fail;refine KR.out.mono ?_;rintro e w1 ⟨rfl,b1⟩;have S1:=Has.ext HS.out b1;have c0:=Has.cell S1 0;have cz:=Has.lt S1;have N1:=C0.ext b1;have d0:=N1.cell 0;have d1:=N1.cell 1;have dz:=N1.lt;have R1:=R0.ext b1;go_wp2_with fail;go_region_law (go_simp;go_at_call 112;refine (KK.out _ (b1.trans (Ext.refl _).drew)).mono ?_;rintro e w2 ⟨rfl,b2⟩;have R2:=R1.ext ((Ext.refl w1).drew.trans b2);have r0:=R2.cell 0;have r1:=R2.cell 1;have r2:=R2.cell 2;have r3:=R2.cell 3;have g0:=R2.free 0;have g1:=R2.free 1;have g2:=R2.free 2;have g3:=R2.free 3;have rz:=R2.lt)
  all_goals
   obtain ⟨R9,O9⟩:=eX rd R2;go_wp2_with fail;refine bodyPost_ret (v:=.tuple #[.agg (fj rd).toArray,.int .i64 re]) (cB Tryz.results79 _ _ b0 rd _ rfl rfl R9) rfl ?_;exact gZ.mk (E0.trans ((b1.trans (Ext.refl _).drew).trans b2)) vQ O9 rfl
 ·have e1:Hid (XJ s (dP s.t cu cg p eN)=(bu,20)):=by show _=_;unfold XJ;rw[if_pos hd]
  rw [e1.out];rw [HZ.out hd]at KR;clear HO HZ h h0 h1 h2 h3 h4 hd e1;go_enter Tryz.func79,Tryz.ntmps79;go_upto_region 1 with fail;rw [show (w.alloc _).alloc _=W0 from bg.symm,<-gE,<-jP];clear bg gE jP;go_wp2_with fail;refine KR.out.mono ?_;rintro e w1 ⟨rfl,b1⟩;have R1:=R0.ext b1;go_wp2_with (refine cq rfl _ _ rfl b0 bu bu rfl rfl R1 ?_;intro w9 R9 O9);refine bodyPost_ret (v:=.tuple #[.agg (fj bu).toArray,.int .i64 20]) (cB Tryz.results79 _ _ b0 bu _ rfl rfl R9) rfl ?_;exact gZ.mk (E0.trans b1) vQ O9 rfl
end
end
section
open Go.ChangeShapes Go.WideShapes Go.ChangeAt Go.RowKit
section
variable {c:Nat} {w:World} {B:Nat} {f:cJ} {s:aA}
end
end
end Go.Proofs.YtblbohcaphcobaaGreatDoor
