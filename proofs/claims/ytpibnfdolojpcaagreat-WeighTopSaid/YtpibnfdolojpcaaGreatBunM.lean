import Derived.Test.YtpibnfdolojpcaaGreatBunK
import Derived.Test.YtpibnfdolojpcaaGreatBunJ
import Derived.Test.YtpibnfdolojpcaaGreatBunL
import Derived.Test.YtpibnfdolojpcaaGreatBunC
set_option maxHeartbeats 4000000
set_option maxRecDepth 100000
namespace Go.Proofs.YtpibnfdolojpcaaGreat
open Go.ChangeShapes Go.WideShapes Go.ChangeAt Go.RowKit
def rdE (s:SysD) (e:Int):Int:=if s.dead=true then 20 else e
def rdN (s:SysD) (n:Int):Int:=if s.dead=true then 0 else n
def rdL {α:Type} (s:SysD) (l:List α):List α:=if s.dead=true then [] else l
def rdM (s:SysD) (n:NodeD):NodeD:=if s.dead=true then nodeZ else n
def rdF (s:SysD) (x:FndD×Int):FndD×Int:=if s.dead=true then (fndZ,20) else x
section
variable {c:Nat} {w:World} {B b:Nat} {g:GhW} {s:SysD}
theorem PS.stat (h:PS w B b g s) (hs:Sane c s) (no:Int) :
  Calls Tryz.prog 45 #[.pointer (some ⟨b,0,none⟩),.int .i64 no] w (Ret w (.tuple #[statV (rdM s (getN s.t.nodes no)),.int .i64 (rdE s (statE s.t no))])):=by
 obtain ⟨A,cap,h1,h2,h3,h4,h5⟩:=h;unfold rdM rdE
 cases hd:s.dead
 ·rw [hd]at h2
  rw [if_neg (by decide),if_neg (by decide)];exact statLive w h2 h1 hs.tre.devs
 ·rw [hd]at h2
  rw [if_pos rfl,if_pos rfl];exact statDead w h2
theorem PS.read_ (h:PS w B b g s):Calls Tryz.prog 54 #[.pointer (some ⟨b,0,none⟩)] w (Ret w (.int .i64 (rdE s 0))):=by
 obtain ⟨A,cap,h1,h2,h3,h4,h5⟩:=h;exact readS w h2
theorem PS.look (h:PS w B b g s) (hs:Sane c s) (hc:c≤900) (cu cg dir:Int) (nm:List UInt8) :
  Calls Tryz.prog 28 #[.pointer (some ⟨b,0,none⟩),.agg #[.int .i64 cu,.int .i64 cg],.int .i64 dir,.string (bs nm)] w (Ret w (.tuple #[.int .i64 (rdN s (lookN s.t cu cg dir nm)),.int .i64 (rdE s (lookE s.t cu cg dir nm))])):=by
 obtain ⟨W0,hW0⟩:∃W,W=w.alloc (.cells #[.int .i64 cu,.int .i64 cg] 27):=⟨_,rfl⟩;obtain ⟨b0,hb0⟩:∃b,b=w.heap.size:=⟨_,rfl⟩;have E0:Ext w W0:=by rw[hW0];exact (Ext.refl _).alloc _
 have N0:Has W0 b0 (.cells #[.int .i64 cu,.int .i64 cg] 27):=by rw[hW0,hb0];exact Has.new _ _
 have h0:=h.ext E0;have KR:=zH h0.read_;obtain ⟨A,cap,h1,h2,h3,h4,h5⟩:=id h0;have HZ:Hid (s.dead=true→rdE s 0=20):=fun hd=>by unfold rdE;rw[if_pos hd]
 have HO:Hid (s.dead=false→rdE s 0=0):=fun hd=>by unfold rdE;rw[if_neg (by rw[hd];decide)]
 cases hd:s.dead
 ·have KK:Hid (∀u,Ext W0 u→Calls Tryz.prog 55 #[.pointer (some ⟨g.bW,0,none⟩),.agg #[.int .i64 cu,.int .i64 cg],.int .i64 dir,.string (bs nm)] u (Ret u (.tuple #[.int .i64 (lookN s.t cu cg dir nm),.int .i64 (lookE s.t cu cg dir nm)]))):=by
   show ∀u,_;intro u hE;have hu:=h1.ext hE;exact plook_any B g s.t cu cg dir nm u hu hs.tre (by omega) (by have:=hs.lastP hc;omega)
  have e1:Hid (Value.int .i64 (rdN s (lookN s.t cu cg dir nm))=.int .i64 (lookN s.t cu cg dir nm)):=by show _=_;unfold rdN;rw[if_neg (by rw[hd];decide)]
  have e2:Hid (rdE s (lookE s.t cu cg dir nm)=lookE s.t cu cg dir nm):=by show _=_;unfold rdE;rw[if_neg (by rw[hd];decide)]
  rw [e1.out,e2.out];rw [HO.out hd]at KR;have HS:=zH h2;clear HO HZ h h0 h1 h2 h3 h4 hd e1 e2;obtain ⟨y,hy⟩:∃y:Value,y=.int .i64 (lookN s.t cu cg dir nm):=⟨_,rfl⟩;obtain ⟨z,hz⟩:∃z,z=lookE s.t cu cg dir nm:=⟨_,rfl⟩;rw [←hy,←hz]at KK⊢;clear hy hz;go_enter Tryz.func28,Tryz.ntmps28;go_upto_region 1 with fail;rw [←hW0,←hb0];clear hW0 hb0;go_wp2_with fail;refine KR.out.mono ?_;rintro e w1 ⟨rfl,b1⟩;have S1:=Has.ext HS.out b1;have c0:=Has.cell S1 0;have cz:=Has.lt S1;have N1:=N0.ext b1;have d0:=N1.cell 0;have d1:=N1.cell 1;have dz:=N1.lt;go_wp2_with fail;go_region_with (go_at_call 55;refine (KK.out _ (b1.trans (Ext.refl _).drew)).mono ?_;rintro e w2 ⟨rfl,b2⟩)
  all_goals
   go_wp2_with fail;go_ret2;exact Ret.mk rfl (E0.trans ((b1.trans (Ext.refl _).drew).trans b2))
 ·have e1:Hid (Value.int .i64 (rdN s (lookN s.t cu cg dir nm))=.int .i64 0):=by show _=_;unfold rdN;rw[if_pos hd]
  have e2:Hid (rdE s (lookE s.t cu cg dir nm)=20):=by show _=_;unfold rdE;rw[if_pos hd]
  rw [e1.out,e2.out];rw [HZ.out hd]at KR;clear HO HZ h h0 h1 h2 h3 h4 hd e1 e2;go_enter Tryz.func28,Tryz.ntmps28;go_upto_region 1 with fail;rw [←hW0,←hb0];clear hW0 hb0;go_wp2_with fail;refine KR.out.mono ?_;rintro e w1 ⟨rfl,b1⟩;go_wp2_with fail;go_ret2;exact Ret.mk rfl (E0.trans b1)
theorem PS.list (h:PS w B b g s) (hs:Sane c s) (hc:c≤900) (cu cg no:Int) :
  Calls Tryz.prog 102 #[.pointer (some ⟨b,0,none⟩),.agg #[.int .i64 cu,.int .i64 cg],.int .i64 no] w (ListQ w (rdL s (listF s.t (openN s.t cu cg no 1 4).ents)) (rdE s (openE s.t cu cg no 1 4))):=by
 obtain ⟨W0,hW0⟩:∃W,W=w.alloc (.cells #[.int .i64 cu,.int .i64 cg] 27):=⟨_,rfl⟩;obtain ⟨b0,hb0⟩:∃b,b=w.heap.size:=⟨_,rfl⟩;have E0:Ext w W0:=by rw[hW0];exact (Ext.refl _).alloc _
 have N0:Has W0 b0 (.cells #[.int .i64 cu,.int .i64 cg] 27):=by rw[hW0,hb0];exact Has.new _ _
 have h0:=h.ext E0;have KR:=zH h0.read_;obtain ⟨A,cap,h1,h2,h3,h4,h5⟩:=id h0;have HZ:Hid (s.dead=true→rdE s 0=20):=fun hd=>by unfold rdE;rw[if_pos hd]
 have HO:Hid (s.dead=false→rdE s 0=0):=fun hd=>by unfold rdE;rw[if_neg (by rw[hd];decide)]
 cases hd:s.dead
 ·have KK:Hid (∀u,Ext W0 u→Calls Tryz.prog 150 #[.pointer (some ⟨g.bW,0,none⟩),.agg #[.int .i64 cu,.int .i64 cg],.int .i64 no] u (ListQ u (listF s.t (openN s.t cu cg no 1 4).ents) (openE s.t cu cg no 1 4))):=by
   show ∀u,_;intro u hE;have hu:=h1.ext hE;exact plist_any B g s.t cu cg no u hu hs.tre (by omega)
  have e1:Hid (rdL s (listF s.t (openN s.t cu cg no 1 4).ents)=listF s.t (openN s.t cu cg no 1 4).ents):=by show _=_;unfold rdL;rw[if_neg (by rw[hd];decide)]
  have e2:Hid (rdE s (openE s.t cu cg no 1 4)=openE s.t cu cg no 1 4):=by show _=_;unfold rdE;rw[if_neg (by rw[hd];decide)]
  rw [e1.out,e2.out];rw [HO.out hd]at KR;have HS:=zH h2;clear HO HZ h h0 h1 h2 h3 h4 hd e1 e2;obtain ⟨y,hy⟩:∃y,y=listF s.t (openN s.t cu cg no 1 4).ents:=⟨_,rfl⟩;obtain ⟨z,hz⟩:∃z,z=openE s.t cu cg no 1 4:=⟨_,rfl⟩;rw [←hy,←hz]at KK⊢;clear hy hz;go_enter Tryz.func102,Tryz.ntmps102;go_upto_region 1 with fail;rw [←hW0,←hb0];clear hW0 hb0;go_wp2_with fail;refine KR.out.mono ?_;rintro e w1 ⟨rfl,b1⟩;have S1:=Has.ext HS.out b1;have c0:=Has.cell S1 0;have cz:=Has.lt S1;have N1:=N0.ext b1;have d0:=N1.cell 0;have d1:=N1.cell 1;have dz:=N1.lt;go_wp2_with fail;go_region_law (go_simp;go_at_call 150;refine (KK.out _ (b1.trans (Ext.refl _).drew)).mono ?_;rintro e w2 ⟨A2,cap2,rfl,i2,b2⟩)
  all_goals
   go_wp2_with fail;go_ret2;exact ⟨A2,cap2,rfl,i2,E0.trans ((b1.trans (Ext.refl _).drew).trans b2)⟩
 ·have e1:Hid (rdL s (listF s.t (openN s.t cu cg no 1 4).ents)=[]):=by show _=_;unfold rdL;rw[if_pos hd]
  have e2:Hid (rdE s (openE s.t cu cg no 1 4)=20):=by show _=_;unfold rdE;rw[if_pos hd]
  rw [e1.out,e2.out];rw [HZ.out hd]at KR;clear HO HZ h h0 h1 h2 h3 h4 hd e1 e2;go_enter Tryz.func102,Tryz.ntmps102;go_upto_region 1 with fail;rw [←hW0,←hb0];clear hW0 hb0;go_wp2_with fail;refine KR.out.mono ?_;rintro e w1 ⟨rfl,b1⟩;go_wp2_with fail;go_ret2;exact ⟨none,0,rfl,.inl rfl,E0.trans b1⟩
theorem PS.find (h:PS w B b g s) (hs:Sane c s) (hc:c≤900) (cu cg:Int) (p:List UInt8) (fol:Bool) (hp:p.length≤1000000) :
  Calls Tryz.prog 110 #[.pointer (some ⟨b,0,none⟩),.agg #[.int .i64 cu,.int .i64 cg],.string (bs p),.bool fol] w (FndR w (rdF s (pathF s.t cu cg p fol))):=by
 obtain ⟨W0,hW0⟩:∃W,W=(w.alloc (.cells #[.int .i64 cu,.int .i64 cg] 27)).alloc (.cells #[.int .i64 0,.string ⟨#[]⟩,.int .i64 0,.bool false] 82):=⟨_,rfl⟩;obtain ⟨b5,hb5⟩:∃b,b=w.heap.size:=⟨_,rfl⟩;obtain ⟨b0,hb0⟩:∃b,b=w.heap.size+1:=⟨_,rfl⟩;have E0:Ext w W0:=by rw[hW0];exact ((Ext.refl _).alloc _).alloc _
 have R0:Has W0 b0 (.cells (fndC fndZ).toArray 82):=by rw[hW0,hb0];have:=Has.new (w.alloc (.cells #[.int .i64 cu,.int .i64 cg] 27)) (.cells #[.int .i64 0,.string ⟨#[]⟩,.int .i64 0,.bool false] 82);rw[World.size_alloc]at this;exact this
 have C0:Has W0 b5 (.cells #[.int .i64 cu,.int .i64 cg] 27):=by rw[hW0,hb5];exact (Has.new w _).alloc _
 have hbw:w.heap.size≤b0:=by omega
 have h0:=h.ext E0;have KR:=zH h0.read_;obtain ⟨A,cap,h1,h2,h3,h4,h5⟩:=id h0;have HZ:Hid (s.dead=true→rdE s 0=20):=fun hd=>by unfold rdE;rw[if_pos hd]
 have HO:Hid (s.dead=false→rdE s 0=0):=fun hd=>by unfold rdE;rw[if_neg (by rw[hd];decide)]
 cases hd:s.dead
 ·have KK:Hid (∀u,Ext W0 u→Calls Tryz.prog 155 #[.pointer (some ⟨g.bW,0,none⟩),.agg #[.int .i64 cu,.int .i64 cg],.string (bs p),.bool fol] u (FndR u (pathF s.t cu cg p fol))):=by
   show ∀u,_;intro u hE;exact ppath15_any B g s.t cu cg p fol u (h1.ext hE) hs.tre (by omega) hp
  have e1:Hid (rdF s (pathF s.t cu cg p fol)=pathF s.t cu cg p fol):=by show _=_;unfold rdF;rw[if_neg (by rw[hd];decide)]
  rw [e1.out];rw [HO.out hd]at KR;have HS:=zH h2;clear HO HZ h h0 h1 h2 h3 h4 hd e1;obtain ⟨P,hP⟩:∃P,P=bs p:=⟨_,rfl⟩;rw [←hP]at KK⊢;obtain ⟨R,hR⟩:∃R,R=pathF s.t cu cg p fol:=⟨_,rfl⟩;rw [←hR]at KK⊢;clear hP hR;obtain ⟨rd,re⟩:=R;unfold FndR at KK;go_enter Tryz.func110,Tryz.ntmps110;go_upto_region 1 with fail;rw [show (w.alloc _).alloc _=W0 from hW0.symm,←hb0,←hb5];clear hW0 hb0 hb5;go_wp2_with fail;refine KR.out.mono ?_;rintro e w1 ⟨rfl,b1⟩;have S1:=Has.ext HS.out b1;have c0:=Has.cell S1 0;have cz:=Has.lt S1;have N1:=C0.ext b1;have d0:=N1.cell 0;have d1:=N1.cell 1;have dz:=N1.lt;have R1:=R0.ext b1;go_wp2_with fail;go_region_law (go_simp;go_at_call 155;refine (KK.out _ (b1.trans (Ext.refl _).drew)).mono ?_;rintro e w2 ⟨rfl,b2⟩;have R2:=R1.ext ((Ext.refl w1).drew.trans b2);have r0:=R2.cell 0;have r1:=R2.cell 1;have r2:=R2.cell 2;have r3:=R2.cell 3;have g0:=R2.free 0;have g1:=R2.free 1;have g2:=R2.free 2;have g3:=R2.free 3;have rz:=R2.lt)
  all_goals
   obtain ⟨R9,O9⟩:=found_set rd R2;go_wp2_with fail;refine bodyPost_ret (v:=.tuple #[.agg (fndC rd).toArray,.int .i64 re]) (res_found Tryz.results110 _ _ b0 rd _ rfl rfl R9) rfl ?_;exact FndR.mk (E0.trans ((b1.trans (Ext.refl _).drew).trans b2)) hbw O9 rfl
 ·have e1:Hid (rdF s (pathF s.t cu cg p fol)=(fndZ,20)):=by show _=_;unfold rdF;rw[if_pos hd]
  rw [e1.out];rw [HZ.out hd]at KR;clear HO HZ h h0 h1 h2 h3 h4 hd e1;go_enter Tryz.func110,Tryz.ntmps110;go_upto_region 1 with fail;rw [show (w.alloc _).alloc _=W0 from hW0.symm,←hb0,←hb5];clear hW0 hb0 hb5;go_wp2_with fail;refine KR.out.mono ?_;rintro e w1 ⟨rfl,b1⟩;have R1:=R0.ext b1;go_wp2_with (refine wpList_store_found rfl _ _ rfl b0 fndZ fndZ rfl rfl R1 ?_;intro w9 R9 O9);refine bodyPost_ret (v:=.tuple #[.agg (fndC fndZ).toArray,.int .i64 20]) (res_found Tryz.results110 _ _ b0 fndZ _ rfl rfl R9) rfl ?_;exact FndR.mk (E0.trans b1) hbw O9 rfl
end
end Go.Proofs.YtpibnfdolojpcaaGreat
namespace Go.Proofs.YtpibnfdolojpcaaGreat
open Go.ChangeShapes Go.WideShapes Go.ChangeAt Go.RowKit
theorem RS.deadC {w:World} {B:Nat} {f:GhF} {s:SysD} (h:RS w B f s):w.cell? ⟨f.bF,6,none⟩=some (.bool s.dead)∧f.bF<w.heap.size:=by
 obtain ⟨A,cap,h,_⟩:=h;obtain ⟨_,_,c6,_,_,z⟩:=h.cells7;exact ⟨c6,z⟩
section
variable {c:Nat} {w:World} {B:Nat} {f:GhF} {s:SysD}
theorem RS.stat21 (h:RS w B f s) (hs:Sane c s) (hc:c≤900) (no:Int) :
  Calls Tryz.prog 91 #[.pointer (some ⟨f.bF,0,none⟩),.int .i64 no] w (Ret w (.tuple #[statV (rdM s (getN s.t.nodes no)),.int .i64 (rdE s (statE s.t no))])):=by
 obtain ⟨W0,hW0⟩:∃W,W=w.alloc (.cells #[.int .i64 0,.int .i64 0,.int .i64 0,.int .i64 0,.int .i64 0,.int .i64 0,.int .i64 0,.int .i64 0,.int .i64 0,.int .i64 0] 95):=⟨_,rfl⟩;obtain ⟨b0,hb0⟩:∃b,b=w.heap.size:=⟨_,rfl⟩;have E0:Ext w W0:=by rw[hW0];exact (Ext.refl _).alloc _
 have R0:Has W0 b0 (.cells #[.int .i64 nodeZ.no,.int .i64 nodeZ.dev,.int .i64 nodeZ.kind,.int .i64 nodeZ.mode,.int .i64 nodeZ.uid,.int .i64 nodeZ.gid,.int .i64 nodeZ.links,.int .i64 nodeZ.data.length,.int .i64 nodeZ.mtime,.int .i64 nodeZ.ctime] 95):=by rw[hW0,hb0];exact Has.new _ _
 have hbw:w.heap.size≤b0:=by omega
 have h0:=h.ext E0;obtain ⟨c6,cz⟩:=h0.deadC;obtain ⟨X,F0⟩:=h0.fat;have hcount:=hs.tre.count;have hlast:=hs.lastP hc;have KS:Hid (Calls Tryz.prog 135 #[.pointer (some ⟨f.bF,0,none⟩),.int .i64 no] W0 (Ret W0 (.tuple #[statV (getN s.t.nodes no),.int .i64 (statE s.t no)]))):=rstat_any B f s.t X no W0 F0 (by omega) hs.tre.nos;unfold rdM rdE
 cases hd:s.dead
 ·rw [if_neg (by decide),if_neg (by decide)]
  rw [hd]at c6;clear h h0 F0 hs hd hcount hlast;obtain ⟨m,hm⟩:∃m,m=getN s.t.nodes no:=⟨_,rfl⟩;obtain ⟨x,hx⟩:∃x,x=statE s.t no:=⟨_,rfl⟩;rw [←hm,←hx]at KS⊢;clear hm hx;unfold statV at KS;go_enter Tryz.func91,Tryz.ntmps91;go_upto_region 1 with fail;rw [show w.alloc _=W0 from hW0.symm,←hb0];clear hW0 hb0;go_wp2_with fail;refine KS.out.mono ?_;rintro e w2 ⟨rfl,b2⟩;have R2:=R0.ext b2;have E2:=E0.trans b2;go_wp2_with (refine wpList_store_stat rfl _ _ rfl b0 m rfl rfl R2 ?_;intro w9 R9 O9);refine bodyPost_ret (v:=.tuple #[.agg #[.int .i64 m.no,.int .i64 m.dev,.int .i64 m.kind,.int .i64 m.mode,.int .i64 m.uid,.int .i64 m.gid,.int .i64 m.links,.int .i64 m.data.length,.int .i64 m.mtime,.int .i64 m.ctime],.int .i64 x]) (res_stat Tryz.results91 _ _ b0 m _ rfl rfl R9) rfl ?_;exact ⟨rfl,O9.after E2 (by simpa using hbw)⟩
 ·rw [if_pos rfl,if_pos rfl]
  rw [hd]at c6;clear h h0 F0 hs hd hcount hlast KS;go_enter Tryz.func91,Tryz.ntmps91;go_upto_region 1 with fail;rw [show w.alloc _=W0 from hW0.symm,←hb0];clear hW0 hb0;go_wp2_with (refine wpList_store_stat rfl _ _ rfl b0 nodeZ rfl rfl R0 ?_;intro w9 R9 O9);refine bodyPost_ret (v:=.tuple #[.agg #[.int .i64 nodeZ.no,.int .i64 nodeZ.dev,.int .i64 nodeZ.kind,.int .i64 nodeZ.mode,.int .i64 nodeZ.uid,.int .i64 nodeZ.gid,.int .i64 nodeZ.links,.int .i64 nodeZ.data.length,.int .i64 nodeZ.mtime,.int .i64 nodeZ.ctime],.int .i64 20]) (res_stat Tryz.results91 _ _ b0 nodeZ _ rfl rfl R9) rfl ?_;exact ⟨rfl,O9.after E0 (by simpa using hbw)⟩
theorem RS.look21 (h:RS w B f s) (hs:Sane c s) (hc:c≤900) (cu cg dir:Int) (nm:List UInt8) :
  Calls Tryz.prog 43 #[.pointer (some ⟨f.bF,0,none⟩),.agg #[.int .i64 cu,.int .i64 cg],.int .i64 dir,.string (bs nm)] w (Ret w (.tuple #[.int .i64 (rdN s (lookN s.t cu cg dir nm)),.int .i64 (rdE s (lookE s.t cu cg dir nm))])):=by
 obtain ⟨W0,hW0⟩:∃W,W=w.alloc (.cells #[.int .i64 cu,.int .i64 cg] 27):=⟨_,rfl⟩;obtain ⟨b0,hb0⟩:∃b,b=w.heap.size:=⟨_,rfl⟩;have E0:Ext w W0:=by rw[hW0];exact (Ext.refl _).alloc _
 have N0:Has W0 b0 (.cells #[.int .i64 cu,.int .i64 cg] 27):=by rw[hW0,hb0];exact Has.new _ _
 have d0:=N0.cell 0;have d1:=N0.cell 1;have dz:=N0.lt;have h0:=h.ext E0;obtain ⟨c6,cz⟩:=h0.deadC;obtain ⟨X,F0⟩:=h0.fat;have hcount:=hs.tre.count;have hlast:=hs.lastP hc;have KS:Hid (∀u,Ext W0 u→Calls Tryz.prog 90 #[.pointer (some ⟨f.bF,0,none⟩),.agg #[.int .i64 cu,.int .i64 cg],.int .i64 dir,.string (bs nm)] u (Ret u (.tuple #[.int .i64 (lookN s.t cu cg dir nm),.int .i64 (lookE s.t cu cg dir nm)]))):=by
  show ∀u,_;intro u hE;have hu:=F0.ext hE;exact rlook_any B f s.t X cu cg dir nm u hu hs.tre (by omega) (by omega)
 cases hd:s.dead
 ·have e1:Hid (Value.int .i64 (rdN s (lookN s.t cu cg dir nm))=.int .i64 (lookN s.t cu cg dir nm)):=by show _=_;unfold rdN;rw[if_neg (by rw[hd];decide)]
  have e2:Hid (rdE s (lookE s.t cu cg dir nm)=lookE s.t cu cg dir nm):=by show _=_;unfold rdE;rw[if_neg (by rw[hd];decide)]
  rw [e1.out,e2.out];rw [hd]at c6;clear h h0 F0 hs hd hcount hlast e1 e2;obtain ⟨y,hy⟩:∃y:Value,y=.int .i64 (lookN s.t cu cg dir nm):=⟨_,rfl⟩;obtain ⟨z,hz⟩:∃z,z=lookE s.t cu cg dir nm:=⟨_,rfl⟩;rw [←hy,←hz]at KS⊢;clear hy hz;go_enter Tryz.func43,Tryz.ntmps43;go_upto_region 1 with fail;rw [show w.alloc _=W0 from hW0.symm,←hb0];clear hW0 hb0;go_wp2_with fail;refine (KS.out _ (Ext.refl _)).mono ?_;rintro e w2 ⟨rfl,b2⟩;go_wp2_with fail;go_ret2;exact Ret.mk rfl (E0.trans b2)
 ·have e1:Hid (Value.int .i64 (rdN s (lookN s.t cu cg dir nm))=.int .i64 0):=by show _=_;unfold rdN;rw[if_pos hd]
  have e2:Hid (rdE s (lookE s.t cu cg dir nm)=20):=by show _=_;unfold rdE;rw[if_pos hd]
  rw [e1.out,e2.out];rw [hd]at c6;clear h h0 F0 hs hd hcount hlast e1 e2 KS;go_enter Tryz.func43,Tryz.ntmps43;go_upto_region 1 with fail;rw [show w.alloc _=W0 from hW0.symm,←hb0];clear hW0 hb0;go_wp2_with fail;go_ret2;exact Ret.mk rfl E0
theorem RS.list21 (h:RS w B f s) (hs:Sane c s) (hc:c≤900) (cu cg no:Int) :
  Calls Tryz.prog 92 #[.pointer (some ⟨f.bF,0,none⟩),.agg #[.int .i64 cu,.int .i64 cg],.int .i64 no] w (ListQ w (rdL s (listF s.t (openN s.t cu cg no 1 4).ents)) (rdE s (openE s.t cu cg no 1 4))):=by
 obtain ⟨W0,hW0⟩:∃W,W=w.alloc (.cells #[.int .i64 cu,.int .i64 cg] 27):=⟨_,rfl⟩;obtain ⟨b0,hb0⟩:∃b,b=w.heap.size:=⟨_,rfl⟩;have E0:Ext w W0:=by rw[hW0];exact (Ext.refl _).alloc _
 have N0:Has W0 b0 (.cells #[.int .i64 cu,.int .i64 cg] 27):=by rw[hW0,hb0];exact Has.new _ _
 have d0:=N0.cell 0;have d1:=N0.cell 1;have dz:=N0.lt;have h0:=h.ext E0;obtain ⟨c6,cz⟩:=h0.deadC;obtain ⟨X,F0⟩:=h0.fat;have hcount:=hs.tre.count;have hlast:=hs.lastP hc;have KS:Hid (∀u,Ext W0 u→Calls Tryz.prog 136 #[.pointer (some ⟨f.bF,0,none⟩),.agg #[.int .i64 cu,.int .i64 cg],.int .i64 no] u (ListQ u (listF s.t (openN s.t cu cg no 1 4).ents) (openE s.t cu cg no 1 4))):=by
  show ∀u,_;intro u hE;have hu:=F0.ext hE;exact rlist_any B f s.t X cu cg no u hu (by have:=hs.tre.count;omega) hs.tre.nos (by have:=hs.tre.eight;omega) (by have:=(hs.tre.openN cu cg no 1 4).2;omega)
 cases hd:s.dead
 ·have e1:Hid (rdL s (listF s.t (openN s.t cu cg no 1 4).ents)=listF s.t (openN s.t cu cg no 1 4).ents):=by show _=_;unfold rdL;rw[if_neg (by rw[hd];decide)]
  have e2:Hid (rdE s (openE s.t cu cg no 1 4)=openE s.t cu cg no 1 4):=by show _=_;unfold rdE;rw[if_neg (by rw[hd];decide)]
  rw [e1.out,e2.out];rw [hd]at c6;clear h h0 F0 hs hd hcount hlast e1 e2;obtain ⟨y,hy⟩:∃y,y=listF s.t (openN s.t cu cg no 1 4).ents:=⟨_,rfl⟩;obtain ⟨z,hz⟩:∃z,z=openE s.t cu cg no 1 4:=⟨_,rfl⟩;rw [←hy,←hz]at KS⊢;clear hy hz;go_enter Tryz.func92,Tryz.ntmps92;go_upto_region 1 with fail;rw [show w.alloc _=W0 from hW0.symm,←hb0];clear hW0 hb0;go_wp2_with fail;refine (KS.out _ (Ext.refl _)).mono ?_;rintro e w2 ⟨A2,cap2,rfl,i2,b2⟩;go_wp2_with fail;go_ret2;exact ⟨A2,cap2,rfl,i2,E0.trans b2⟩
 ·have e1:Hid (rdL s (listF s.t (openN s.t cu cg no 1 4).ents)=[]):=by show _=_;unfold rdL;rw[if_pos hd]
  have e2:Hid (rdE s (openE s.t cu cg no 1 4)=20):=by show _=_;unfold rdE;rw[if_pos hd]
  rw [e1.out,e2.out];rw [hd]at c6;clear h h0 F0 hs hd hcount hlast e1 e2 KS;go_enter Tryz.func92,Tryz.ntmps92;go_upto_region 1 with fail;rw [show w.alloc _=W0 from hW0.symm,←hb0];clear hW0 hb0;go_wp2_with fail;go_ret2;exact ⟨none,0,rfl,.inl rfl,E0⟩
end
end Go.Proofs.YtpibnfdolojpcaaGreat
