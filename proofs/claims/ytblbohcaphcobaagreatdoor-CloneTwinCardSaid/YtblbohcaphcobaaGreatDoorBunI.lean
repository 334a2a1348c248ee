import Derived.Test.YtblbohcaphcobaaGreatDoorBunH
import Derived.Test.YtblbohcaphcobaaGreatDoorShelf
import Derived.Test.YtblbohcaphcobaaGreatDoorBunD
import Derived.Test.YtblbohcaphcobaaGreatDoorBunF
import Derived.Test.YtblbohcaphcobaaGreatDoorBunE
import Derived.Test.YtblbohcaphcobaaGreatDoorBunA
import Derived.Test.YtblbohcaphcobaaGreatDoorBunG
import Derived.Deep.CutBlock
set_option maxHeartbeats 4000000
set_option maxRecDepth 100000
namespace Go.Proofs.YtblbohcaphcobaaGreatDoor
section
open Go.ChangeShapes Go.WideShapes Go.ChangeAt Go.RowKit
def Fb (w:World) (B:Nat) (g:bQ) (T:ac) (a x:Int) (e:Ending) (w':World):Prop:=e=.returned (.tuple #[.int .i64 a,.int .i64 x])/\eD w' B g T/\Only g.list w w'
theorem un {w w':World} {B:Nat} {g:bQ} {S T:ac} {p a x:Int} (h:eD w B g S) (hE:Ext w w') (hp:p≠0):Fb w B g (dM p S T) (ig p a) (fQ p x) (.returned (.tuple #[.int .i64 0,.int .i64 p])) w':=
 ⟨by unfold ig fQ;rw[if_pos hp,if_pos hp],by unfold dM;rw[if_pos hp];exact h.ext hE,Only.aw hE⟩
theorem AX (l:List UInt8) (c:UInt8):decide (0<=Lib.indexByte l c)=hasB l c:=by
 rw [<-Lib.contains_iff_indexByte,Bool.eq_iff_iff];simp [hasB]
theorem Ky (B:Nat) (g:bQ) (S:ac) (cu cg now dir:Int) (nm:List UInt8) (mode:Int) (w:World) (h:eD w B g S) (O:Ok S) (g_:S.last<=100000) :
  Calls Tryz.prog 99 #[.pointer (some ⟨g.bW,0,none⟩),.agg #[cu,cg],.int .i64 now,.int .i64 dir,bs nm,.int .i64 mode] w
   (Fb w B g (dM (lO mode) S (aX S cu cg now dir nm (dV mode dir))) (ig (lO mode) (dh S cu cg now dir nm (dV mode dir))) (fQ (lO mode) (bL S cu cg now dir nm (dV mode dir)))):=by
 obtain⟨W0,bg⟩:=ar (w.alloc (.cells #[cu,cg] 27));have E0:Ext w W0:=by rw[bg];exact (Ext.refl _).alloc _
 have C0:Has W0 w.heap.size (.cells #[cu,cg] 27):=by rw[bg];exact Has.new w _
 have x0:W0.cell? ⟨w.heap.size,0,none⟩=some (.int .i64 cu):=C0.cell 0;have x1:W0.cell? ⟨w.heap.size,1,none⟩=some (.int .i64 cg):=C0.cell 1;have xz:=C0.lt;have HO:=zH O;obtain⟨p,hp⟩:=ar (lO mode);have HS:Hid (∀(w':World) (x:Int),Ext w w'->p=x->x≠0->Fb w B g (dM p S (aX S cu cg now dir nm (dV mode dir))) (ig p (dh S cu cg now dir nm (dV mode dir))) (fQ p (bL S cu cg now dir nm (dV mode dir))) (.returned (.tuple #[.int .i64 0,.int .i64 x])) w'):=by
  show ∀(w':World) (x:Int),_;intro w' x hE hx h0;subst hx;exact un h hE h0
 have HD:Hid (∀(e:Ending) (w':World),yF W0 B g S cu cg now dir nm (dV mode dir) e w'->p=0->e=.returned (.tuple #[.int .i64 (dh S cu cg now dir nm (dV mode dir)),.int .i64 (bL S cu cg now dir nm (dV mode dir))])/\Fb w B g (dM p S (aX S cu cg now dir nm (dV mode dir))) (ig p (dh S cu cg now dir nm (dV mode dir))) (fQ p (bL S cu cg now dir nm (dV mode dir))) e w'):=by
  show ∀(e:Ending) (w':World),_;rintro e w' ⟨he,hK,hO⟩ h0;have n0:¬(p≠0):=fun x=>x h0
  exact ⟨he,by unfold ig fQ;rw[if_neg n0,if_neg n0];exact he,by unfold dM;rw[if_neg n0];exact hK,Only.pre E0 hO⟩
 have KP:Hid (Calls Tryz.prog 128 #[.pointer (some ⟨g.bW,0,none⟩),.agg #[cu,cg],.int .i64 now,.int .i64 dir,bs nm,.agg #[.int .i64 ((dV mode dir)).no,.int .i64 ((dV mode dir)).dev,.int .i64 ((dV mode dir)).kind,.int .i64 ((dV mode dir)).mode,.int .i64 ((dV mode dir)).uid,.int .i64 ((dV mode dir)).gid,.int .i64 ((dV mode dir)).mtime,.int .i64 ((dV mode dir)).ctime,.int .i64 ((dV mode dir)).ah,.int .i64 ((dV mode dir)).up,.string (bs ((dV mode dir)).data),.slice none ((dV mode dir)).ae.length 0]] W0 (yF W0 B g S cu cg now dir nm (dV mode dir))):=by
  refine ul B g S cu cg now dir nm (dV mode dir) none 0 W0 (h.ext E0) O g_ ⟨.nil _ _ _,Nat.le_refl _,Nat.zero_le _,fun _=>rfl⟩ ?_;simp [dV,ag]
 rw [<-hp];have HP:=zH hp;have jm:=zH E0;clear O hp E0 C0;go_enter Tryz.func99,Tryz.ntmps99;go_upto_region 1 with fail;rw [<-bg];clear bg
 by_cases c1:mode<0
 ·have t1:decide (mode<0)=true:=decide_eq_true c1
  have hE:Hid (p=1):=by show _=_;rw[HP.out];unfold lO;rw[if_pos (.inl c1)]
  clear c1;go_wp2_with fail;go_ret2;exact HS.out _ _ jm.out hE.out (by decide)
 ·have t1:decide (mode<0)=false:=decide_eq_false c1
  by_cases c2:1023<mode
  ·have t2:decide (1023<mode)=true:=decide_eq_true c2
   have hE:Hid (p=1):=by show _=_;rw[HP.out];unfold lO;rw[if_pos (.inr c2)]
   clear c1 c2;go_wp2_with fail;go_ret2;exact HS.out _ _ jm.out hE.out (by decide)
  ·have t2:decide (1023<mode)=false:=decide_eq_false c2
   have hE:Hid (p=0):=by show _=_;rw[HP.out];unfold lO;rw[if_neg (by omega)]
   clear c1 c2;go_wp2_with fail;refine KP.out.mono ?_;rintro e w2 hr;obtain ⟨rfl,hD⟩:=HD.out _ _ hr hE.out;clear hr;go_wp2_with fail;go_ret2;exact hD
theorem GQ (B:Nat) (g:bQ) (S:ac) (cu cg now dir:Int) (nm:List UInt8) (mode:Int) (data:List UInt8) (w:World) (h:eD w B g S) (O:Ok S) (g_:S.last<=100000) (hd:data.length<=1000000000) :
  Calls Tryz.prog 101 #[.pointer (some ⟨g.bW,0,none⟩),.agg #[cu,cg],.int .i64 now,.int .i64 dir,bs nm,.int .i64 mode,bs data] w
   (Fb w B g (dM (gw mode data.length) S (aX S cu cg now dir nm (cx mode data))) (ig (gw mode data.length) (dh S cu cg now dir nm (cx mode data))) (fQ (gw mode data.length) (bL S cu cg now dir nm (cx mode data)))):=by
 obtain⟨W0,bg⟩:=ar (w.alloc (.cells #[cu,cg] 27));have E0:Ext w W0:=by rw[bg];exact (Ext.refl _).alloc _
 have C0:Has W0 w.heap.size (.cells #[cu,cg] 27):=by rw[bg];exact Has.new w _
 have x0:W0.cell? ⟨w.heap.size,0,none⟩=some (.int .i64 cu):=C0.cell 0;have x1:W0.cell? ⟨w.heap.size,1,none⟩=some (.int .i64 cg):=C0.cell 1;have xz:=C0.lt;have HO:=zH O;obtain⟨p,hp⟩:=ar (gw mode data.length);have HS:Hid (∀(w':World) (x:Int),Ext w w'->p=x->x≠0->Fb w B g (dM p S (aX S cu cg now dir nm (cx mode data))) (ig p (dh S cu cg now dir nm (cx mode data))) (fQ p (bL S cu cg now dir nm (cx mode data))) (.returned (.tuple #[.int .i64 0,.int .i64 x])) w'):=by
  show ∀(w':World) (x:Int),_;intro w' x hE hx h0;subst hx;exact un h hE h0
 have HD:Hid (∀(e:Ending) (w':World),yF W0 B g S cu cg now dir nm (cx mode data) e w'->p=0->e=.returned (.tuple #[.int .i64 (dh S cu cg now dir nm (cx mode data)),.int .i64 (bL S cu cg now dir nm (cx mode data))])/\Fb w B g (dM p S (aX S cu cg now dir nm (cx mode data))) (ig p (dh S cu cg now dir nm (cx mode data))) (fQ p (bL S cu cg now dir nm (cx mode data))) e w'):=by
  show ∀(e:Ending) (w':World),_;rintro e w' ⟨he,hK,hO⟩ h0;have n0:¬(p≠0):=fun x=>x h0
  exact ⟨he,by unfold ig fQ;rw[if_neg n0,if_neg n0];exact he,by unfold dM;rw[if_neg n0];exact hK,Only.pre E0 hO⟩
 have KP:Hid (Calls Tryz.prog 128 #[.pointer (some ⟨g.bW,0,none⟩),.agg #[cu,cg],.int .i64 now,.int .i64 dir,bs nm,.agg #[.int .i64 ((cx mode data)).no,.int .i64 ((cx mode data)).dev,.int .i64 ((cx mode data)).kind,.int .i64 ((cx mode data)).mode,.int .i64 ((cx mode data)).uid,.int .i64 ((cx mode data)).gid,.int .i64 ((cx mode data)).mtime,.int .i64 ((cx mode data)).ctime,.int .i64 ((cx mode data)).ah,.int .i64 ((cx mode data)).up,.string (bs ((cx mode data)).data),.slice none ((cx mode data)).ae.length 0]] W0 (yF W0 B g S cu cg now dir nm (cx mode data))):=by
  refine ul B g S cu cg now dir nm (cx mode data) none 0 W0 (h.ext E0) O g_ ⟨.nil _ _ _,Nat.le_refl _,Nat.zero_le _,fun _=>rfl⟩ ?_;exact hd
 rw [<-hp];have HP:=zH hp;have jm:=zH E0;clear O hp E0 C0;go_enter Tryz.func101,Tryz.ntmps101;go_upto_region 1 with fail;rw [<-bg];clear bg;have hsz:((bs data).size:Int)=data.length:=by rw[aU]
 by_cases c1:mode<0
 ·have t1:decide (mode<0)=true:=decide_eq_true c1
  have hE:Hid (p=1):=by show _=_;rw[HP.out];unfold gw;rw[if_pos (.inl c1)]
  clear c1;go_wp2_with fail;go_ret2;exact HS.out _ _ jm.out hE.out (by decide)
 ·have t1:decide (mode<0)=false:=decide_eq_false c1
  by_cases c2:1023<mode
  ·have t2:decide (1023<mode)=true:=decide_eq_true c2
   have hE:Hid (p=1):=by show _=_;rw[HP.out];unfold gw;rw[if_pos (.inr c2)]
   clear c1 c2;go_wp2_with fail;go_ret2;exact HS.out _ _ jm.out hE.out (by decide)
  ·have t2:decide (1023<mode)=false:=decide_eq_false c2
   by_cases c3:(1048576:Int)<data.length
   ·have t3:decide ((1048576:Int)<(data.length:Int))=true:=decide_eq_true c3
    have hE:Hid (p=3):=by show _=_;rw[HP.out];unfold gw;rw[if_neg (by omega),if_pos c3]
    clear c1 c2 c3;go_wp2_with fail;go_ret2;exact HS.out _ _ jm.out hE.out (by decide)
   ·have t3:decide ((1048576:Int)<(data.length:Int))=false:=decide_eq_false c3
    have hE:Hid (p=0):=by show _=_;rw[HP.out];unfold gw;rw[if_neg (by omega),if_neg c3]
    clear c1 c2 c3;go_wp2_with fail;refine KP.out.mono ?_;rintro e w2 hr;obtain ⟨rfl,hD⟩:=HD.out _ _ hr hE.out;clear hr;go_wp2_with fail;go_ret2;exact hD
theorem Kz (B:Nat) (g:bQ) (S:ac) (cu cg now dir:Int) (nm:List UInt8) (text:List UInt8) (w:World) (h:eD w B g S) (O:Ok S) (g_:S.last<=100000) (hd:text.length<=1000000000) :
  Calls Tryz.prog 103 #[.pointer (some ⟨g.bW,0,none⟩),.agg #[cu,cg],.int .i64 now,.int .i64 dir,bs nm,bs text] w
   (Fb w B g (dM (kP text) S (aX S cu cg now dir nm (ep text))) (ig (kP text) (dh S cu cg now dir nm (ep text))) (fQ (kP text) (bL S cu cg now dir nm (ep text)))):=by
 obtain⟨W0,bg⟩:=ar (w.alloc (.cells #[cu,cg] 27));have E0:Ext w W0:=by rw[bg];exact (Ext.refl _).alloc _
 have C0:Has W0 w.heap.size (.cells #[cu,cg] 27):=by rw[bg];exact Has.new w _
 have x0:W0.cell? ⟨w.heap.size,0,none⟩=some (.int .i64 cu):=C0.cell 0;have x1:W0.cell? ⟨w.heap.size,1,none⟩=some (.int .i64 cg):=C0.cell 1;have xz:=C0.lt;have HO:=zH O;obtain⟨p,hp⟩:=ar (kP text);have HS:Hid (∀(w':World) (x:Int),Ext w w'->p=x->x≠0->Fb w B g (dM p S (aX S cu cg now dir nm (ep text))) (ig p (dh S cu cg now dir nm (ep text))) (fQ p (bL S cu cg now dir nm (ep text))) (.returned (.tuple #[.int .i64 0,.int .i64 x])) w'):=by
  show ∀(w':World) (x:Int),_;intro w' x hE hx h0;subst hx;exact un h hE h0
 have HD:Hid (∀(w1:World) (e:Ending) (w':World),Ext w w1->yF w1 B g S cu cg now dir nm (ep text) e w'->p=0->e=.returned (.tuple #[.int .i64 (dh S cu cg now dir nm (ep text)),.int .i64 (bL S cu cg now dir nm (ep text))])/\Fb w B g (dM p S (aX S cu cg now dir nm (ep text))) (ig p (dh S cu cg now dir nm (ep text))) (fQ p (bL S cu cg now dir nm (ep text))) e w'):=by
  show ∀(w1:World) (e:Ending) (w':World),_;rintro w1 e w' EL ⟨he,hK,hO⟩ h0;have n0:¬(p≠0):=fun x=>x h0
  exact ⟨he,by unfold ig fQ;rw[if_neg n0,if_neg n0];exact he,by unfold dM;rw[if_neg n0];exact hK,Only.pre EL hO⟩
 have KP:Hid (∀w1,Ext w w1->Calls Tryz.prog 128 #[.pointer (some ⟨g.bW,0,none⟩),.agg #[cu,cg],.int .i64 now,.int .i64 dir,bs nm,.agg #[.int .i64 ((ep text)).no,.int .i64 ((ep text)).dev,.int .i64 ((ep text)).kind,.int .i64 ((ep text)).mode,.int .i64 ((ep text)).uid,.int .i64 ((ep text)).gid,.int .i64 ((ep text)).mtime,.int .i64 ((ep text)).ctime,.int .i64 ((ep text)).ah,.int .i64 ((ep text)).up,.string (bs ((ep text)).data),.slice none ((ep text)).ae.length 0]] w1 (yF w1 B g S cu cg now dir nm (ep text))):=by
  show ∀w1,_;intro w1 hE;exact ul B g S cu cg now dir nm (ep text) none 0 w1 (h.ext hE) O g_ ⟨.nil _ _ _,Nat.le_refl _,Nat.zero_le _,fun _=>rfl⟩ hd
 rw [<-hp];have HP:=zH hp;have jm:=zH E0;clear O hp E0 C0
 by_cases c0:text=[]
 ·have hE:Hid (p=1):=by show _=_;rw[HP.out];unfold kP;rw[if_pos (.inl c0)]
  subst c0;have hem:(bs ([]:List UInt8)).toList.isEmpty=true:=by rw[bk];rfl
  go_enter Tryz.func103,Tryz.ntmps103;go_upto_region 1 with fail;rw [<-bg];clear bg;go_wp2_with fail;go_ret2;exact HS.out _ _ jm.out hE.out (by decide)
 ·have hem:(bs text).toList.isEmpty=false:=by rw[bk,List.isEmpty_eq_false_iff];exact c0
  have hsz:((bs text).size:Int)=text.length:=by rw[aU]
  obtain⟨hb,S8⟩:=ar (hasB text 0);have hh:∀w',Calls Tryz.prog 130 #[bs text,.string ⟨#[0]⟩] w' (aH w' (.bool hb)):=fun w'=>by
   have h:=Tryz.strings_Contains_one (bs text) 0 w';rw [kV,AX,<-S8]at h;exact h.mono fun e w2 h=>⟨h.1,by rw[h.2];exact Ext.refl _⟩
  have HH:=zH hh;have HB:=zH S8;have WU:=zH c0;have HW0:=zH bg;clear hh S8 c0;go_enter Tryz.func103,Tryz.ntmps103;go_upto_region 1 with fail;rw [<-bg];clear bg;go_wp2_with fail;refine (HH.out _).mono ?_;rintro e w1 ⟨rfl,b1⟩;have E1:=jm.out.trans b1;have x0':w1.cell? ⟨w.heap.size,0,none⟩=some (.int .i64 cu):=(b1.cell xz).trans x0;have x1':w1.cell? ⟨w.heap.size,1,none⟩=some (.int .i64 cg):=(b1.cell xz).trans x1;have xz':w.heap.size<w1.heap.size:=by have:=b1.size;omega
  clear x0 x1 xz;cases hb
  ·by_cases c1:(4096:Int)<text.length
   ·have t1:decide ((4096:Int)<(text.length:Int))=true:=decide_eq_true c1
    have hE:Hid (p=13):=by show _=_;rw[HP.out];unfold kP;rw[if_neg (by rintro (h'|h');exact WU.out h';rw[<-HB.out]at h';cases h'),if_pos (by omega)]
    clear c1;go_wp2_with fail;go_ret2;exact HS.out _ _ E1 hE.out (by decide)
   ·have t1:decide ((4096:Int)<(text.length:Int))=false:=decide_eq_false c1
    have hE:Hid (p=0):=by show _=_;rw[HP.out];unfold kP;rw[if_neg (by rintro (h'|h');exact WU.out h';rw[<-HB.out]at h';cases h'),if_neg (by omega)]
    clear c1;go_wp2_with fail;refine (KP.out _ E1).mono ?_;rintro e w2 hr;obtain ⟨rfl,hD⟩:=HD.out _ _ _ E1 hr hE.out;clear hr;go_wp2_with fail;go_ret2;exact hD
  ·have hE:Hid (p=1):=by show _=_;rw[HP.out];unfold kP;rw[if_pos (.inr HB.out.symm)]
   go_wp2_with fail;go_ret2;exact HS.out _ _ E1 hE.out (by decide)
def jR (S:ac) (cu cg dir:Int) (nm:List UInt8):Int:=
 if ¬aZ S cu cg dir nm=0 then aZ S cu cg dir nm else if aQ S.nodes (aO (aa S.nodes dir).ae nm)=false then 5
 else if ¬ak S.af (aO (aa S.nodes dir).ae nm)=aO (aa S.nodes dir).ae nm then 16
 else if Rj cu (aa S.nodes dir).mode (aa S.nodes dir).uid (aa S.nodes (aO (aa S.nodes dir).ae nm)).uid=false then 4 else 0
def mm (S:ac) (cu cg dir:Int) (nm:List UInt8):ai:=if jR S cu cg dir nm=0 then aa S.nodes dir else ag
def ij (S:ac) (cu cg dir:Int) (nm:List UInt8):ai:=if jR S cu cg dir nm=0 then aa S.nodes (aO (aa S.nodes dir).ae nm) else ag
def jI (now:Int) (n:ai):ai:={n with ah:=n.ah-1,ctime:=now}
def na (S:ac) (now:Int) (n:ai):ac:=if n.ah-1<1 then kO (aK S (jI now n)) n.no else aK S (jI now n)
def mA (S:ac) (now:Int) (d n:ai) (nm:List UInt8):ac:=na (cI S d.no now (iu d.ae nm)) now n
def nO (S:ac) (cu cg dir:Int) (nm:List UInt8):Int:=if ¬jR S cu cg dir nm=0 then jR S cu cg dir nm else if (ij S cu cg dir nm).kind=1 then 8 else 0
def rc (S:ac) (cu cg dir:Int) (nm:List UInt8):Int:=
 if ¬jR S cu cg dir nm=0 then jR S cu cg dir nm else if ¬(ij S cu cg dir nm).kind=1 then 9 else if 0<((ij S cu cg dir nm).ae.length:Int) then 10 else 0
def jf (S:ac) (cu cg now dir:Int) (nm:List UInt8):ac:=if nO S cu cg dir nm=0 then mA S now (mm S cu cg dir nm) (ij S cu cg dir nm) nm else S
def kQ (S:ac) (cu cg now dir:Int) (nm:List UInt8):ac:=if rc S cu cg dir nm=0 then mA S now (mm S cu cg dir nm) (ij S cu cg dir nm) nm else S
open Go
theorem ng {id:Nat} {Q:Exit->Act->World->Prop} {a:Act} {w:World} {l:List Oper} (V:World) (m s:Nat) (d t:Tmp) (n:ai) (A:Option Addr) (c:Nat) (om os:Oper)
  (hB:Region.lexB .any l.toArray=true) (hc:JR l m s d t=true) (ES:l[m]?=some om) (rU:l[s]?=some os) (Jw:om.op=.alloc 58) (mL:os.op=.store 58 (.tmp d) (.tmp t)) (SD:d<a.tmps.size)
  (hV:Ext V w.drew) :
  bq Tryz.prog l.toArray V (fun a1=>bq Tryz.prog l.toArray V (fun a2=>a2.eval (.tmp t)=.agg #[n.no,n.dev,n.kind,n.mode,n.uid,n.gid,n.mtime,n.ctime,n.ah,n.up,bs n.data,.slice A n.ae.length c]/\bq Tryz.prog l.toArray V (fun a3=>∀w' bx,Ext V w'->V.heap.size<=bx->Has w' bx (.cells #[n.no,n.dev,n.kind,n.mode,n.uid,n.gid,n.mtime,n.ctime,n.ah,n.up,bs n.data,.slice A n.ae.length c] 58)->Q .normal (a3.put (some d) (.pointer (some ⟨bx,0,none⟩))) w') (l.drop (s+1)) a2) ((l.take s).drop (m+1)) a1) (l.take m) a ->
  (Code.region id l.toArray true).wp Tryz.prog Q a w:=by
 refine lq V m s d t (.agg #[n.no,n.dev,n.kind,n.mode,n.uid,n.gid,n.mtime,n.ctime,n.ah,n.up,bs n.data,.slice A n.ae.length c]) (.cells #[.int .i64 0,.int .i64 0,.int .i64 0,.int .i64 0,.int .i64 0,.int .i64 0,.int .i64 0,.int .i64 0,.int .i64 0,.int .i64 0,.string ⟨#[]⟩,.slice none 0 0] 58) _ om os (by kernel_rfl) hB hc ES rU ?_ ?_ hV SD
 ·intro a w
  simp [execOp,Jw,go_sem]
 ·intro a w bx hsz hb he
  have hd:(a.put (some d) (.pointer (some ⟨bx,0,none⟩))).eval (.tmp d)=.pointer (some ⟨bx,0,none⟩):=by
   simp [Act.put,Act.eval,hsz]
  have hb':Has w bx (.cells #[ag.no,ag.dev,ag.kind,ag.mode,ag.uid,ag.gid,ag.mtime,ag.ctime,ag.ah,ag.up,bs ag.data,.slice none ag.ae.length 0] 58):=hb;refine ⟨_,?_,hb'.setNode n A c,cO (fO n A c) 0 w⟩;simp only[execOp,mL,hd,he,run_storeAt_mid w bx 0 58 #[n.no,n.dev,n.kind,n.mode,n.uid,n.gid,n.mtime,n.ctime,n.ah,n.up,bs n.data,.slice A n.ae.length c] hb'.there kN (tV n A c),Sem.run_bind,Sem.run_pure,Result.andThen_ok];rfl
attribute [local irreducible] gv wpQuiet
attribute [local go_sem] fh
end
section
open Go.ChangeShapes Go.WideShapes Go.ChangeAt Go.RowKit
theorem gz {S:ac} {cu cg dir:Int} {nm:List UInt8} (h:jR S cu cg dir nm=0):aZ S cu cg dir nm=0/\aQ S.nodes (aO (aa S.nodes dir).ae nm)=true/\ak S.af (aO (aa S.nodes dir).ae nm)=aO (aa S.nodes dir).ae nm/\mm S cu cg dir nm=aa S.nodes dir/\ij S cu cg dir nm=aa S.nodes (aO (aa S.nodes dir).ae nm):=by
 have e1:mm S cu cg dir nm=aa S.nodes dir:=by unfold mm;rw[if_pos h]
 have e2:ij S cu cg dir nm=aa S.nodes (aO (aa S.nodes dir).ae nm):=by unfold ij;rw[if_pos h]
 refine ⟨?_,?_,?_,e1,e2⟩<;>unfold jR at h<;>split at h
 ·rename_i h1;exact absurd h h1
 ·rename_i h1;exact Decidable.not_not.1 h1
 ·rename_i h1;exact absurd h h1
 ·split at h
  ·cases h
  ·rename_i h2;simpa using h2
 ·rename_i h1;exact absurd h h1
 ·split at h
  ·cases h
  ·split at h
   ·cases h
   ·rename_i h3;exact Decidable.not_not.1 h3
attribute [local irreducible] wpQuiet
def aaE (S:ac) (cu:Int) (d n old:ai):Int:=
 if ¬ak S.af old.no=old.no then 16 else if n.kind=1/\¬old.kind=1 then 9 else if ¬n.kind=1/\old.kind=1 then 8
 else if 0<(old.ae.length:Int) then 10 else if Rj cu d.mode d.uid old.uid=false then 4 else 0
end
section
open Go.ChangeShapes Go.WideShapes Go.ChangeAt Go.RowKit
attribute [local irreducible] wpQuiet
def AY (S:ac) (cu cg aY:Int) (b:List UInt8):Int:=aO (cY S cu cg aY b).ae b
def KE (S:ac) (cu cg fr aY:Int) (a b:List UInt8):Prop:=aQ S.nodes (AY S cu cg aY b)=true/\(aa S.nodes (AY S cu cg aY b)).no=(ij S cu cg fr a).no
instance (S:ac) (cu cg fr aY:Int) (a b:List UInt8):Decidable (KE S cu cg fr aY a b):=by unfold KE;exact inferInstance
def WV (S:ac) (cu cg fr aY x y:Int) (d n t:ai) (is:Bool) (old:ai):Int:=
 if ¬x=0 then x else if ¬y=0 then y else if ¬d.dev=t.dev then 11 else if n.kind=1/\eL S aY n.no=true then 17
 else if is=true/\old.no=n.no then 0 else if n.kind=1/\¬fr=aY/\fL cu cg n.uid n.gid n.mode 2=false then 6
 else if is=true then aaE S cu t n old else 0
def Rq (S:ac) (cu cg fr aY:Int) (a b:List UInt8):Int:=
 WV S cu cg fr aY (jR S cu cg fr a) (aZ S cu cg aY b) (mm S cu cg fr a) (ij S cu cg fr a) (cY S cu cg aY b) (aQ S.nodes (AY S cu cg aY b)) (aa S.nodes (AY S cu cg aY b))
def AZ (S:ac) (now no:Int):ac:=if aQ S.nodes no=true then na S now (aa S.nodes no) else S
def WW (now aY:Int) (n:ai):ai:={n with ctime:=now,up:=if n.kind=1 then aY else n.up}
def WX (T:ac) (now fr aY:Int) (a b:List UInt8) (d n:ai):ac:=
 aK (cI (cI T fr now (iu d.ae a)) aY now (dk (aa (cI T fr now (iu d.ae a)).nodes aY).ae (b,n.no))) (WW now aY n)
def Fc (S:ac) (cu cg now fr aY:Int) (a b:List UInt8):ac:=
 if Rq S cu cg fr aY a b=0/\¬KE S cu cg fr aY a b then WX (AZ S now (AY S cu cg aY b)) now fr aY a b (mm S cu cg fr a) (ij S cu cg fr a) else S
end
section
open Go.ChangeShapes Go.WideShapes Go.ChangeAt Go.RowKit
section
variable {H:Type} {enc:TypeId×Value->H} {w:World} {base:Nat} {spare:Nat->Bool} {held:Bool}
theorem jS:Tryz.prog.cellsOf 3=1:=by kernel_rfl
theorem yL:Tryz.prog.cellsOf 9=1:=by kernel_rfl
theorem pZ:Tryz.prog.cellsOf 27=2:=by kernel_rfl
theorem Dn {n:Nat} {cs:List Value} {x:DataW H×List MemPlace} (h:DataW.trod enc Tryz.prog w base spare held n 27 cs=some x):∃v:(Int×Int),cs=[.int .i64 v.1,.int .i64 v.2]:=by
 obtain ⟨xs,m,_,_,hl,hxl,hf⟩:=DataW.trod_struct Tryz.underlying27 h;rw [pZ]at hl
 match cs,hl with
 | [a0,a1],_ =>
  match xs,hxl with
  | [y0,y1],_ =>
   have f0:DataW.trod enc Tryz.prog w base spare held m 3 (List.take (Tryz.prog.cellsOf 3) (List.drop 0 [a0,a1]))=some y0:=hf 0 _ rfl;rw [jS]at f0;obtain ⟨k0,h0,_,_⟩:=DataW.trod_int Tryz.underlying3 f0;have e0:a0=.int .i64 k0:=by simpa using h0
   have f1:DataW.trod enc Tryz.prog w base spare held m 3 (List.take (Tryz.prog.cellsOf 3) (List.drop 1 [a0,a1]))=some y1:=hf 1 _ rfl;rw [jS]at f1;obtain ⟨k1,h1,_,_⟩:=DataW.trod_int Tryz.underlying3 f1;have e1:a1=.int .i64 k1:=by simpa using h1
   exact ⟨⟨k0,k1⟩,by rw[e0,e1]⟩
end
end
section
open Go.ChangeShapes Go.WideShapes Go.ChangeAt Go.RowKit
attribute [local irreducible] gv
attribute [local go_sem] fh
end
section
open Go.ChangeShapes Go.WideShapes Go.ChangeAt Go.RowKit
attribute [local irreducible] wpQuiet
theorem xj (l:List ax) (nm:List UInt8) (no:Int):aO (dk l (nm,no)) nm=no:=by
 unfold aO dk iw i6;have h1:(l.filter fun x=>bl x.1 nm).find? (fun x=>x.1 == nm)=none:=by
  rw [List.find?_eq_none];intro x hx;rw [List.mem_filter]at hx;have:=wN hx.2;simpa using this
 simp only[List.find?_append,h1,Option.none_or,List.find?_cons,beq_self_eq_true,Option.some_or]
theorem Do (l:List ax) (nm:List UInt8) (no:Int) (h:∀x∈l,x.1≠nm):(dk l (nm,no)).length=l.length+1:=by
 have hs : ∀l:List ax,(∀x∈l,x.1≠nm)->(l.filter fun x=>bl x.1 nm).length+(l.filter fun x=>bl nm x.1).length=l.length:=by
  intro l
  induction l with
  | nil=>intro _;rfl
  | cons x l ih =>
   intro h;have:=ih fun y hy=>h y (List.mem_cons_of_mem _ hy)
   simp only[List.filter_cons,List.length_cons];have hx:=h x (List.mem_cons_self ..);rcases l8 x.1 nm with g|g|g
   ·have g2:=fA g
    rw [if_pos g,if_neg (by rw[g2];decide)];simp only[List.length_cons];omega
   ·exact absurd g hx
   ·have g2:=fA g
    rw [if_pos g,if_neg (by rw[g2];decide)];simp only[List.length_cons];omega
 have:=hs l h;unfold dk iw i6;simp only[List.length_append,List.length_singleton];omega
structure WY (S T:ac) (uid gid now dir:Int) (nm:List UInt8):Prop where
 len:T.nodes.length=S.nodes.length+1
 node:(aa T.nodes (S.last+1)).uid=uid/\(aa T.nodes (S.last+1)).gid=gid/\(aa T.nodes (S.last+1)).dev=(aa S.nodes dir).dev/\(aa T.nodes (S.last+1)).ah=1/\(aa T.nodes (S.last+1)).mtime=now
 find:aO (aa T.nodes dir).ae nm=S.last+1
 ae:(aa T.nodes dir).ae.length=(aa S.nodes dir).ae.length+1
 mtime:(aa T.nodes dir).mtime=now
theorem A_ {S:ac} (hu:aI S.nodes S.last) {n:ai} (hi:aQ S.nodes n.no=true):aa (aK S n).nodes n.no=n:=by
 have hm:=yA (n:=n) (aj hi).2.2;rw [if_pos (aj hi).2.1]at hm;exact (dy (S:=aK S n) (hu.set n) hm).1
theorem came {c:Nat} {S:ac} (h:dI c S) {cu cg now dir:Int} {nm:List UInt8} {n:ai} (h0:bL S cu cg now dir nm n=0):WY S (aX S cu cg now dir nm n) cu cg now dir nm:=by
 obtain ⟨hp,hf,mN⟩:=gx h0;obtain ⟨hi,oL,hc⟩:=aR hp;obtain ⟨e1,e2⟩:=jw h.aC (bA S cu cg now dir n) hi;obtain ⟨_,bc,hmem⟩:=aj hi;have hlt:=(h.aC.2 _ hmem).2;rw [bc]at hlt;have hT:aX S cu cg now dir nm n=aK (bj S (bA S cu cg now dir n)) (cv (bj S (bA S cu cg now dir n)) dir now (dk (aa S.nodes dir).ae (nm,S.last+1))):=by
  unfold aX cI;rw[if_pos h0]
 have hN:(cv (bj S (bA S cu cg now dir n)) dir now (dk (aa S.nodes dir).ae (nm,S.last+1))).no=dir:=by
  show (aa (bj S (bA S cu cg now dir n)).nodes dir).no=dir;rw [e1,bc]
 have hu:=pY h.live (bA S cu cg now dir n);have hd:aa (aX S cu cg now dir nm n).nodes dir=cv (bj S (bA S cu cg now dir n)) dir now (dk (aa S.nodes dir).ae (nm,S.last+1)):=by
  rw [hT];have:=A_ hu (n:=cv (bj S (bA S cu cg now dir n)) dir now (dk (aa S.nodes dir).ae (nm,S.last+1))) (by rw[hN];exact e2);rw [hN]at this;exact this
 have sH:aa (aX S cu cg now dir nm n).nodes (S.last+1)={bA S cu cg now dir n with no:=S.last+1}:=by
  rw [hT,(jH (by rw[hN];omega)).1];have hm:({bA S cu cg now dir n with no:=S.last+1}:ai)∈(bj S (bA S cu cg now dir n)).nodes:=by
   unfold bj;rw [if_pos mN];exact List.mem_append_right _ (List.mem_singleton.2 rfl)
  exact (dy hu hm).1
 have hx:=xi (fun x hx=>(h.pos _ hmem x hx).1) hf;refine ⟨?_,by rw[sH];exact⟨rfl,rfl,rfl,rfl,rfl⟩,by rw[hd];exact xj _ _ _,by rw[hd];exact Do _ _ _ hx,by rw[hd];rfl⟩;rw [hT];show (bn _ _).length=_;rw [pK];unfold bj;rw [if_pos mN];simp
theorem GR {p e:Int} (h:fQ p e=0):p=0/\e=0:=by
 unfold fQ at h;split at h
 ·rename_i h1;exact absurd h h1
 ·rename_i h1;exact⟨Decidable.not_not.1 h1,h⟩
def S_ (w:World) (B:Nat) (g:bQ) (S:ac) (uid gid now dir:Int) (nm:List UInt8) (a x:Int) (w':World):Prop:=
 ∃ T,eD w' B g T/\Only g.list w w'/\((x≠0/\a=0/\T=S)\/(x=0/\a=S.last+1/\WY S T uid gid now dir nm/\aI T.nodes T.last))
theorem there {c:Nat} {S:ac} (h:dI c S) {w w':World} {B:Nat} {g:bQ} {cu cg now dir p:Int} {nm:List UInt8} {n:ai} {e:Ending}
  (hr:Fb w B g (dM p S (aX S cu cg now dir nm n)) (ig p (dh S cu cg now dir nm n)) (fQ p (bL S cu cg now dir nm n)) e w'):∃a x,e=.returned (.tuple #[.int .i64 a,.int .i64 x])/\S_ w B g S cu cg now dir nm a x w':=by
 obtain ⟨he,hK,hO⟩:=hr;refine ⟨_,_,he,_,hK,hO,?_⟩
 by_cases hz:fQ p (bL S cu cg now dir nm n)=0
 ·obtain ⟨h1,h2⟩:=GR hz
  right
  subst h1;have hT:dM 0 S (aX S cu cg now dir nm n)=aX S cu cg now dir nm n:=rfl;refine ⟨hz,by show dh S cu cg now dir nm n=_;unfold dh;rw[if_pos h2],by rw[hT];exact came h h2,?_⟩;rw [hT];unfold aX;rw [if_pos h2];exact (pY h.live _).set _
 ·left
  refine ⟨hz,?_,?_⟩
  ·unfold fQ ig at *
   split
   ·rfl
   ·rename_i h1
    rw [if_neg h1]at hz;unfold dh;rw[if_neg hz]
  ·unfold fQ dM at *
   split
   ·rfl
   ·rename_i h1
    rw [if_neg h1]at hz;unfold aX;rw[if_neg hz]
end
end Go.Proofs.YtblbohcaphcobaaGreatDoor
