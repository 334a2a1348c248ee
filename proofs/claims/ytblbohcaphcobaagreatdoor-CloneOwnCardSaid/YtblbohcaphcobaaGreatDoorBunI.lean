import Derived.Test.YtblbohcaphcobaaGreatDoorBunH
import Derived.Test.YtblbohcaphcobaaGreatDoorShelf
import Derived.Test.YtblbohcaphcobaaGreatDoorBunD
import Derived.Test.YtblbohcaphcobaaGreatDoorBunF
import Derived.Test.YtblbohcaphcobaaGreatDoorBunE
import Derived.Test.YtblbohcaphcobaaGreatDoorBunA
import Derived.Test.YtblbohcaphcobaaGreatDoorBunG
import Derived.Deep.CutBlock
set_option maxHeartbeats 4000000
set_option maxRecDepth 100000
namespace Go.Proofs.YtblbohcaphcobaaGreatDoor
section
open Go.ChangeShapes Go.WideShapes Go.ChangeAt Go.RowKit
def En (w:World) (B:Nat) (g:bJ) (T:aa) (a x:Int) (e:Ending) (w':World):Prop:=e=.returned (.tuple #[.int .i64 a,.int .i64 x])/\ep w' B g T/\Only g.list w w'
theorem tJ {w w':World} {B:Nat} {g:bJ} {S T:aa} {p a x:Int} (h:ep w B g S) (hE:Ext w w') (hp:p≠0):En w B g (dR p S T) (gZ p a) (fQ p x) (.returned (.tuple #[.int .i64 0,.int .i64 p])) w':=
 ⟨by unfold gZ fQ;rw[if_pos hp,if_pos hp],by unfold dR;rw[if_pos hp];exact h.ext hE,Only.av hE⟩
theorem zW (l:List UInt8) (c:UInt8):decide (0<=Lib.indexByte l c)=hasB l c:=by
 rw [<-Lib.contains_iff_indexByte,Bool.eq_iff_iff];simp [hasB]
theorem JB (B:Nat) (g:bJ) (S:aa) (cu cg now dir:Int) (nm:List UInt8) (mode:Int) (w:World) (h:ep w B g S) (O:Ok S) (i_:S.last<=100000) :
  Calls Tryz.prog 99 #[.pointer (some ⟨g.bW,0,none⟩),.agg #[cu,cg],.int .i64 now,.int .i64 dir,bs nm,.int .i64 mode] w
   (En w B g (dR (lX mode) S (aW S cu cg now dir nm (dM mode dir))) (gZ (lX mode) (cZ S cu cg now dir nm (dM mode dir))) (fQ (lX mode) (bC S cu cg now dir nm (dM mode dir)))):=by
 obtain⟨W0,aY⟩:=aq (w.alloc (.cells #[cu,cg] 27));have E0:Ext w W0:=by rw[aY];exact (Ext.refl _).alloc _
 have C0:Has W0 w.heap.size (.cells #[cu,cg] 27):=by rw[aY];exact Has.new w _
 have x0:W0.cell? ⟨w.heap.size,0,none⟩=some (.int .i64 cu):=C0.cell 0;have x1:W0.cell? ⟨w.heap.size,1,none⟩=some (.int .i64 cg):=C0.cell 1;have xz:=C0.lt;have HO:=zH O;obtain⟨p,hp⟩:=aq (lX mode);have HS:Hid (∀(w':World) (x:Int),Ext w w'->p=x->x≠0->En w B g (dR p S (aW S cu cg now dir nm (dM mode dir))) (gZ p (cZ S cu cg now dir nm (dM mode dir))) (fQ p (bC S cu cg now dir nm (dM mode dir))) (.returned (.tuple #[.int .i64 0,.int .i64 x])) w'):=by
  show ∀(w':World) (x:Int),_;intro w' x hE hx h0;subst hx;exact tJ h hE h0
 have HD:Hid (∀(e:Ending) (w':World),xW W0 B g S cu cg now dir nm (dM mode dir) e w'->p=0->e=.returned (.tuple #[.int .i64 (cZ S cu cg now dir nm (dM mode dir)),.int .i64 (bC S cu cg now dir nm (dM mode dir))])/\En w B g (dR p S (aW S cu cg now dir nm (dM mode dir))) (gZ p (cZ S cu cg now dir nm (dM mode dir))) (fQ p (bC S cu cg now dir nm (dM mode dir))) e w'):=by
  show ∀(e:Ending) (w':World),_;rintro e w' ⟨he,hK,hO⟩ h0;have n0:¬(p≠0):=fun x=>x h0
  exact ⟨he,by unfold gZ fQ;rw[if_neg n0,if_neg n0];exact he,by unfold dR;rw[if_neg n0];exact hK,Only.pre E0 hO⟩
 have KP:Hid (Calls Tryz.prog 128 #[.pointer (some ⟨g.bW,0,none⟩),.agg #[cu,cg],.int .i64 now,.int .i64 dir,bs nm,.agg #[.int .i64 ((dM mode dir)).no,.int .i64 ((dM mode dir)).dev,.int .i64 ((dM mode dir)).kind,.int .i64 ((dM mode dir)).mode,.int .i64 ((dM mode dir)).uid,.int .i64 ((dM mode dir)).gid,.int .i64 ((dM mode dir)).mtime,.int .i64 ((dM mode dir)).ctime,.int .i64 ((dM mode dir)).ah,.int .i64 ((dM mode dir)).up,.string (bs ((dM mode dir)).data),.slice none ((dM mode dir)).af.length 0]] W0 (xW W0 B g S cu cg now dir nm (dM mode dir))):=by
  refine tH B g S cu cg now dir nm (dM mode dir) none 0 W0 (h.ext E0) O i_ ⟨.nil _ _ _,Nat.le_refl _,Nat.zero_le _,fun _=>rfl⟩ ?_;simp [dM,ae]
 rw [<-hp];have HP:=zH hp;have ja:=zH E0;clear O hp E0 C0;go_enter Tryz.func99,Tryz.ntmps99;go_upto_region 1 with fail;rw [<-aY];clear aY
 by_cases c1:mode<0
 ·have t1:decide (mode<0)=true:=decide_eq_true c1
  have hE:Hid (p=1):=by show _=_;rw[HP.out];unfold lX;rw[if_pos (.inl c1)]
  clear c1;go_wp2_with fail;go_ret2;exact HS.out _ _ ja.out hE.out (by decide)
 ·have t1:decide (mode<0)=false:=decide_eq_false c1
  by_cases c2:1023<mode
  ·have t2:decide (1023<mode)=true:=decide_eq_true c2
   have hE:Hid (p=1):=by show _=_;rw[HP.out];unfold lX;rw[if_pos (.inr c2)]
   clear c1 c2;go_wp2_with fail;go_ret2;exact HS.out _ _ ja.out hE.out (by decide)
  ·have t2:decide (1023<mode)=false:=decide_eq_false c2
   have hE:Hid (p=0):=by show _=_;rw[HP.out];unfold lX;rw[if_neg (by omega)]
   clear c1 c2;go_wp2_with fail;refine KP.out.mono ?_;rintro e w2 hr;obtain ⟨rfl,hD⟩:=HD.out _ _ hr hE.out;clear hr;go_wp2_with fail;go_ret2;exact hD
theorem FW (B:Nat) (g:bJ) (S:aa) (cu cg now dir:Int) (nm:List UInt8) (mode:Int) (data:List UInt8) (w:World) (h:ep w B g S) (O:Ok S) (i_:S.last<=100000) (hd:data.length<=1000000000) :
  Calls Tryz.prog 101 #[.pointer (some ⟨g.bW,0,none⟩),.agg #[cu,cg],.int .i64 now,.int .i64 dir,bs nm,.int .i64 mode,bs data] w
   (En w B g (dR (gH mode data.length) S (aW S cu cg now dir nm (ct mode data))) (gZ (gH mode data.length) (cZ S cu cg now dir nm (ct mode data))) (fQ (gH mode data.length) (bC S cu cg now dir nm (ct mode data)))):=by
 obtain⟨W0,aY⟩:=aq (w.alloc (.cells #[cu,cg] 27));have E0:Ext w W0:=by rw[aY];exact (Ext.refl _).alloc _
 have C0:Has W0 w.heap.size (.cells #[cu,cg] 27):=by rw[aY];exact Has.new w _
 have x0:W0.cell? ⟨w.heap.size,0,none⟩=some (.int .i64 cu):=C0.cell 0;have x1:W0.cell? ⟨w.heap.size,1,none⟩=some (.int .i64 cg):=C0.cell 1;have xz:=C0.lt;have HO:=zH O;obtain⟨p,hp⟩:=aq (gH mode data.length);have HS:Hid (∀(w':World) (x:Int),Ext w w'->p=x->x≠0->En w B g (dR p S (aW S cu cg now dir nm (ct mode data))) (gZ p (cZ S cu cg now dir nm (ct mode data))) (fQ p (bC S cu cg now dir nm (ct mode data))) (.returned (.tuple #[.int .i64 0,.int .i64 x])) w'):=by
  show ∀(w':World) (x:Int),_;intro w' x hE hx h0;subst hx;exact tJ h hE h0
 have HD:Hid (∀(e:Ending) (w':World),xW W0 B g S cu cg now dir nm (ct mode data) e w'->p=0->e=.returned (.tuple #[.int .i64 (cZ S cu cg now dir nm (ct mode data)),.int .i64 (bC S cu cg now dir nm (ct mode data))])/\En w B g (dR p S (aW S cu cg now dir nm (ct mode data))) (gZ p (cZ S cu cg now dir nm (ct mode data))) (fQ p (bC S cu cg now dir nm (ct mode data))) e w'):=by
  show ∀(e:Ending) (w':World),_;rintro e w' ⟨he,hK,hO⟩ h0;have n0:¬(p≠0):=fun x=>x h0
  exact ⟨he,by unfold gZ fQ;rw[if_neg n0,if_neg n0];exact he,by unfold dR;rw[if_neg n0];exact hK,Only.pre E0 hO⟩
 have KP:Hid (Calls Tryz.prog 128 #[.pointer (some ⟨g.bW,0,none⟩),.agg #[cu,cg],.int .i64 now,.int .i64 dir,bs nm,.agg #[.int .i64 ((ct mode data)).no,.int .i64 ((ct mode data)).dev,.int .i64 ((ct mode data)).kind,.int .i64 ((ct mode data)).mode,.int .i64 ((ct mode data)).uid,.int .i64 ((ct mode data)).gid,.int .i64 ((ct mode data)).mtime,.int .i64 ((ct mode data)).ctime,.int .i64 ((ct mode data)).ah,.int .i64 ((ct mode data)).up,.string (bs ((ct mode data)).data),.slice none ((ct mode data)).af.length 0]] W0 (xW W0 B g S cu cg now dir nm (ct mode data))):=by
  refine tH B g S cu cg now dir nm (ct mode data) none 0 W0 (h.ext E0) O i_ ⟨.nil _ _ _,Nat.le_refl _,Nat.zero_le _,fun _=>rfl⟩ ?_;exact hd
 rw [<-hp];have HP:=zH hp;have ja:=zH E0;clear O hp E0 C0;go_enter Tryz.func101,Tryz.ntmps101;go_upto_region 1 with fail;rw [<-aY];clear aY;have hsz:((bs data).size:Int)=data.length:=by rw[aR]
 by_cases c1:mode<0
 ·have t1:decide (mode<0)=true:=decide_eq_true c1
  have hE:Hid (p=1):=by show _=_;rw[HP.out];unfold gH;rw[if_pos (.inl c1)]
  clear c1;go_wp2_with fail;go_ret2;exact HS.out _ _ ja.out hE.out (by decide)
 ·have t1:decide (mode<0)=false:=decide_eq_false c1
  by_cases c2:1023<mode
  ·have t2:decide (1023<mode)=true:=decide_eq_true c2
   have hE:Hid (p=1):=by show _=_;rw[HP.out];unfold gH;rw[if_pos (.inr c2)]
   clear c1 c2;go_wp2_with fail;go_ret2;exact HS.out _ _ ja.out hE.out (by decide)
  ·have t2:decide (1023<mode)=false:=decide_eq_false c2
   by_cases c3:(1048576:Int)<data.length
   ·have t3:decide ((1048576:Int)<(data.length:Int))=true:=decide_eq_true c3
    have hE:Hid (p=3):=by show _=_;rw[HP.out];unfold gH;rw[if_neg (by omega),if_pos c3]
    clear c1 c2 c3;go_wp2_with fail;go_ret2;exact HS.out _ _ ja.out hE.out (by decide)
   ·have t3:decide ((1048576:Int)<(data.length:Int))=false:=decide_eq_false c3
    have hE:Hid (p=0):=by show _=_;rw[HP.out];unfold gH;rw[if_neg (by omega),if_neg c3]
    clear c1 c2 c3;go_wp2_with fail;refine KP.out.mono ?_;rintro e w2 hr;obtain ⟨rfl,hD⟩:=HD.out _ _ hr hE.out;clear hr;go_wp2_with fail;go_ret2;exact hD
theorem JC (B:Nat) (g:bJ) (S:aa) (cu cg now dir:Int) (nm:List UInt8) (text:List UInt8) (w:World) (h:ep w B g S) (O:Ok S) (i_:S.last<=100000) (hd:text.length<=1000000000) :
  Calls Tryz.prog 103 #[.pointer (some ⟨g.bW,0,none⟩),.agg #[cu,cg],.int .i64 now,.int .i64 dir,bs nm,bs text] w
   (En w B g (dR (kN text) S (aW S cu cg now dir nm (dY text))) (gZ (kN text) (cZ S cu cg now dir nm (dY text))) (fQ (kN text) (bC S cu cg now dir nm (dY text)))):=by
 obtain⟨W0,aY⟩:=aq (w.alloc (.cells #[cu,cg] 27));have E0:Ext w W0:=by rw[aY];exact (Ext.refl _).alloc _
 have C0:Has W0 w.heap.size (.cells #[cu,cg] 27):=by rw[aY];exact Has.new w _
 have x0:W0.cell? ⟨w.heap.size,0,none⟩=some (.int .i64 cu):=C0.cell 0;have x1:W0.cell? ⟨w.heap.size,1,none⟩=some (.int .i64 cg):=C0.cell 1;have xz:=C0.lt;have HO:=zH O;obtain⟨p,hp⟩:=aq (kN text);have HS:Hid (∀(w':World) (x:Int),Ext w w'->p=x->x≠0->En w B g (dR p S (aW S cu cg now dir nm (dY text))) (gZ p (cZ S cu cg now dir nm (dY text))) (fQ p (bC S cu cg now dir nm (dY text))) (.returned (.tuple #[.int .i64 0,.int .i64 x])) w'):=by
  show ∀(w':World) (x:Int),_;intro w' x hE hx h0;subst hx;exact tJ h hE h0
 have HD:Hid (∀(w1:World) (e:Ending) (w':World),Ext w w1->xW w1 B g S cu cg now dir nm (dY text) e w'->p=0->e=.returned (.tuple #[.int .i64 (cZ S cu cg now dir nm (dY text)),.int .i64 (bC S cu cg now dir nm (dY text))])/\En w B g (dR p S (aW S cu cg now dir nm (dY text))) (gZ p (cZ S cu cg now dir nm (dY text))) (fQ p (bC S cu cg now dir nm (dY text))) e w'):=by
  show ∀(w1:World) (e:Ending) (w':World),_;rintro w1 e w' D_ ⟨he,hK,hO⟩ h0;have n0:¬(p≠0):=fun x=>x h0
  exact ⟨he,by unfold gZ fQ;rw[if_neg n0,if_neg n0];exact he,by unfold dR;rw[if_neg n0];exact hK,Only.pre D_ hO⟩
 have KP:Hid (∀w1,Ext w w1->Calls Tryz.prog 128 #[.pointer (some ⟨g.bW,0,none⟩),.agg #[cu,cg],.int .i64 now,.int .i64 dir,bs nm,.agg #[.int .i64 ((dY text)).no,.int .i64 ((dY text)).dev,.int .i64 ((dY text)).kind,.int .i64 ((dY text)).mode,.int .i64 ((dY text)).uid,.int .i64 ((dY text)).gid,.int .i64 ((dY text)).mtime,.int .i64 ((dY text)).ctime,.int .i64 ((dY text)).ah,.int .i64 ((dY text)).up,.string (bs ((dY text)).data),.slice none ((dY text)).af.length 0]] w1 (xW w1 B g S cu cg now dir nm (dY text))):=by
  show ∀w1,_;intro w1 hE;exact tH B g S cu cg now dir nm (dY text) none 0 w1 (h.ext hE) O i_ ⟨.nil _ _ _,Nat.le_refl _,Nat.zero_le _,fun _=>rfl⟩ hd
 rw [<-hp];have HP:=zH hp;have ja:=zH E0;clear O hp E0 C0
 by_cases c0:text=[]
 ·have hE:Hid (p=1):=by show _=_;rw[HP.out];unfold kN;rw[if_pos (.inl c0)]
  subst c0;have hem:(bs ([]:List UInt8)).toList.isEmpty=true:=by rw[bh];rfl
  go_enter Tryz.func103,Tryz.ntmps103;go_upto_region 1 with fail;rw [<-aY];clear aY;go_wp2_with fail;go_ret2;exact HS.out _ _ ja.out hE.out (by decide)
 ·have hem:(bs text).toList.isEmpty=false:=by rw[bh,List.isEmpty_eq_false_iff];exact c0
  have hsz:((bs text).size:Int)=text.length:=by rw[aR]
  obtain⟨hb,Rn⟩:=aq (hasB text 0);have hh:∀w',Calls Tryz.prog 130 #[bs text,.string ⟨#[0]⟩] w' (aH w' (.bool hb)):=fun w'=>by
   have h:=Tryz.strings_Contains_one (bs text) 0 w';rw [kP,zW,<-Rn]at h;exact h.mono fun e w2 h=>⟨h.1,by rw[h.2];exact Ext.refl _⟩
  have HH:=zH hh;have HB:=zH Rn;have U7:=zH c0;have HW0:=zH aY;clear hh Rn c0;go_enter Tryz.func103,Tryz.ntmps103;go_upto_region 1 with fail;rw [<-aY];clear aY;go_wp2_with fail;refine (HH.out _).mono ?_;rintro e w1 ⟨rfl,b1⟩;have E1:=ja.out.trans b1;have x0':w1.cell? ⟨w.heap.size,0,none⟩=some (.int .i64 cu):=(b1.cell xz).trans x0;have x1':w1.cell? ⟨w.heap.size,1,none⟩=some (.int .i64 cg):=(b1.cell xz).trans x1;have xz':w.heap.size<w1.heap.size:=by have:=b1.size;omega
  clear x0 x1 xz;cases hb
  ·by_cases c1:(4096:Int)<text.length
   ·have t1:decide ((4096:Int)<(text.length:Int))=true:=decide_eq_true c1
    have hE:Hid (p=13):=by show _=_;rw[HP.out];unfold kN;rw[if_neg (by rintro (h'|h');exact U7.out h';rw[<-HB.out]at h';cases h'),if_pos (by omega)]
    clear c1;go_wp2_with fail;go_ret2;exact HS.out _ _ E1 hE.out (by decide)
   ·have t1:decide ((4096:Int)<(text.length:Int))=false:=decide_eq_false c1
    have hE:Hid (p=0):=by show _=_;rw[HP.out];unfold kN;rw[if_neg (by rintro (h'|h');exact U7.out h';rw[<-HB.out]at h';cases h'),if_neg (by omega)]
    clear c1;go_wp2_with fail;refine (KP.out _ E1).mono ?_;rintro e w2 hr;obtain ⟨rfl,hD⟩:=HD.out _ _ _ E1 hr hE.out;clear hr;go_wp2_with fail;go_ret2;exact hD
  ·have hE:Hid (p=1):=by show _=_;rw[HP.out];unfold kN;rw[if_pos (.inr HB.out.symm)]
   go_wp2_with fail;go_ret2;exact HS.out _ _ E1 hE.out (by decide)
def jK (S:aa) (cu cg dir:Int) (nm:List UInt8):Int:=
 if ¬aV S cu cg dir nm=0 then aV S cu cg dir nm else if aK S.nodes (bk (ac S.nodes dir).af nm)=false then 5
 else if ¬ar S.ag (bk (ac S.nodes dir).af nm)=bk (ac S.nodes dir).af nm then 16
 else if PP cu (ac S.nodes dir).mode (ac S.nodes dir).uid (ac S.nodes (bk (ac S.nodes dir).af nm)).uid=false then 4 else 0
def lY (S:aa) (cu cg dir:Int) (nm:List UInt8):ai:=if jK S cu cg dir nm=0 then ac S.nodes dir else ae
def h_ (S:aa) (cu cg dir:Int) (nm:List UInt8):ai:=if jK S cu cg dir nm=0 then ac S.nodes (bk (ac S.nodes dir).af nm) else ae
def jy (now:Int) (n:ai):ai:={n with ah:=n.ah-1,ctime:=now}
def mQ (S:aa) (now:Int) (n:ai):aa:=if n.ah-1<1 then kG (aJ S (jy now n)) n.no else aJ S (jy now n)
def mg (S:aa) (now:Int) (d n:ai) (nm:List UInt8):aa:=mQ (cI S d.no now (ij d.af nm)) now n
def nt (S:aa) (cu cg dir:Int) (nm:List UInt8):Int:=if ¬jK S cu cg dir nm=0 then jK S cu cg dir nm else if (h_ S cu cg dir nm).kind=1 then 8 else 0
def qH (S:aa) (cu cg dir:Int) (nm:List UInt8):Int:=
 if ¬jK S cu cg dir nm=0 then jK S cu cg dir nm else if ¬(h_ S cu cg dir nm).kind=1 then 9 else if 0<((h_ S cu cg dir nm).af.length:Int) then 10 else 0
def iU (S:aa) (cu cg now dir:Int) (nm:List UInt8):aa:=if nt S cu cg dir nm=0 then mg S now (lY S cu cg dir nm) (h_ S cu cg dir nm) nm else S
def kI (S:aa) (cu cg now dir:Int) (nm:List UInt8):aa:=if qH S cu cg dir nm=0 then mg S now (lY S cu cg dir nm) (h_ S cu cg dir nm) nm else S
open Go
theorem mR {id:Nat} {Q:Exit->Act->World->Prop} {a:Act} {w:World} {l:List Oper} (V:World) (m s:Nat) (d t:Tmp) (n:ai) (A:Option Addr) (c:Nat) (om os:Oper)
  (hB:Region.lexB .any l.toArray=true) (hc:IQ l m s d t=true) (Ef:l[m]?=some om) (ry:l[s]?=some os) (Il:om.op=.alloc 58) (mA:os.op=.store 58 (.tmp d) (.tmp t)) (QW:d<a.tmps.size)
  (hV:Ext V w.drew) :
  bp Tryz.prog l.toArray V (fun a1=>bp Tryz.prog l.toArray V (fun a2=>a2.eval (.tmp t)=.agg #[n.no,n.dev,n.kind,n.mode,n.uid,n.gid,n.mtime,n.ctime,n.ah,n.up,bs n.data,.slice A n.af.length c]/\bp Tryz.prog l.toArray V (fun a3=>∀w' bx,Ext V w'->V.heap.size<=bx->Has w' bx (.cells #[n.no,n.dev,n.kind,n.mode,n.uid,n.gid,n.mtime,n.ctime,n.ah,n.up,bs n.data,.slice A n.af.length c] 58)->Q .normal (a3.put (some d) (.pointer (some ⟨bx,0,none⟩))) w') (l.drop (s+1)) a2) ((l.take s).drop (m+1)) a1) (l.take m) a ->
  (Code.region id l.toArray true).wp Tryz.prog Q a w:=by
 refine lf V m s d t (.agg #[n.no,n.dev,n.kind,n.mode,n.uid,n.gid,n.mtime,n.ctime,n.ah,n.up,bs n.data,.slice A n.af.length c]) (.cells #[.int .i64 0,.int .i64 0,.int .i64 0,.int .i64 0,.int .i64 0,.int .i64 0,.int .i64 0,.int .i64 0,.int .i64 0,.int .i64 0,.string ⟨#[]⟩,.slice none 0 0] 58) _ om os (by kernel_rfl) hB hc Ef ry ?_ ?_ hV QW
 ·intro a w
  simp [execOp,Il,go_sem]
 ·intro a w bx hsz hb he
  have hd:(a.put (some d) (.pointer (some ⟨bx,0,none⟩))).eval (.tmp d)=.pointer (some ⟨bx,0,none⟩):=by
   simp [Act.put,Act.eval,hsz]
  have hb':Has w bx (.cells #[ae.no,ae.dev,ae.kind,ae.mode,ae.uid,ae.gid,ae.mtime,ae.ctime,ae.ah,ae.up,bs ae.data,.slice none ae.af.length 0] 58):=hb;refine ⟨_,?_,hb'.setNode n A c,cG (fE n A c) 0 w⟩;simp only[execOp,mA,hd,he,run_storeAt_mid w bx 0 58 #[n.no,n.dev,n.kind,n.mode,n.uid,n.gid,n.mtime,n.ctime,n.ah,n.up,bs n.data,.slice A n.af.length c] hb'.there kE (sZ n A c),Sem.run_bind,Sem.run_pure,Result.andThen_ok];rfl
attribute [local irreducible] fY wpQuiet
attribute [local go_sem] eP
end
section
open Go.ChangeShapes Go.WideShapes Go.ChangeAt Go.RowKit
theorem f_ {S:aa} {cu cg dir:Int} {nm:List UInt8} (h:jK S cu cg dir nm=0):aV S cu cg dir nm=0/\aK S.nodes (bk (ac S.nodes dir).af nm)=true/\ar S.ag (bk (ac S.nodes dir).af nm)=bk (ac S.nodes dir).af nm/\lY S cu cg dir nm=ac S.nodes dir/\h_ S cu cg dir nm=ac S.nodes (bk (ac S.nodes dir).af nm):=by
 have e1:lY S cu cg dir nm=ac S.nodes dir:=by unfold lY;rw[if_pos h]
 have e2:h_ S cu cg dir nm=ac S.nodes (bk (ac S.nodes dir).af nm):=by unfold h_;rw[if_pos h]
 refine ⟨?_,?_,?_,e1,e2⟩<;>unfold jK at h<;>split at h
 ·rename_i h1;exact absurd h h1
 ·rename_i h1;exact Decidable.not_not.1 h1
 ·rename_i h1;exact absurd h h1
 ·split at h
  ·cases h
  ·rename_i h2;simpa using h2
 ·rename_i h1;exact absurd h h1
 ·split at h
  ·cases h
  ·split at h
   ·cases h
   ·rename_i h3;exact Decidable.not_not.1 h3
attribute [local irreducible] wpQuiet
def aaa (S:aa) (cu:Int) (d n old:ai):Int:=
 if ¬ar S.ag old.no=old.no then 16 else if n.kind=1/\¬old.kind=1 then 9 else if ¬n.kind=1/\old.kind=1 then 8
 else if 0<(old.af.length:Int) then 10 else if PP cu d.mode d.uid old.uid=false then 4 else 0
end
section
open Go.ChangeShapes Go.WideShapes Go.ChangeAt Go.RowKit
attribute [local irreducible] wpQuiet
def zX (S:aa) (cu cg to_:Int) (b:List UInt8):Int:=bk (cU S cu cg to_ b).af b
def JD (S:aa) (cu cg fr to_:Int) (a b:List UInt8):Prop:=aK S.nodes (zX S cu cg to_ b)=true/\(ac S.nodes (zX S cu cg to_ b)).no=(h_ S cu cg fr a).no
instance (S:aa) (cu cg fr to_:Int) (a b:List UInt8):Decidable (JD S cu cg fr to_ a b):=by unfold JD;exact inferInstance
def U8 (S:aa) (cu cg fr to_ x y:Int) (d n t:ai) (is:Bool) (old:ai):Int:=
 if ¬x=0 then x else if ¬y=0 then y else if ¬d.dev=t.dev then 11 else if n.kind=1/\NG S to_ n.no=true then 17
 else if is=true/\old.no=n.no then 0 else if n.kind=1/\¬fr=to_/\fy cu cg n.uid n.gid n.mode 2=false then 6
 else if is=true then aaa S cu t n old else 0
def PY (S:aa) (cu cg fr to_:Int) (a b:List UInt8):Int:=
 U8 S cu cg fr to_ (jK S cu cg fr a) (aV S cu cg to_ b) (lY S cu cg fr a) (h_ S cu cg fr a) (cU S cu cg to_ b) (aK S.nodes (zX S cu cg to_ b)) (ac S.nodes (zX S cu cg to_ b))
def zY (S:aa) (now no:Int):aa:=if aK S.nodes no=true then mQ S now (ac S.nodes no) else S
def U9 (now to_:Int) (n:ai):ai:={n with ctime:=now,up:=if n.kind=1 then to_ else n.up}
def U_ (T:aa) (now fr to_:Int) (a b:List UInt8) (d n:ai):aa:=
 aJ (cI (cI T fr now (ij d.af a)) to_ now (dq (ac (cI T fr now (ij d.af a)).nodes to_).af (b,n.no))) (U9 now to_ n)
def Eo (S:aa) (cu cg now fr to_:Int) (a b:List UInt8):aa:=
 if PY S cu cg fr to_ a b=0/\¬JD S cu cg fr to_ a b then U_ (zY S now (zX S cu cg to_ b)) now fr to_ a b (lY S cu cg fr a) (h_ S cu cg fr a) else S
end
section
open Go.ChangeShapes Go.WideShapes Go.ChangeAt Go.RowKit
section
variable {H:Type} {enc:TypeId×Value->H} {w:World} {base:Nat} {spare:Nat->Bool} {held:Bool}
theorem jL:Tryz.prog.cellsOf 3=1:=by kernel_rfl
theorem yc:Tryz.prog.cellsOf 9=1:=by kernel_rfl
theorem pM:Tryz.prog.cellsOf 27=2:=by kernel_rfl
theorem CJ {n:Nat} {cs:List Value} {x:DataW H×List MemPlace} (h:DataW.trod enc Tryz.prog w base spare held n 27 cs=some x):∃v:(Int×Int),cs=[.int .i64 v.1,.int .i64 v.2]:=by
 obtain ⟨xs,m,_,_,hl,hxl,hf⟩:=DataW.trod_struct Tryz.underlying27 h;rw [pM]at hl
 match cs,hl with
 | [a0,a1],_ =>
  match xs,hxl with
  | [y0,y1],_ =>
   have f0:DataW.trod enc Tryz.prog w base spare held m 3 (List.take (Tryz.prog.cellsOf 3) (List.drop 0 [a0,a1]))=some y0:=hf 0 _ rfl;rw [jL]at f0;obtain ⟨k0,h0,_,_⟩:=DataW.trod_int Tryz.underlying3 f0;have e0:a0=.int .i64 k0:=by simpa using h0
   have f1:DataW.trod enc Tryz.prog w base spare held m 3 (List.take (Tryz.prog.cellsOf 3) (List.drop 1 [a0,a1]))=some y1:=hf 1 _ rfl;rw [jL]at f1;obtain ⟨k1,h1,_,_⟩:=DataW.trod_int Tryz.underlying3 f1;have e1:a1=.int .i64 k1:=by simpa using h1
   exact ⟨⟨k0,k1⟩,by rw[e0,e1]⟩
end
end
section
open Go.ChangeShapes Go.WideShapes Go.ChangeAt Go.RowKit
attribute [local irreducible] fY
attribute [local go_sem] eP
end
section
open Go.ChangeShapes Go.WideShapes Go.ChangeAt Go.RowKit
attribute [local irreducible] wpQuiet
theorem wK (l:List aw) (nm:List UInt8) (no:Int):bk (dq l (nm,no)) nm=no:=by
 unfold bk dq iN je;have h1:(l.filter fun x=>bl x.1 nm).find? (fun x=>x.1 == nm)=none:=by
  rw [List.find?_eq_none];intro x hx;rw [List.mem_filter]at hx;have:=vW hx.2;simpa using this
 simp only[List.find?_append,h1,Option.none_or,List.find?_cons,beq_self_eq_true,Option.some_or]
theorem CK (l:List aw) (nm:List UInt8) (no:Int) (h:∀x∈l,x.1≠nm):(dq l (nm,no)).length=l.length+1:=by
 have hs : ∀l:List aw,(∀x∈l,x.1≠nm)->(l.filter fun x=>bl x.1 nm).length+(l.filter fun x=>bl nm x.1).length=l.length:=by
  intro l
  induction l with
  | nil=>intro _;rfl
  | cons x l ih =>
   intro h;have:=ih fun y hy=>h y (List.mem_cons_of_mem _ hy)
   simp only[List.filter_cons,List.length_cons];have hx:=h x (List.mem_cons_self ..);rcases lK x.1 nm with g|g|g
   ·have g2:=fD g
    rw [if_pos g,if_neg (by rw[g2];decide)];simp only[List.length_cons];omega
   ·exact absurd g hx
   ·have g2:=fD g
    rw [if_pos g,if_neg (by rw[g2];decide)];simp only[List.length_cons];omega
 have:=hs l h;unfold dq iN je;simp only[List.length_append,List.length_singleton];omega
structure Va (S T:aa) (uid gid now dir:Int) (nm:List UInt8):Prop where
 len:T.nodes.length=S.nodes.length+1
 node:(ac T.nodes (S.last+1)).uid=uid/\(ac T.nodes (S.last+1)).gid=gid/\(ac T.nodes (S.last+1)).dev=(ac S.nodes dir).dev/\(ac T.nodes (S.last+1)).ah=1/\(ac T.nodes (S.last+1)).mtime=now
 find:bk (ac T.nodes dir).af nm=S.last+1
 af:(ac T.nodes dir).af.length=(ac S.nodes dir).af.length+1
 mtime:(ac T.nodes dir).mtime=now
theorem tK {S:aa} (hu:aD S.nodes S.last) {n:ai} (hi:aK S.nodes n.no=true):ac (aJ S n).nodes n.no=n:=by
 have hm:=xQ (n:=n) (aj hi).2.2;rw [if_pos (aj hi).2.1]at hm;exact (dy (S:=aJ S n) (hu.set n) hm).1
theorem came {c:Nat} {S:aa} (h:dC c S) {cu cg now dir:Int} {nm:List UInt8} {n:ai} (h0:bC S cu cg now dir nm n=0):Va S (aW S cu cg now dir nm n) cu cg now dir nm:=by
 obtain ⟨hp,hf,mD⟩:=eA h0;obtain ⟨hi,qD,hc⟩:=aE hp;obtain ⟨e1,e2⟩:=fk h.aC (bi S cu cg now dir n) hi;obtain ⟨_,aU,hmem⟩:=aj hi;have hlt:=(h.aC.2 _ hmem).2;rw [aU]at hlt;have hT:aW S cu cg now dir nm n=aJ (aQ S (bi S cu cg now dir n)) (eQ (aQ S (bi S cu cg now dir n)) dir now (dq (ac S.nodes dir).af (nm,S.last+1))):=by
  unfold aW cI;rw[if_pos h0]
 have hN:(eQ (aQ S (bi S cu cg now dir n)) dir now (dq (ac S.nodes dir).af (nm,S.last+1))).no=dir:=by
  show (ac (aQ S (bi S cu cg now dir n)).nodes dir).no=dir;rw [e1,aU]
 have hu:=pL h.live (bi S cu cg now dir n);have hd:ac (aW S cu cg now dir nm n).nodes dir=eQ (aQ S (bi S cu cg now dir n)) dir now (dq (ac S.nodes dir).af (nm,S.last+1)):=by
  rw [hT];have:=tK hu (n:=eQ (aQ S (bi S cu cg now dir n)) dir now (dq (ac S.nodes dir).af (nm,S.last+1))) (by rw[hN];exact e2);rw [hN]at this;exact this
 have rW:ac (aW S cu cg now dir nm n).nodes (S.last+1)={bi S cu cg now dir n with no:=S.last+1}:=by
  rw [hT,(fZ (by rw[hN];omega)).1];have hm:({bi S cu cg now dir n with no:=S.last+1}:ai)∈(aQ S (bi S cu cg now dir n)).nodes:=by
   unfold aQ;rw [if_pos mD];exact List.mem_append_right _ (List.mem_singleton.2 rfl)
  exact (dy hu hm).1
 have hx:=wJ (fun x hx=>(h.pos _ hmem x hx).1) hf;refine ⟨?_,by rw[rW];exact⟨rfl,rfl,rfl,rfl,rfl⟩,by rw[hd];exact wK _ _ _,by rw[hd];exact CK _ _ _ hx,by rw[hd];rfl⟩;rw [hT];show (cA _ _).length=_;rw [pz];unfold aQ;rw [if_pos mD];simp
theorem FX {p e:Int} (h:fQ p e=0):p=0/\e=0:=by
 unfold fQ at h;split at h
 ·rename_i h1;exact absurd h h1
 ·rename_i h1;exact⟨Decidable.not_not.1 h1,h⟩
def Ro (w:World) (B:Nat) (g:bJ) (S:aa) (uid gid now dir:Int) (nm:List UInt8) (a x:Int) (w':World):Prop:=
 ∃ T,ep w' B g T/\Only g.list w w'/\((x≠0/\a=0/\T=S)\/(x=0/\a=S.last+1/\Va S T uid gid now dir nm/\aD T.nodes T.last))
theorem there {c:Nat} {S:aa} (h:dC c S) {w w':World} {B:Nat} {g:bJ} {cu cg now dir p:Int} {nm:List UInt8} {n:ai} {e:Ending}
  (hr:En w B g (dR p S (aW S cu cg now dir nm n)) (gZ p (cZ S cu cg now dir nm n)) (fQ p (bC S cu cg now dir nm n)) e w'):∃a x,e=.returned (.tuple #[.int .i64 a,.int .i64 x])/\Ro w B g S cu cg now dir nm a x w':=by
 obtain ⟨he,hK,hO⟩:=hr;refine ⟨_,_,he,_,hK,hO,?_⟩
 by_cases hz:fQ p (bC S cu cg now dir nm n)=0
 ·obtain ⟨h1,h2⟩:=FX hz
  right
  subst h1;have hT:dR 0 S (aW S cu cg now dir nm n)=aW S cu cg now dir nm n:=rfl;refine ⟨hz,by show cZ S cu cg now dir nm n=_;unfold cZ;rw[if_pos h2],by rw[hT];exact came h h2,?_⟩;rw [hT];unfold aW;rw [if_pos h2];exact (pL h.live _).set _
 ·left
  refine ⟨hz,?_,?_⟩
  ·unfold fQ gZ at *
   split
   ·rfl
   ·rename_i h1
    rw [if_neg h1]at hz;unfold cZ;rw[if_neg hz]
  ·unfold fQ dR at *
   split
   ·rfl
   ·rename_i h1
    rw [if_neg h1]at hz;unfold aW;rw[if_neg hz]
end
end Go.Proofs.YtblbohcaphcobaaGreatDoor
