import Derived.Test.YtpibnfdolojpcaaGreatBunH
import Derived.Test.YtpibnfdolojpcaaGreatShelf
import Derived.Test.YtpibnfdolojpcaaGreatBunD
import Derived.Test.YtpibnfdolojpcaaGreatBunF
import Derived.Test.YtpibnfdolojpcaaGreatBunE
import Derived.Test.YtpibnfdolojpcaaGreatBunA
import Derived.Test.YtpibnfdolojpcaaGreatBunG
import Derived.Deep.CutBlock
set_option maxHeartbeats 8000000
set_option maxRecDepth 100000
namespace Go.Proofs.YtpibnfdolojpcaaGreat
section
open Go.ChangeShapes Go.WideShapes Go.ChangeAt Go.RowKit
def Fv (w:World) (B:Nat) (g:bG) (T:ae) (a x:Int) (e:Ending) (w':World):Prop:=e=.returned (.tuple #[.int .i64 a,.int .i64 x])/\dM w' B g T/\Only g.list w w'
theorem uK {w w':World} {B:Nat} {g:bG} {S T:ae} {p a x:Int} (h:dM w B g S) (hE:Ext w w') (hp:p≠0):Fv w B g (fc p S T) (js p a) (iw p x) (.returned (.tuple #[.int .i64 0,.int .i64 p])) w':=
 ⟨by unfold js iw;rw[if_pos hp,if_pos hp],by unfold fc;rw[if_pos hp];exact h.ext hE,Only.ax hE⟩
theorem AH (l:List UInt8) (c:UInt8):decide (0<=Lib.indexByte l c)=hasB l c:=by
 rw [<-Lib.contains_iff_indexByte,Bool.eq_iff_iff];simp [hasB]
theorem LG (B:Nat) (g:bG) (S:ae) (cu cg now dir:Int) (nm:List UInt8) (mode:Int) (w:World) (h:dM w B g S) (O:Ok S) (iE:S.last<=100000) :
  Calls Tryz.prog 156 #[.pointer (some ⟨g.bW,0,none⟩),.agg #[cu,cg],.int .i64 now,.int .i64 dir,bs nm,.int .i64 mode] w
   (Fv w B g (fc (mH mode) S (bV S cu cg now dir nm (dY mode dir))) (js (mH mode) (dD S cu cg now dir nm (dY mode dir))) (iw (mH mode) (cC S cu cg now dir nm (dY mode dir)))):=by
 obtain⟨W0,aH⟩:=zE (w.alloc (.cells #[cu,cg] 27));have E0:Ext w W0:=by rw[aH];exact (Ext.refl _).alloc _
 have C0:Has W0 w.heap.size (.cells #[cu,cg] 27):=by rw[aH];exact Has.new w _
 have x0:W0.cell? ⟨w.heap.size,0,none⟩=some (.int .i64 cu):=C0.cell 0;have x1:W0.cell? ⟨w.heap.size,1,none⟩=some (.int .i64 cg):=C0.cell 1;have xz:=C0.lt;have HO:=zH O;obtain⟨p,hp⟩:=zE (mH mode);have HS:Hid (∀(w':World) (x:Int),Ext w w'->p=x->x≠0->Fv w B g (fc p S (bV S cu cg now dir nm (dY mode dir))) (js p (dD S cu cg now dir nm (dY mode dir))) (iw p (cC S cu cg now dir nm (dY mode dir))) (.returned (.tuple #[.int .i64 0,.int .i64 x])) w'):=by
  show ∀(w':World) (x:Int),_;intro w' x hE hx h0;subst hx;exact uK h hE h0
 have HD:Hid (∀(e:Ending) (w':World),yP W0 B g S cu cg now dir nm (dY mode dir) e w'->p=0->e=.returned (.tuple #[.int .i64 (dD S cu cg now dir nm (dY mode dir)),.int .i64 (cC S cu cg now dir nm (dY mode dir))])/\Fv w B g (fc p S (bV S cu cg now dir nm (dY mode dir))) (js p (dD S cu cg now dir nm (dY mode dir))) (iw p (cC S cu cg now dir nm (dY mode dir))) e w'):=by
  show ∀(e:Ending) (w':World),_;rintro e w' ⟨he,hK,hO⟩ h0;have n0:¬(p≠0):=fun x=>x h0
  exact ⟨he,by unfold js iw;rw[if_neg n0,if_neg n0];exact he,by unfold fc;rw[if_neg n0];exact hK,Only.pre E0 hO⟩
 have KP:Hid (Calls Tryz.prog 191 #[.pointer (some ⟨g.bW,0,none⟩),.agg #[cu,cg],.int .i64 now,.int .i64 dir,bs nm,.agg #[.int .i64 ((dY mode dir)).no,.int .i64 ((dY mode dir)).dev,.int .i64 ((dY mode dir)).kind,.int .i64 ((dY mode dir)).mode,.int .i64 ((dY mode dir)).uid,.int .i64 ((dY mode dir)).gid,.int .i64 ((dY mode dir)).mtime,.int .i64 ((dY mode dir)).ctime,.int .i64 ((dY mode dir)).ag,.int .i64 ((dY mode dir)).up,.string (bs ((dY mode dir)).data),.slice none ((dY mode dir)).af.length 0]] W0 (yP W0 B g S cu cg now dir nm (dY mode dir))):=by
  refine uH B g S cu cg now dir nm (dY mode dir) none 0 W0 (h.ext E0) O iE ⟨.nil _ _ _,Nat.le_refl _,Nat.zero_le _,fun _=>rfl⟩ ?_;simp [dY,aa]
 rw [<-hp];have HP:=zH hp;have lD:=zH E0;clear O hp E0 C0;go_enter Tryz.func156,Tryz.ntmps156;go_upto_region 1 with fail;rw [<-aH];clear aH
 by_cases c1:mode<0
 ·have t1:decide (mode<0)=true:=decide_eq_true c1
  have hE:Hid (p=1):=by show _=_;rw[HP.out];unfold mH;rw[if_pos (.inl c1)]
  clear c1;go_wp2_with fail;go_ret2;exact HS.out _ _ lD.out hE.out (by decide)
 ·have t1:decide (mode<0)=false:=decide_eq_false c1
  by_cases c2:1023<mode
  ·have t2:decide (1023<mode)=true:=decide_eq_true c2
   have hE:Hid (p=1):=by show _=_;rw[HP.out];unfold mH;rw[if_pos (.inr c2)]
   clear c1 c2;go_wp2_with fail;go_ret2;exact HS.out _ _ lD.out hE.out (by decide)
  ·have t2:decide (1023<mode)=false:=decide_eq_false c2
   have hE:Hid (p=0):=by show _=_;rw[HP.out];unfold mH;rw[if_neg (by omega)]
   clear c1 c2;go_wp2_with fail;refine KP.out.mono ?_;rintro e w2 hr;obtain ⟨rfl,hD⟩:=HD.out _ _ hr hE.out;clear hr;go_wp2_with fail;go_ret2;exact hD
theorem G7 (B:Nat) (g:bG) (S:ae) (cu cg now dir:Int) (nm:List UInt8) (mode:Int) (data:List UInt8) (w:World) (h:dM w B g S) (O:Ok S) (iE:S.last<=100000) (hd:data.length<=1000000000) :
  Calls Tryz.prog 157 #[.pointer (some ⟨g.bW,0,none⟩),.agg #[cu,cg],.int .i64 now,.int .i64 dir,bs nm,.int .i64 mode,bs data] w
   (Fv w B g (fc (ik mode data.length) S (bV S cu cg now dir nm (cG mode data))) (js (ik mode data.length) (dD S cu cg now dir nm (cG mode data))) (iw (ik mode data.length) (cC S cu cg now dir nm (cG mode data)))):=by
 obtain⟨W0,aH⟩:=zE (w.alloc (.cells #[cu,cg] 27));have E0:Ext w W0:=by rw[aH];exact (Ext.refl _).alloc _
 have C0:Has W0 w.heap.size (.cells #[cu,cg] 27):=by rw[aH];exact Has.new w _
 have x0:W0.cell? ⟨w.heap.size,0,none⟩=some (.int .i64 cu):=C0.cell 0;have x1:W0.cell? ⟨w.heap.size,1,none⟩=some (.int .i64 cg):=C0.cell 1;have xz:=C0.lt;have HO:=zH O;obtain⟨p,hp⟩:=zE (ik mode data.length);have HS:Hid (∀(w':World) (x:Int),Ext w w'->p=x->x≠0->Fv w B g (fc p S (bV S cu cg now dir nm (cG mode data))) (js p (dD S cu cg now dir nm (cG mode data))) (iw p (cC S cu cg now dir nm (cG mode data))) (.returned (.tuple #[.int .i64 0,.int .i64 x])) w'):=by
  show ∀(w':World) (x:Int),_;intro w' x hE hx h0;subst hx;exact uK h hE h0
 have HD:Hid (∀(e:Ending) (w':World),yP W0 B g S cu cg now dir nm (cG mode data) e w'->p=0->e=.returned (.tuple #[.int .i64 (dD S cu cg now dir nm (cG mode data)),.int .i64 (cC S cu cg now dir nm (cG mode data))])/\Fv w B g (fc p S (bV S cu cg now dir nm (cG mode data))) (js p (dD S cu cg now dir nm (cG mode data))) (iw p (cC S cu cg now dir nm (cG mode data))) e w'):=by
  show ∀(e:Ending) (w':World),_;rintro e w' ⟨he,hK,hO⟩ h0;have n0:¬(p≠0):=fun x=>x h0
  exact ⟨he,by unfold js iw;rw[if_neg n0,if_neg n0];exact he,by unfold fc;rw[if_neg n0];exact hK,Only.pre E0 hO⟩
 have KP:Hid (Calls Tryz.prog 191 #[.pointer (some ⟨g.bW,0,none⟩),.agg #[cu,cg],.int .i64 now,.int .i64 dir,bs nm,.agg #[.int .i64 ((cG mode data)).no,.int .i64 ((cG mode data)).dev,.int .i64 ((cG mode data)).kind,.int .i64 ((cG mode data)).mode,.int .i64 ((cG mode data)).uid,.int .i64 ((cG mode data)).gid,.int .i64 ((cG mode data)).mtime,.int .i64 ((cG mode data)).ctime,.int .i64 ((cG mode data)).ag,.int .i64 ((cG mode data)).up,.string (bs ((cG mode data)).data),.slice none ((cG mode data)).af.length 0]] W0 (yP W0 B g S cu cg now dir nm (cG mode data))):=by
  refine uH B g S cu cg now dir nm (cG mode data) none 0 W0 (h.ext E0) O iE ⟨.nil _ _ _,Nat.le_refl _,Nat.zero_le _,fun _=>rfl⟩ ?_;exact hd
 rw [<-hp];have HP:=zH hp;have lD:=zH E0;clear O hp E0 C0;go_enter Tryz.func157,Tryz.ntmps157;go_upto_region 1 with fail;rw [<-aH];clear aH;have hsz:((bs data).size:Int)=data.length:=by rw[bi]
 by_cases c1:mode<0
 ·have t1:decide (mode<0)=true:=decide_eq_true c1
  have hE:Hid (p=1):=by show _=_;rw[HP.out];unfold ik;rw[if_pos (.inl c1)]
  clear c1;go_wp2_with fail;go_ret2;exact HS.out _ _ lD.out hE.out (by decide)
 ·have t1:decide (mode<0)=false:=decide_eq_false c1
  by_cases c2:1023<mode
  ·have t2:decide (1023<mode)=true:=decide_eq_true c2
   have hE:Hid (p=1):=by show _=_;rw[HP.out];unfold ik;rw[if_pos (.inr c2)]
   clear c1 c2;go_wp2_with fail;go_ret2;exact HS.out _ _ lD.out hE.out (by decide)
  ·have t2:decide (1023<mode)=false:=decide_eq_false c2
   by_cases c3:(1048576:Int)<data.length
   ·have t3:decide ((1048576:Int)<(data.length:Int))=true:=decide_eq_true c3
    have hE:Hid (p=3):=by show _=_;rw[HP.out];unfold ik;rw[if_neg (by omega),if_pos c3]
    clear c1 c2 c3;go_wp2_with fail;go_ret2;exact HS.out _ _ lD.out hE.out (by decide)
   ·have t3:decide ((1048576:Int)<(data.length:Int))=false:=decide_eq_false c3
    have hE:Hid (p=0):=by show _=_;rw[HP.out];unfold ik;rw[if_neg (by omega),if_neg c3]
    clear c1 c2 c3;go_wp2_with fail;refine KP.out.mono ?_;rintro e w2 hr;obtain ⟨rfl,hD⟩:=HD.out _ _ hr hE.out;clear hr;go_wp2_with fail;go_ret2;exact hD
theorem LH (B:Nat) (g:bG) (S:ae) (cu cg now dir:Int) (nm:List UInt8) (text:List UInt8) (w:World) (h:dM w B g S) (O:Ok S) (iE:S.last<=100000) (hd:text.length<=1000000000) :
  Calls Tryz.prog 158 #[.pointer (some ⟨g.bW,0,none⟩),.agg #[cu,cg],.int .i64 now,.int .i64 dir,bs nm,bs text] w
   (Fv w B g (fc (k_ text) S (bV S cu cg now dir nm (eC text))) (js (k_ text) (dD S cu cg now dir nm (eC text))) (iw (k_ text) (cC S cu cg now dir nm (eC text)))):=by
 obtain⟨W0,aH⟩:=zE (w.alloc (.cells #[cu,cg] 27));have E0:Ext w W0:=by rw[aH];exact (Ext.refl _).alloc _
 have C0:Has W0 w.heap.size (.cells #[cu,cg] 27):=by rw[aH];exact Has.new w _
 have x0:W0.cell? ⟨w.heap.size,0,none⟩=some (.int .i64 cu):=C0.cell 0;have x1:W0.cell? ⟨w.heap.size,1,none⟩=some (.int .i64 cg):=C0.cell 1;have xz:=C0.lt;have HO:=zH O;obtain⟨p,hp⟩:=zE (k_ text);have HS:Hid (∀(w':World) (x:Int),Ext w w'->p=x->x≠0->Fv w B g (fc p S (bV S cu cg now dir nm (eC text))) (js p (dD S cu cg now dir nm (eC text))) (iw p (cC S cu cg now dir nm (eC text))) (.returned (.tuple #[.int .i64 0,.int .i64 x])) w'):=by
  show ∀(w':World) (x:Int),_;intro w' x hE hx h0;subst hx;exact uK h hE h0
 have HD:Hid (∀(w1:World) (e:Ending) (w':World),Ext w w1->yP w1 B g S cu cg now dir nm (eC text) e w'->p=0->e=.returned (.tuple #[.int .i64 (dD S cu cg now dir nm (eC text)),.int .i64 (cC S cu cg now dir nm (eC text))])/\Fv w B g (fc p S (bV S cu cg now dir nm (eC text))) (js p (dD S cu cg now dir nm (eC text))) (iw p (cC S cu cg now dir nm (eC text))) e w'):=by
  show ∀(w1:World) (e:Ending) (w':World),_;rintro w1 e w' yi ⟨he,hK,hO⟩ h0;have n0:¬(p≠0):=fun x=>x h0
  exact ⟨he,by unfold js iw;rw[if_neg n0,if_neg n0];exact he,by unfold fc;rw[if_neg n0];exact hK,Only.pre yi hO⟩
 have KP:Hid (∀w1,Ext w w1->Calls Tryz.prog 191 #[.pointer (some ⟨g.bW,0,none⟩),.agg #[cu,cg],.int .i64 now,.int .i64 dir,bs nm,.agg #[.int .i64 ((eC text)).no,.int .i64 ((eC text)).dev,.int .i64 ((eC text)).kind,.int .i64 ((eC text)).mode,.int .i64 ((eC text)).uid,.int .i64 ((eC text)).gid,.int .i64 ((eC text)).mtime,.int .i64 ((eC text)).ctime,.int .i64 ((eC text)).ag,.int .i64 ((eC text)).up,.string (bs ((eC text)).data),.slice none ((eC text)).af.length 0]] w1 (yP w1 B g S cu cg now dir nm (eC text))):=by
  show ∀w1,_;intro w1 hE;exact uH B g S cu cg now dir nm (eC text) none 0 w1 (h.ext hE) O iE ⟨.nil _ _ _,Nat.le_refl _,Nat.zero_le _,fun _=>rfl⟩ hd
 rw [<-hp];have HP:=zH hp;have lD:=zH E0;clear O hp E0 C0
 by_cases c0:text=[]
 ·have hE:Hid (p=1):=by show _=_;rw[HP.out];unfold k_;rw[if_pos (.inl c0)]
  subst c0;have VX:(bs ([]:List UInt8)).toList.isEmpty=true:=by rw[bk];rfl
  go_enter Tryz.func158,Tryz.ntmps158;go_upto_region 1 with fail;rw [<-aH];clear aH;go_wp2_with fail;go_ret2;exact HS.out _ _ lD.out hE.out (by decide)
 ·have VX:(bs text).toList.isEmpty=false:=by rw[bk,List.isEmpty_eq_false_iff];exact c0
  have hsz:((bs text).size:Int)=text.length:=by rw[bi]
  obtain⟨hb,TB⟩:=zE (hasB text 0);have hh:∀w',Calls Tryz.prog 192 #[bs text,.string ⟨#[0]⟩] w' (aI w' (.bool hb)):=fun w'=>by
   have h:=Tryz.strings_Contains_one (bs text) 0 w';rw [mj,AH,<-TB]at h;exact h.mono fun e w2 h=>⟨h.1,by rw[h.2];exact Ext.refl _⟩
  have HH:=zH hh;have HB:=zH TB;have Xu:=zH c0;have HW0:=zH aH;clear hh TB c0;go_enter Tryz.func158,Tryz.ntmps158;go_upto_region 1 with fail;rw [<-aH];clear aH;go_wp2_with fail;refine (HH.out _).mono ?_;rintro e w1 ⟨rfl,b1⟩;have E1:=lD.out.trans b1;have x0':w1.cell? ⟨w.heap.size,0,none⟩=some (.int .i64 cu):=(b1.cell xz).trans x0;have x1':w1.cell? ⟨w.heap.size,1,none⟩=some (.int .i64 cg):=(b1.cell xz).trans x1;have VY:w.heap.size<w1.heap.size:=by have:=b1.size;omega
  clear x0 x1 xz;cases hb
  ·by_cases c1:(4096:Int)<text.length
   ·have t1:decide ((4096:Int)<(text.length:Int))=true:=decide_eq_true c1
    have hE:Hid (p=13):=by show _=_;rw[HP.out];unfold k_;rw[if_neg (by rintro (h'|h');exact Xu.out h';rw[<-HB.out]at h';cases h'),if_pos (by omega)]
    clear c1;go_wp2_with fail;go_ret2;exact HS.out _ _ E1 hE.out (by decide)
   ·have t1:decide ((4096:Int)<(text.length:Int))=false:=decide_eq_false c1
    have hE:Hid (p=0):=by show _=_;rw[HP.out];unfold k_;rw[if_neg (by rintro (h'|h');exact Xu.out h';rw[<-HB.out]at h';cases h'),if_neg (by omega)]
    clear c1;go_wp2_with fail;refine (KP.out _ E1).mono ?_;rintro e w2 hr;obtain ⟨rfl,hD⟩:=HD.out _ _ _ E1 hr hE.out;clear hr;go_wp2_with fail;go_ret2;exact hD
  ·have hE:Hid (p=1):=by show _=_;rw[HP.out];unfold k_;rw[if_pos (.inr HB.out.symm)]
   go_wp2_with fail;go_ret2;exact HS.out _ _ E1 hE.out (by decide)
def ct (S:ae) (cu cg dir:Int) (nm:List UInt8):Int:=
 if ¬aS S cu cg dir nm=0 then aS S cu cg dir nm else if aJ S.nodes (aK (ac S.nodes dir).af nm)=false then 5
 else if ¬ar S.ah (aK (ac S.nodes dir).af nm)=aK (ac S.nodes dir).af nm then 16
 else if jY cu (ac S.nodes dir).mode (ac S.nodes dir).uid (ac S.nodes (aK (ac S.nodes dir).af nm)).uid=false then 4 else 0
def dF (S:ae) (cu cg dir:Int) (nm:List UInt8):ai:=if ct S cu cg dir nm=0 then ac S.nodes dir else aa
def cv (S:ae) (cu cg dir:Int) (nm:List UInt8):ai:=if ct S cu cg dir nm=0 then ac S.nodes (aK (ac S.nodes dir).af nm) else aa
def fu (now:Int) (n:ai):ai:={n with ag:=n.ag-1,ctime:=now}
def ju (S:ae) (now:Int) (n:ai):ae:=if n.ag-1<1 then gK (aE S (fu now n)) n.no else aE S (fu now n)
def eN (S:ae) (now:Int) (d n:ai) (nm:List UInt8):ae:=ju (bR S d.no now (cX d.af nm)) now n
def eR (S:ae) (cu cg dir:Int) (nm:List UInt8):Int:=if ¬ct S cu cg dir nm=0 then ct S cu cg dir nm else if (cv S cu cg dir nm).kind=1 then 8 else 0
def gi (S:ae) (cu cg dir:Int) (nm:List UInt8):Int:=
 if ¬ct S cu cg dir nm=0 then ct S cu cg dir nm else if ¬(cv S cu cg dir nm).kind=1 then 9 else if 0<((cv S cu cg dir nm).af.length:Int) then 10 else 0
def eS (S:ae) (cu cg now dir:Int) (nm:List UInt8):ae:=if eR S cu cg dir nm=0 then eN S now (dF S cu cg dir nm) (cv S cu cg dir nm) nm else S
def gI (S:ae) (cu cg now dir:Int) (nm:List UInt8):ae:=if gi S cu cg dir nm=0 then eN S now (dF S cu cg dir nm) (cv S cu cg dir nm) nm else S
structure G8 (S:ae) (n:ai):Prop where
 ag:1<=n.ag/\n.ag<=1000
 dev:fU S.ah n.dev=true
 data:n.data.length<=1048576
 one:n.no=1->n.dev=1
theorem G8.live {S:ae} {n:ai} (h:G8 S n) (L:Live S) (now:Int):Live (aE S (fu now n)):=L.set _ h.dev h.data h.one
theorem Ok.held {S:ae} (O:Ok S) {no:Int} (hi:aJ S.nodes no=true):G8 S (ac S.nodes no):=
 ⟨O.ag _ (ak hi).2.2,(O.live.on _ (ak hi).2.2).1,(O.live.on _ (ak hi).2.2).2,O.live.one _ (ak hi).2.2⟩
theorem G9 (B:Nat) (g:bG) (S:ae) (now:Int) (n:ai) (A:Option Addr) (c:Nat) (w:World) (h:dM w B g S) (L:Live S) (hn:az w B n A c) (hh:G8 S n) :
  Calls Tryz.prog 200 #[.pointer (some ⟨g.bW,0,none⟩),.int .i64 now,.agg #[n.no,n.dev,n.kind,n.mode,n.uid,n.gid,n.mtime,n.ctime,n.ag,n.up,bs n.data,.slice A n.af.length c]] w (uE w B g (ju S now n)):=by
 obtain⟨W0,aH⟩:=zE (w.alloc (.cells #[n.no,n.dev,n.kind,n.mode,n.uid,n.gid,n.mtime,n.ctime,n.ag,n.up,bs n.data,.slice A n.af.length c] 66));have E0:Ext w W0:=by rw[aH];exact (Ext.refl _).alloc _
 obtain ⟨b5,gQ⟩:∃b,b=w.heap.size:=⟨_,rfl⟩;have N0:Has W0 b5 (.cells #[n.no,n.dev,n.kind,n.mode,n.uid,n.gid,n.mtime,n.ctime,n.ag,n.up,bs n.data,.slice A n.af.length c] 66):=by rw[aH,gQ];exact Has.new _ _
 have o7:w.heap.size<=b5:=by omega
 have HL:=zH L;have HH:=zH hh;have LL:=zH (hh.live L now);have y8:W0.cell? ⟨b5,8,none⟩=some (.int .i64 n.ag):=N0.cell 8;have y7:W0.cell? ⟨b5,7,none⟩=some (.int .i64 n.ctime):=N0.cell 7;have yf:∀i,W0.frozen? ⟨b5,i,none⟩=false:=fun i=>(N0.free i).trans (by simp)
 have yz:=N0.lt;have y4:IntKind.i64.wrap (n.ag-1)=n.ag-1:=a_ (by have:=hh.ag;omega) (by have:=hh.ag;omega);have HLT:Hid (ju S now n=if n.ag-1<1 then gK (aE S (fu now n)) n.no else aE S (fu now n)):=by show _=_;rfl
 obtain⟨n',hn'⟩:=zE (fu now n);rw [<-hn']at HLT LL;have CB:=zH hn';clear L hh hn';go_enter Tryz.func200,Tryz.ntmps200;go_upto_region 1 with fail;rw [<-aH];rw [<-gQ];clear aH gQ;go_upto_region 3 with fail;obtain⟨V,hV⟩:=zE ((W0.setCell ⟨b5,8,none⟩ (.int .i64 (n.ag-1))).setCell ⟨b5,7,none⟩ (.int .i64 now));rw [<-hV];have NV:Has V b5 (.cells #[.int .i64 (n').no,.int .i64 (n').dev,.int .i64 (n').kind,.int .i64 (n').mode,.int .i64 (n').uid,.int .i64 (n').gid,.int .i64 (n').mtime,.int .i64 (n').ctime,.int .i64 (n').ag,.int .i64 (n').up,.string (bs (n').data),.slice A (n').af.length c] 66):=by rw[hV,CB.out];exact (N0.setCell 8 _).setCell 7 _
 have OV:Only [b5] W0 V:=by rw[hV];exact (Only.setCell _ _ _ _).then (Only.setCell _ _ _ _)
 have OK:db W0 B [b5]:=by
  intro b hb;rw [List.mem_singleton]at hb;subst hb;exact ⟨by have:=h.1;have:=h.lt.1;omega,N0.fJ (by decide)⟩
 have EV:Ext w V:=OV.after E0 (by intro b hb;rw[List.mem_singleton]at hb;omega);have KV:=h.ext EV;have wj:az V B n' A c:=((hn.ext E0).only OV OK).same (by rw[CB.out];rfl);clear hV y8 y7 yf yz y4;obtain ⟨_,_,cdV,Lz,_⟩:=id KV;have v0:V.cell? ⟨g.bW,0,none⟩=some (.pointer (some ⟨g.bT,0,none⟩)):=Lz.cell 0;have vz:=Lz.lt;obtain ⟨x0,x1,x2,x3,x4,x5,x6,x7,x8,x9,ki,ke⟩:=NV.cD;have zN:=NV.lt;clear Lz;go_still_tail 5,(by kernel_rfl);change wpList _ _ _ _ _ V.drew;go_wp2_with fail;have ED:Ext V V.drew:=(Ext.refl _).drew;refine (lU B g S n' A c _ (KV.ext ED) HL.out.bc (wj.ext ED)).mono ?_;rintro e w7 ⟨rfl,K7,O7⟩;have hbg:b5∉g.list:=by
  have Sb:=h.lt;simp only[bG.list,List.mem_cons,List.not_mem_nil,or_false];omega
 have N7:=O7.has (NV.ext ED) hbg;have VW:Only g.list w w7:=Only.pre (EV.trans ED) O7;have z8:w7.cell? ⟨b5,8,none⟩=some (.int .i64 n'.ag):=N7.cell 8;have z0:w7.cell? ⟨b5,0,none⟩=some (.int .i64 n'.no):=N7.cell 0;have zz:=N7.lt;have lM:n'.ag=n.ag-1:=by rw[CB.out];rfl
 have aW:n'.no=n.no:=by rw[CB.out];rfl
 rw [lM]at z8;rw [aW]at z0;clear v0 vz x0 x1 x2 x3 x4 x5 x6 x7 x8 x9 ki ke zN lM aW
 by_cases hk:n.ag-1<=0
 ·have t1:decide (n.ag-1<=0)=true:=decide_eq_true hk
  have e1:Hid (ju S now n=gK (aE S n') n.no):=by show _=_;rw[HLT.out,if_pos (by omega)]
  clear hk;go_wp2_with fail;refine (GJ B g (aE S n') n.no _ K7 LL.out.ah LL.out.eight LL.out.roots LL.out.bc LL.out.on).mono ?_;rintro e w8 ⟨rfl,K8,O8⟩;go_wp2_with fail;go_end0;exact ⟨rfl,by rw[e1.out];exact K8,VW.then O8⟩
 ·have t1:decide (n.ag-1<=0)=false:=decide_eq_false hk
  have e1:Hid (ju S now n=aE S n'):=by show _=_;rw[HLT.out,if_neg (by omega)]
  clear hk;go_wp2_with fail;go_end0;exact ⟨rfl,by rw[e1.out];exact K7,VW⟩
open Go
theorem kU {id:Nat} {Q:Exit->Act->World->Prop} {a:Act} {w:World} {l:List Oper} (V:World) (m s:Nat) (d t:Tmp) (n:ai) (A:Option Addr) (c:Nat) (om os:Oper)
  (hB:Region.lexB .any l.toArray=true) (hc:CV l m s d t=true) (yC:l[m]?=some om) (lE:l[s]?=some os) (Gl:om.op=.alloc 66) (mO:os.op=.store 66 (.tmp d) (.tmp t)) (PE:d<a.tmps.size)
  (hV:Ext V w.drew) :
  aA Tryz.prog l.toArray V (fun a1=>aA Tryz.prog l.toArray V (fun a2=>a2.eval (.tmp t)=.agg #[n.no,n.dev,n.kind,n.mode,n.uid,n.gid,n.mtime,n.ctime,n.ag,n.up,bs n.data,.slice A n.af.length c]/\aA Tryz.prog l.toArray V (fun a3=>∀w' bx,Ext V w'->V.heap.size<=bx->Has w' bx (.cells #[n.no,n.dev,n.kind,n.mode,n.uid,n.gid,n.mtime,n.ctime,n.ag,n.up,bs n.data,.slice A n.af.length c] 66)->Q .normal (a3.put (some d) (.pointer (some ⟨bx,0,none⟩))) w') (l.drop (s+1)) a2) ((l.take s).drop (m+1)) a1) (l.take m) a ->
  (Code.region id l.toArray true).wp Tryz.prog Q a w:=by
 refine pk V m s d t (.agg #[n.no,n.dev,n.kind,n.mode,n.uid,n.gid,n.mtime,n.ctime,n.ag,n.up,bs n.data,.slice A n.af.length c]) (.cells #[.int .i64 0,.int .i64 0,.int .i64 0,.int .i64 0,.int .i64 0,.int .i64 0,.int .i64 0,.int .i64 0,.int .i64 0,.int .i64 0,.string ⟨#[]⟩,.slice none 0 0] 66) _ om os (by kernel_rfl) hB hc yC lE ?_ ?_ hV PE
 ·intro a w
  simp [execOp,Gl,go_sem]
 ·intro a w bx hsz hb he
  have hd:(a.put (some d) (.pointer (some ⟨bx,0,none⟩))).eval (.tmp d)=.pointer (some ⟨bx,0,none⟩):=by
   simp [Act.put,Act.eval,hsz]
  have hb':Has w bx (.cells #[aa.no,aa.dev,aa.kind,aa.mode,aa.uid,aa.gid,aa.mtime,aa.ctime,aa.ag,aa.up,bs aa.data,.slice none aa.af.length 0] 66):=hb;refine ⟨_,?_,hb'.setNode n A c,bH (fp n A c) 0 w⟩;simp only[execOp,mO,hd,he,run_storeAt_mid w bx 0 66 #[n.no,n.dev,n.kind,n.mode,n.uid,n.gid,n.mtime,n.ctime,n.ag,n.up,bs n.data,.slice A n.af.length c] hb'.there gh (nJ n A c),Sem.run_bind,Sem.run_pure,Result.andThen_ok];rfl
attribute [local irreducible] gH wpQuiet
attribute [local go_sem] fx
theorem lj {ops:Array Oper} {Ph:Nat->World->Prop} {ks:List Nat} {Q:Act->Prop} {a:Act} {o:Oper} {rest:List Oper} {k:Nat} (j:Nat) (hp:placeOf ks k=some j) (hg:o.guard=none) (hd:o.dst=none)
  (x y:Operand) (ho:o.op=.store 66 x y) (b:Nat) (n:ai) (A:Option Addr) (c:Nat) (hx:a.eval x=.pointer (some ⟨b,0,none⟩)) (hy:a.eval y=.agg #[n.no,n.dev,n.kind,n.mode,n.uid,n.gid,n.mtime,n.ctime,n.ag,n.up,bs n.data,.slice A n.af.length c])
  (hb:∀u:Wc (Ph j),∃(m:ai) (A':Option Addr) (c':Nat),Has u.w b (.cells #[m.no,m.dev,m.kind,m.mode,m.uid,m.gid,m.mtime,m.ctime,m.ag,m.up,bs m.data,.slice A' m.af.length c'] 66)) (hn:∀(u:Wc (Ph j)) (w':World),Has w' b (.cells #[n.no,n.dev,n.kind,n.mode,n.uid,n.gid,n.mtime,n.ctime,n.ag,n.up,bs n.data,.slice A n.af.length c] 66)->Only [b] u.w w'->Ph (j+1) w')
  (h:gH ops (Jy Tryz.prog Ph ks) Q rest (k+1) a):gH ops (Jy Tryz.prog Ph ks) Q (o::rest) k a:=by
 refine dN j hp hg fun K hK=>⟨undef,fun u=>?_,?_⟩
 ·obtain ⟨m,A',c',hu⟩:=hb u
  have hr:(execOp a.eval o).run Tryz.prog u.w=.ok .skip (u.w.setCells b 0 (fp n A c)):=by
   simp only[execOp,ho,hx,hy,run_storeAt_mid u.w b 0 66 #[n.no,n.dev,n.kind,n.mode,n.uid,n.gid,n.mtime,n.ctime,n.ag,n.up,bs n.data,.slice A n.af.length c] hu.there gh (nJ n A c),Sem.run_bind,Sem.run_pure,Result.andThen_ok];rfl
  rw [hr];exact ⟨rfl,hn u _ (hu.setNode n A c) (bH (fp n A c) 0 u.w)⟩
 ·rw [hd]
  exact hK _ h
theorem lX {fn:Func} {p q t:Tmp} (h:fn.results=#[.cell p 66,.cell q 66,.tmp t]) (tmps:Array Value) (w:World) (b1 b2:Nat) (n m:ai) (A A':Option Addr) (c c':Nat) (v:Value)
  (hp:tmps.getD p undef=.pointer (some ⟨b1,0,none⟩)) (hq:tmps.getD q undef=.pointer (some ⟨b2,0,none⟩)) (hv:tmps.getD t undef=v) (h1:Has w b1 (.cells #[n.no,n.dev,n.kind,n.mode,n.uid,n.gid,n.mtime,n.ctime,n.ag,n.up,bs n.data,.slice A n.af.length c] 66)) (h2:Has w b2 (.cells #[m.no,m.dev,m.kind,m.mode,m.uid,m.gid,m.mtime,m.ctime,m.ag,m.up,bs m.data,.slice A' m.af.length c'] 66)) :
  (results fn tmps).run Tryz.prog w=.ok (.tuple #[.agg #[n.no,n.dev,n.kind,n.mode,n.uid,n.gid,n.mtime,n.ctime,n.ag,n.up,bs n.data,.slice A n.af.length c],.agg #[m.no,m.dev,m.kind,m.mode,m.uid,m.gid,m.mtime,m.ctime,m.ag,m.up,bs m.data,.slice A' m.af.length c'],v]) w:=by
 have hp':tmps[p]?.getD undef=.pointer (some ⟨b1,0,none⟩):=by simpa using hp
 have hq':tmps[q]?.getD undef=.pointer (some ⟨b2,0,none⟩):=by simpa using hq
 have hv':tmps[t]?.getD undef=v:=by simpa using hv
 have iE:=run_loadVar_row (P:=Tryz.prog) w b1 66 66 _ (0,0) _ h1 Tryz.underlying66 rfl gh;have rh:=run_loadVar_row (P:=Tryz.prog) w b2 66 66 _ (0,0) _ h2 Tryz.underlying66 rfl gh;simp [results,h,hp',hq',hv',asAddr,iE,rh]
def LI (w:World) (B:Nat) (S:ae) (cu cg dir:Int) (nm:List UInt8) (e:Ending) (w':World):Prop:=
 ∃ A c A' c',e=.returned (.tuple #[.agg #[.int .i64 (dF S cu cg dir nm).no,.int .i64 (dF S cu cg dir nm).dev,.int .i64 (dF S cu cg dir nm).kind,.int .i64 (dF S cu cg dir nm).mode,.int .i64 (dF S cu cg dir nm).uid,.int .i64 (dF S cu cg dir nm).gid,.int .i64 (dF S cu cg dir nm).mtime,.int .i64 (dF S cu cg dir nm).ctime,.int .i64 (dF S cu cg dir nm).ag,.int .i64 (dF S cu cg dir nm).up,.string (bs (dF S cu cg dir nm).data),.slice A (dF S cu cg dir nm).af.length c],.agg #[.int .i64 (cv S cu cg dir nm).no,.int .i64 (cv S cu cg dir nm).dev,.int .i64 (cv S cu cg dir nm).kind,.int .i64 (cv S cu cg dir nm).mode,.int .i64 (cv S cu cg dir nm).uid,.int .i64 (cv S cu cg dir nm).gid,.int .i64 (cv S cu cg dir nm).mtime,.int .i64 (cv S cu cg dir nm).ctime,.int .i64 (cv S cu cg dir nm).ag,.int .i64 (cv S cu cg dir nm).up,.string (bs (cv S cu cg dir nm).data),.slice A' (cv S cu cg dir nm).af.length c'],.int .i64 (ct S cu cg dir nm)])/\az w' B (dF S cu cg dir nm) A c/\az w' B (cv S cu cg dir nm) A' c'/\Ext w w'
theorem uL (B:Nat) (g:bG) (S:ae) (cu cg dir:Int) (nm:List UInt8) (w:World) (h:dM w B g S) (O:Ok S) :
    Calls Tryz.prog 175 #[.pointer (some ⟨g.bW,0,none⟩),.agg #[cu,cg],.int .i64 dir,bs nm] w (LI w B S cu cg dir nm):=by
  obtain⟨W0,aH⟩:=zE (((w.alloc (.cells #[cu,cg] 27)).alloc (.cells #[.int .i64 0,.int .i64 0,.int .i64 0,.int .i64 0,.int .i64 0,.int .i64 0,.int .i64 0,.int .i64 0,.int .i64 0,.int .i64 0,.string ⟨#[]⟩,.slice none 0 0] 66)).alloc (.cells #[.int .i64 0,.int .i64 0,.int .i64 0,.int .i64 0,.int .i64 0,.int .i64 0,.int .i64 0,.int .i64 0,.int .i64 0,.int .i64 0,.string ⟨#[]⟩,.slice none 0 0] 66))
  have E0:Ext w W0:=by rw[aH];exact (((Ext.refl _).alloc _).alloc _).alloc _
  obtain ⟨b5,gQ⟩:∃b,b=w.heap.size:=⟨_,rfl⟩
  have C0:Has W0 b5 (.cells #[cu,cg] 27):=by rw[aH,gQ];exact ((Has.new w _).alloc _).alloc _
  have P0:Has W0 (b5+1) (.cells #[aa.no,aa.dev,aa.kind,aa.mode,aa.uid,aa.gid,aa.mtime,aa.ctime,aa.ag,aa.up,bs aa.data,.slice none aa.af.length 0] 66):=by
    rw [aH,gQ]
    have:=(Has.new (w.alloc (.cells #[cu,cg] 27)) (.cells #[aa.no,aa.dev,aa.kind,aa.mode,aa.uid,aa.gid,aa.mtime,aa.ctime,aa.ag,aa.up,bs aa.data,.slice none aa.af.length 0] 66)).alloc (.cells #[.int .i64 0,.int .i64 0,.int .i64 0,.int .i64 0,.int .i64 0,.int .i64 0,.int .i64 0,.int .i64 0,.int .i64 0,.int .i64 0,.string ⟨#[]⟩,.slice none 0 0] 66)
    rwa [World.size_alloc]at this
  have Q0:Has W0 (b5+2) (.cells #[aa.no,aa.dev,aa.kind,aa.mode,aa.uid,aa.gid,aa.mtime,aa.ctime,aa.ag,aa.up,bs aa.data,.slice none aa.af.length 0] 66):=by
    rw [aH,gQ]
    have:=Has.new ((w.alloc (.cells #[cu,cg] 27)).alloc (.cells #[.int .i64 0,.int .i64 0,.int .i64 0,.int .i64 0,.int .i64 0,.int .i64 0,.int .i64 0,.int .i64 0,.int .i64 0,.int .i64 0,.string ⟨#[]⟩,.slice none 0 0] 66)) (.cells #[aa.no,aa.dev,aa.kind,aa.mode,aa.uid,aa.gid,aa.mtime,aa.ctime,aa.ag,aa.up,bs aa.data,.slice none aa.af.length 0] 66)
    rwa [World.size_alloc,World.size_alloc]at this
  have HO:=zH O
  have hm:Hid (ct S cu cg dir nm=if ¬aS S cu cg dir nm=0 then aS S cu cg dir nm else if aJ S.nodes (aK (ac S.nodes dir).af nm)=false then 5
    else if ¬ar S.ah (aK (ac S.nodes dir).af nm)=aK (ac S.nodes dir).af nm then 16
    else if jY cu (ac S.nodes dir).mode (ac S.nodes dir).uid (ac S.nodes (aK (ac S.nodes dir).af nm)).uid=false then 4 else 0):=by show _=_;rfl
  have hp:Hid (aS S cu cg dir nm=0->cV S cu cg dir nm=ac S.nodes dir/\aJ S.nodes dir=true):=fun h0=>⟨jZ h0,(aT h0).1⟩
  have Sb:=h.lt
  have HS:Hid (∀(v w':World) (x:Int),Ext w v->Only [b5+1,b5+2] v w'->ct S cu cg dir nm=x->x≠0->LI w B S cu cg dir nm (.returned (.tuple #[.agg #[aa.no,aa.dev,aa.kind,aa.mode,aa.uid,aa.gid,aa.mtime,aa.ctime,aa.ag,aa.up,bs aa.data,.slice none aa.af.length 0],.agg #[aa.no,aa.dev,aa.kind,aa.mode,aa.uid,aa.gid,aa.mtime,aa.ctime,aa.ag,aa.up,bs aa.data,.slice none aa.af.length 0],.int .i64 x])) w'):=by
    show ∀(v w':World) (x:Int),_
    intro v w' x hE hO hx h0
    have e1:dF S cu cg dir nm=aa:=by unfold dF;rw[if_neg (by rw[hx];exact h0)]
    have e2:cv S cu cg dir nm=aa:=by unfold cv;rw[if_neg (by rw[hx];exact h0)]
    exact ⟨none,0,none,0,by rw[e1,e2,hx],by rw[e1];exact az.zero _ _,by rw[e2];exact az.zero _ _,hO.after hE (by intro b hb;simp only[List.mem_cons,List.not_mem_nil,or_false]at hb;omega)⟩
  have acp:b5<=w.heap.size:=by omega
  have acq:w.heap.size<=b5:=by omega
  clear O
  go_enter Tryz.func175,Tryz.ntmps175
  go_upto_region 1 with fail
  rw [<-aH]
  rw [<-gQ]
  clear aH gQ
  have x0:W0.cell? ⟨b5,0,none⟩=some (.int .i64 cu):=C0.cell 0
  have x1:W0.cell? ⟨b5,1,none⟩=some (.int .i64 cg):=C0.cell 1
  have xz:=C0.lt
  go_wp2_with fail
  refine (pJ B g S cu cg dir nm _ (h.ext E0) HO.out.live.ah).mono ?_
  rintro e w2 ⟨A2,k2,rfl,gv,b2⟩
  obtain⟨m,hmm⟩:=zE (cV S cu cg dir nm)
  obtain⟨x,hx⟩:=zE (aS S cu cg dir nm)
  rw [<-hmm]at gv hp
  rw [<-hx]at hm hp
  rw [<-hmm,<-hx]
  obtain⟨W3,cj⟩:=zE (w2.alloc (.cells #[m.no,m.dev,m.kind,m.mode,m.uid,m.gid,m.mtime,m.ctime,m.ag,m.up,bs m.data,.slice A2 m.af.length k2] 66))
  obtain ⟨dK,iQ⟩:∃b,b=w2.heap.size:=⟨_,rfl⟩
  have h_:Ext w2 W3:=by rw[cj];exact (Ext.refl _).alloc _
  have M3:Has W3 dK (.cells #[m.no,m.dev,m.kind,m.mode,m.uid,m.gid,m.mtime,m.ctime,m.ag,m.up,bs m.data,.slice A2 m.af.length k2] 66):=by rw[cj,iQ];exact Has.new _ _
  have mR:Ext W0 W3:=b2.trans h_
  have C3:=C0.ext mR
  have P3:=P0.ext mR
  have Q3:=Q0.ext mR
  have nj:=gv.ext h_
  have E3:=E0.trans mR
  have LJ:W0.heap.size<=dK:=by rw[iQ];exact b2.size
  have acr:b5+2<W0.heap.size:=Q0.lt
  clear x0 x1 xz hmm hx C0 P0 Q0
  go_upto_region 2 with fail
  rw [<-cj]
  rw [<-iQ]
  clear cj iQ
  by_cases aV:x=0
  case neg =>
    have t0:(x == 0)=false:=by simpa using aV
    have mB:(x != 0)=true:=by simpa using aV
    have hE:Hid (ct S cu cg dir nm=x):=by show _=_;rw[hm.out,if_pos aV]
    have HX:=zH aV
    clear hm aV
    go_wp2_with (first|(refine ap rfl _ _ rfl (b5+1) aa none 0 rfl rfl P3 ?_;intro wp Pp Op;have Qp:=Op.has Q3 (by rw[List.mem_singleton];omega))|(refine ap rfl _ _ rfl (b5+2) aa none 0 rfl rfl Qp ?_;intro wq Qq Oq;have Pq:=Oq.has Pp (by rw[List.mem_singleton];omega)))
    refine bodyPost_ret (v:=.tuple #[.agg #[aa.no,aa.dev,aa.kind,aa.mode,aa.uid,aa.gid,aa.mtime,aa.ctime,aa.ag,aa.up,bs aa.data,.slice none aa.af.length 0],.agg #[aa.no,aa.dev,aa.kind,aa.mode,aa.uid,aa.gid,aa.mtime,aa.ctime,aa.ag,aa.up,bs aa.data,.slice none aa.af.length 0],.int .i64 x]) (lX Tryz.results175 _ _ (b5+1) (b5+2) aa aa none none 0 0 _ rfl rfl rfl Pq Qq) rfl ?_
    exact HS.out _ _ _ E3 ((Op.mono (by simp)).then (Oq.mono (by simp))) hE.out HX.out
  have t0:(x == 0)=true:=by simpa using aV
  have mB:(x != 0)=false:=by simpa using aV
  obtain ⟨mW,hid⟩:=hp.out aV
  obtain⟨no,aW⟩:=zE (aK m.af nm)
  have bU:Hid (ct S cu cg dir nm=if aJ S.nodes no=false then 5 else if ¬ar S.ah no=no then 16 else if jY cu m.mode m.uid (ac S.nodes no).uid=false then 4 else 0):=by
    show _=_;rw[hm.out,if_neg (by simpa using aV),<-mW,<-aW]
  have zC:=zH mW
  have hen:=HO.out.aY dir
  rw [<-mW]at hen
  have sQ:=zH hen
  have KF:Hid (∀u:Gr W3,Calls Tryz.prog 100 #[.slice A2 m.af.length k2,bs nm] u.w (aI u.w (.int .i64 no))):=by
    show ∀u:Gr W3,_
    intro u
    rw [aW,<-j0 sQ.out.1]
    exact nv A2 m.af k2 nm u.w (nj.ext u.h).af.af sQ.out.1 (by have:=sQ.out.2;omega)
  obtain ⟨A4,k4,qy,C4⟩:=kS B g S no W3 (h.ext E3)
  obtain⟨n,hn⟩:=zE (ac S.nodes no)
  obtain⟨i,hi⟩:=zE (aJ S.nodes no)
  have kC:aJ S.nodes no=true->(ac S.nodes no).no=no:=fun h=>(ak h).2.1
  rw [<-hn]at qy bU kC
  rw [<-hi]at bU kC
  rw [<-hn,<-hi]at C4
  have HC4:=zH C4
  have Fw:=zH kC
  have w_:=zH aW
  have nL:=zH hn
  have HI:=zH hi
  obtain ⟨_,_,cd,h3,_⟩:=id (h.ext E3)
  have v0:∀u:Gr W3,u.w.cell? ⟨g.bW,0,none⟩=some (.pointer (some ⟨g.bT,0,none⟩)):=Gr.cell h3.lt (h3.cell 0)
  have nN:∀u:Gr W3,u.w.cell? ⟨dK,11,none⟩=some (.slice A2 m.af.length k2):=Gr.cell M3.lt (M3.cell 11)
  clear hm hp aV mW hid hen aW hn hi kC C4 h3
  go_upto_region 4 with fail
  refine kU W3 12 13 13 38 n A4 k4 _ _ (by kernel_rfl) (by kernel_rfl) rfl rfl rfl rfl (by simp) ((Ext.refl _).drew) ?_
  simp only[List.take_succ_cons,List.take_zero,List.drop_succ_cons,List.drop_zero,List.drop_nil]
  repeat (refine bJ (fun K hK=>?_)
          go_simp
          first
            | (refine hK _ ?_;clear hK K)
            | (apply Exists.intro
               refine ⟨fun u=>?_,hK _ ?_⟩
               first
                 | ((with_reducible refine (KF.out _).mono ?_);rintro e w'' ⟨rfl,hx⟩;exact⟨rfl,hx⟩)
                 | ((with_reducible refine (HC4.out _ u.h).mono ?_);rintro e w'' ⟨rfl,hx⟩;exact⟨rfl,hx⟩)
               clear hK K))
  refine aM ?_
  refine aM ⟨rfl,?_⟩
  refine bJ (fun K hK=>?_)
  go_simp
  refine hK _ ?_
  clear hK K
  refine aM ?_
  intro w4 mY Fx uJ N4
  simp only[Act.put]
  have C4:=C3.ext Fx
  have P4:=P3.ext Fx
  have Q4:=Q3.ext Fx
  have M4:=M3.ext Fx
  have Xv:=nj.ext Fx
  have Xw:=qy.ext Fx
  have E4:=E3.trans Fx
  have hM3:=M3.lt
  clear v0 nN KF C3 P3 Q3 M3 nj qy E3
  cases i
  · have hE:Hid (ct S cu cg dir nm=5):=by show _=_;rw[bU.out];rfl
    clear bU
    go_wp2_with (first|(refine ap rfl _ _ rfl (b5+1) aa none 0 rfl rfl P4 ?_;intro wp Pp Op;have Qp:=Op.has Q4 (by rw[List.mem_singleton];omega))|(refine ap rfl _ _ rfl (b5+2) aa none 0 rfl rfl Qp ?_;intro wq Qq Oq;have Pq:=Oq.has Pp (by rw[List.mem_singleton];omega)))
    refine bodyPost_ret (v:=.tuple #[.agg #[aa.no,aa.dev,aa.kind,aa.mode,aa.uid,aa.gid,aa.mtime,aa.ctime,aa.ag,aa.up,bs aa.data,.slice none aa.af.length 0],.agg #[aa.no,aa.dev,aa.kind,aa.mode,aa.uid,aa.gid,aa.mtime,aa.ctime,aa.ag,aa.up,bs aa.data,.slice none aa.af.length 0],.int .i64 5]) (lX Tryz.results175 _ _ (b5+1) (b5+2) aa aa none none 0 0 _ rfl rfl rfl Pq Qq) rfl ?_
    exact HS.out _ _ _ E4 ((Op.mono (by simp)).then (Oq.mono (by simp))) hE.out (by decide)
  have PG:=Fw.out (by trivial)
  have z0:w4.cell? ⟨mY,0,none⟩=some (.int .i64 n.no):=N4.cell 0
  rw [PG]at z0
  have KO:Hid (∀u:Gr w4,Calls Tryz.prog 101 #[.pointer (some ⟨g.bW,0,none⟩),.int .i64 no] u.w (aI u.w (.int .i64 (ar S.ah no)))):=by
    show ∀u:Gr w4,_
    exact fun u=>gZ B g S no _ ((h.ext E4).ext u.h) HO.out.live.ah (by have:=HO.out.live.eight;omega)
  have y0:=Gr.cell N4.lt z0
  clear z0 PG
  go_upto_region 7 with fail
  by_cases ho:ar S.ah no=no
  case neg =>
    have t1:(ar S.ah no == no)=false:=by simpa using ho
    have rH:(ar S.ah no != no)=true:=by simpa using ho
    have hE:Hid (ct S cu cg dir nm=16):=by show _=_;rw[bU.out,if_neg (by decide),if_pos ho]
    clear bU ho
    refine gS w4 (by kernel_rfl) (by kernel_rfl) (Ext.refl _).drew ?_
    repeat (quiet_step (((with_reducible refine (KO.out _).mono ?_);rintro e w'' ⟨rfl,LK⟩;exact⟨rfl,⟨w'',Ext.trans (Gr.h _) LK⟩,rfl⟩)))
    refine wpQuiet_nil ?_
    rintro w5 ⟨⟨w5',uO⟩,h5⟩
    dsimp only at h5
    subst h5
    clear y0 KO
    have P5:=P4.ext uO
    have Q5:=Q4.ext uO
    go_wp2_with (first|(refine ap rfl _ _ rfl (b5+1) aa none 0 rfl rfl P5 ?_;intro wp Pp Op;have Qp:=Op.has Q5 (by rw[List.mem_singleton];omega))|(refine ap rfl _ _ rfl (b5+2) aa none 0 rfl rfl Qp ?_;intro wq Qq Oq;have Pq:=Oq.has Pp (by rw[List.mem_singleton];omega)))
    refine bodyPost_ret (v:=.tuple #[.agg #[aa.no,aa.dev,aa.kind,aa.mode,aa.uid,aa.gid,aa.mtime,aa.ctime,aa.ag,aa.up,bs aa.data,.slice none aa.af.length 0],.agg #[aa.no,aa.dev,aa.kind,aa.mode,aa.uid,aa.gid,aa.mtime,aa.ctime,aa.ag,aa.up,bs aa.data,.slice none aa.af.length 0],.int .i64 16]) (lX Tryz.results175 _ _ (b5+1) (b5+2) aa aa none none 0 0 _ rfl rfl rfl Pq Qq) rfl ?_
    exact HS.out _ _ _ (E4.trans uO) ((Op.mono (by simp)).then (Oq.mono (by simp))) hE.out (by decide)
  have t1:(ar S.ah no == no)=true:=by simpa using ho
  have rH:(ar S.ah no != no)=false:=by simpa using ho
  have HOV:=zH (show ¬¬ar S.ah no=no by simpa using ho)
  clear ho
  refine gS w4 (by kernel_rfl) (by kernel_rfl) (Ext.refl _).drew ?_
  repeat (quiet_step (((with_reducible refine (KO.out _).mono ?_);rintro e w'' ⟨rfl,LK⟩;exact⟨rfl,⟨w'',Ext.trans (Gr.h _) LK⟩,rfl⟩)))
  refine wpQuiet_nil ?_
  rintro w5 ⟨⟨w5',uO⟩,h5⟩
  dsimp only at h5
  subst h5
  clear y0 KO
  have P5:=P4.ext uO
  have Q5:=Q4.ext uO
  have C5:=C4.ext uO
  have M5:=M4.ext uO
  have N5:=N4.ext uO
  have aaL:=Xv.ext uO
  have uI:=Xw.ext uO
  have E5:=E4.trans uO
  have x0:w5.cell? ⟨b5,0,none⟩=some (.int .i64 cu):=C5.cell 0
  have x1:w5.cell? ⟨b5,1,none⟩=some (.int .i64 cg):=C5.cell 1
  have xz:=C5.lt
  obtain⟨u,hu⟩:=zE (jY cu m.mode m.uid n.uid)
  have k7:Hid (ct S cu cg dir nm=if u=false then 4 else 0):=by show _=_;rw[bU.out,if_neg (by decide),if_neg HOV.out,hu]
  have HU:=zH hu
  clear bU hu P4 Q4 C4 M4 N4 Xv Xw
  go_wp2_with (first|(refine aw rfl _ rfl dK m A2 k2 rfl M5 ?_)|(refine aw rfl _ rfl mY n A4 k4 rfl N5 ?_))
  refine (xh cu cg _ _ _ m.mode m.uid _ _ _ _ _ _ _ _ _ _ _ n.uid _ _ _ _ _ _ _ _).mono ?_
  rw [<-HU.out]
  rintro e w6 ⟨rfl,b6⟩
  have P6:=P5.ext b6
  have Q6:=Q5.ext b6
  have M6:=M5.ext b6
  have N6:=N5.ext b6
  have aaM:=aaL.ext b6
  have Dm:=uI.ext b6
  have E6:=E5.trans b6
  clear x0 x1 xz P5 Q5 M5 N5 C5
  cases u
  · have hE:Hid (ct S cu cg dir nm=4):=by show _=_;rw[k7.out];rfl
    clear k7
    go_wp2_with (first|(refine ap rfl _ _ rfl (b5+1) aa none 0 rfl rfl P6 ?_;intro wp Pp Op;have Qp:=Op.has Q6 (by rw[List.mem_singleton];omega))|(refine ap rfl _ _ rfl (b5+2) aa none 0 rfl rfl Qp ?_;intro wq Qq Oq;have Pq:=Oq.has Pp (by rw[List.mem_singleton];omega)))
    refine bodyPost_ret (v:=.tuple #[.agg #[aa.no,aa.dev,aa.kind,aa.mode,aa.uid,aa.gid,aa.mtime,aa.ctime,aa.ag,aa.up,bs aa.data,.slice none aa.af.length 0],.agg #[aa.no,aa.dev,aa.kind,aa.mode,aa.uid,aa.gid,aa.mtime,aa.ctime,aa.ag,aa.up,bs aa.data,.slice none aa.af.length 0],.int .i64 4]) (lX Tryz.results175 _ _ (b5+1) (b5+2) aa aa none none 0 0 _ rfl rfl rfl Pq Qq) rfl ?_
    exact HS.out _ _ _ E6 ((Op.mono (by simp)).then (Oq.mono (by simp))) hE.out (by decide)
  have hE:Hid (ct S cu cg dir nm=0):=by show _=_;rw[k7.out];rfl
  clear k7
  go_upto_region 11 with fail
  obtain ⟨Ph,k8⟩:∃Ph:Nat->World->Prop,Ph=ph2 (fun w'=>w'=w6.drew) (fun w'=>Has w' (b5+1) (.cells #[m.no,m.dev,m.kind,m.mode,m.uid,m.gid,m.mtime,m.ctime,m.ag,m.up,bs m.data,.slice A2 m.af.length k2] 66)/\Only [b5+1] w6.drew w') (fun w'=>Has w' (b5+1) (.cells #[m.no,m.dev,m.kind,m.mode,m.uid,m.gid,m.mtime,m.ctime,m.ag,m.up,bs m.data,.slice A2 m.af.length k2] 66)/\Has w' (b5+2) (.cells #[n.no,n.dev,n.kind,n.mode,n.uid,n.gid,n.mtime,n.ctime,n.ag,n.up,bs n.data,.slice A4 n.af.length k4] 66)/\Only [b5+1,b5+2] w6.drew w'):=⟨_,rfl⟩
  have ED:Ext w6 w6.drew:=(Ext.refl _).drew
  have HV:Hid (Ph 0 w6.drew):=by show Ph 0 _;rw[k8];exact rfl
  have hne:Nonempty (Hp Ph):=⟨⟨0,_,HV.out⟩⟩
  have uM:∀u:Hp Ph,Has u.w dK (.cells #[m.no,m.dev,m.kind,m.mode,m.uid,m.gid,m.mtime,m.ctime,m.ag,m.up,bs m.data,.slice A2 m.af.length k2] 66):=by
    rw [k8]
    exact Fq (T:=fun w'=>Has w' dK (.cells #[m.no,m.dev,m.kind,m.mode,m.uid,m.gid,m.mtime,m.ctime,m.ag,m.up,bs m.data,.slice A2 m.af.length k2] 66)) (fun w' h'=>by rw[h'];exact M6.ext ED) (fun w' h'=>h'.2.has (M6.ext ED) (by rw[List.mem_singleton];omega)) (fun w' h'=>h'.2.2.has (M6.ext ED) (by simp only[List.mem_cons,List.not_mem_nil,or_false];omega))
  have uN:∀u:Hp Ph,Has u.w mY (.cells #[n.no,n.dev,n.kind,n.mode,n.uid,n.gid,n.mtime,n.ctime,n.ag,n.up,bs n.data,.slice A4 n.af.length k4] 66):=by
    rw [k8]
    exact Fq (T:=fun w'=>Has w' mY (.cells #[n.no,n.dev,n.kind,n.mode,n.uid,n.gid,n.mtime,n.ctime,n.ag,n.up,bs n.data,.slice A4 n.af.length k4] 66)) (fun w' h'=>by rw[h'];exact N6.ext ED) (fun w' h'=>h'.2.has (N6.ext ED) (by rw[List.mem_singleton];omega)) (fun w' h'=>h'.2.2.has (N6.ext ED) (by simp only[List.mem_cons,List.not_mem_nil,or_false];omega))
  have my0:∀u:Hp Ph,u.w.cell? ⟨dK,0,none⟩=some (.int .i64 m.no):=fun u=>(uM u).cell 0
  have my1:∀u:Hp Ph,u.w.cell? ⟨dK,1,none⟩=some (.int .i64 m.dev):=fun u=>(uM u).cell 1
  have my2:∀u:Hp Ph,u.w.cell? ⟨dK,2,none⟩=some (.int .i64 m.kind):=fun u=>(uM u).cell 2
  have my3:∀u:Hp Ph,u.w.cell? ⟨dK,3,none⟩=some (.int .i64 m.mode):=fun u=>(uM u).cell 3
  have my4:∀u:Hp Ph,u.w.cell? ⟨dK,4,none⟩=some (.int .i64 m.uid):=fun u=>(uM u).cell 4
  have my5:∀u:Hp Ph,u.w.cell? ⟨dK,5,none⟩=some (.int .i64 m.gid):=fun u=>(uM u).cell 5
  have my6:∀u:Hp Ph,u.w.cell? ⟨dK,6,none⟩=some (.int .i64 m.mtime):=fun u=>(uM u).cell 6
  have my7:∀u:Hp Ph,u.w.cell? ⟨dK,7,none⟩=some (.int .i64 m.ctime):=fun u=>(uM u).cell 7
  have my8:∀u:Hp Ph,u.w.cell? ⟨dK,8,none⟩=some (.int .i64 m.ag):=fun u=>(uM u).cell 8
  have my9:∀u:Hp Ph,u.w.cell? ⟨dK,9,none⟩=some (.int .i64 m.up):=fun u=>(uM u).cell 9
  have aaN:∀u:Hp Ph,u.w.cell? ⟨dK,10,none⟩=some (.string (bs m.data)):=fun u=>(uM u).cell 10
  have aaO:∀u:Hp Ph,u.w.cell? ⟨dK,11,none⟩=some (.slice A2 m.af.length k2):=fun u=>(uM u).cell 11
  have ny0:∀u:Hp Ph,u.w.cell? ⟨mY,0,none⟩=some (.int .i64 n.no):=fun u=>(uN u).cell 0
  have ny1:∀u:Hp Ph,u.w.cell? ⟨mY,1,none⟩=some (.int .i64 n.dev):=fun u=>(uN u).cell 1
  have ny2:∀u:Hp Ph,u.w.cell? ⟨mY,2,none⟩=some (.int .i64 n.kind):=fun u=>(uN u).cell 2
  have ny3:∀u:Hp Ph,u.w.cell? ⟨mY,3,none⟩=some (.int .i64 n.mode):=fun u=>(uN u).cell 3
  have ny4:∀u:Hp Ph,u.w.cell? ⟨mY,4,none⟩=some (.int .i64 n.uid):=fun u=>(uN u).cell 4
  have ny5:∀u:Hp Ph,u.w.cell? ⟨mY,5,none⟩=some (.int .i64 n.gid):=fun u=>(uN u).cell 5
  have ny6:∀u:Hp Ph,u.w.cell? ⟨mY,6,none⟩=some (.int .i64 n.mtime):=fun u=>(uN u).cell 6
  have ny7:∀u:Hp Ph,u.w.cell? ⟨mY,7,none⟩=some (.int .i64 n.ctime):=fun u=>(uN u).cell 7
  have ny8:∀u:Hp Ph,u.w.cell? ⟨mY,8,none⟩=some (.int .i64 n.ag):=fun u=>(uN u).cell 8
  have ny9:∀u:Hp Ph,u.w.cell? ⟨mY,9,none⟩=some (.int .i64 n.up):=fun u=>(uN u).cell 9
  have aaP:∀u:Hp Ph,u.w.cell? ⟨mY,10,none⟩=some (.string (bs n.data)):=fun u=>(uN u).cell 10
  have aaQ:∀u:Hp Ph,u.w.cell? ⟨mY,11,none⟩=some (.slice A4 n.af.length k4):=fun u=>(uN u).cell 11
  have OL:Hid (∀u:Wc (Ph 0),∃(m:ai) (A':Option Addr) (c':Nat),Has u.w (b5+1) (.cells #[m.no,m.dev,m.kind,m.mode,m.uid,m.gid,m.mtime,m.ctime,m.ag,m.up,bs m.data,.slice A' m.af.length c'] 66)):=by
    show ∀u:Wc (Ph 0),_
    rintro ⟨u,hu⟩
    rw [k8]at hu
    exact ⟨aa,none,0,by show Has u _ _;rw[show u=w6.drew from hu];exact P6.ext ED⟩
  have Sc:Hid (∀(u:Wc (Ph 0)) (w':World),Has w' (b5+1) (.cells #[m.no,m.dev,m.kind,m.mode,m.uid,m.gid,m.mtime,m.ctime,m.ag,m.up,bs m.data,.slice A2 m.af.length k2] 66)->Only [b5+1] u.w w'->Ph 1 w'):=by
    show ∀(u:Wc (Ph 0)) (w':World),_
    rintro ⟨u,hu⟩ w' h1 h2
    rw [k8]at hu|-
    dsimp only at h2
    rw [show u=w6.drew from hu]at h2
    exact ⟨h1,h2⟩
  have wP:Hid (∀u:Wc (Ph 1),∃(m:ai) (A':Option Addr) (c':Nat),Has u.w (b5+2) (.cells #[m.no,m.dev,m.kind,m.mode,m.uid,m.gid,m.mtime,m.ctime,m.ag,m.up,bs m.data,.slice A' m.af.length c'] 66)):=by
    show ∀u:Wc (Ph 1),_
    rintro ⟨u,hu⟩
    rw [k8]at hu
    exact ⟨aa,none,0,hu.2.has (Q6.ext ED) (by rw[List.mem_singleton];omega)⟩
  have xi:Hid (∀(u:Wc (Ph 1)) (w':World),Has w' (b5+2) (.cells #[n.no,n.dev,n.kind,n.mode,n.uid,n.gid,n.mtime,n.ctime,n.ag,n.up,bs n.data,.slice A4 n.af.length k4] 66)->Only [b5+2] u.w w'->Ph 2 w'):=by
    show ∀(u:Wc (Ph 1)) (w':World),_
    rintro ⟨u,hu⟩ w' h1 h2
    rw [k8]at hu|-
    dsimp only at h2
    exact ⟨h2.has hu.1 (by rw[List.mem_singleton];omega),h1,(hu.2.mono (by simp)).then (h2.mono (by simp))⟩
  have KQ:Hid (∀w',Ph 2 w'->Has w' (b5+1) (.cells #[m.no,m.dev,m.kind,m.mode,m.uid,m.gid,m.mtime,m.ctime,m.ag,m.up,bs m.data,.slice A2 m.af.length k2] 66)/\Has w' (b5+2) (.cells #[n.no,n.dev,n.kind,n.mode,n.uid,n.gid,n.mtime,n.ctime,n.ag,n.up,bs n.data,.slice A4 n.af.length k4] 66)/\Only [b5+1,b5+2] w6.drew w'):=by
    show ∀w',_
    intro w' hw
    rw [k8]at hw
    exact hw
  clear k8 uM uN
  refine iM Ph [2,3] (by kernel_rfl) (by kernel_rfl) (by kernel_rfl) HV.out ?_
  iterate 2 (refine jr (by kernel_rfl) (fun K hK=>?_);go_simp;refine hK _ ?_;clear hK K)
  refine lj 0 (by kernel_rfl) rfl rfl _ _ rfl (b5+1) m A2 k2 rfl rfl OL.out Sc.out ?_
  refine lj 1 (by kernel_rfl) rfl rfl _ _ rfl (b5+2) n A4 k4 rfl rfl wP.out xi.out ?_
  refine jr (by kernel_rfl) (fun K hK=>?_)
  go_simp
  refine hK _ ?_
  clear hK K
  refine mG ?_
  intro w7 Xx
  obtain ⟨P7,Q7,O7⟩:=KQ.out _ Xx
  clear my0 my1 my2 my3 my4 my5 my6 my7 my8 my9 aaN aaO ny0 ny1 ny2 ny3 ny4 ny5 ny6 ny7 ny8 ny9 aaP aaQ OL Sc wP xi KQ Xx
  go_wp2_with fail
  refine bodyPost_ret (v:=.tuple #[.agg #[m.no,m.dev,m.kind,m.mode,m.uid,m.gid,m.mtime,m.ctime,m.ag,m.up,bs m.data,.slice A2 m.af.length k2],.agg #[n.no,n.dev,n.kind,n.mode,n.uid,n.gid,n.mtime,n.ctime,n.ag,n.up,bs n.data,.slice A4 n.af.length k4],.int .i64 0]) (lX Tryz.results175 _ _ (b5+1) (b5+2) m n A2 A4 k2 k4 _ rfl rfl rfl P7 Q7) rfl ?_
  have e1:dF S cu cg dir nm=m:=by unfold dF;rw[if_pos hE.out,zC.out]
  have e2:cv S cu cg dir nm=n:=by unfold cv;rw[if_pos hE.out,nL.out,w_.out,zC.out]
  have OK:db w6.drew B [b5+1,b5+2]:=by
    intro b hb
    simp only[List.mem_cons,List.not_mem_nil,or_false]at hb
    have:=h.1
    rcases hb with rfl|rfl
    · exact⟨by omega,(P6.ext ED).fJ (by decide)⟩
    · exact⟨by omega,(Q6.ext ED).fJ (by decide)⟩
  refine ⟨A2,k2,A4,k4,by rw[e1,e2,hE.out],by rw[e1];exact (aaM.ext ED).only O7 OK,by rw[e2];exact (Dm.ext ED).only O7 OK,O7.after (E6.trans ED) (by intro b hb;simp only[List.mem_cons,List.not_mem_nil,or_false]at hb;omega)⟩
end
section
open Go.ChangeShapes Go.WideShapes Go.ChangeAt Go.RowKit
theorem sR {l:List ay} {nm:List UInt8} (h:aK l nm≠0):has l nm=true:=by
 unfold aK at h;unfold has;rw [List.any_eq_true]
 cases hf:l.find? (fun x=>x.1 == nm) with
 | none=>rw[hf]at h;exact absurd rfl h
 | some y =>
  have h2:=List.find?_some (p:=fun x:ay=>x.1 == nm) hf;exact ⟨y,List.mem_of_find?_eq_some hf,h2⟩
theorem xt (B:Nat) (g:bG) (S:ae) (now:Int) (d n:ai) (A A':Option Addr) (c c':Nat) (nm:List UInt8) (w:World) (h:dM w B g S) (O:Ok S) (hd:az w B d A c) (hn:az w B n A' c') (ET:iq d.af) (lr:d.af.length<=100000) (GC:has d.af nm=true) (PB:fU S.ah (ac S.nodes d.no).dev=true/\(ac S.nodes d.no).data.length<=1048576) (RJ:(ac S.nodes d.no).no=1->(ac S.nodes d.no).dev=1) (hh:G8 S n) :
  Calls Tryz.prog 176 #[.pointer (some ⟨g.bW,0,none⟩),.int .i64 now,.agg #[d.no,d.dev,d.kind,d.mode,d.uid,d.gid,d.mtime,d.ctime,d.ag,d.up,bs d.data,.slice A d.af.length c],.agg #[n.no,n.dev,n.kind,n.mode,n.uid,n.gid,n.mtime,n.ctime,n.ag,n.up,bs n.data,.slice A' n.af.length c'],bs nm] w (mA w B g (eN S now d n nm) 0):=by
 obtain⟨W0,aH⟩:=zE ((w.alloc (.cells #[d.no,d.dev,d.kind,d.mode,d.uid,d.gid,d.mtime,d.ctime,d.ag,d.up,bs d.data,.slice A d.af.length c] 66)).alloc (.cells #[n.no,n.dev,n.kind,n.mode,n.uid,n.gid,n.mtime,n.ctime,n.ag,n.up,bs n.data,.slice A' n.af.length c'] 66));have E0:Ext w W0:=by rw[aH];exact ((Ext.refl _).alloc _).alloc _
 obtain ⟨b7,sP⟩:∃b,b=w.heap.size:=⟨_,rfl⟩;have D0:Has W0 b7 (.cells #[d.no,d.dev,d.kind,d.mode,d.uid,d.gid,d.mtime,d.ctime,d.ag,d.up,bs d.data,.slice A d.af.length c] 66):=by rw[aH,sP];exact (Has.new w _).alloc _
 have N0:Has W0 (b7+1) (.cells #[n.no,n.dev,n.kind,n.mode,n.uid,n.gid,n.mtime,n.ctime,n.ag,n.up,bs n.data,.slice A' n.af.length c'] 66):=by
  rw [aH,sP];have:=Has.new (w.alloc (.cells #[d.no,d.dev,d.kind,d.mode,d.uid,d.gid,d.mtime,d.ctime,d.ag,d.up,bs d.data,.slice A d.af.length c] 66)) (.cells #[n.no,n.dev,n.kind,n.mode,n.uid,n.gid,n.mtime,n.ctime,n.ag,n.up,bs n.data,.slice A' n.af.length c'] 66)
  rwa [World.size_alloc]at this
 have Xj:w.heap.size<=b7:=by omega
 have HO:=zH O;have HR:=zH ET;have Xy:=zH GC;have HH:=zH hh;have Fy:=zH PB;have HD1:=zH RJ;have nN:W0.cell? ⟨b7,11,none⟩=some (.slice A d.af.length c):=D0.cell 11;have yz:=D0.lt;have OM:=hd.ext E0;have LM:=hn.ext E0;clear O ET GC hh PB RJ;go_enter Tryz.func176,Tryz.ntmps176;go_upto_region 1 with fail;rw [<-aH];rw [<-sP];clear aH sP;go_wp2_with fail;refine (J1 A d.af c nm _ OM.af.af HR.out OM.cap OM.max (by omega) Xy.out).mono ?_;rintro e w2 ⟨v2,rfl,hown,b2⟩;rw [tW _ _ HR.out Xy.out]at hown;obtain ⟨A2,c2,rfl,q1,q2,q3,q4⟩:=hown.zY (B:=B);have D2:=D0.ext b2;have N2:=N0.ext b2;have aaR:=LM.ext b2;have E2:=E0.trans b2;obtain ⟨L2,Jz⟩:∃L,L=cX d.af nm:=⟨_,rfl⟩;rw [<-Jz]at q1 q3|-;have PZ:=zH Jz;have z0:w2.cell? ⟨b7,0,none⟩=some (.int .i64 d.no):=D2.cell 0;have zz:=D2.lt;obtain⟨T,hT⟩:=zE (bR S d.no now L2);have HT:=zH hT;have KT:Hid (Calls Tryz.prog 194 #[.pointer (some ⟨g.bW,0,none⟩),d.no,.int .i64 now,.slice A2 L2.length c2] w2 (uE w2 B g T)):=by
  show Calls _ _ _ _ _;rw [hT];exact pK B g S d.no now A2 L2 c2 w2 (h.ext E2) HO.out.live.bc q3 q1 q2 q4
 have hTL:Live T:=by
  rw [hT];exact HO.out.live.set _ Fy.out.1 Fy.out.2 HD1.out
 have hHT:G8 T n:=⟨HH.out.ag,by rw[hT];exact HH.out.dev,HH.out.data,HH.out.one⟩;have TC:=zH hTL;have HHT:=zH hHT;clear nN yz hown q1 q2 q3 q4 Jz hT hTL hHT D0 N0 OM;go_wp2_with fail;refine KT.out.mono ?_;rintro e w3 ⟨rfl,K3,O3⟩;have hng:b7+1∉g.list:=by
  have Sb:=h.lt;simp only[bG.list,List.mem_cons,List.not_mem_nil,or_false];omega
 have N3:=O3.has N2 hng;have LN:=aaR.only O3 (h.ext E2).apart;clear z0 zz KT;go_wp2_with (refine aw rfl _ rfl (b7+1) n A' c' rfl N3 ?_);refine (G9 B g T now n A' c' _ K3 TC.out LN HHT.out).mono ?_;rintro e w4 ⟨rfl,K4,O4⟩;go_wp2_with fail;go_ret;have e1:eN S now d n nm=ju T now n:=by unfold eN;rw[HT.out,PZ.out]
 exact ⟨rfl,by rw[e1];exact K4,(Only.pre E2 O3).then O4⟩
theorem eD {S:ae} {cu cg dir:Int} {nm:List UInt8} (h:ct S cu cg dir nm=0):aS S cu cg dir nm=0/\aJ S.nodes (aK (ac S.nodes dir).af nm)=true/\ar S.ah (aK (ac S.nodes dir).af nm)=aK (ac S.nodes dir).af nm/\dF S cu cg dir nm=ac S.nodes dir/\cv S cu cg dir nm=ac S.nodes (aK (ac S.nodes dir).af nm):=by
 have e1:dF S cu cg dir nm=ac S.nodes dir:=by unfold dF;rw[if_pos h]
 have e2:cv S cu cg dir nm=ac S.nodes (aK (ac S.nodes dir).af nm):=by unfold cv;rw[if_pos h]
 refine ⟨?_,?_,?_,e1,e2⟩<;>unfold ct at h<;>split at h
 ·rename_i h1;exact absurd h h1
 ·rename_i h1;exact Decidable.not_not.1 h1
 ·rename_i h1;exact absurd h h1
 ·split at h
  ·cases h
  ·rename_i h2;simpa using h2
 ·rename_i h1;exact absurd h h1
 ·split at h
  ·cases h
  ·split at h
   ·cases h
   ·rename_i h3;exact Decidable.not_not.1 h3
theorem AJ (B:Nat) (g:bG) (S:ae) (cu cg now dir:Int) (nm:List UInt8) (w:World) (h:dM w B g S) (O:Ok S) :
  Calls Tryz.prog 146 #[.pointer (some ⟨g.bW,0,none⟩),.agg #[cu,cg],.int .i64 now,.int .i64 dir,bs nm] w (mA w B g (eS S cu cg now dir nm) (eR S cu cg dir nm)):=by
 obtain⟨W0,aH⟩:=zE (w.alloc (.cells #[cu,cg] 27));have E0:Ext w W0:=by rw[aH];exact (Ext.refl _).alloc _
 have C0:Has W0 w.heap.size (.cells #[cu,cg] 27):=by rw[aH];exact Has.new w _
 have HO:=zH O;have HE:Hid (eR S cu cg dir nm=if ¬ct S cu cg dir nm=0 then ct S cu cg dir nm else if (cv S cu cg dir nm).kind=1 then 8 else 0):=by show _=_;rfl
 have HZ:Hid (ct S cu cg dir nm=0->_):=fun h0=>eD (nm:=nm) h0
 have HS:Hid (∀(w':World) (x:Int),Ext w w'->eR S cu cg dir nm=x->x≠0->mA w B g (eS S cu cg now dir nm) (eR S cu cg dir nm) (.returned (.int .i64 x)) w'):=by
  show ∀(w':World) (x:Int),_;intro w' x hE hx h0;rw [hx];exact eG h hE (by unfold eS;rw[if_neg (by rw[hx];exact h0)])
 have x0:W0.cell? ⟨w.heap.size,0,none⟩=some (.int .i64 cu):=C0.cell 0;have x1:W0.cell? ⟨w.heap.size,1,none⟩=some (.int .i64 cg):=C0.cell 1;have xz:=C0.lt;clear O;go_enter Tryz.func146,Tryz.ntmps146;go_upto_region 1 with fail;rw [<-aH];clear aH;go_wp2_with fail;refine (uL B g S cu cg dir nm _ (h.ext E0) HO.out).mono ?_;rintro e w2 ⟨A1,c1,A2,c2,rfl,OM,LM,b2⟩;obtain⟨d,hd⟩:=zE (dF S cu cg dir nm);obtain⟨n,hn⟩:=zE (cv S cu cg dir nm);obtain⟨x,hx⟩:=zE (ct S cu cg dir nm);rw [<-hd]at OM;rw [<-hn]at LM;rw [<-hd,<-hn,<-hx];rw [<-hx]at HE HZ;have Fy:=zH hd;have nL:=zH hn;obtain⟨W3,cj⟩:=zE ((w2.alloc (.cells #[d.no,d.dev,d.kind,d.mode,d.uid,d.gid,d.mtime,d.ctime,d.ag,d.up,bs d.data,.slice A1 d.af.length c1] 66)).alloc (.cells #[n.no,n.dev,n.kind,n.mode,n.uid,n.gid,n.mtime,n.ctime,n.ag,n.up,bs n.data,.slice A2 n.af.length c2] 66));have h_:Ext w2 W3:=by rw[cj];exact ((Ext.refl _).alloc _).alloc _
 obtain ⟨dK,iQ⟩:∃b,b=w2.heap.size:=⟨_,rfl⟩;have D3:Has W3 dK (.cells #[d.no,d.dev,d.kind,d.mode,d.uid,d.gid,d.mtime,d.ctime,d.ag,d.up,bs d.data,.slice A1 d.af.length c1] 66):=by rw[cj,iQ];exact (Has.new w2 _).alloc _
 have N3:Has W3 (dK+1) (.cells #[n.no,n.dev,n.kind,n.mode,n.uid,n.gid,n.mtime,n.ctime,n.ag,n.up,bs n.data,.slice A2 n.af.length c2] 66):=by
  rw [cj,iQ];have:=Has.new (w2.alloc (.cells #[d.no,d.dev,d.kind,d.mode,d.uid,d.gid,d.mtime,d.ctime,d.ag,d.up,bs d.data,.slice A1 d.af.length c1] 66)) (.cells #[n.no,n.dev,n.kind,n.mode,n.uid,n.gid,n.mtime,n.ctime,n.ag,n.up,bs n.data,.slice A2 n.af.length c2] 66)
  rwa [World.size_alloc]at this
 have TD:=OM.ext h_;have LN:=LM.ext h_;have E3:=(E0.trans b2).trans h_;clear x0 x1 xz hd hn hx C0;go_upto_region 2 with fail;rw [<-cj];rw [<-iQ];have LJ:w.heap.size<=dK:=by rw[iQ];exact (E0.trans b2).size
 clear cj iQ
 by_cases aV:x=0
 case neg =>
  have t0:(x == 0)=false:=by simpa using aV
  have mB:(x != 0)=true:=by simpa using aV
  have hE:Hid (eR S cu cg dir nm=x):=by show _=_;rw[HE.out,if_pos aV]
  have HX:=zH aV;clear aV;go_wp2_with fail;go_ret;exact HS.out _ _ E3 hE.out HX.out
 have t0:(x == 0)=true:=by simpa using aV
 have mB:(x != 0)=false:=by simpa using aV
 have hz:=HZ.out aV;have HLZ:=zH hz;have Dq:=zH (show ¬¬x=0 by simpa using aV);have k2:W3.cell? ⟨dK+1,2,none⟩=some (.int .i64 n.kind):=N3.cell 2;have kz:=N3.lt;clear aV hz
 by_cases c1':n.kind=1
 ·have t1:(n.kind == 1)=true:=by simpa using c1'
  have hE:Hid (eR S cu cg dir nm=8):=by show _=_;rw[HE.out,if_neg Dq.out,<-nL.out,if_pos c1']
  clear c1';go_wp2_with fail;go_ret;exact HS.out _ _ E3 hE.out (by decide)
 have t1:(n.kind == 1)=false:=by simpa using c1'
 have AG:=zH c1';clear c1';have hE:Hid (eR S cu cg dir nm=0):=by show _=_;rw[HE.out,if_neg Dq.out,<-nL.out,if_neg AG.out]
 obtain ⟨z1,z2,z3,z4,z5⟩:=HLZ.out;rw [<-Fy.out]at z4;rw [<-nL.out]at z5;have hpos:aK (ac S.nodes dir).af nm≠0:=fun e=>by
  rw [e]at z2;have:=HO.out.live.bc.zero (no:=0) (.inl (by omega));rw [this]at z2;cases z2
 have Fk:=(aT z1).1;have AF:=(ak Fk).2.1;have rV:=HO.out.aY dir;have KG:Hid (Calls Tryz.prog 176 #[.pointer (some ⟨g.bW,0,none⟩),.int .i64 now,.agg #[d.no,d.dev,d.kind,d.mode,d.uid,d.gid,d.mtime,d.ctime,d.ag,d.up,bs d.data,.slice A1 d.af.length c1],.agg #[n.no,n.dev,n.kind,n.mode,n.uid,n.gid,n.mtime,n.ctime,n.ag,n.up,bs n.data,.slice A2 n.af.length c2],bs nm] W3 (mA W3 B g (eN S now d n nm) 0)):=by
  have e1:ac S.nodes d.no=ac S.nodes dir:=by rw[z4,AF]
  refine xt B g S now d n A1 A2 c1 c2 nm W3 (h.ext E3) HO.out TD LN (by rw[z4];exact rV.1) (by rw[z4];exact rV.2) (by rw[z4];exact sR hpos) ?_ ?_ (by rw[z5];exact HO.out.held z2)
  ·rw[e1];exact HO.out.live.on _ (ak Fk).2.2
  ·rw[e1];exact HO.out.live.one _ (ak Fk).2.2
 have e3:Hid (eS S cu cg now dir nm=eN S now d n nm):=by show _=_;unfold eS;rw[if_pos hE.out,<-Fy.out,<-nL.out]
 clear z1 z2 z3 z4 z5 hpos Fk AF rV;go_wp2_with (first|(refine aw rfl _ rfl dK d A1 c1 rfl D3 ?_)|(refine aw rfl _ rfl (dK+1) n A2 c2 rfl N3 ?_));refine KG.out.mono ?_;rintro e w4 ⟨rfl,K4,O4⟩;go_wp2_with fail;go_ret;rw [hE.out];exact ⟨rfl,by rw[e3.out];exact K4,Only.pre E3 O4⟩
theorem Dr (B:Nat) (g:bG) (S:ae) (cu cg now dir:Int) (nm:List UInt8) (w:World) (h:dM w B g S) (O:Ok S) :
  Calls Tryz.prog 145 #[.pointer (some ⟨g.bW,0,none⟩),.agg #[cu,cg],.int .i64 now,.int .i64 dir,bs nm] w (mA w B g (gI S cu cg now dir nm) (gi S cu cg dir nm)):=by
 obtain⟨W0,aH⟩:=zE (w.alloc (.cells #[cu,cg] 27));have E0:Ext w W0:=by rw[aH];exact (Ext.refl _).alloc _
 have C0:Has W0 w.heap.size (.cells #[cu,cg] 27):=by rw[aH];exact Has.new w _
 have HO:=zH O;have HE:Hid (gi S cu cg dir nm=if ¬ct S cu cg dir nm=0 then ct S cu cg dir nm else if ¬(cv S cu cg dir nm).kind=1 then 9 else if 0<((cv S cu cg dir nm).af.length:Int) then 10 else 0):=by show _=_;rfl
 have HZ:Hid (ct S cu cg dir nm=0->_):=fun h0=>eD (nm:=nm) h0
 have HS:Hid (∀(w':World) (x:Int),Ext w w'->gi S cu cg dir nm=x->x≠0->mA w B g (gI S cu cg now dir nm) (gi S cu cg dir nm) (.returned (.int .i64 x)) w'):=by
  show ∀(w':World) (x:Int),_;intro w' x hE hx h0;rw [hx];exact eG h hE (by unfold gI;rw[if_neg (by rw[hx];exact h0)])
 have x0:W0.cell? ⟨w.heap.size,0,none⟩=some (.int .i64 cu):=C0.cell 0;have x1:W0.cell? ⟨w.heap.size,1,none⟩=some (.int .i64 cg):=C0.cell 1;have xz:=C0.lt;clear O;go_enter Tryz.func145,Tryz.ntmps145;go_upto_region 1 with fail;rw [<-aH];clear aH;go_wp2_with fail;refine (uL B g S cu cg dir nm _ (h.ext E0) HO.out).mono ?_;rintro e w2 ⟨A1,c1,A2,c2,rfl,OM,LM,b2⟩;obtain⟨d,hd⟩:=zE (dF S cu cg dir nm);obtain⟨n,hn⟩:=zE (cv S cu cg dir nm);obtain⟨x,hx⟩:=zE (ct S cu cg dir nm);rw [<-hd]at OM;rw [<-hn]at LM;rw [<-hd,<-hn,<-hx];rw [<-hx]at HE HZ;have Fy:=zH hd;have nL:=zH hn;obtain⟨W3,cj⟩:=zE ((w2.alloc (.cells #[d.no,d.dev,d.kind,d.mode,d.uid,d.gid,d.mtime,d.ctime,d.ag,d.up,bs d.data,.slice A1 d.af.length c1] 66)).alloc (.cells #[n.no,n.dev,n.kind,n.mode,n.uid,n.gid,n.mtime,n.ctime,n.ag,n.up,bs n.data,.slice A2 n.af.length c2] 66));have h_:Ext w2 W3:=by rw[cj];exact ((Ext.refl _).alloc _).alloc _
 obtain ⟨dK,iQ⟩:∃b,b=w2.heap.size:=⟨_,rfl⟩;have D3:Has W3 dK (.cells #[d.no,d.dev,d.kind,d.mode,d.uid,d.gid,d.mtime,d.ctime,d.ag,d.up,bs d.data,.slice A1 d.af.length c1] 66):=by rw[cj,iQ];exact (Has.new w2 _).alloc _
 have N3:Has W3 (dK+1) (.cells #[n.no,n.dev,n.kind,n.mode,n.uid,n.gid,n.mtime,n.ctime,n.ag,n.up,bs n.data,.slice A2 n.af.length c2] 66):=by
  rw [cj,iQ];have:=Has.new (w2.alloc (.cells #[d.no,d.dev,d.kind,d.mode,d.uid,d.gid,d.mtime,d.ctime,d.ag,d.up,bs d.data,.slice A1 d.af.length c1] 66)) (.cells #[n.no,n.dev,n.kind,n.mode,n.uid,n.gid,n.mtime,n.ctime,n.ag,n.up,bs n.data,.slice A2 n.af.length c2] 66)
  rwa [World.size_alloc]at this
 have TD:=OM.ext h_;have LN:=LM.ext h_;have E3:=(E0.trans b2).trans h_;clear x0 x1 xz hd hn hx C0;go_upto_region 2 with fail;rw [<-cj];rw [<-iQ];have LJ:w.heap.size<=dK:=by rw[iQ];exact (E0.trans b2).size
 clear cj iQ
 by_cases aV:x=0
 case neg =>
  have t0:(x == 0)=false:=by simpa using aV
  have mB:(x != 0)=true:=by simpa using aV
  have hE:Hid (gi S cu cg dir nm=x):=by show _=_;rw[HE.out,if_pos aV]
  have HX:=zH aV;clear aV;go_wp2_with fail;go_ret;exact HS.out _ _ E3 hE.out HX.out
 have t0:(x == 0)=true:=by simpa using aV
 have mB:(x != 0)=false:=by simpa using aV
 have hz:=HZ.out aV;have HLZ:=zH hz;have Dq:=zH (show ¬¬x=0 by simpa using aV);have k2:W3.cell? ⟨dK+1,2,none⟩=some (.int .i64 n.kind):=N3.cell 2;have kz:=N3.lt;clear aV hz
 by_cases c1':n.kind=1
 case neg =>
  have t1:(n.kind == 1)=false:=by simpa using c1'
  have rH:(n.kind != 1)=true:=by simpa using c1'
  have hE:Hid (gi S cu cg dir nm=9):=by show _=_;rw[HE.out,if_neg Dq.out,<-nL.out,if_pos c1']
  clear c1';go_wp2_with fail;go_ret;exact HS.out _ _ E3 hE.out (by decide)
 have t1:(n.kind == 1)=true:=by simpa using c1'
 have rH:(n.kind != 1)=false:=by simpa using c1'
 have AG:=zH (show ¬¬n.kind=1 by simpa using c1');have zG:W3.cell? ⟨dK+1,11,none⟩=some (.slice A2 n.af.length c2):=N3.cell 11;clear c1';obtain⟨L,hL⟩:=zE n.af.length;rw [<-hL]at zG
 by_cases c2':0<(L:Int)
 ·have t2:decide (0<(L:Int))=true:=decide_eq_true c2'
  have OG:decide (0<L)=true:=decide_eq_true (by omega);have t2c:0<L:=by omega
  have uF:=zH hL;clear hL c2';have hE:Hid (gi S cu cg dir nm=10):=by show _=_;rw[HE.out,if_neg Dq.out,<-nL.out,if_neg AG.out,if_pos (by rw[<-uF.out];omega)]
  go_wp2_with fail;go_ret;exact HS.out _ _ E3 hE.out (by decide)
 have hL0:L=0:=by omega
 rw [hL0]at zG;have HL0:=zH (show n.af.length=0 by omega);clear c2' hL hL0;have hE:Hid (gi S cu cg dir nm=0):=by show _=_;rw[HE.out,if_neg Dq.out,<-nL.out,if_neg AG.out,if_neg (by rw[HL0.out];decide)]
 obtain ⟨z1,z2,z3,z4,z5⟩:=HLZ.out;rw [<-Fy.out]at z4;rw [<-nL.out]at z5;have hpos:aK (ac S.nodes dir).af nm≠0:=fun e=>by
  rw [e]at z2;have:=HO.out.live.bc.zero (no:=0) (.inl (by omega));rw [this]at z2;cases z2
 have Fk:=(aT z1).1;have AF:=(ak Fk).2.1;have rV:=HO.out.aY dir;have KG:Hid (Calls Tryz.prog 176 #[.pointer (some ⟨g.bW,0,none⟩),.int .i64 now,.agg #[d.no,d.dev,d.kind,d.mode,d.uid,d.gid,d.mtime,d.ctime,d.ag,d.up,bs d.data,.slice A1 d.af.length c1],.agg #[n.no,n.dev,n.kind,n.mode,n.uid,n.gid,n.mtime,n.ctime,n.ag,n.up,bs n.data,.slice A2 n.af.length c2],bs nm] W3 (mA W3 B g (eN S now d n nm) 0)):=by
  have e1:ac S.nodes d.no=ac S.nodes dir:=by rw[z4,AF]
  refine xt B g S now d n A1 A2 c1 c2 nm W3 (h.ext E3) HO.out TD LN (by rw[z4];exact rV.1) (by rw[z4];exact rV.2) (by rw[z4];exact sR hpos) ?_ ?_ (by rw[z5];exact HO.out.held z2)
  ·rw[e1];exact HO.out.live.on _ (ak Fk).2.2
  ·rw[e1];exact HO.out.live.one _ (ak Fk).2.2
 have e3:Hid (gI S cu cg now dir nm=eN S now d n nm):=by show _=_;unfold gI;rw[if_pos hE.out,<-Fy.out,<-nL.out]
 clear z1 z2 z3 z4 z5 hpos Fk AF rV;go_wp2_with (first|(refine aw rfl _ rfl dK d A1 c1 rfl D3 ?_)|(refine aw rfl _ rfl (dK+1) n A2 c2 rfl N3 ?_));refine KG.out.mono ?_;rintro e w4 ⟨rfl,K4,O4⟩;go_wp2_with fail;go_ret;rw [hE.out];exact ⟨rfl,by rw[e3.out];exact K4,Only.pre E3 O4⟩
attribute [local irreducible] wpQuiet
def aaS (S:ae) (cu:Int) (d n old:ai):Int:=
 if ¬ar S.ah old.no=old.no then 16 else if n.kind=1/\¬old.kind=1 then 9 else if ¬n.kind=1/\old.kind=1 then 8
 else if 0<(old.af.length:Int) then 10 else if jY cu d.mode d.uid old.uid=false then 4 else 0
end
section
open Go.ChangeShapes Go.WideShapes Go.ChangeAt Go.RowKit
attribute [local irreducible] wpQuiet
def AK (S:ae) (cu cg gN:Int) (b:List UInt8):Int:=aK (cV S cu cg gN b).af b
def LO (S:ae) (cu cg fr gN:Int) (a b:List UInt8):Prop:=aJ S.nodes (AK S cu cg gN b)=true/\(ac S.nodes (AK S cu cg gN b)).no=(cv S cu cg fr a).no
instance (S:ae) (cu cg fr gN:Int) (a b:List UInt8):Decidable (LO S cu cg fr gN a b):=by unfold LO;exact inferInstance
def XA (S:ae) (cu cg fr gN x y:Int) (d n t:ai) (is:Bool) (old:ai):Int:=
 if ¬x=0 then x else if ¬y=0 then y else if ¬d.dev=t.dev then 11 else if n.kind=1/\PM S gN n.no=true then 17
 else if is=true/\old.no=n.no then 0 else if n.kind=1/\¬fr=gN/\dX cu cg n.uid n.gid n.mode 2=false then 6
 else if is=true then aaS S cu t n old else 0
def Sd (S:ae) (cu cg fr gN:Int) (a b:List UInt8):Int:=
 XA S cu cg fr gN (ct S cu cg fr a) (aS S cu cg gN b) (dF S cu cg fr a) (cv S cu cg fr a) (cV S cu cg gN b) (aJ S.nodes (AK S cu cg gN b)) (ac S.nodes (AK S cu cg gN b))
def AL (S:ae) (now no:Int):ae:=if aJ S.nodes no=true then ju S now (ac S.nodes no) else S
def XC (now gN:Int) (n:ai):ai:={n with ctime:=now,up:=if n.kind=1 then gN else n.up}
def XD (T:ae) (now fr gN:Int) (a b:List UInt8) (d n:ai):ae:=
 aE (bR (bR T fr now (cX d.af a)) gN now (en (ac (bR T fr now (cX d.af a)).nodes gN).af (b,n.no))) (XC now gN n)
def Fz (S:ae) (cu cg now fr gN:Int) (a b:List UInt8):ae:=
 if Sd S cu cg fr gN a b=0/\¬LO S cu cg fr gN a b then XD (AL S now (AK S cu cg gN b)) now fr gN a b (dF S cu cg fr a) (cv S cu cg fr a) else S
end
section
open Go.ChangeShapes Go.WideShapes Go.ChangeAt Go.RowKit
section
variable {H:Type} {enc:TypeId×Value->H} {w:World} {base:Nat} {spare:Nat->Bool} {held:Bool}
theorem km:Tryz.prog.cellsOf 3=1:=by kernel_rfl
theorem yQ:Tryz.prog.cellsOf 9=1:=by kernel_rfl
theorem qB:Tryz.prog.cellsOf 27=2:=by kernel_rfl
theorem Ds {n:Nat} {cs:List Value} {x:DataW H×List MemPlace} (h:DataW.trod enc Tryz.prog w base spare held n 27 cs=some x):∃v:(Int×Int),cs=[.int .i64 v.1,.int .i64 v.2]:=by
 obtain ⟨xs,m,_,_,hl,hxl,hf⟩:=DataW.trod_struct Tryz.underlying27 h;rw [qB]at hl
 match cs,hl with
 | [a0,a1],_ =>
  match xs,hxl with
  | [y0,y1],_ =>
   have f0:DataW.trod enc Tryz.prog w base spare held m 3 (List.take (Tryz.prog.cellsOf 3) (List.drop 0 [a0,a1]))=some y0:=hf 0 _ rfl;rw [km]at f0;obtain ⟨k0,h0,_,_⟩:=DataW.trod_int Tryz.underlying3 f0;have e0:a0=.int .i64 k0:=by simpa using h0
   have f1:DataW.trod enc Tryz.prog w base spare held m 3 (List.take (Tryz.prog.cellsOf 3) (List.drop 1 [a0,a1]))=some y1:=hf 1 _ rfl;rw [km]at f1;obtain ⟨k1,h1,_,_⟩:=DataW.trod_int Tryz.underlying3 f1;have e1:a1=.int .i64 k1:=by simpa using h1
   exact ⟨⟨k0,k1⟩,by rw[e0,e1]⟩
end
end
section
open Go.ChangeShapes Go.WideShapes Go.ChangeAt Go.RowKit
attribute [local irreducible] gH
attribute [local go_sem] fx
end
section
open Go.ChangeShapes Go.WideShapes Go.ChangeAt Go.RowKit
attribute [local irreducible] wpQuiet
theorem G_ (l:List ay) (nm:List UInt8) (no:Int):aK (en l (nm,no)) nm=no:=by
 unfold aK en jm jG;have h1:(l.filter fun x=>bl x.1 nm).find? (fun x=>x.1 == nm)=none:=by
  rw [List.find?_eq_none];intro x hx;rw [List.mem_filter]at hx;have:=nA hx.2;simpa using this
 simp only[List.find?_append,h1,Option.none_or,List.find?_cons,beq_self_eq_true,Option.some_or]
theorem Dt (l:List ay) (nm:List UInt8) (no:Int) (h:∀x∈l,x.1≠nm):(en l (nm,no)).length=l.length+1:=by
 have hs : ∀l:List ay,(∀x∈l,x.1≠nm)->(l.filter fun x=>bl x.1 nm).length+(l.filter fun x=>bl nm x.1).length=l.length:=by
  intro l
  induction l with
  | nil=>intro _;rfl
  | cons x l ih =>
   intro h;have:=ih fun y hy=>h y (List.mem_cons_of_mem _ hy)
   simp only[List.filter_cons,List.length_cons];have hx:=h x (List.mem_cons_self ..);rcases lq x.1 nm with g|g|g
   ·have g2:=gu g
    rw [if_pos g,if_neg (by rw[g2];decide)];simp only[List.length_cons];omega
   ·exact absurd g hx
   ·have g2:=gu g
    rw [if_pos g,if_neg (by rw[g2];decide)];simp only[List.length_cons];omega
 have:=hs l h;unfold en jm jG;simp only[List.length_append,List.length_singleton];omega
structure XE (S T:ae) (uid gid now dir:Int) (nm:List UInt8):Prop where
 len:T.nodes.length=S.nodes.length+1
 node:(ac T.nodes (S.last+1)).uid=uid/\(ac T.nodes (S.last+1)).gid=gid/\(ac T.nodes (S.last+1)).dev=(ac S.nodes dir).dev/\(ac T.nodes (S.last+1)).ag=1/\(ac T.nodes (S.last+1)).mtime=now
 find:aK (ac T.nodes dir).af nm=S.last+1
 af:(ac T.nodes dir).af.length=(ac S.nodes dir).af.length+1
 mtime:(ac T.nodes dir).mtime=now
theorem AO {S:ae} (hu:aD S.nodes S.last) {n:ai} (hi:aJ S.nodes n.no=true):ac (aE S n).nodes n.no=n:=by
 have hm:=tM (n:=n) (ak hi).2.2;rw [if_pos (ak hi).2.1]at hm;exact (cR (S:=aE S n) (hu.set n) hm).1
theorem came {c:Nat} {S:ae} (h:dy c S) {cu cg now dir:Int} {nm:List UInt8} {n:ai} (h0:cC S cu cg now dir nm n=0):XE S (bV S cu cg now dir nm n) cu cg now dir nm:=by
 obtain ⟨hp,hf,nk⟩:=jN h0;obtain ⟨hi,wo,hc⟩:=aT hp;obtain ⟨e1,e2⟩:=kL h.bc (bZ S cu cg now dir n) hi;obtain ⟨_,aW,hmem⟩:=ak hi;have hlt:=(h.bc.2 _ hmem).2;rw [aW]at hlt;have hT:bV S cu cg now dir nm n=aE (bB S (bZ S cu cg now dir n)) (eL (bB S (bZ S cu cg now dir n)) dir now (en (ac S.nodes dir).af (nm,S.last+1))):=by
  unfold bV bR;rw[if_pos h0]
 have hN:(eL (bB S (bZ S cu cg now dir n)) dir now (en (ac S.nodes dir).af (nm,S.last+1))).no=dir:=by
  show (ac (bB S (bZ S cu cg now dir n)).nodes dir).no=dir;rw [e1,aW]
 have hu:=qA h.live (bZ S cu cg now dir n);have hd:ac (bV S cu cg now dir nm n).nodes dir=eL (bB S (bZ S cu cg now dir n)) dir now (en (ac S.nodes dir).af (nm,S.last+1)):=by
  rw [hT];have:=AO hu (n:=eL (bB S (bZ S cu cg now dir n)) dir now (en (ac S.nodes dir).af (nm,S.last+1))) (by rw[hN];exact e2);rw [hN]at this;exact this
 have rO:ac (bV S cu cg now dir nm n).nodes (S.last+1)={bZ S cu cg now dir n with no:=S.last+1}:=by
  rw [hT,(jt (by rw[hN];omega)).1];have hm:({bZ S cu cg now dir n with no:=S.last+1}:ai)∈(bB S (bZ S cu cg now dir n)).nodes:=by
   unfold bB;rw [if_pos nk];exact List.mem_append_right _ (List.mem_singleton.2 rfl)
  exact (cR hu hm).1
 have hx:=xo (fun x hx=>(h.pos _ hmem x hx).1) hf;refine ⟨?_,by rw[rO];exact⟨rfl,rfl,rfl,rfl,rfl⟩,by rw[hd];exact G_ _ _ _,by rw[hd];exact Dt _ _ _ hx,by rw[hd];rfl⟩;rw [hT];show (bQ _ _).length=_;rw [nB];unfold bB;rw [if_pos nk];simp
theorem Ha {p e:Int} (h:iw p e=0):p=0/\e=0:=by
 unfold iw at h;split at h
 ·rename_i h1;exact absurd h h1
 ·rename_i h1;exact⟨Decidable.not_not.1 h1,h⟩
def TE (w:World) (B:Nat) (g:bG) (S:ae) (uid gid now dir:Int) (nm:List UInt8) (a x:Int) (w':World):Prop:=
 ∃ T,dM w' B g T/\Only g.list w w'/\((x≠0/\a=0/\T=S)\/(x=0/\a=S.last+1/\XE S T uid gid now dir nm/\aD T.nodes T.last))
theorem there {c:Nat} {S:ae} (h:dy c S) {w w':World} {B:Nat} {g:bG} {cu cg now dir p:Int} {nm:List UInt8} {n:ai} {e:Ending}
  (hr:Fv w B g (fc p S (bV S cu cg now dir nm n)) (js p (dD S cu cg now dir nm n)) (iw p (cC S cu cg now dir nm n)) e w'):∃a x,e=.returned (.tuple #[.int .i64 a,.int .i64 x])/\TE w B g S cu cg now dir nm a x w':=by
 obtain ⟨he,hK,hO⟩:=hr;refine ⟨_,_,he,_,hK,hO,?_⟩
 by_cases hz:iw p (cC S cu cg now dir nm n)=0
 ·obtain ⟨h1,h2⟩:=Ha hz
  right
  subst h1;have hT:fc 0 S (bV S cu cg now dir nm n)=bV S cu cg now dir nm n:=rfl;refine ⟨hz,by show dD S cu cg now dir nm n=_;unfold dD;rw[if_pos h2],by rw[hT];exact came h h2,?_⟩;rw [hT];unfold bV;rw [if_pos h2];exact (qA h.live _).set _
 ·left
  refine ⟨hz,?_,?_⟩
  ·unfold iw js at *
   split
   ·rfl
   ·rename_i h1
    rw [if_neg h1]at hz;unfold dD;rw[if_neg hz]
  ·unfold iw fc at *
   split
   ·rfl
   ·rename_i h1
    rw [if_neg h1]at hz;unfold bV;rw[if_neg hz]
end
end Go.Proofs.YtpibnfdolojpcaaGreat
