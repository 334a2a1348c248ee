import Derived.Test.YtpibnfdolojpcaaGreatBunH
import Derived.Test.YtpibnfdolojpcaaGreatShelf
import Derived.Test.YtpibnfdolojpcaaGreatBunD
import Derived.Test.YtpibnfdolojpcaaGreatBunF
import Derived.Test.YtpibnfdolojpcaaGreatBunE
import Derived.Test.YtpibnfdolojpcaaGreatBunA
import Derived.Test.YtpibnfdolojpcaaGreatBunG
import Derived.Deep.CutBlock
set_option maxHeartbeats 8000000
set_option maxRecDepth 100000
namespace Go.Proofs.YtpibnfdolojpcaaGreat
open Go.Proofs.Tryz
open Go.ChangeShapes Go.WideShapes Go.ChangeAt Go.RowKit
variable {S:ag} {n:ak} {nm:List UInt8} {w:World} {p cu cg dir:Int}
section
def MT (w:World) (B:Nat) (g:dL) (T:ag) (a x:Int) (e:Ending) (w':World):Prop:=e=.returned (.tuple #[a,x])/\eL w' B g T/\Only g.list w w'
theorem AJ {w':World} {B:Nat} {g:dL} {T:ag} {a x:Int} (h:eL w B g S) (hE:Ext w w') (hp:p≠0):MT w B g (gI p S T) (lg p a) (jS p x) (.returned (.tuple #[(),p])) w':=
 ⟨by unfold lg jS;rw[af hp,af hp],by unfold gI;rw[af hp];exact h.ext hE,Only.az hE⟩
theorem G6 (l:List UInt8) (c:UInt8):decide (0<=Lib.indexByte l c)=hasB l c:=by
 rw[<-Lib.contains_iff_indexByte,zu];simp[hasB]
theorem Tu (B:Nat) (g:dL) (S:ag) (cu cg now dir:Int) (nm:List UInt8) (mode:Int) (w:World) (h:eL w B g S) (O:Ok S) (jZ:S.last<=100000) :
  Calls prog 156 #[((),g.bW),.agg #[cu,cg],now,dir,bs nm,mode] w
   (MT w B g (gI (qv mode) S (cM S cu cg now dir nm (fx mode dir))) (lg (qv mode) (eG S cu cg now dir nm (fx mode dir))) (jS (qv mode) (dq S cu cg now dir nm (fx mode dir)))):=by
 obtain⟨W0,aJ⟩:=ai (w.alloc (.cells #[cu,cg] 27));have E0:Ext w W0:=by rw[aJ];exact (Ext.refl _).alloc _
 have C0:Has W0 w.heap.size (.cells #[cu,cg] 27):=by rw[aJ];exact Has.new w _
 have x0:=aA C0 0 rfl;have x1:=aA C0 1 rfl;have xz:=C0.lt;have HO:=zH O;obtain⟨p,hp⟩:=ai (qv mode);have HS:Hid (∀(w':World) (x:Int),Ext w w'->p=x->x≠0->MT w B g (gI p S (cM S cu cg now dir nm (fx mode dir))) (lg p (eG S cu cg now dir nm (fx mode dir))) (jS p (dq S cu cg now dir nm (fx mode dir))) (.returned (.tuple #[(),x])) w'):=by
  show ∀(w':World) (x:Int),_;intro w' x hE hx h0;subst hx;exact AJ h hE h0
 have HD:Hid (∀(e:Ending) (w':World),EX W0 B g S cu cg now dir nm (fx mode dir) e w'->p=0->e=.returned (.tuple #[.int .i64 (eG S cu cg now dir nm (fx mode dir)),.int .i64 (dq S cu cg now dir nm (fx mode dir))])/\MT w B g (gI p S (cM S cu cg now dir nm (fx mode dir))) (lg p (eG S cu cg now dir nm (fx mode dir))) (jS p (dq S cu cg now dir nm (fx mode dir))) e w'):=by
  show ∀(e:Ending) (w':World),_;rintro e w' ⟨he,hK,hO⟩ h0;have n0:¬(p≠0):=fun x=>x h0
  exact⟨he,by unfold lg jS;rw[ac n0,ac n0];exact he,by unfold gI;rw[ac n0];exact hK,Only.pre E0 hO⟩
 have KP:Hid (Calls prog 191 #[((),g.bW),.agg #[cu,cg],now,dir,bs nm,.agg #[.int .i64 ((fx mode dir)).no,.int .i64 ((fx mode dir)).dev,.int .i64 ((fx mode dir)).kind,.int .i64 ((fx mode dir)).mode,.int .i64 ((fx mode dir)).uid,.int .i64 ((fx mode dir)).gid,.int .i64 ((fx mode dir)).mtime,.int .i64 ((fx mode dir)).ctime,.int .i64 ((fx mode dir)).ar,.int .i64 ((fx mode dir)).up,.string (bs ((fx mode dir)).data),.slice none ((fx mode dir)).ah.length 0]] W0 (EX W0 B g S cu cg now dir nm (fx mode dir))):=by
  refine AH B g S cu cg now dir nm (fx mode dir) none 0 W0 (h.ext E0) O jZ ⟨.nil _ _ _,aE _,bC _,fun _=>rfl⟩ ?_;simp[fx,aj]
 rw[<-hp];have HP:=zH hp;have lC:=zH E0;clear O hp E0 C0;go_in;go_upto_region 1 with fail;rw[<-aJ];clear aJ
 by_cases c1:mode<0
 ·have t1:decide (mode<0)=true:=cj c1
  have hE:Hid (p=1):=by show _=_;rw[HP.o];unfold qv;rw[af (.inl c1)]
  clear c1;go_wp2;go_ret2;exact HS.o _ _ lC.o hE.o (by decide)
 ·have t1:decide (mode<0)=false:=cG c1
  by_cases c2:1023<mode
  ·have t2:decide (1023<mode)=true:=cj c2
   have hE:Hid (p=1):=by show _=_;rw[HP.o];unfold qv;rw[af (.inr c2)]
   clear c1 c2;go_wp2;go_ret2;exact HS.o _ _ lC.o hE.o (by decide)
  ·have t2:decide (1023<mode)=false:=cG c2
   have hE:Hid (p=0):=by show _=_;rw[HP.o];unfold qv;rw[ac (by omega)]
   clear c1 c2;go_wp2_with fail;refine KP.o.mono ?_;rintro e w2 hr;obtain⟨rfl,hD⟩:=HD.o _ _ hr hE.o;clear hr;go_wp2;go_ret2;exact hD
theorem Pc (B:Nat) (g:dL) (S:ag) (cu cg now dir:Int) (nm:List UInt8) (mode:Int) (data:List UInt8) (w:World) (h:eL w B g S) (O:Ok S) (jZ:S.last<=100000) (hd:data.length<=1000000000) :
  Calls prog 157 #[((),g.bW),.agg #[cu,cg],now,dir,bs nm,mode,bs data] w
   (MT w B g (gI (jI mode data.length) S (cM S cu cg now dir nm (dy mode data))) (lg (jI mode data.length) (eG S cu cg now dir nm (dy mode data))) (jS (jI mode data.length) (dq S cu cg now dir nm (dy mode data)))):=by
 obtain⟨W0,aJ⟩:=ai (w.alloc (.cells #[cu,cg] 27));have E0:Ext w W0:=by rw[aJ];exact (Ext.refl _).alloc _
 have C0:Has W0 w.heap.size (.cells #[cu,cg] 27):=by rw[aJ];exact Has.new w _
 have x0:=aA C0 0 rfl;have x1:=aA C0 1 rfl;have xz:=C0.lt;have HO:=zH O;obtain⟨p,hp⟩:=ai (jI mode data.length);have HS:Hid (∀(w':World) (x:Int),Ext w w'->p=x->x≠0->MT w B g (gI p S (cM S cu cg now dir nm (dy mode data))) (lg p (eG S cu cg now dir nm (dy mode data))) (jS p (dq S cu cg now dir nm (dy mode data))) (.returned (.tuple #[(),x])) w'):=by
  show ∀(w':World) (x:Int),_;intro w' x hE hx h0;subst hx;exact AJ h hE h0
 have HD:Hid (∀(e:Ending) (w':World),EX W0 B g S cu cg now dir nm (dy mode data) e w'->p=0->e=.returned (.tuple #[.int .i64 (eG S cu cg now dir nm (dy mode data)),.int .i64 (dq S cu cg now dir nm (dy mode data))])/\MT w B g (gI p S (cM S cu cg now dir nm (dy mode data))) (lg p (eG S cu cg now dir nm (dy mode data))) (jS p (dq S cu cg now dir nm (dy mode data))) e w'):=by
  show ∀(e:Ending) (w':World),_;rintro e w' ⟨he,hK,hO⟩ h0;have n0:¬(p≠0):=fun x=>x h0
  exact⟨he,by unfold lg jS;rw[ac n0,ac n0];exact he,by unfold gI;rw[ac n0];exact hK,Only.pre E0 hO⟩
 have KP:Hid (Calls prog 191 #[((),g.bW),.agg #[cu,cg],now,dir,bs nm,.agg #[.int .i64 ((dy mode data)).no,.int .i64 ((dy mode data)).dev,.int .i64 ((dy mode data)).kind,.int .i64 ((dy mode data)).mode,.int .i64 ((dy mode data)).uid,.int .i64 ((dy mode data)).gid,.int .i64 ((dy mode data)).mtime,.int .i64 ((dy mode data)).ctime,.int .i64 ((dy mode data)).ar,.int .i64 ((dy mode data)).up,.string (bs ((dy mode data)).data),.slice none ((dy mode data)).ah.length 0]] W0 (EX W0 B g S cu cg now dir nm (dy mode data))):=by
  refine AH B g S cu cg now dir nm (dy mode data) none 0 W0 (h.ext E0) O jZ ⟨.nil _ _ _,aE _,bC _,fun _=>rfl⟩ ?_;exact hd
 rw[<-hp];have HP:=zH hp;have lC:=zH E0;clear O hp E0 C0;go_in;go_upto_region 1 with fail;rw[<-aJ];clear aJ;have hsz:((bs data).size:Int)=data.length:=by rw[bo]
 by_cases c1:mode<0
 ·have t1:decide (mode<0)=true:=cj c1
  have hE:Hid (p=1):=by show _=_;rw[HP.o];unfold jI;rw[af (.inl c1)]
  clear c1;go_wp2;go_ret2;exact HS.o _ _ lC.o hE.o (by decide)
 ·have t1:decide (mode<0)=false:=cG c1
  by_cases c2:1023<mode
  ·have t2:decide (1023<mode)=true:=cj c2
   have hE:Hid (p=1):=by show _=_;rw[HP.o];unfold jI;rw[af (.inr c2)]
   clear c1 c2;go_wp2;go_ret2;exact HS.o _ _ lC.o hE.o (by decide)
  ·have t2:decide (1023<mode)=false:=cG c2
   by_cases c3:(1048576:Int)<data.length
   ·have t3:decide ((1048576:Int)<(data.length:Int))=true:=cj c3
    have hE:Hid (p=3):=by show _=_;rw[HP.o];unfold jI;rw[ac (by omega),af c3]
    clear c1 c2 c3;go_wp2;go_ret2;exact HS.o _ _ lC.o hE.o (by decide)
   ·have t3:decide ((1048576:Int)<(data.length:Int))=false:=cG c3
    have hE:Hid (p=0):=by show _=_;rw[HP.o];unfold jI;rw[ac (by omega),ac c3]
    clear c1 c2 c3;go_wp2_with fail;refine KP.o.mono ?_;rintro e w2 hr;obtain⟨rfl,hD⟩:=HD.o _ _ hr hE.o;clear hr;go_wp2;go_ret2;exact hD
theorem Tv (B:Nat) (g:dL) (S:ag) (cu cg now dir:Int) (nm:List UInt8) (text:List UInt8) (w:World) (h:eL w B g S) (O:Ok S) (jZ:S.last<=100000) (hd:text.length<=1000000000) :
  Calls prog 158 #[((),g.bW),.agg #[cu,cg],now,dir,bs nm,bs text] w
   (MT w B g (gI (n_ text) S (cM S cu cg now dir nm (fL text))) (lg (n_ text) (eG S cu cg now dir nm (fL text))) (jS (n_ text) (dq S cu cg now dir nm (fL text)))):=by
 obtain⟨W0,aJ⟩:=ai (w.alloc (.cells #[cu,cg] 27));have E0:Ext w W0:=by rw[aJ];exact (Ext.refl _).alloc _
 have C0:Has W0 w.heap.size (.cells #[cu,cg] 27):=by rw[aJ];exact Has.new w _
 have x0:=aA C0 0 rfl;have x1:=aA C0 1 rfl;have xz:=C0.lt;have HO:=zH O;obtain⟨p,hp⟩:=ai (n_ text);have HS:Hid (∀(w':World) (x:Int),Ext w w'->p=x->x≠0->MT w B g (gI p S (cM S cu cg now dir nm (fL text))) (lg p (eG S cu cg now dir nm (fL text))) (jS p (dq S cu cg now dir nm (fL text))) (.returned (.tuple #[(),x])) w'):=by
  show ∀(w':World) (x:Int),_;intro w' x hE hx h0;subst hx;exact AJ h hE h0
 have HD:Hid (∀(w1:World) (e:Ending) (w':World),Ext w w1->EX w1 B g S cu cg now dir nm (fL text) e w'->p=0->e=.returned (.tuple #[.int .i64 (eG S cu cg now dir nm (fL text)),.int .i64 (dq S cu cg now dir nm (fL text))])/\MT w B g (gI p S (cM S cu cg now dir nm (fL text))) (lg p (eG S cu cg now dir nm (fL text))) (jS p (dq S cu cg now dir nm (fL text))) e w'):=by
  show ∀(w1:World) (e:Ending) (w':World),_;rintro w1 e w' Et ⟨he,hK,hO⟩ h0;have n0:¬(p≠0):=fun x=>x h0
  exact⟨he,by unfold lg jS;rw[ac n0,ac n0];exact he,by unfold gI;rw[ac n0];exact hK,Only.pre Et hO⟩
 have KP:Hid (∀w1,Ext w w1->Calls prog 191 #[((),g.bW),.agg #[cu,cg],now,dir,bs nm,.agg #[.int .i64 ((fL text)).no,.int .i64 ((fL text)).dev,.int .i64 ((fL text)).kind,.int .i64 ((fL text)).mode,.int .i64 ((fL text)).uid,.int .i64 ((fL text)).gid,.int .i64 ((fL text)).mtime,.int .i64 ((fL text)).ctime,.int .i64 ((fL text)).ar,.int .i64 ((fL text)).up,.string (bs ((fL text)).data),.slice none ((fL text)).ah.length 0]] w1 (EX w1 B g S cu cg now dir nm (fL text))):=by
  show ∀w1,_;intro w1 hE;exact AH B g S cu cg now dir nm (fL text) none 0 w1 (h.ext hE) O jZ ⟨.nil _ _ _,aE _,bC _,fun _=>rfl⟩ hd
 rw[<-hp];have HP:=zH hp;have lC:=zH E0;clear O hp E0 C0
 by_cases c0:text=[]
 ·have hE:Hid (p=1):=by show _=_;rw[HP.o];unfold n_;rw[af (.inl c0)]
  subst c0;have hem:(bs ([]:List UInt8)).toList.isEmpty=true:=by rw[bA];rfl
  go_in;go_upto_region 1 with fail;rw[<-aJ];clear aJ;go_wp2;go_ret2;exact HS.o _ _ lC.o hE.o (by decide)
 ·have hem:(bs text).toList.isEmpty=false:=by rw[bA,D_];exact c0
  have hsz:((bs text).size:Int)=text.length:=by rw[bo]
  obtain⟨hb,hhb⟩:=ai (hasB text 0);have hh:∀w',Calls prog 192 #[bs text,.string ⟨#[0]⟩] w' (aO w' (.bool hb)):=fun w'=>by
   have h:=strings_Contains_one (bs text) 0 w';rw[qa,G6,<-hhb]at h;exact h.mono fun e w2 h=>⟨h.1,by rw[h.2];exact Ext.refl _⟩
  have HH:=zH hh;have HB:=zH hhb;have CZ:=zH c0;have HW0:=zH aJ;clear hh hhb c0;go_in;go_upto_region 1 with fail;rw[<-aJ];clear aJ;go_wp2_with fail;refine (HH.o _).mono ?_;rintro e w1 ⟨rfl,b1⟩;have E1:=lC.o.trans b1;have x0':w1.cell? (w.heap.size,0)=some (.int .i64 cu):=(b1.cell xz).trans x0;have Za:w1.cell? (w.heap.size,1)=some (.int .i64 cg):=(b1.cell xz).trans x1;have xz':w.heap.size<w1.heap.size:=by have:=b1.size;omega
  clear x0 x1 xz;cases hb
  ·by_cases c1:(4096:Int)<text.length
   ·have t1:decide ((4096:Int)<(text.length:Int))=true:=cj c1
    have hE:Hid (p=13):=by show _=_;rw[HP.o];unfold n_;rw[ac (by rintro (h'|h');exact CZ.o h';rw[<-HB.o]at h';cases h'),af (by omega)]
    clear c1;go_wp2;go_ret2;exact HS.o _ _ E1 hE.o (by decide)
   ·have t1:decide ((4096:Int)<(text.length:Int))=false:=cG c1
    have hE:Hid (p=0):=by show _=_;rw[HP.o];unfold n_;rw[ac (by rintro (h'|h');exact CZ.o h';rw[<-HB.o]at h';cases h'),ac (by omega)]
    clear c1;go_wp2_with fail;refine (KP.o _ E1).mono ?_;rintro e w2 hr;obtain⟨rfl,hD⟩:=HD.o _ _ _ E1 hr hE.o;clear hr;go_wp2;go_ret2;exact hD
  ·have hE:Hid (p=1):=by show _=_;rw[HP.o];unfold n_;rw[af (.inr HB.o.symm)]
   go_wp2;go_ret2;exact HS.o _ _ E1 hE.o (by decide)
theorem Live.kept (h:Live S) {no:Int} (hk:iI S no=true):dO S.nodes no≠[]:=by
 obtain⟨m,hm,e⟩:=h.first;have h1:=(h.aav hk).2;intro h0;have:m∈dO S.nodes no:=gz.2 ⟨hm,by rw[e];simpa using dA h1⟩;rw[h0]at this;cases this
def bJ (S:ag) (cu cg dir:Int) (nm:List UInt8):Int:=
 if ¬bn S cu cg dir nm=0 then bn S cu cg dir nm else if aW S.nodes (aY (aa S.nodes dir).ah nm)=false then 5
 else if ¬aw S.ae (aY (aa S.nodes dir).ah nm)=aY (aa S.nodes dir).ah nm then 16
 else if gR cu (aa S.nodes dir).mode (aa S.nodes dir).uid (aa S.nodes (aY (aa S.nodes dir).ah nm)).uid=false then 4 else 0
def cL (S:ag) (cu cg dir:Int) (nm:List UInt8):ak:=if bJ S cu cg dir nm=0 then aa S.nodes dir else aj
def bQ (S:ag) (cu cg dir:Int) (nm:List UInt8):ak:=if bJ S cu cg dir nm=0 then aa S.nodes (aY (aa S.nodes dir).ah nm) else aj
def gT (now:Int) (n:ak):ak:={n with ar:=n.ar-1,ctime:=now}
def jm (S:ag) (now:Int) (n:ak):ag:=if n.ar-1<1 then gS (aV S (gT now n)) n.no else aV S (gT now n)
def gU (S:ag) (now:Int) (d n:ak) (nm:List UInt8):ag:=jm (dC S d.no now (eU d.ah nm)) now n
def ey (S:ag) (cu cg dir:Int) (nm:List UInt8):Int:=if ¬bJ S cu cg dir nm=0 then bJ S cu cg dir nm else if (bQ S cu cg dir nm).kind=1 then 8 else 0
def fc (S:ag) (cu cg dir:Int) (nm:List UInt8):Int:=
 if ¬bJ S cu cg dir nm=0 then bJ S cu cg dir nm else if ¬(bQ S cu cg dir nm).kind=1 then 9 else if 0<((bQ S cu cg dir nm).ah.length:Int) then 10 else 0
def eQ (S:ag) (cu cg now dir:Int) (nm:List UInt8):ag:=if ey S cu cg dir nm=0 then gU S now (cL S cu cg dir nm) (bQ S cu cg dir nm) nm else S
def gJ (S:ag) (cu cg now dir:Int) (nm:List UInt8):ag:=if fc S cu cg dir nm=0 then gU S now (cL S cu cg dir nm) (bQ S cu cg dir nm) nm else S
structure AK (S:ag) (n:ak):Prop where
 ar:1<=n.ar/\n.ar<=1000
 dev:ic S.ae n.dev=true
 data:n.data.length<=1048576
 one:n.no=1->n.dev=1
theorem AK.live (h:AK S n) (L:Live S) (now:Int):Live (aV S (gT now n)):=L.set _ h.dev h.data h.one
theorem Ok.held (O:Ok S) {no:Int} (hi:aW S.nodes no=true):AK S (aa S.nodes no):=
 ⟨O.ar _ (ap hi).2.2,(O.live.on _ (ap hi).2.2).1,(O.live.on _ (ap hi).2.2).2,O.live.one _ (ap hi).2.2⟩
theorem Pd (B:Nat) (g:dL) (S:ag) (now:Int) (n:ak) (A:Option Addr) (c:Nat) (w:World) (h:eL w B g S) (L:Live S) (hn:aD w B n A c) (hh:AK S n) :
  Calls prog 200 #[((),g.bW),now,.agg (n,A,c)] w (AF w B g (jm S now n)):=by
 obtain⟨W0,aJ⟩:=ai (w.alloc (.cells (n,A,c) 66));have E0:Ext w W0:=by rw[aJ];exact (Ext.refl _).alloc _
 obtain⟨b5,fu⟩:=ai w.heap.size;have N0:Has W0 b5 (.cells (n,A,c) 66):=by rw[aJ,fu];exact Has.new _ _
 have qY:w.heap.size<=b5:=by omega
 have HL:=zH L;have HH:=zH hh;have LL:=zH (hh.live L now);have y8:=aA N0 8 rfl;have y7:=aA N0 7 rfl;have yf:∀i,W0.frozen? ⟨b5,i,none⟩=false:=fun i=>(N0.free i).trans (by simp)
 have yz:=N0.lt;have y4:IntKind.i64.wrap (n.ar-1)=n.ar-1:=aU (by have:=hh.ar;omega) (by have:=hh.ar;omega);have HLT:Hid (jm S now n=if n.ar-1<1 then gS (aV S (gT now n)) n.no else aV S (gT now n)):=by show _=_;rfl
 obtain⟨n',hn'⟩:=ai (gT now n);rw[<-hn']at HLT LL;have Cd:=zH hn';clear L hh hn';go_in;go_upto_region 1 with fail;rw[<-aJ];rw[<-fu];clear aJ fu;go_upto_region 3 with fail;obtain⟨V,hV⟩:=ai ((W0.setCell (b5,8) (.int .i64 (n.ar-1))).setCell (b5,7) (.int .i64 now));rw[<-hV];have NV:Has V b5 (.cells #[.int .i64 (n').no,.int .i64 (n').dev,.int .i64 (n').kind,.int .i64 (n').mode,.int .i64 (n').uid,.int .i64 (n').gid,.int .i64 (n').mtime,.int .i64 (n').ctime,.int .i64 (n').ar,.int .i64 (n').up,.string (bs (n').data),.slice A (n').ah.length c] 66):=by rw[hV,Cd.o];exact (N0.setCell 8 _).setCell 7 _
 have OV:Only [b5] W0 V:=by rw[hV];exact (Only.setCell _ _ _ _).then (Only.setCell _ _ _ _)
 have Kn:dE W0 B [b5]:=by
  intro b hb;rw[ax]at hb;subst hb;exact⟨by have:=h.1;have:=h.lt.1;omega,N0.fV (by decide)⟩
 have EV:Ext w V:=OV.after E0 (by intro b hb;rw[ax]at hb;omega);have KV:=h.ext EV;have Ah:aD V B n' A c:=((hn.ext E0).only OV Kn).same (by rw[Cd.o];rfl);clear hV y8 y7 yf yz y4;obtain⟨_,_,cdV,Tn,_⟩:=id KV;have v0:=aA Tn 0 rfl;have vz:=Tn.lt;obtain⟨x0,x1,x2,x3,x4,x5,x6,x7,x8,x9,kC,kn⟩:=NV.da;have zN:=NV.lt;clear Tn;go_still_tail 5,(by kernel_rfl);change wpList _ _ _ _ _ V.drew;go_wp2_with fail;have ED:Ext V V.drew:=(Ext.refl _).drew;refine (pL B g S n' A c _ (KV.ext ED) HL.o.bL (Ah.ext ED)).mono ?_;rintro e w7 ⟨rfl,K7,O7⟩;have hbg:b5∉g.list:=by
  have Rj:=h.lt;simp only[dL.list,aR,bg,bh];omega
 have N7:=O7.has (NV.ext ED) hbg;have Wf:Only g.list w w7:=Only.pre (EV.trans ED) O7;have z8:=aA N7 8 rfl;have z0:=aA N7 0 rfl;have zz:=N7.lt;have nE:n'.ar=n.ar-1:=by rw[Cd.o];rfl
 have bB:n'.no=n.no:=by rw[Cd.o];rfl
 rw[nE]at z8;rw[bB]at z0;clear v0 vz x0 x1 x2 x3 x4 x5 x6 x7 x8 x9 kC kn zN nE bB
 by_cases hk:n.ar-1<=0
 ·have t1:decide (n.ar-1<=0)=true:=cj hk
  have e1:Hid (jm S now n=gS (aV S n') n.no):=by show _=_;rw[HLT.o,af (by omega)]
  clear hk;go_wp2_with fail;refine (OB B g (aV S n') n.no _ K7 LL.o.ae LL.o.eight LL.o.roots LL.o.bL LL.o.on).mono ?_;rintro e w8 ⟨rfl,K8,O8⟩;go_wp2_with fail;go_end0;exact⟨rfl,by rw[e1.o];exact K8,Wf.then O8⟩
 ·have t1:decide (n.ar-1<=0)=false:=cG hk
  have e1:Hid (jm S now n=aV S n'):=by show _=_;rw[HLT.o,ac (by omega)]
  clear hk;go_wp2_with fail;go_end0;exact⟨rfl,by rw[e1.o];exact K7,Wf⟩
def acj (w:World) (B:Nat) (g:cI) (T:ag) (X:cY) (e:Ending) (w':World):Prop:=e=.returned (.tuple #[])/\∃g2,gv w' B g2 T X/\Only g.list w w'/\cI.on g2 g w
theorem C_ (B:Nat) (g:cI) (S:ag) (X:cY) (n:ak) (A:Option Addr) (c:Nat) (w:World) (h:gv w B g S X) (L:Live S) (hl:S.last<=1000) (hn:aD w B n A c) (hh:AK S n) :
  Calls prog 181 #[((),g.bF),.agg (n,A,c)] w (acj w B g (jm S X.now n) X):=by
 obtain⟨W0,aJ⟩:=ai (w.alloc (.cells (n,A,c) 66));have E0:Ext w W0:=by rw[aJ];exact (Ext.refl _).alloc _
 obtain⟨b5,fu⟩:=ai w.heap.size;have N0:Has W0 b5 (.cells (n,A,c) 66):=by rw[aJ,fu];exact Has.new _ _
 have qY:w.heap.size<=b5:=by omega
 have HL:=zH L;have HH:=zH hh;have LL:=zH (hh.live L X.now);have y8:=aA N0 8 rfl;have y7:=aA N0 7 rfl;have yf:∀i,W0.frozen? ⟨b5,i,none⟩=false:=fun i=>(N0.free i).trans (by simp)
 have yz:=N0.lt;have y4:IntKind.i64.wrap (n.ar-1)=n.ar-1:=aU (by have:=hh.ar;omega) (by have:=hh.ar;omega);have HLT:Hid (jm S X.now n=if n.ar-1<1 then gS (aV S (gT X.now n)) n.no else aV S (gT X.now n)):=by show _=_;rfl
 obtain⟨n',hn'⟩:=ai (gT X.now n);rw[<-hn']at HLT LL;have Cd:=zH hn';have nw:W0.cell? (g.bF,3)=some (.int .i64 X.now):=by obtain⟨_,_,_,k,_⟩:=h.ext E0;exact k.cell 3
 have nz:=(h.ext E0).lt.1;have hlt:=h.lt.1;have nbf:(b5=g.bF)=False:=ml (by omega);have Kl:(g.bF=b5)=False:=ml (by omega);clear L hh hn';go_in;go_upto_region 1 with fail;rw[<-aJ];rw[<-fu];clear aJ fu;go_upto_region 3 with fail;obtain⟨V,hV⟩:=ai ((W0.setCell (b5,8) (.int .i64 (n.ar-1))).setCell (b5,7) (.int .i64 X.now));rw[<-hV];have NV:Has V b5 (.cells #[.int .i64 (n').no,.int .i64 (n').dev,.int .i64 (n').kind,.int .i64 (n').mode,.int .i64 (n').uid,.int .i64 (n').gid,.int .i64 (n').mtime,.int .i64 (n').ctime,.int .i64 (n').ar,.int .i64 (n').up,.string (bs (n').data),.slice A (n').ah.length c] 66):=by rw[hV,Cd.o];exact (N0.setCell 8 _).setCell 7 _
 have OV:Only [b5] W0 V:=by rw[hV];exact (Only.setCell _ _ _ _).then (Only.setCell _ _ _ _)
 have Kn:dE W0 B [b5]:=by
  intro b hb;rw[ax]at hb;subst hb;exact⟨by have:=h.1;omega,N0.fV (by decide)⟩
 have EV:Ext w V:=OV.after E0 (by intro b hb;rw[ax]at hb;omega);have Ah:aD V B n' A c:=((hn.ext E0).only OV Kn).same (by rw[Cd.o];rfl);clear hV y8 y7 yf yz y4 nw nz nbf Kl;go_wp2_with (refine aB rfl _ rfl b5 n' A c rfl NV ?_);refine (pu B g S X n' A c _ (h.ext EV) (by have:=HL.o.count;omega) HL.o.bL Ah).mono ?_;rintro e w7 ⟨rfl,K7,O7⟩;have hbg:b5∉g.list:=by
  have Rj:=h.lt;simp only[cI.list,aR,bg,bh];omega
 have N7:=O7.has NV hbg;have Wf:Only g.list w w7:=Only.pre EV O7;have z8:=aA N7 8 rfl;have z0:=aA N7 0 rfl;have zz:=N7.lt;have nE:n'.ar=n.ar-1:=by rw[Cd.o];rfl
 have bB:n'.no=n.no:=by rw[Cd.o];rfl
 rw[nE]at z8;rw[bB]at z0;clear nE bB
 by_cases hk:n.ar-1<1
 ·have t1:decide (n.ar-1<1)=true:=cj hk
  have e1:Hid (jm S X.now n=gS (aV S n') n.no):=by show _=_;rw[HLT.o,af hk]
  clear hk;go_wp2_with fail;refine (OJ B g (aV S n') X n.no _ K7 (by have:=LL.o.count;have e:(aV S n').last=S.last:=rfl;omega) LL.o.eight LL.o.roots LL.o.bL LL.o.on (fun hk=>LL.o.kept hk) (by have:=(K7.apart _ (by simp:g.bF∈g.list)).1;have:=K7.lt.1;omega)).mono ?_;rintro e w8 ⟨rfl,g2,K8,on8,O8⟩;go_wp2_with fail;go_end0;refine⟨rfl,g2,by rw[e1.o];exact K8,Wf.then O8,on8.1,fun b hb=>?_⟩;rcases on8.2 b hb with e|e
  ·exact .inl e
  ·exact .inr (by have:=Wf.size;omega)
 ·have t1:decide (n.ar-1<1)=false:=cG hk
  have e1:Hid (jm S X.now n=aV S n'):=by show _=_;rw[HLT.o,ac hk]
  clear hk;go_wp2_with fail;go_end0;exact⟨rfl,g,by rw[e1.o];exact K7,Wf,cI.ew g w⟩
open Go
theorem rS {id:Nat} {Q:Exit->Act->World->Prop} {a:Act} {l:List Oper} (V:World) (m s:Nat) (d t:Tmp) (n:ak) (A:Option Addr) (c:Nat) (om os:Oper)
  (hB:Region.lexB .any l.toArray=true) (hc:JW l m s d t=true) (EF:l[m]?=some om) (oW:l[s]?=some os) (NS:om.op=.alloc 66) (pj:os.op=.store 66 (.tmp d) (.tmp t)) (WY:d<a.tmps.size)
  (hV:Ext V w.drew) :
  aM prog l.toArray V (fun a1=>aM prog l.toArray V (fun a2=>a2.eval (.tmp t)=.agg (n,A,c)/\aM prog l.toArray V (fun a3=>∀w' bx,Ext V w'->V.heap.size<=bx->Has w' bx (.cells (n,A,c) 66)->Q .normal (a3.put (some d) (.pointer (some ⟨bx,0,none⟩))) w') (l.drop (s+1)) a2) ((l.take s).drop (m+1)) a1) (l.take m) a ->
  (Code.region id l.toArray true).wp prog Q a w:=by
 refine tc V m s d t (.agg (n,A,c)) (.cells () 66) _ om os (by kernel_rfl) hB hc EF oW ?_ ?_ hV WY
 ·intro a w
  simp[execOp,NS,go_sem]
 ·intro a w bx hsz hb he
  have hd:(a.put (some d) (.pointer (some ⟨bx,0,none⟩))).eval (.tmp d)=.pointer (some ⟨bx,0,none⟩):=by
   simp[Act.put,Act.eval,hsz]
  have hb':Has w bx (.cells (aj,()) 66):=hb;refine⟨_,?_,hb'.setNode n A c,cr (gu n A c) 0 w⟩;simp only[execOp,pj,hd,he,tF w bx 0 66 (n,A,c) hb'.there iM (rL n A c),nr,o7,rn];rfl
attribute [local irreducible] jc wpQuiet
attribute [local go_sem] gW
theorem jn {ops:Array Oper} {Ph:Nat->World->Prop} {ks:List Nat} {Q:Act->Prop} {a:Act} {o:Oper} {rest:List Oper} {k:Nat} (j:Nat) (hp:placeOf ks k=some j) (hg:o.guard=none) (hd:o.dst=none)
  (x y:Operand) (ho:o.op=.store 66 x y) (b:Nat) (n:ak) (A:Option Addr) (c:Nat) (hx:a.eval x=.pointer (some ⟨b,0,none⟩)) (hy:a.eval y=.agg (n,A,c))
  (hb:∀u:Wc (Ph j),∃(m:ak) (A':Option Addr) (c':Nat),Has u.w b (.cells (m,A',c') 66)) (hn:∀(u:Wc (Ph j)) (w':World),Has w' b (.cells (n,A,c) 66)->Only [b] u.w w'->Ph (j+1) w')
  (h:jc ops (Ri prog Ph ks) Q rest (k+1) a):jc ops (Ri prog Ph ks) Q (o::rest) k a:=by
 refine dh j hp hg fun K hK=>⟨undef,fun u=>?_,?_⟩
 ·obtain ⟨m,A',c',hu⟩:=hb u
  have hr:(execOp a.eval o).run prog u.w=.ok .skip (u.w.setCells b 0 (gu n A c)):=by
   simp only[execOp,ho,hx,hy,tF u.w b 0 66 (n,A,c) hu.there iM (rL n A c),nr,o7,rn];rfl
  rw[hr];exact⟨rfl,hn u _ (hu.setNode n A c) (cr (gu n A c) 0 u.w)⟩
 ·rw [hd]
  exact hK _ h
theorem i6 {fn:Func} {p q t:Tmp} (h:fn.results=#[.cell p 66,.cell q 66,.tmp t]) (tmps:Array Value) (w:World) (b1 b2:Nat) (n m:ak) (A A':Option Addr) (c c':Nat) (v:Value)
  (hp:tmps.getD p undef=.pointer (some ⟨b1,0,none⟩)) (hq:tmps.getD q undef=.pointer (some ⟨b2,0,none⟩)) (hv:tmps.getD t undef=v) (h1:Has w b1 (.cells (n,A,c) 66)) (h2:Has w b2 (.cells (m,A',c') 66)) :
  (results fn tmps).run prog w=.ok (.tuple #[.agg (n,A,c),.agg (m,A',c'),v]) w:=by
 have hp':tmps[p]?.getD undef=.pointer (some ⟨b1,0,none⟩):=by simpa using hp
 have hq':tmps[q]?.getD undef=.pointer (some ⟨b2,0,none⟩):=by simpa using hq
 have hv':tmps[t]?.getD undef=v:=by simpa using hv
 have jZ:=Ea (P:=prog) w b1 66 66 _ (0,0) _ h1 underlying66 rfl iM;have xH:=Ea (P:=prog) w b2 66 66 _ (0,0) _ h2 underlying66 rfl iM;simp[results,h,hp',hq',hv',asAddr,jZ,xH]
def EZ (w:World) (B:Nat) (S:ag) (cu cg dir:Int) (nm:List UInt8) (e:Ending) (w':World):Prop:=
 ∃ A c A' c',e=.returned (.tuple #[.agg #[.int .i64 (cL S cu cg dir nm).no,.int .i64 (cL S cu cg dir nm).dev,.int .i64 (cL S cu cg dir nm).kind,.int .i64 (cL S cu cg dir nm).mode,.int .i64 (cL S cu cg dir nm).uid,.int .i64 (cL S cu cg dir nm).gid,.int .i64 (cL S cu cg dir nm).mtime,.int .i64 (cL S cu cg dir nm).ctime,.int .i64 (cL S cu cg dir nm).ar,.int .i64 (cL S cu cg dir nm).up,.string (bs (cL S cu cg dir nm).data),.slice A (cL S cu cg dir nm).ah.length c],.agg #[.int .i64 (bQ S cu cg dir nm).no,.int .i64 (bQ S cu cg dir nm).dev,.int .i64 (bQ S cu cg dir nm).kind,.int .i64 (bQ S cu cg dir nm).mode,.int .i64 (bQ S cu cg dir nm).uid,.int .i64 (bQ S cu cg dir nm).gid,.int .i64 (bQ S cu cg dir nm).mtime,.int .i64 (bQ S cu cg dir nm).ctime,.int .i64 (bQ S cu cg dir nm).ar,.int .i64 (bQ S cu cg dir nm).up,.string (bs (bQ S cu cg dir nm).data),.slice A' (bQ S cu cg dir nm).ah.length c'],.int .i64 (bJ S cu cg dir nm)])/\aD w' B (cL S cu cg dir nm) A c/\aD w' B (bQ S cu cg dir nm) A' c'/\Ext w w'
theorem AL (B:Nat) (g:dL) (S:ag) (cu cg dir:Int) (nm:List UInt8) (w:World) (h:eL w B g S) (O:Ok S) :
  Calls prog 175 #[((),g.bW),.agg #[cu,cg],dir,bs nm] w (EZ w B S cu cg dir nm):=by
 obtain⟨W0,aJ⟩:=ai (((w.alloc (.cells #[cu,cg] 27)).alloc (.cells () 66)).alloc (.cells () 66));have E0:Ext w W0:=by rw[aJ];exact (((Ext.refl _).alloc _).alloc _).alloc _
 obtain⟨b5,fu⟩:=ai w.heap.size;have C0:Has W0 b5 (.cells #[cu,cg] 27):=by rw[aJ,fu];exact ((Has.new w _).alloc _).alloc _
 have P0:Has W0 (b5+1) (.cells (aj,()) 66):=by
  rw[aJ,fu];have:=(Has.new (w.alloc (.cells #[cu,cg] 27)) (.cells (aj,()) 66)).alloc (.cells () 66)
  rwa [bi]at this
 have Q0:Has W0 (b5+2) (.cells (aj,()) 66):=by
  rw[aJ,fu];have:=Has.new ((w.alloc (.cells #[cu,cg] 27)).alloc (.cells () 66)) (.cells (aj,()) 66)
  rwa [bi,bi]at this
 have HO:=zH O;have hm:Hid (bJ S cu cg dir nm=if ¬bn S cu cg dir nm=0 then bn S cu cg dir nm else if aW S.nodes (aY (aa S.nodes dir).ah nm)=false then 5
  else if ¬aw S.ae (aY (aa S.nodes dir).ah nm)=aY (aa S.nodes dir).ah nm then 16
  else if gR cu (aa S.nodes dir).mode (aa S.nodes dir).uid (aa S.nodes (aY (aa S.nodes dir).ah nm)).uid=false then 4 else 0):=by show _=_;rfl
 have hp:Hid (bn S cu cg dir nm=0->dG S cu cg dir nm=aa S.nodes dir/\aW S.nodes dir=true):=fun h0=>⟨kI h0,(a_ h0).1⟩
 have Rj:=h.lt;have HS:Hid (∀(v w':World) (x:Int),Ext w v->Only [b5+1,b5+2] v w'->bJ S cu cg dir nm=x->x≠0->EZ w B S cu cg dir nm (.returned (.tuple #[.agg (aj,()),.agg (aj,()),x])) w'):=by
  show ∀(v w':World) (x:Int),_;intro v w' x hE hO hx h0;have e1:cL S cu cg dir nm=aj:=by unfold cL;rw[ac (by rw[hx];exact h0)]
  have e2:bQ S cu cg dir nm=aj:=by unfold bQ;rw[ac (by rw[hx];exact h0)]
  exact⟨none,0,none,0,by rw[e1,e2,hx],by rw[e1];exact aD.zero _ _,by rw[e2];exact aD.zero _ _,hO.after hE (by intro b hb;simp only[aR,bg,bh]at hb;omega)⟩
 have aeo:b5<=w.heap.size:=by omega
 have aep:w.heap.size<=b5:=by omega
 clear O;go_in;go_upto_region 1 with fail;rw[<-aJ];rw[<-fu];clear aJ fu;have x0:=aA C0 0 rfl;have x1:=aA C0 1 rfl;have xz:=C0.lt;go_wp2_with fail;refine (tP B g S cu cg dir nm _ (h.ext E0) HO.o.live.ae).mono ?_;rintro e w2 ⟨A2,k2,rfl,gG,b2⟩;obtain⟨m,hmm⟩:=ai (dG S cu cg dir nm);obtain⟨x,hx⟩:=ai (bn S cu cg dir nm);rw[<-hmm]at gG hp;rw[<-hx]at hm hp;rw[<-hmm,<-hx];obtain⟨W3,cJ⟩:=ai (w2.alloc (.cells (m,A2,k2) 66));obtain⟨dI,fj⟩:=ai w2.heap.size;have iH:Ext w2 W3:=by rw[cJ];exact (Ext.refl _).alloc _
 have M3:Has W3 dI (.cells (m,A2,k2) 66):=by rw[cJ,fj];exact Has.new _ _
 have oR:Ext W0 W3:=b2.trans iH;have C3:=C0.ext oR;have P3:=P0.ext oR;have Q3:=Q0.ext oR;have mE:=gG.ext iH;have E3:=E0.trans oR;have Da:W0.heap.size<=dI:=by rw[fj];exact b2.size
 have aeq:b5+2<W0.heap.size:=Q0.lt;clear x0 x1 xz hmm hx C0 P0 Q0;go_upto_region 2 with fail;rw[<-cJ];rw[<-fj];clear cJ fj
 by_cases aX:x=0
 case neg =>
  have t0:(x == 0)=false:=by simpa using aX
  have nK:(x != 0)=true:=by simpa using aX
  have hE:Hid (bJ S cu cg dir nm=x):=by show _=_;rw[hm.o,af aX]
  have HX:=zH aX;clear hm aX;go_wp2_with (first|(refine aq rfl _ _ rfl (b5+1) aj none 0 rfl rfl P3 ?_;intro wp Pp Op;have Qp:=Op.has Q3 (by rw[ax];omega))|(refine aq rfl _ _ rfl (b5+2) aj none 0 rfl rfl Qp ?_;intro wq Qq Oq;have Pq:=Oq.has Pp (by rw[ax];omega)));refine aT (v:=.tuple #[.agg (aj,()),.agg (aj,()),x]) (i6 results175 _ _ (b5+1) (b5+2) aj aj none none 0 0 _ rfl rfl rfl Pq Qq) rfl ?_;exact HS.o _ _ _ E3 ((Op.mono (by simp)).then (Oq.mono (by simp))) hE.o HX.o
 have t0:(x == 0)=true:=by simpa using aX
 have nK:(x != 0)=false:=by simpa using aX
 obtain ⟨oX,hid⟩:=hp.o aX;obtain⟨no,bB⟩:=ai (aY m.ah nm);have cq:Hid (bJ S cu cg dir nm=if aW S.nodes no=false then 5 else if ¬aw S.ae no=no then 16 else if gR cu m.mode m.uid (aa S.nodes no).uid=false then 4 else 0):=by
  show _=_;rw[hm.o,ac (by simpa using aX),<-oX,<-bB]
 have Ag:=zH oX;have hen:=HO.o.bj dir;rw[<-oX]at hen;have vg:=zH hen;have KF:Hid (∀u:Gr W3,Calls prog 100 #[.slice A2 m.ah.length k2,bs nm] u.w (aO u.w (.int .i64 no))):=by
  show ∀u:Gr W3,_;intro u;rw[bB,<-l_ vg.o.1];exact rA A2 m.ah k2 nm u.w (mE.ext u.h).ah.ah vg.o.1 (by have:=vg.o.2;omega)
 obtain⟨A4,k4,tO,C4⟩:=nI B g S no W3 (h.ext E3);obtain⟨n,hn⟩:=ai (aa S.nodes no);obtain⟨i,hi⟩:=ai (aW S.nodes no);have lm:aW S.nodes no=true->(aa S.nodes no).no=no:=fun h=>(ap h).2.1
 rw[<-hn]at tO cq lm;rw[<-hi]at cq lm;rw[<-hn,<-hi]at C4;have HC4:=zH C4;have MU:=zH lm;have uh:=zH bB;have qP:=zH hn;have HI:=zH hi;obtain⟨_,_,cd,h3,_⟩:=id (h.ext E3);have v0:∀u:Gr W3,u.w.cell? (g.bW,0)=some (.pointer (some ⟨g.bT,0,none⟩)):=Gr.cell h3.lt (h3.cell 0);have nL:∀u:Gr W3,u.w.cell? (dI,11)=some (.slice A2 m.ah.length k2):=Gr.cell M3.lt (M3.cell 11);clear hm hp aX oX hid hen bB hn hi lm C4 h3;go_upto_region 4 with fail;refine rS W3 12 13 13 38 n A4 k4 _ _ (by kernel_rfl) (by kernel_rfl) rfl rfl rfl rfl (by simp) ((Ext.refl _).drew) ?_;simp only[qG,oH,qH,jN,p9]
 repeat (
     refine cH (fun K hK=>?_);go_simp
     first
      | (refine hK _ ?_;clear hK K)
      | (
        apply Exists.intro;refine⟨fun u=>?_,hK _ ?_⟩
        first
         | ((with_reducible refine (KF.o _).mono ?_);rintro e w'' ⟨rfl,hx⟩;exact⟨rfl,hx⟩)
         | ((with_reducible refine (HC4.o _ u.h).mono ?_);rintro e w'' ⟨rfl,hx⟩;exact⟨rfl,hx⟩)
        clear hK K))
 refine bc ?_;refine bc ⟨rfl,?_⟩;refine cH (fun K hK=>?_);go_simp;refine hK _ ?_;clear hK K;refine bc ?_;intro w4 mG yM sQ N4;simp only[Act.put];have C4:=C3.ext yM;have P4:=P3.ext yM;have Q4:=Q3.ext yM;have M4:=M3.ext yM;have Tw:=mE.ext yM;have E_:=tO.ext yM;have E4:=E3.trans yM;have hM3:=M3.lt;clear v0 nL KF C3 P3 Q3 M3 mE tO E3
 cases i
 ·have hE:Hid (bJ S cu cg dir nm=5):=by show _=_;rw[cq.o];rfl
  clear cq;go_wp2_with (first|(refine aq rfl _ _ rfl (b5+1) aj none 0 rfl rfl P4 ?_;intro wp Pp Op;have Qp:=Op.has Q4 (by rw[ax];omega))|(refine aq rfl _ _ rfl (b5+2) aj none 0 rfl rfl Qp ?_;intro wq Qq Oq;have Pq:=Oq.has Pp (by rw[ax];omega)));refine aT (v:=.tuple #[.agg (aj,()),.agg (aj,()),.int .i64 5]) (i6 results175 _ _ (b5+1) (b5+2) aj aj none none 0 0 _ rfl rfl rfl Pq Qq) rfl ?_;exact HS.o _ _ _ E4 ((Op.mono (by simp)).then (Oq.mono (by simp))) hE.o (by decide)
 have Re:=MU.o (by trivial);have z0:=aA N4 0 rfl;rw[Re]at z0;have KO:Hid (∀u:Gr w4,Calls prog 101 #[((),g.bW),no] u.w (aO u.w (.int .i64 (aw S.ae no)))):=by
  show ∀u:Gr w4,_;exact fun u=>iZ B g S no _ ((h.ext E4).ext u.h) HO.o.live.ae (by have:=HO.o.live.eight;omega)
 have y0:=Gr.cell N4.lt z0;clear z0 Re;go_upto_region 7 with fail
 by_cases ho:aw S.ae no=no
 case neg =>
  have t1:(aw S.ae no == no)=false:=by simpa using ho
  have qo:(aw S.ae no != no)=true:=by simpa using ho
  have hE:Hid (bJ S cu cg dir nm=16):=by show _=_;rw[cq.o,ac (by decide),af ho]
  clear cq ho;refine Rd w4 ?_
  repeat (quiet_step (((with_reducible refine (KO.o _).mono ?_);rintro e w'' ⟨rfl,mv⟩;exact⟨rfl,⟨w'',Ext.trans (Gr.h _) mv⟩,rfl⟩)))
  refine lH (NX fun w5 ra=>?_);clear y0 KO;have P5:=P4.ext ra;have Q5:=Q4.ext ra;go_wp2_with (first|(refine aq rfl _ _ rfl (b5+1) aj none 0 rfl rfl P5 ?_;intro wp Pp Op;have Qp:=Op.has Q5 (by rw[ax];omega))|(refine aq rfl _ _ rfl (b5+2) aj none 0 rfl rfl Qp ?_;intro wq Qq Oq;have Pq:=Oq.has Pp (by rw[ax];omega)));refine aT (v:=.tuple #[.agg (aj,()),.agg (aj,()),.int .i64 16]) (i6 results175 _ _ (b5+1) (b5+2) aj aj none none 0 0 _ rfl rfl rfl Pq Qq) rfl ?_;exact HS.o _ _ _ (E4.trans ra) ((Op.mono (by simp)).then (Oq.mono (by simp))) hE.o (by decide)
 have t1:(aw S.ae no == no)=true:=by simpa using ho
 have qo:(aw S.ae no != no)=false:=by simpa using ho
 have HOV:=zH (show ¬¬aw S.ae no=no by simpa using ho);clear ho;refine Rd w4 ?_
 repeat (quiet_step (((with_reducible refine (KO.o _).mono ?_);rintro e w'' ⟨rfl,mv⟩;exact⟨rfl,⟨w'',Ext.trans (Gr.h _) mv⟩,rfl⟩)))
 refine lH (NX fun w5 ra=>?_);clear y0 KO;have P5:=P4.ext ra;have Q5:=Q4.ext ra;have C5:=C4.ext ra;have M5:=M4.ext ra;have N5:=N4.ext ra;have aaz:=Tw.ext ra;have rR:=E_.ext ra;have E5:=E4.trans ra;have x0:=aA C5 0 rfl;have x1:=aA C5 1 rfl;have xz:=C5.lt;obtain⟨u,hu⟩:=ai (gR cu m.mode m.uid n.uid);have mr:Hid (bJ S cu cg dir nm=if u=false then 4 else 0):=by show _=_;rw[cq.o,ac (by decide),ac HOV.o,hu]
 have HU:=zH hu;clear cq hu P4 Q4 C4 M4 N4 Tw E_;go_wp2_with (first|(refine aB rfl _ rfl dI m A2 k2 rfl M5 ?_)|(refine aB rfl _ rfl mG n A4 k4 rfl N5 ?_));refine (CR cu cg _ _ _ m.mode m.uid _ _ _ _ _ _ _ _ _ _ _ n.uid _ _ _ _ _ _ _ _).mono ?_;rw[<-HU.o];rintro e w6 ⟨rfl,b6⟩;have P6:=P5.ext b6;have Q6:=Q5.ext b6;have M6:=M5.ext b6;have N6:=N5.ext b6;have aaA:=aaz.ext b6;have EY:=rR.ext b6;have E6:=E5.trans b6;clear x0 x1 xz P5 Q5 M5 N5 C5
 cases u
 ·have hE:Hid (bJ S cu cg dir nm=4):=by show _=_;rw[mr.o];rfl
  clear mr;go_wp2_with (first|(refine aq rfl _ _ rfl (b5+1) aj none 0 rfl rfl P6 ?_;intro wp Pp Op;have Qp:=Op.has Q6 (by rw[ax];omega))|(refine aq rfl _ _ rfl (b5+2) aj none 0 rfl rfl Qp ?_;intro wq Qq Oq;have Pq:=Oq.has Pp (by rw[ax];omega)));refine aT (v:=.tuple #[.agg (aj,()),.agg (aj,()),.int .i64 4]) (i6 results175 _ _ (b5+1) (b5+2) aj aj none none 0 0 _ rfl rfl rfl Pq Qq) rfl ?_;exact HS.o _ _ _ E6 ((Op.mono (by simp)).then (Oq.mono (by simp))) hE.o (by decide)
 have hE:Hid (bJ S cu cg dir nm=0):=by show _=_;rw[mr.o];rfl
 clear mr;go_upto_region 11 with fail;obtain⟨Ph,js⟩:∃Ph:Nat->World->Prop,Ph=ph2 (fun w'=>w'=w6.drew) (fun w'=>Has w' (b5+1) (.cells (m,A2,k2) 66)/\Only [b5+1] w6.drew w') (fun w'=>Has w' (b5+1) (.cells (m,A2,k2) 66)/\Has w' (b5+2) (.cells (n,A4,k4) 66)/\Only [b5+1,b5+2] w6.drew w'):=⟨_,rfl⟩;have ED:Ext w6 w6.drew:=(Ext.refl _).drew;have HV:Hid (Ph 0 w6.drew):=by show Ph 0 _;rw[js];exact rfl
 have hne:Nonempty (Hp Ph):=⟨⟨0,_,HV.o⟩⟩;have uM:∀u:Hp Ph,Has u.w dI (.cells (m,A2,k2) 66):=by
  rw[js];exact sB (T:=fun w'=>Has w' dI (.cells (m,A2,k2) 66)) (fun w' h'=>by rw[h'];exact M6.ext ED) (fun w' h'=>h'.2.has (M6.ext ED) (by rw[ax];omega)) (fun w' h'=>h'.2.2.has (M6.ext ED) (by simp only[aR,bg,bh];omega))
 have uN:∀u:Hp Ph,Has u.w mG (.cells (n,A4,k4) 66):=by
  rw[js];exact sB (T:=fun w'=>Has w' mG (.cells (n,A4,k4) 66)) (fun w' h'=>by rw[h'];exact N6.ext ED) (fun w' h'=>h'.2.has (N6.ext ED) (by rw[ax];omega)) (fun w' h'=>h'.2.2.has (N6.ext ED) (by simp only[aR,bg,bh];omega))
 have my0:∀u:Hp Ph,u.w.cell? (dI,0)=some (.int .i64 m.no):=fun u=>(uM u).cell 0
 have my1:∀u:Hp Ph,u.w.cell? (dI,1)=some (.int .i64 m.dev):=fun u=>(uM u).cell 1
 have my2:∀u:Hp Ph,u.w.cell? (dI,2)=some (.int .i64 m.kind):=fun u=>(uM u).cell 2
 have my3:∀u:Hp Ph,u.w.cell? (dI,3)=some (.int .i64 m.mode):=fun u=>(uM u).cell 3
 have my4:∀u:Hp Ph,u.w.cell? (dI,4)=some (.int .i64 m.uid):=fun u=>(uM u).cell 4
 have my5:∀u:Hp Ph,u.w.cell? (dI,5)=some (.int .i64 m.gid):=fun u=>(uM u).cell 5
 have my6:∀u:Hp Ph,u.w.cell? (dI,6)=some (.int .i64 m.mtime):=fun u=>(uM u).cell 6
 have my7:∀u:Hp Ph,u.w.cell? (dI,7)=some (.int .i64 m.ctime):=fun u=>(uM u).cell 7
 have my8:∀u:Hp Ph,u.w.cell? (dI,8)=some (.int .i64 m.ar):=fun u=>(uM u).cell 8
 have my9:∀u:Hp Ph,u.w.cell? (dI,9)=some (.int .i64 m.up):=fun u=>(uM u).cell 9
 have aaB:∀u:Hp Ph,u.w.cell? (dI,10)=some (.string (bs m.data)):=fun u=>(uM u).cell 10
 have aaC:∀u:Hp Ph,u.w.cell? (dI,11)=some (.slice A2 m.ah.length k2):=fun u=>(uM u).cell 11
 have ny0:∀u:Hp Ph,u.w.cell? (mG,0)=some (.int .i64 n.no):=fun u=>(uN u).cell 0
 have ny1:∀u:Hp Ph,u.w.cell? (mG,1)=some (.int .i64 n.dev):=fun u=>(uN u).cell 1
 have ny2:∀u:Hp Ph,u.w.cell? (mG,2)=some (.int .i64 n.kind):=fun u=>(uN u).cell 2
 have ny3:∀u:Hp Ph,u.w.cell? (mG,3)=some (.int .i64 n.mode):=fun u=>(uN u).cell 3
 have ny4:∀u:Hp Ph,u.w.cell? (mG,4)=some (.int .i64 n.uid):=fun u=>(uN u).cell 4
 have ny5:∀u:Hp Ph,u.w.cell? (mG,5)=some (.int .i64 n.gid):=fun u=>(uN u).cell 5
 have ny6:∀u:Hp Ph,u.w.cell? (mG,6)=some (.int .i64 n.mtime):=fun u=>(uN u).cell 6
 have ny7:∀u:Hp Ph,u.w.cell? (mG,7)=some (.int .i64 n.ctime):=fun u=>(uN u).cell 7
 have ny8:∀u:Hp Ph,u.w.cell? (mG,8)=some (.int .i64 n.ar):=fun u=>(uN u).cell 8
 have ny9:∀u:Hp Ph,u.w.cell? (mG,9)=some (.int .i64 n.up):=fun u=>(uN u).cell 9
 have aaD:∀u:Hp Ph,u.w.cell? (mG,10)=some (.string (bs n.data)):=fun u=>(uN u).cell 10
 have aaE:∀u:Hp Ph,u.w.cell? (mG,11)=some (.slice A4 n.ah.length k4):=fun u=>(uN u).cell 11
 have Pe:Hid (∀u:Wc (Ph 0),∃(m:ak) (A':Option Addr) (c':Nat),Has u.w (b5+1) (.cells (m,A',c') 66)):=by
  show ∀u:Wc (Ph 0),_;rintro ⟨u,hu⟩;rw[js]at hu;exact⟨aj,none,0,by show Has u _ _;rw[show u=w6.drew from hu];exact P6.ext ED⟩
 have Tx:Hid (∀(u:Wc (Ph 0)) (w':World),Has w' (b5+1) (.cells (m,A2,k2) 66)->Only [b5+1] u.w w'->Ph 1 w'):=by
  show ∀(u:Wc (Ph 0)) (w':World),_;rintro ⟨u,hu⟩ w' h1 h2;rw[js]at hu|-;dsimp only at h2;rw[show u=w6.drew from hu]at h2;exact⟨h1,h2⟩
 have zL:Hid (∀u:Wc (Ph 1),∃(m:ak) (A':Option Addr) (c':Nat),Has u.w (b5+2) (.cells (m,A',c') 66)):=by
  show ∀u:Wc (Ph 1),_;rintro ⟨u,hu⟩;rw[js]at hu;exact⟨aj,none,0,hu.2.has (Q6.ext ED) (by rw[ax];omega)⟩
 have BR:Hid (∀(u:Wc (Ph 1)) (w':World),Has w' (b5+2) (.cells (n,A4,k4) 66)->Only [b5+2] u.w w'->Ph 2 w'):=by
  show ∀(u:Wc (Ph 1)) (w':World),_;rintro ⟨u,hu⟩ w' h1 h2;rw[js]at hu|-;dsimp only at h2;exact⟨h2.has hu.1 (by rw[ax];omega),h1,(hu.2.mono (by simp)).then (h2.mono (by simp))⟩
 have KQ:Hid (∀w',Ph 2 w'->Has w' (b5+1) (.cells (m,A2,k2) 66)/\Has w' (b5+2) (.cells (n,A4,k4) 66)/\Only [b5+1,b5+2] w6.drew w'):=by
  show ∀w',_;intro w' hw;rw[js]at hw;exact hw
 clear js uM uN;refine fw Ph [2,3] (by kernel_rfl) (by kernel_rfl) (by kernel_rfl) HV.o ?_
 iterate 2 (refine fK (by kernel_rfl) (fun K hK=>?_);go_simp;refine hK _ ?_;clear hK K)
 refine jn 0 (by kernel_rfl) rfl rfl _ _ rfl (b5+1) m A2 k2 rfl rfl Pe.o Tx.o ?_;refine jn 1 (by kernel_rfl) rfl rfl _ _ rfl (b5+2) n A4 k4 rfl rfl zL.o BR.o ?_;refine fK (by kernel_rfl) (fun K hK=>?_);go_simp;refine hK _ ?_;clear hK K;refine kq ?_;intro w7 Zx;obtain⟨P7,Q7,O7⟩:=KQ.o _ Zx;clear my0 my1 my2 my3 my4 my5 my6 my7 my8 my9 aaB aaC ny0 ny1 ny2 ny3 ny4 ny5 ny6 ny7 ny8 ny9 aaD aaE Pe Tx zL BR KQ Zx;go_wp2_with fail;refine aT (v:=.tuple #[.agg (m,A2,k2),.agg (n,A4,k4),()]) (i6 results175 _ _ (b5+1) (b5+2) m n A2 A4 k2 k4 _ rfl rfl rfl P7 Q7) rfl ?_;have e1:cL S cu cg dir nm=m:=by unfold cL;rw[af hE.o,Ag.o]
 have e2:bQ S cu cg dir nm=n:=by unfold bQ;rw[af hE.o,qP.o,uh.o,Ag.o]
 have Kn:dE w6.drew B [b5+1,b5+2]:=by
  intro b hb;simp only[aR,bg,bh]at hb;have:=h.1;rcases hb with rfl|rfl
  ·exact⟨by omega,(P6.ext ED).fV (by decide)⟩
  ·exact⟨by omega,(Q6.ext ED).fV (by decide)⟩
 refine⟨A2,k2,A4,k4,by rw[e1,e2,hE.o],by rw[e1];exact (aaA.ext ED).only O7 Kn,by rw[e2];exact (EY.ext ED).only O7 Kn,O7.after (E6.trans ED) (by intro b hb;simp only[aR,bg,bh]at hb;omega)⟩
end
section
theorem xU {l:List aK} (h:aY l nm≠0):has l nm=true:=by
 unfold aY at h;unfold has;rw[zg]
 cases hf:l.find? (fun x=>x.1 == nm) with
 | none=>rw[hf]at h;exact absurd rfl h
 | some y =>
  have h2:=tD (p:=fun x:aK=>x.1 == nm) hf;exact⟨y,p5 hf,h2⟩
theorem Db (B:Nat) (g:dL) (S:ag) (now:Int) (d n:ak) (A A':Option Addr) (c c':Nat) (nm:List UInt8) (w:World) (h:eL w B g S) (O:Ok S) (hd:aD w B d A c) (hn:aD w B n A' c') (Mr:jQ d.ah) (mP:d.ah.length<=100000) (Ov:has d.ah nm=true) (MH:ic S.ae (aa S.nodes d.no).dev=true/\(aa S.nodes d.no).data.length<=1048576) (Y9:(aa S.nodes d.no).no=1->(aa S.nodes d.no).dev=1) (hh:AK S n) :
  Calls prog 176 #[((),g.bW),now,.agg (d,A,c),.agg (n,A',c'),bs nm] w (qq w B g (gU S now d n nm) 0):=by
 obtain⟨W0,aJ⟩:=ai ((w.alloc (.cells (d,A,c) 66)).alloc (.cells (n,A',c') 66));have E0:Ext w W0:=by rw[aJ];exact ((Ext.refl _).alloc _).alloc _
 obtain⟨b7,uk⟩:=ai w.heap.size;have D0:Has W0 b7 (.cells (d,A,c) 66):=by rw[aJ,uk];exact (Has.new w _).alloc _
 have N0:Has W0 (b7+1) (.cells (n,A',c') 66):=by
  rw[aJ,uk];have:=Has.new (w.alloc (.cells (d,A,c) 66)) (.cells (n,A',c') 66)
  rwa [bi]at this
 have ace:w.heap.size<=b7:=by omega
 have HO:=zH O;have HR:=zH Mr;have ack:=zH Ov;have HH:=zH hh;have MW:=zH MH;have HD1:=zH Y9;have nL:=aA D0 11 rfl;have yz:=D0.lt;have Wg:=hd.ext E0;have okn:=hn.ext E0;clear O Mr Ov hh MH Y9;go_in;go_upto_region 1 with fail;rw[<-aJ];rw[<-uk];clear aJ uk;go_wp2_with fail;refine (RW A d.ah c nm _ Wg.ah.ah HR.o Wg.cap Wg.max (by omega) ack.o).mono ?_;rintro e w2 ⟨v2,rfl,hown,b2⟩;rw[zP _ _ HR.o ack.o]at hown;obtain⟨A2,c2,rfl,q1,q2,q3,q4⟩:=hown.zS (B:=B);have D2:=D0.ext b2;have N2:=N0.ext b2;have Ks:=okn.ext b2;have E2:=E0.trans b2;obtain⟨L2,J2⟩:=ai (eU d.ah nm);rw[<-J2]at q1 q3|-;have Xw:=zH J2;have z0:=aA D2 0 rfl;have zz:=D2.lt;obtain⟨T,hT⟩:=ai (dC S d.no now L2);have HT:=zH hT;have KT:Hid (Calls prog 194 #[((),g.bW),d.no,now,.slice A2 L2.length c2] w2 (AF w2 B g T)):=by
  show Calls _ _ _ _ _;rw[hT];exact tQ B g S d.no now A2 L2 c2 w2 (h.ext E2) HO.o.live.bL q3 q1 q2 q4
 have Zy:Live T:=by
  rw[hT];exact HO.o.live.set _ MW.o.1 MW.o.2 HD1.o
 have Zz:AK T n:=⟨HH.o.ar,by rw[hT];exact HH.o.dev,HH.o.data,HH.o.one⟩;have Ty:=zH Zy;have HHT:=zH Zz;clear nL yz hown q1 q2 q3 q4 J2 hT Zy Zz D0 N0 Wg;go_wp2_with fail;refine KT.o.mono ?_;rintro e w3 ⟨rfl,K3,O3⟩;have hng:b7+1∉g.list:=by
  have Rj:=h.lt;simp only[dL.list,aR,bg,bh];omega
 have N3:=O3.has N2 hng;have AO:=Ks.only O3 (h.ext E2).apart;clear z0 zz KT;go_wp2_with (refine aB rfl _ rfl (b7+1) n A' c' rfl N3 ?_);refine (Pd B g T now n A' c' _ K3 Ty.o AO HHT.o).mono ?_;rintro e w4 ⟨rfl,K4,O4⟩;go_wp2;go_ret;have e1:gU S now d n nm=jm T now n:=by unfold gU;rw[HT.o,Xw.o]
 exact⟨rfl,by rw[e1];exact K4,(Only.pre E2 O3).then O4⟩
theorem eu (h:bJ S cu cg dir nm=0):bn S cu cg dir nm=0/\aW S.nodes (aY (aa S.nodes dir).ah nm)=true/\aw S.ae (aY (aa S.nodes dir).ah nm)=aY (aa S.nodes dir).ah nm/\cL S cu cg dir nm=aa S.nodes dir/\bQ S cu cg dir nm=aa S.nodes (aY (aa S.nodes dir).ah nm):=by
 have e1:cL S cu cg dir nm=aa S.nodes dir:=by unfold cL;rw[af h]
 have e2:bQ S cu cg dir nm=aa S.nodes (aY (aa S.nodes dir).ah nm):=by unfold bQ;rw[af h]
 refine⟨?_,?_,?_,e1,e2⟩<;>unfold bJ at h<;>split at h
 ·rename_i h1;exact absurd h h1
 ·rename_i h1;exact bR.1 h1
 ·rename_i h1;exact absurd h h1
 ·split at h
  ·cases h
  ·rename_i h2;simpa using h2
 ·rename_i h1;exact absurd h h1
 ·split at h
  ·cases h
  ·split at h
   ·cases h
   ·rename_i h3;exact bR.1 h3
theorem G7 (B:Nat) (g:dL) (S:ag) (cu cg now dir:Int) (nm:List UInt8) (w:World) (h:eL w B g S) (O:Ok S) :
  Calls prog 146 #[((),g.bW),.agg #[cu,cg],now,dir,bs nm] w (qq w B g (eQ S cu cg now dir nm) (ey S cu cg dir nm)):=by
 obtain⟨W0,aJ⟩:=ai (w.alloc (.cells #[cu,cg] 27));have E0:Ext w W0:=by rw[aJ];exact (Ext.refl _).alloc _
 have C0:Has W0 w.heap.size (.cells #[cu,cg] 27):=by rw[aJ];exact Has.new w _
 have HO:=zH O;have HE:Hid (ey S cu cg dir nm=if ¬bJ S cu cg dir nm=0 then bJ S cu cg dir nm else if (bQ S cu cg dir nm).kind=1 then 8 else 0):=by show _=_;rfl
 have HZ:Hid (bJ S cu cg dir nm=0->_):=fun h0=>eu (nm:=nm) h0
 have HS:Hid (∀(w':World) (x:Int),Ext w w'->ey S cu cg dir nm=x->x≠0->qq w B g (eQ S cu cg now dir nm) (ey S cu cg dir nm) (.returned (.int .i64 x)) w'):=by
  show ∀(w':World) (x:Int),_;intro w' x hE hx h0;rw[hx];exact fR h hE (by unfold eQ;rw[ac (by rw[hx];exact h0)])
 have x0:=aA C0 0 rfl;have x1:=aA C0 1 rfl;have xz:=C0.lt;clear O;go_in;go_upto_region 1 with fail;rw[<-aJ];clear aJ;go_wp2_with fail;refine (AL B g S cu cg dir nm _ (h.ext E0) HO.o).mono ?_;rintro e w2 ⟨A1,c1,A2,c2,rfl,Wg,okn,b2⟩;obtain⟨d,hd⟩:=ai (cL S cu cg dir nm);obtain⟨n,hn⟩:=ai (bQ S cu cg dir nm);obtain⟨x,hx⟩:=ai (bJ S cu cg dir nm);rw[<-hd]at Wg;rw[<-hn]at okn;rw[<-hd,<-hn,<-hx];rw[<-hx]at HE HZ;have MW:=zH hd;have qP:=zH hn;obtain⟨W3,cJ⟩:=ai ((w2.alloc (.cells (d,A1,c1) 66)).alloc (.cells (n,A2,c2) 66));have iH:Ext w2 W3:=by rw[cJ];exact ((Ext.refl _).alloc _).alloc _
 obtain⟨dI,fj⟩:=ai w2.heap.size;have D3:Has W3 dI (.cells (d,A1,c1) 66):=by rw[cJ,fj];exact (Has.new w2 _).alloc _
 have N3:Has W3 (dI+1) (.cells (n,A2,c2) 66):=by
  rw[cJ,fj];have:=Has.new (w2.alloc (.cells (d,A1,c1) 66)) (.cells (n,A2,c2) 66)
  rwa [bi]at this
 have aaF:=Wg.ext iH;have AO:=okn.ext iH;have E3:=(E0.trans b2).trans iH;clear x0 x1 xz hd hn hx C0;go_upto_region 2 with fail;rw[<-cJ];rw[<-fj];have Da:w.heap.size<=dI:=by rw[fj];exact (E0.trans b2).size
 clear cJ fj
 by_cases aX:x=0
 case neg =>
  have t0:(x == 0)=false:=by simpa using aX
  have nK:(x != 0)=true:=by simpa using aX
  have hE:Hid (ey S cu cg dir nm=x):=by show _=_;rw[HE.o,af aX]
  have HX:=zH aX;clear aX;go_wp2;go_ret;exact HS.o _ _ E3 hE.o HX.o
 have t0:(x == 0)=true:=by simpa using aX
 have nK:(x != 0)=false:=by simpa using aX
 have hz:=HZ.o aX;have HLZ:=zH hz;have Dc:=zH (show ¬¬x=0 by simpa using aX);have k2:=aA N3 2 rfl;have kz:=N3.lt;clear aX hz
 by_cases c1':n.kind=1
 ·have t1:(n.kind == 1)=true:=by simpa using c1'
  have hE:Hid (ey S cu cg dir nm=8):=by show _=_;rw[HE.o,ac Dc.o,<-qP.o,af c1']
  clear c1';go_wp2;go_ret;exact HS.o _ _ E3 hE.o (by decide)
 have t1:(n.kind == 1)=false:=by simpa using c1'
 have Ce:=zH c1';clear c1';have hE:Hid (ey S cu cg dir nm=0):=by show _=_;rw[HE.o,ac Dc.o,<-qP.o,ac Ce.o]
 obtain ⟨z1,z2,z3,z4,z5⟩:=HLZ.o;rw[<-MW.o]at z4;rw[<-qP.o]at z5;have hpos:aY (aa S.nodes dir).ah nm≠0:=fun e=>by
  rw[e]at z2;have:=HO.o.live.bL.zero (no:=0) (.inl (by omega));rw[this]at z2;cases z2
 have MI:=(a_ z1).1;have Tp:=(ap MI).2.1;have xb:=HO.o.bj dir;have KG:Hid (Calls prog 176 #[((),g.bW),now,.agg (d,A1,c1),.agg (n,A2,c2),bs nm] W3 (qq W3 B g (gU S now d n nm) 0)):=by
  have e1:aa S.nodes d.no=aa S.nodes dir:=by rw[z4,Tp]
  refine Db B g S now d n A1 A2 c1 c2 nm W3 (h.ext E3) HO.o aaF AO (by rw[z4];exact xb.1) (by rw[z4];exact xb.2) (by rw[z4];exact xU hpos) ?_ ?_ (by rw[z5];exact HO.o.held z2)
  ·rw[e1];exact HO.o.live.on _ (ap MI).2.2
  ·rw[e1];exact HO.o.live.one _ (ap MI).2.2
 have e3:Hid (eQ S cu cg now dir nm=gU S now d n nm):=by show _=_;unfold eQ;rw[af hE.o,<-MW.o,<-qP.o]
 clear z1 z2 z3 z4 z5 hpos MI Tp xb;go_wp2_with (first|(refine aB rfl _ rfl dI d A1 c1 rfl D3 ?_)|(refine aB rfl _ rfl (dI+1) n A2 c2 rfl N3 ?_));refine KG.o.mono ?_;rintro e w4 ⟨rfl,K4,O4⟩;go_wp2;go_ret;rw[hE.o];exact⟨rfl,by rw[e3.o];exact K4,Only.pre E3 O4⟩
theorem Kt (B:Nat) (g:dL) (S:ag) (cu cg now dir:Int) (nm:List UInt8) (w:World) (h:eL w B g S) (O:Ok S) :
  Calls prog 145 #[((),g.bW),.agg #[cu,cg],now,dir,bs nm] w (qq w B g (gJ S cu cg now dir nm) (fc S cu cg dir nm)):=by
 obtain⟨W0,aJ⟩:=ai (w.alloc (.cells #[cu,cg] 27));have E0:Ext w W0:=by rw[aJ];exact (Ext.refl _).alloc _
 have C0:Has W0 w.heap.size (.cells #[cu,cg] 27):=by rw[aJ];exact Has.new w _
 have HO:=zH O;have HE:Hid (fc S cu cg dir nm=if ¬bJ S cu cg dir nm=0 then bJ S cu cg dir nm else if ¬(bQ S cu cg dir nm).kind=1 then 9 else if 0<((bQ S cu cg dir nm).ah.length:Int) then 10 else 0):=by show _=_;rfl
 have HZ:Hid (bJ S cu cg dir nm=0->_):=fun h0=>eu (nm:=nm) h0
 have HS:Hid (∀(w':World) (x:Int),Ext w w'->fc S cu cg dir nm=x->x≠0->qq w B g (gJ S cu cg now dir nm) (fc S cu cg dir nm) (.returned (.int .i64 x)) w'):=by
  show ∀(w':World) (x:Int),_;intro w' x hE hx h0;rw[hx];exact fR h hE (by unfold gJ;rw[ac (by rw[hx];exact h0)])
 have x0:=aA C0 0 rfl;have x1:=aA C0 1 rfl;have xz:=C0.lt;clear O;go_in;go_upto_region 1 with fail;rw[<-aJ];clear aJ;go_wp2_with fail;refine (AL B g S cu cg dir nm _ (h.ext E0) HO.o).mono ?_;rintro e w2 ⟨A1,c1,A2,c2,rfl,Wg,okn,b2⟩;obtain⟨d,hd⟩:=ai (cL S cu cg dir nm);obtain⟨n,hn⟩:=ai (bQ S cu cg dir nm);obtain⟨x,hx⟩:=ai (bJ S cu cg dir nm);rw[<-hd]at Wg;rw[<-hn]at okn;rw[<-hd,<-hn,<-hx];rw[<-hx]at HE HZ;have MW:=zH hd;have qP:=zH hn;obtain⟨W3,cJ⟩:=ai ((w2.alloc (.cells (d,A1,c1) 66)).alloc (.cells (n,A2,c2) 66));have iH:Ext w2 W3:=by rw[cJ];exact ((Ext.refl _).alloc _).alloc _
 obtain⟨dI,fj⟩:=ai w2.heap.size;have D3:Has W3 dI (.cells (d,A1,c1) 66):=by rw[cJ,fj];exact (Has.new w2 _).alloc _
 have N3:Has W3 (dI+1) (.cells (n,A2,c2) 66):=by
  rw[cJ,fj];have:=Has.new (w2.alloc (.cells (d,A1,c1) 66)) (.cells (n,A2,c2) 66)
  rwa [bi]at this
 have aaF:=Wg.ext iH;have AO:=okn.ext iH;have E3:=(E0.trans b2).trans iH;clear x0 x1 xz hd hn hx C0;go_upto_region 2 with fail;rw[<-cJ];rw[<-fj];have Da:w.heap.size<=dI:=by rw[fj];exact (E0.trans b2).size
 clear cJ fj
 by_cases aX:x=0
 case neg =>
  have t0:(x == 0)=false:=by simpa using aX
  have nK:(x != 0)=true:=by simpa using aX
  have hE:Hid (fc S cu cg dir nm=x):=by show _=_;rw[HE.o,af aX]
  have HX:=zH aX;clear aX;go_wp2;go_ret;exact HS.o _ _ E3 hE.o HX.o
 have t0:(x == 0)=true:=by simpa using aX
 have nK:(x != 0)=false:=by simpa using aX
 have hz:=HZ.o aX;have HLZ:=zH hz;have Dc:=zH (show ¬¬x=0 by simpa using aX);have k2:=aA N3 2 rfl;have kz:=N3.lt;clear aX hz
 by_cases c1':n.kind=1
 case neg =>
  have t1:(n.kind == 1)=false:=by simpa using c1'
  have qo:(n.kind != 1)=true:=by simpa using c1'
  have hE:Hid (fc S cu cg dir nm=9):=by show _=_;rw[HE.o,ac Dc.o,<-qP.o,af c1']
  clear c1';go_wp2;go_ret;exact HS.o _ _ E3 hE.o (by decide)
 have t1:(n.kind == 1)=true:=by simpa using c1'
 have qo:(n.kind != 1)=false:=by simpa using c1'
 have Ce:=zH (show ¬¬n.kind=1 by simpa using c1');have xR:=aA N3 11 rfl;clear c1';obtain⟨L,hL⟩:=ai n.ah.length;rw[<-hL]at xR
 by_cases c2':0<(L:Int)
 ·have t2:decide (0<(L:Int))=true:=cj c2'
  have Wb:decide (0<L)=true:=cj (by omega);have t2c:0<L:=by omega
  have yt:=zH hL;clear hL c2';have hE:Hid (fc S cu cg dir nm=10):=by show _=_;rw[HE.o,ac Dc.o,<-qP.o,ac Ce.o,af (by rw[<-yt.o];omega)]
  go_wp2;go_ret;exact HS.o _ _ E3 hE.o (by decide)
 have hL0:L=0:=by omega
 rw[hL0]at xR;have HL0:=zH (show n.ah.length=0 by omega);clear c2' hL hL0;have hE:Hid (fc S cu cg dir nm=0):=by show _=_;rw[HE.o,ac Dc.o,<-qP.o,ac Ce.o,ac (by rw[HL0.o];decide)]
 obtain ⟨z1,z2,z3,z4,z5⟩:=HLZ.o;rw[<-MW.o]at z4;rw[<-qP.o]at z5;have hpos:aY (aa S.nodes dir).ah nm≠0:=fun e=>by
  rw[e]at z2;have:=HO.o.live.bL.zero (no:=0) (.inl (by omega));rw[this]at z2;cases z2
 have MI:=(a_ z1).1;have Tp:=(ap MI).2.1;have xb:=HO.o.bj dir;have KG:Hid (Calls prog 176 #[((),g.bW),now,.agg (d,A1,c1),.agg (n,A2,c2),bs nm] W3 (qq W3 B g (gU S now d n nm) 0)):=by
  have e1:aa S.nodes d.no=aa S.nodes dir:=by rw[z4,Tp]
  refine Db B g S now d n A1 A2 c1 c2 nm W3 (h.ext E3) HO.o aaF AO (by rw[z4];exact xb.1) (by rw[z4];exact xb.2) (by rw[z4];exact xU hpos) ?_ ?_ (by rw[z5];exact HO.o.held z2)
  ·rw[e1];exact HO.o.live.on _ (ap MI).2.2
  ·rw[e1];exact HO.o.live.one _ (ap MI).2.2
 have e3:Hid (gJ S cu cg now dir nm=gU S now d n nm):=by show _=_;unfold gJ;rw[af hE.o,<-MW.o,<-qP.o]
 clear z1 z2 z3 z4 z5 hpos MI Tp xb;go_wp2_with (first|(refine aB rfl _ rfl dI d A1 c1 rfl D3 ?_)|(refine aB rfl _ rfl (dI+1) n A2 c2 rfl N3 ?_));refine KG.o.mono ?_;rintro e w4 ⟨rfl,K4,O4⟩;go_wp2;go_ret;rw[hE.o];exact⟨rfl,by rw[e3.o];exact K4,Only.pre E3 O4⟩
attribute [local irreducible] wpQuiet
def aer (S:ag) (cu:Int) (d n old:ak):Int:=
 if ¬aw S.ae old.no=old.no then 16 else if n.kind=1/\¬old.kind=1 then 9 else if ¬n.kind=1/\old.kind=1 then 8
 else if 0<(old.ah.length:Int) then 10 else if gR cu d.mode d.uid old.uid=false then 4 else 0
end
section
attribute [local irreducible] wpQuiet
def G8 (S:ag) (cu cg iN:Int) (b:List UInt8):Int:=aY (dG S cu cg iN b).ah b
def TA (S:ag) (cu cg fr iN:Int) (a b:List UInt8):Prop:=aW S.nodes (G8 S cu cg iN b)=true/\(aa S.nodes (G8 S cu cg iN b)).no=(bQ S cu cg fr a).no
instance (S:ag) (cu cg fr iN:Int) (a b:List UInt8):Decidable (TA S cu cg fr iN a b):=by unfold TA;exact inferInstance
def acm (S:ag) (cu cg fr iN x y:Int) (d n t:ak) (is:Bool) (old:ak):Int:=
 if ¬x=0 then x else if ¬y=0 then y else if ¬d.dev=t.dev then 11 else if n.kind=1/\dP S iN n.no=true then 17
 else if is=true/\old.no=n.no then 0 else if n.kind=1/\¬fr=iN/\fh cu cg n.uid n.gid n.mode 2=false then 6
 else if is=true then aer S cu t n old else 0
def ZA (S:ag) (cu cg fr iN:Int) (a b:List UInt8):Int:=
 acm S cu cg fr iN (bJ S cu cg fr a) (bn S cu cg iN b) (cL S cu cg fr a) (bQ S cu cg fr a) (dG S cu cg iN b) (aW S.nodes (G8 S cu cg iN b)) (aa S.nodes (G8 S cu cg iN b))
def G9 (S:ag) (now no:Int):ag:=if aW S.nodes no=true then jm S now (aa S.nodes no) else S
def acn (now iN:Int) (n:ak):ak:={n with ctime:=now,up:=if n.kind=1 then iN else n.up}
def aco (T:ag) (now fr iN:Int) (a b:List UInt8) (d n:ak):ag:=
 aV (dC (dC T fr now (eU d.ah a)) iN now (fC (aa (dC T fr now (eU d.ah a)).nodes iN).ah (b,n.no))) (acn now iN n)
def MX (S:ag) (cu cg now fr iN:Int) (a b:List UInt8):ag:=
 if ZA S cu cg fr iN a b=0/\¬TA S cu cg fr iN a b then aco (G9 S now (G8 S cu cg iN b)) now fr iN a b (cL S cu cg fr a) (bQ S cu cg fr a) else S
end
section
section
variable {H:Type} {enc:TypeId×Value->H} {w:World} {base:Nat} {spare:Nat->Bool} {held:Bool}
theorem my:prog.cellsOf 3=1:=by kernel_rfl
theorem Fa:prog.cellsOf 9=1:=by kernel_rfl
theorem vh:prog.cellsOf 27=2:=by kernel_rfl
theorem Ku {n:Nat} {cs:List Value} {x:DataW H×List MemPlace} (h:DataW.trod enc prog w base spare held n 27 cs=some x):∃v:(Int×Int),cs=[.int .i64 v.1,.int .i64 v.2]:=by
 obtain⟨xs,m,_,_,hl,hxl,hf⟩:=wj underlying27 h;rw[vh]at hl
 match cs,hl with
 | [a0,a1],_ =>
  match xs,hxl with
  | [y0,y1],_ =>
   have f0:DataW.trod enc prog w base spare held m 3 (List.take (prog.cellsOf 3) (List.drop 0 [a0,a1]))=some y0:=hf 0 _ rfl;rw[my]at f0;obtain⟨k0,h0,_,_⟩:=lI underlying3 f0;have e0:a0=.int .i64 k0:=by simpa using h0
   have f1:DataW.trod enc prog w base spare held m 3 (List.take (prog.cellsOf 3) (List.drop 1 [a0,a1]))=some y1:=hf 1 _ rfl;rw[my]at f1;obtain⟨k1,h1,_,_⟩:=lI underlying3 f1;have e1:a1=.int .i64 k1:=by simpa using h1
   exact⟨⟨k0,k1⟩,by rw[e0,e1]⟩
end
end
section
attribute [local irreducible] jc
attribute [local go_sem] gW
end
section
theorem Pf (B:Nat) (g:dL) (f:cI) (S:ag) (X:cY) (w:World) (K:eL w B g S) (F:gv w B f S X) (H:Fit S) :
  Calls prog 48 #[((),g.bW),((),f.bF)] w (aO w (.bool true)):=by
 have KS:=zH (Kb B B g f S X w K F H);go_in;go_wp2_with fail;refine KS.o.mono ?_;rintro e w1 ⟨rfl,b1⟩;go_wp2;go_ret;exact aO.mk rfl b1
attribute [local irreducible] wpQuiet
theorem Pg (l:List aK) (nm:List UInt8) (no:Int):aY (fC l (nm,no)) nm=no:=by
 unfold aY fC kZ lB;have h1:(l.filter fun x=>bl x.1 nm).find? (fun x=>x.1 == nm)=none:=by
  rw[sW];intro x hx;rw[gz]at hx;have:=rF hx.2;simpa using this
 simp only[v_,h1,Option.none_or,gD,Mk,Option.some_or]
theorem Kv (l:List aK) (nm:List UInt8) (no:Int) (h:∀x∈l,x.1≠nm):(fC l (nm,no)).length=l.length+1:=by
 have hs : ∀l:List aK,(∀x∈l,x.1≠nm)->(l.filter fun x=>bl x.1 nm).length+(l.filter fun x=>bl nm x.1).length=l.length:=by
  intro l
  induction l with
  | nil=>intro _;rfl
  | cons x l ih =>
   intro h;have:=ih fun y hy=>h y (cf _ hy)
   simp only[jH,bk];have hx:=h x (bY ..);rcases oJ x.1 nm with g|g|g
   ·have g2:=iS g
    rw[af g,ac (by rw[g2];decide)];simp only[bk];omega
   ·exact absurd g hx
   ·have g2:=iS g
    rw[af g,ac (by rw[g2];decide)];simp only[bk];omega
 have:=hs l h;unfold fC kZ lB;simp only[aZ,lF];omega
structure acp (S T:ag) (uid gid now dir:Int) (nm:List UInt8):Prop where
 len:T.nodes.length=S.nodes.length+1
 node:(aa T.nodes (S.last+1)).uid=uid/\(aa T.nodes (S.last+1)).gid=gid/\(aa T.nodes (S.last+1)).dev=(aa S.nodes dir).dev/\(aa T.nodes (S.last+1)).ar=1/\(aa T.nodes (S.last+1)).mtime=now
 find:aY (aa T.nodes dir).ah nm=S.last+1
 ah:(aa T.nodes dir).ah.length=(aa S.nodes dir).ah.length+1
 mtime:(aa T.nodes dir).mtime=now
theorem G_ (hu:aQ S.nodes S.last) (hi:aW S.nodes n.no=true):aa (aV S n).nodes n.no=n:=by
 have hm:=yN (n:=n) (ap hi).2.2;rw[af (ap hi).2.1]at hm;exact (ep (S:=aV S n) (hu.set n) hm).1
theorem came {c:Nat} (h:eB c S) {now:Int} (h0:dq S cu cg now dir nm n=0):acp S (cM S cu cg now dir nm n) cu cg now dir nm:=by
 obtain ⟨hp,hf,q_⟩:=lM h0;obtain⟨hi,Cc,hc⟩:=a_ hp;obtain⟨e1,e2⟩:=na h.bL (cV S cu cg now dir n) hi;obtain⟨_,bB,hmem⟩:=ap hi;have hlt:=(h.bL.2 _ hmem).2;rw[bB]at hlt;have hT:cM S cu cg now dir nm n=aV (cC S (cV S cu cg now dir n)) (jd (cC S (cV S cu cg now dir n)) dir now (fC (aa S.nodes dir).ah (nm,S.last+1))):=by
  unfold cM dC;rw[af h0]
 have hN:(jd (cC S (cV S cu cg now dir n)) dir now (fC (aa S.nodes dir).ah (nm,S.last+1))).no=dir:=by
  show (aa (cC S (cV S cu cg now dir n)).nodes dir).no=dir;rw[e1,bB]
 have hu:=vc h.live (cV S cu cg now dir n);have hd:aa (cM S cu cg now dir nm n).nodes dir=jd (cC S (cV S cu cg now dir n)) dir now (fC (aa S.nodes dir).ah (nm,S.last+1)):=by
  rw[hT];have:=G_ hu (n:=jd (cC S (cV S cu cg now dir n)) dir now (fC (aa S.nodes dir).ah (nm,S.last+1))) (by rw[hN];exact e2);rw[hN]at this;exact this
 have wW:aa (cM S cu cg now dir nm n).nodes (S.last+1)={cV S cu cg now dir n with no:=S.last+1}:=by
  rw [hT,(nO (by rw[hN];omega)).1];have hm:({cV S cu cg now dir n with no:=S.last+1}:ak)∈(cC S (cV S cu cg now dir n)).nodes:=by
   unfold cC;rw[af q_];exact jO _ (ax.2 rfl)
  exact (ep hu hm).1
 have hx:=CW (fun x hx=>(h.pos _ hmem x hx).1) hf;refine⟨?_,by rw[wW];exact⟨rfl,rfl,rfl,rfl,rfl⟩,by rw[hd];exact Pg _ _ _,by rw[hd];exact Kv _ _ _ hx,by rw[hd];rfl⟩;rw[hT];show (cP _ _).length=_;rw[rG];unfold cC;rw[af q_];simp
theorem Pj {e:Int} (h:jS p e=0):p=0/\e=0:=by
 unfold jS at h;split at h
 ·rename_i h1;exact absurd h h1
 ·rename_i h1;exact⟨bR.1 h1,h⟩
def aaG (w:World) (B:Nat) (g:dL) (S:ag) (uid gid now dir:Int) (nm:List UInt8) (a x:Int) (w':World):Prop:=
 ∃ T,eL w' B g T/\Only g.list w w'/\((x≠0/\a=0/\T=S)\/(x=0/\a=S.last+1/\acp S T uid gid now dir nm/\aQ T.nodes T.last))
theorem there {c:Nat} (h:eB c S) {w':World} {B:Nat} {g:dL} {now:Int} {e:Ending}
  (hr:MT w B g (gI p S (cM S cu cg now dir nm n)) (lg p (eG S cu cg now dir nm n)) (jS p (dq S cu cg now dir nm n)) e w'):∃a x:Int,e=.returned (.tuple #[a,x])/\aaG w B g S cu cg now dir nm a x w':=by
 obtain⟨he,hK,hO⟩:=hr;refine⟨_,_,he,_,hK,hO,?_⟩
 by_cases hz:jS p (dq S cu cg now dir nm n)=0
 ·obtain ⟨h1,h2⟩:=Pj hz
  right
  subst h1;have hT:gI 0 S (cM S cu cg now dir nm n)=cM S cu cg now dir nm n:=rfl;refine⟨hz,by show eG S cu cg now dir nm n=_;unfold eG;rw[af h2],by rw[hT];exact came h h2,?_⟩;rw[hT];unfold cM;rw[af h2];exact (vc h.live _).set _
 ·left
  refine⟨hz,?_,?_⟩
  ·unfold jS lg at *
   split
   ·rfl
   ·rename_i h1
    rw[ac h1]at hz;unfold eG;rw[ac hz]
  ·unfold jS gI at *
   split
   ·rfl
   ·rename_i h1
    rw[ac h1]at hz;unfold cM;rw[ac hz]
end
end Go.Proofs.YtpibnfdolojpcaaGreat
