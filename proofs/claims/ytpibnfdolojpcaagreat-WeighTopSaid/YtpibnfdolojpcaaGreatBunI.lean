import Derived.Test.YtpibnfdolojpcaaGreatBunH
import Derived.Test.YtpibnfdolojpcaaGreatShelf
import Derived.Test.YtpibnfdolojpcaaGreatBunD
import Derived.Test.YtpibnfdolojpcaaGreatBunF
import Derived.Test.YtpibnfdolojpcaaGreatBunE
import Derived.Test.YtpibnfdolojpcaaGreatBunA
import Derived.Test.YtpibnfdolojpcaaGreatBunG
import Derived.Deep.CutBlock
set_option maxHeartbeats 4000000
set_option maxRecDepth 100000
namespace Go.Proofs.YtpibnfdolojpcaaGreat
open Go.ChangeShapes Go.WideShapes Go.ChangeAt Go.RowKit
def NoR (w:World) (B:Nat) (g:GhW) (T:TreeD) (a x:Int) (e:Ending) (w':World):Prop:=e=.returned (.tuple #[.int .i64 a,.int .i64 x])∧WAt w' B g T∧Only g.list w w'
theorem noR_same {w w':World} {B:Nat} {g:GhW} {S T:TreeD} {p a x:Int} (h:WAt w B g S) (hE:Ext w w') (hp:p≠0):NoR w B g (preT p S T) (preN p a) (preE p x) (.returned (.tuple #[.int .i64 0,.int .i64 p])) w':=
 ⟨by unfold preN preE;rw[if_pos hp,if_pos hp],by unfold preT;rw[if_pos hp];exact h.ext hE,Only.of_ext hE⟩
theorem indexOf_mem (l:List UInt8) (c:UInt8):decide (0≤Lib.indexByte l c)=hasB l c:=by
 rw [←Lib.contains_iff_indexByte,Bool.eq_iff_iff];simp [hasB]
theorem pdir_any (B:Nat) (g:GhW) (S:TreeD) (cu cg now dir:Int) (nm:List UInt8) (mode:Int) (w:World) (h:WAt w B g S) (O:Ok S) (hl1:S.last≤100000) :
  Calls Tryz.prog 156 #[.pointer (some ⟨g.bW,0,none⟩),.agg #[.int .i64 cu,.int .i64 cg],.int .i64 now,.int .i64 dir,.string (bs nm),.int .i64 mode] w
   (NoR w B g (preT (dirP mode) S (comeT S cu cg now dir nm (dirZ mode dir))) (preN (dirP mode) (comeN S cu cg now dir nm (dirZ mode dir))) (preE (dirP mode) (comeE S cu cg now dir nm (dirZ mode dir)))):=by
 obtain ⟨W0,hW0⟩:∃W0,W0=w.alloc (.cells #[.int .i64 cu,.int .i64 cg] 27):=⟨_,rfl⟩;have E0:Ext w W0:=by rw[hW0];exact (Ext.refl _).alloc _
 have C0:Has W0 w.heap.size (.cells #[.int .i64 cu,.int .i64 cg] 27):=by rw[hW0];exact Has.new w _
 have x0:W0.cell? ⟨w.heap.size,0,none⟩=some (.int .i64 cu):=C0.cell 0;have x1:W0.cell? ⟨w.heap.size,1,none⟩=some (.int .i64 cg):=C0.cell 1;have xz:=C0.lt;have HO:=zH O;obtain ⟨p,hp⟩:∃p,p=dirP mode:=⟨_,rfl⟩;have HS:Hid (∀(w':World) (x:Int),Ext w w'→p=x→x≠0→NoR w B g (preT p S (comeT S cu cg now dir nm (dirZ mode dir))) (preN p (comeN S cu cg now dir nm (dirZ mode dir))) (preE p (comeE S cu cg now dir nm (dirZ mode dir))) (.returned (.tuple #[.int .i64 0,.int .i64 x])) w'):=by
  show ∀(w':World) (x:Int),_;intro w' x hE hx h0;subst hx;exact noR_same h hE h0
 have HD:Hid (∀(e:Ending) (w':World),PutR W0 B g S cu cg now dir nm (dirZ mode dir) e w'→p=0→e=.returned (.tuple #[.int .i64 (comeN S cu cg now dir nm (dirZ mode dir)),.int .i64 (comeE S cu cg now dir nm (dirZ mode dir))])∧NoR w B g (preT p S (comeT S cu cg now dir nm (dirZ mode dir))) (preN p (comeN S cu cg now dir nm (dirZ mode dir))) (preE p (comeE S cu cg now dir nm (dirZ mode dir))) e w'):=by
  show ∀(e:Ending) (w':World),_;rintro e w' ⟨he,hK,hO⟩ h0;have n0:¬(p≠0):=fun x=>x h0
  exact ⟨he,by unfold preN preE;rw[if_neg n0,if_neg n0];exact he,by unfold preT;rw[if_neg n0];exact hK,Only.pre E0 hO⟩
 have KP:Hid (Calls Tryz.prog 191 #[.pointer (some ⟨g.bW,0,none⟩),.agg #[.int .i64 cu,.int .i64 cg],.int .i64 now,.int .i64 dir,.string (bs nm),.agg #[.int .i64 ((dirZ mode dir)).no,.int .i64 ((dirZ mode dir)).dev,.int .i64 ((dirZ mode dir)).kind,.int .i64 ((dirZ mode dir)).mode,.int .i64 ((dirZ mode dir)).uid,.int .i64 ((dirZ mode dir)).gid,.int .i64 ((dirZ mode dir)).mtime,.int .i64 ((dirZ mode dir)).ctime,.int .i64 ((dirZ mode dir)).links,.int .i64 ((dirZ mode dir)).up,.string (bs ((dirZ mode dir)).data),.slice none ((dirZ mode dir)).ents.length 0]] W0 (PutR W0 B g S cu cg now dir nm (dirZ mode dir))):=by
  refine pput_any B g S cu cg now dir nm (dirZ mode dir) none 0 W0 (h.ext E0) O hl1 ⟨.nil _ _ _,Nat.le_refl _,Nat.zero_le _,fun _=>rfl⟩ ?_;simp [dirZ,nodeZ]
 rw [←hp];have HP:=zH hp;have HE0:=zH E0;clear O hp E0 C0;go_enter Tryz.func156,Tryz.ntmps156;go_upto_region 1 with fail;rw [←hW0];clear hW0
 by_cases c1:mode<0
 ·have t1:decide (mode<0)=true:=decide_eq_true c1
  have hE:Hid (p=1):=by show _=_;rw[HP.out];unfold dirP;rw[if_pos (.inl c1)]
  clear c1;go_wp2_with fail;go_ret2;exact HS.out _ _ HE0.out hE.out (by decide)
 ·have t1:decide (mode<0)=false:=decide_eq_false c1
  by_cases c2:1023<mode
  ·have t2:decide (1023<mode)=true:=decide_eq_true c2
   have hE:Hid (p=1):=by show _=_;rw[HP.out];unfold dirP;rw[if_pos (.inr c2)]
   clear c1 c2;go_wp2_with fail;go_ret2;exact HS.out _ _ HE0.out hE.out (by decide)
  ·have t2:decide (1023<mode)=false:=decide_eq_false c2
   have hE:Hid (p=0):=by show _=_;rw[HP.out];unfold dirP;rw[if_neg (by omega)]
   clear c1 c2;go_wp2_with fail;refine KP.out.mono ?_;rintro e w2 hr;obtain ⟨rfl,hD⟩:=HD.out _ _ hr hE.out;clear hr;go_wp2_with fail;go_ret2;exact hD
theorem pfile_any (B:Nat) (g:GhW) (S:TreeD) (cu cg now dir:Int) (nm:List UInt8) (mode:Int) (data:List UInt8) (w:World) (h:WAt w B g S) (O:Ok S) (hl1:S.last≤100000) (hd:data.length≤1000000000) :
  Calls Tryz.prog 157 #[.pointer (some ⟨g.bW,0,none⟩),.agg #[.int .i64 cu,.int .i64 cg],.int .i64 now,.int .i64 dir,.string (bs nm),.int .i64 mode,.string (bs data)] w
   (NoR w B g (preT (fileP mode data.length) S (comeT S cu cg now dir nm (fileZ mode data))) (preN (fileP mode data.length) (comeN S cu cg now dir nm (fileZ mode data))) (preE (fileP mode data.length) (comeE S cu cg now dir nm (fileZ mode data)))):=by
 obtain ⟨W0,hW0⟩:∃W0,W0=w.alloc (.cells #[.int .i64 cu,.int .i64 cg] 27):=⟨_,rfl⟩;have E0:Ext w W0:=by rw[hW0];exact (Ext.refl _).alloc _
 have C0:Has W0 w.heap.size (.cells #[.int .i64 cu,.int .i64 cg] 27):=by rw[hW0];exact Has.new w _
 have x0:W0.cell? ⟨w.heap.size,0,none⟩=some (.int .i64 cu):=C0.cell 0;have x1:W0.cell? ⟨w.heap.size,1,none⟩=some (.int .i64 cg):=C0.cell 1;have xz:=C0.lt;have HO:=zH O;obtain ⟨p,hp⟩:∃p,p=fileP mode data.length:=⟨_,rfl⟩;have HS:Hid (∀(w':World) (x:Int),Ext w w'→p=x→x≠0→NoR w B g (preT p S (comeT S cu cg now dir nm (fileZ mode data))) (preN p (comeN S cu cg now dir nm (fileZ mode data))) (preE p (comeE S cu cg now dir nm (fileZ mode data))) (.returned (.tuple #[.int .i64 0,.int .i64 x])) w'):=by
  show ∀(w':World) (x:Int),_;intro w' x hE hx h0;subst hx;exact noR_same h hE h0
 have HD:Hid (∀(e:Ending) (w':World),PutR W0 B g S cu cg now dir nm (fileZ mode data) e w'→p=0→e=.returned (.tuple #[.int .i64 (comeN S cu cg now dir nm (fileZ mode data)),.int .i64 (comeE S cu cg now dir nm (fileZ mode data))])∧NoR w B g (preT p S (comeT S cu cg now dir nm (fileZ mode data))) (preN p (comeN S cu cg now dir nm (fileZ mode data))) (preE p (comeE S cu cg now dir nm (fileZ mode data))) e w'):=by
  show ∀(e:Ending) (w':World),_;rintro e w' ⟨he,hK,hO⟩ h0;have n0:¬(p≠0):=fun x=>x h0
  exact ⟨he,by unfold preN preE;rw[if_neg n0,if_neg n0];exact he,by unfold preT;rw[if_neg n0];exact hK,Only.pre E0 hO⟩
 have KP:Hid (Calls Tryz.prog 191 #[.pointer (some ⟨g.bW,0,none⟩),.agg #[.int .i64 cu,.int .i64 cg],.int .i64 now,.int .i64 dir,.string (bs nm),.agg #[.int .i64 ((fileZ mode data)).no,.int .i64 ((fileZ mode data)).dev,.int .i64 ((fileZ mode data)).kind,.int .i64 ((fileZ mode data)).mode,.int .i64 ((fileZ mode data)).uid,.int .i64 ((fileZ mode data)).gid,.int .i64 ((fileZ mode data)).mtime,.int .i64 ((fileZ mode data)).ctime,.int .i64 ((fileZ mode data)).links,.int .i64 ((fileZ mode data)).up,.string (bs ((fileZ mode data)).data),.slice none ((fileZ mode data)).ents.length 0]] W0 (PutR W0 B g S cu cg now dir nm (fileZ mode data))):=by
  refine pput_any B g S cu cg now dir nm (fileZ mode data) none 0 W0 (h.ext E0) O hl1 ⟨.nil _ _ _,Nat.le_refl _,Nat.zero_le _,fun _=>rfl⟩ ?_;exact hd
 rw [←hp];have HP:=zH hp;have HE0:=zH E0;clear O hp E0 C0;go_enter Tryz.func157,Tryz.ntmps157;go_upto_region 1 with fail;rw [←hW0];clear hW0;have hsz:((bs data).size:Int)=data.length:=by rw[bs_size]
 by_cases c1:mode<0
 ·have t1:decide (mode<0)=true:=decide_eq_true c1
  have hE:Hid (p=1):=by show _=_;rw[HP.out];unfold fileP;rw[if_pos (.inl c1)]
  clear c1;go_wp2_with fail;go_ret2;exact HS.out _ _ HE0.out hE.out (by decide)
 ·have t1:decide (mode<0)=false:=decide_eq_false c1
  by_cases c2:1023<mode
  ·have t2:decide (1023<mode)=true:=decide_eq_true c2
   have hE:Hid (p=1):=by show _=_;rw[HP.out];unfold fileP;rw[if_pos (.inr c2)]
   clear c1 c2;go_wp2_with fail;go_ret2;exact HS.out _ _ HE0.out hE.out (by decide)
  ·have t2:decide (1023<mode)=false:=decide_eq_false c2
   by_cases c3:(1048576:Int)<data.length
   ·have t3:decide ((1048576:Int)<(data.length:Int))=true:=decide_eq_true c3
    have hE:Hid (p=3):=by show _=_;rw[HP.out];unfold fileP;rw[if_neg (by omega),if_pos c3]
    clear c1 c2 c3;go_wp2_with fail;go_ret2;exact HS.out _ _ HE0.out hE.out (by decide)
   ·have t3:decide ((1048576:Int)<(data.length:Int))=false:=decide_eq_false c3
    have hE:Hid (p=0):=by show _=_;rw[HP.out];unfold fileP;rw[if_neg (by omega),if_neg c3]
    clear c1 c2 c3;go_wp2_with fail;refine KP.out.mono ?_;rintro e w2 hr;obtain ⟨rfl,hD⟩:=HD.out _ _ hr hE.out;clear hr;go_wp2_with fail;go_ret2;exact hD
theorem psym_any (B:Nat) (g:GhW) (S:TreeD) (cu cg now dir:Int) (nm:List UInt8) (text:List UInt8) (w:World) (h:WAt w B g S) (O:Ok S) (hl1:S.last≤100000) (hd:text.length≤1000000000) :
  Calls Tryz.prog 158 #[.pointer (some ⟨g.bW,0,none⟩),.agg #[.int .i64 cu,.int .i64 cg],.int .i64 now,.int .i64 dir,.string (bs nm),.string (bs text)] w
   (NoR w B g (preT (symP text) S (comeT S cu cg now dir nm (symZ text))) (preN (symP text) (comeN S cu cg now dir nm (symZ text))) (preE (symP text) (comeE S cu cg now dir nm (symZ text)))):=by
 obtain ⟨W0,hW0⟩:∃W0,W0=w.alloc (.cells #[.int .i64 cu,.int .i64 cg] 27):=⟨_,rfl⟩;have E0:Ext w W0:=by rw[hW0];exact (Ext.refl _).alloc _
 have C0:Has W0 w.heap.size (.cells #[.int .i64 cu,.int .i64 cg] 27):=by rw[hW0];exact Has.new w _
 have x0:W0.cell? ⟨w.heap.size,0,none⟩=some (.int .i64 cu):=C0.cell 0;have x1:W0.cell? ⟨w.heap.size,1,none⟩=some (.int .i64 cg):=C0.cell 1;have xz:=C0.lt;have HO:=zH O;obtain ⟨p,hp⟩:∃p,p=symP text:=⟨_,rfl⟩;have HS:Hid (∀(w':World) (x:Int),Ext w w'→p=x→x≠0→NoR w B g (preT p S (comeT S cu cg now dir nm (symZ text))) (preN p (comeN S cu cg now dir nm (symZ text))) (preE p (comeE S cu cg now dir nm (symZ text))) (.returned (.tuple #[.int .i64 0,.int .i64 x])) w'):=by
  show ∀(w':World) (x:Int),_;intro w' x hE hx h0;subst hx;exact noR_same h hE h0
 have HD:Hid (∀(w1:World) (e:Ending) (w':World),Ext w w1→PutR w1 B g S cu cg now dir nm (symZ text) e w'→p=0→e=.returned (.tuple #[.int .i64 (comeN S cu cg now dir nm (symZ text)),.int .i64 (comeE S cu cg now dir nm (symZ text))])∧NoR w B g (preT p S (comeT S cu cg now dir nm (symZ text))) (preN p (comeN S cu cg now dir nm (symZ text))) (preE p (comeE S cu cg now dir nm (symZ text))) e w'):=by
  show ∀(w1:World) (e:Ending) (w':World),_;rintro w1 e w' hE1 ⟨he,hK,hO⟩ h0;have n0:¬(p≠0):=fun x=>x h0
  exact ⟨he,by unfold preN preE;rw[if_neg n0,if_neg n0];exact he,by unfold preT;rw[if_neg n0];exact hK,Only.pre hE1 hO⟩
 have KP:Hid (∀w1,Ext w w1→Calls Tryz.prog 191 #[.pointer (some ⟨g.bW,0,none⟩),.agg #[.int .i64 cu,.int .i64 cg],.int .i64 now,.int .i64 dir,.string (bs nm),.agg #[.int .i64 ((symZ text)).no,.int .i64 ((symZ text)).dev,.int .i64 ((symZ text)).kind,.int .i64 ((symZ text)).mode,.int .i64 ((symZ text)).uid,.int .i64 ((symZ text)).gid,.int .i64 ((symZ text)).mtime,.int .i64 ((symZ text)).ctime,.int .i64 ((symZ text)).links,.int .i64 ((symZ text)).up,.string (bs ((symZ text)).data),.slice none ((symZ text)).ents.length 0]] w1 (PutR w1 B g S cu cg now dir nm (symZ text))):=by
  show ∀w1,_;intro w1 hE;exact pput_any B g S cu cg now dir nm (symZ text) none 0 w1 (h.ext hE) O hl1 ⟨.nil _ _ _,Nat.le_refl _,Nat.zero_le _,fun _=>rfl⟩ hd
 rw [←hp];have HP:=zH hp;have HE0:=zH E0;clear O hp E0 C0
 by_cases c0:text=[]
 ·have hE:Hid (p=1):=by show _=_;rw[HP.out];unfold symP;rw[if_pos (.inl c0)]
  subst c0;have hem:(bs ([]:List UInt8)).toList.isEmpty=true:=by rw[bs_toList];rfl
  go_enter Tryz.func158,Tryz.ntmps158;go_upto_region 1 with fail;rw [←hW0];clear hW0;go_wp2_with fail;go_ret2;exact HS.out _ _ HE0.out hE.out (by decide)
 ·have hem:(bs text).toList.isEmpty=false:=by rw[bs_toList,List.isEmpty_eq_false_iff];exact c0
  have hsz:((bs text).size:Int)=text.length:=by rw[bs_size]
  obtain ⟨hb,hhb⟩:∃hb,hb=hasB text 0:=⟨_,rfl⟩;have hh:∀w',Calls Tryz.prog 192 #[.string (bs text),.string ⟨#[0]⟩] w' (Ret w' (.bool hb)):=fun w'=>by
   have h:=Tryz.strings_Contains_one (bs text) 0 w';rw [bs_list,indexOf_mem,←hhb]at h;exact h.mono fun e w2 h=>⟨h.1,by rw[h.2];exact Ext.refl _⟩
  have HH:=zH hh;have HB:=zH hhb;have HC0:=zH c0;have HW0:=zH hW0;clear hh hhb c0;go_enter Tryz.func158,Tryz.ntmps158;go_upto_region 1 with fail;rw [←hW0];clear hW0;go_wp2_with fail;refine (HH.out _).mono ?_;rintro e w1 ⟨rfl,b1⟩;have E1:=HE0.out.trans b1;have x0':w1.cell? ⟨w.heap.size,0,none⟩=some (.int .i64 cu):=(b1.cell xz).trans x0;have x1':w1.cell? ⟨w.heap.size,1,none⟩=some (.int .i64 cg):=(b1.cell xz).trans x1;have xz':w.heap.size<w1.heap.size:=by have:=b1.size;omega
  clear x0 x1 xz;cases hb
  ·by_cases c1:(4096:Int)<text.length
   ·have t1:decide ((4096:Int)<(text.length:Int))=true:=decide_eq_true c1
    have hE:Hid (p=13):=by show _=_;rw[HP.out];unfold symP;rw[if_neg (by rintro (h'|h');exact HC0.out h';rw[←HB.out]at h';cases h'),if_pos (by omega)]
    clear c1;go_wp2_with fail;go_ret2;exact HS.out _ _ E1 hE.out (by decide)
   ·have t1:decide ((4096:Int)<(text.length:Int))=false:=decide_eq_false c1
    have hE:Hid (p=0):=by show _=_;rw[HP.out];unfold symP;rw[if_neg (by rintro (h'|h');exact HC0.out h';rw[←HB.out]at h';cases h'),if_neg (by omega)]
    clear c1;go_wp2_with fail;refine (KP.out _ E1).mono ?_;rintro e w2 hr;obtain ⟨rfl,hD⟩:=HD.out _ _ _ E1 hr hE.out;clear hr;go_wp2_with fail;go_ret2;exact hD
  ·have hE:Hid (p=1):=by show _=_;rw[HP.out];unfold symP;rw[if_pos (.inr HB.out.symm)]
   go_wp2_with fail;go_ret2;exact HS.out _ _ E1 hE.out (by decide)
def leaveE (S:TreeD) (cu cg dir:Int) (nm:List UInt8):Int:=
 if ¬placeE S cu cg dir nm=0 then placeE S cu cg dir nm else if isN S.nodes (findF (getN S.nodes dir).ents nm)=false then 5
 else if ¬overF S.devs (findF (getN S.nodes dir).ents nm)=findF (getN S.nodes dir).ents nm then 16
 else if freeB cu (getN S.nodes dir).mode (getN S.nodes dir).uid (getN S.nodes (findF (getN S.nodes dir).ents nm)).uid=false then 4 else 0
def leaveD (S:TreeD) (cu cg dir:Int) (nm:List UInt8):NodeD:=if leaveE S cu cg dir nm=0 then getN S.nodes dir else nodeZ
def leaveN (S:TreeD) (cu cg dir:Int) (nm:List UInt8):NodeD:=if leaveE S cu cg dir nm=0 then getN S.nodes (findF (getN S.nodes dir).ents nm) else nodeZ
def lessN (now:Int) (n:NodeD):NodeD:={n with links:=n.links-1,ctime:=now}
def lessT (S:TreeD) (now:Int) (n:NodeD):TreeD:=if n.links-1<1 then killT (setT S (lessN now n)) n.no else setT S (lessN now n)
def goneT (S:TreeD) (now:Int) (d n:NodeD) (nm:List UInt8):TreeD:=lessT (touchT S d.no now (dropF d.ents nm)) now n
def unlinkE (S:TreeD) (cu cg dir:Int) (nm:List UInt8):Int:=if ¬leaveE S cu cg dir nm=0 then leaveE S cu cg dir nm else if (leaveN S cu cg dir nm).kind=1 then 8 else 0
def rmdirE (S:TreeD) (cu cg dir:Int) (nm:List UInt8):Int:=
 if ¬leaveE S cu cg dir nm=0 then leaveE S cu cg dir nm else if ¬(leaveN S cu cg dir nm).kind=1 then 9 else if 0<((leaveN S cu cg dir nm).ents.length:Int) then 10 else 0
def unlinkT (S:TreeD) (cu cg now dir:Int) (nm:List UInt8):TreeD:=if unlinkE S cu cg dir nm=0 then goneT S now (leaveD S cu cg dir nm) (leaveN S cu cg dir nm) nm else S
def rmdirT (S:TreeD) (cu cg now dir:Int) (nm:List UInt8):TreeD:=if rmdirE S cu cg dir nm=0 then goneT S now (leaveD S cu cg dir nm) (leaveN S cu cg dir nm) nm else S
open Go
theorem wp_region_nbox {id:Nat} {Q:Exit→Act→World→Prop} {a:Act} {w:World} {l:List Oper} (V:World) (m s:Nat) (d t:Tmp) (n:NodeD) (A:Option Addr) (c:Nat) (om os:Oper)
  (hB:Region.lexB .any l.toArray=true) (hc:boxB l m s d t=true) (hom:l[m]?=some om) (hos:l[s]?=some os) (ho1:om.op=.alloc 66) (ho2:os.op=.store 66 (.tmp d) (.tmp t)) (htd:d<a.tmps.size)
  (hV:Ext V w.drew) :
  wpQuietR Tryz.prog l.toArray V (fun a1=>wpQuietR Tryz.prog l.toArray V (fun a2=>a2.eval (.tmp t)=.agg #[.int .i64 n.no,.int .i64 n.dev,.int .i64 n.kind,.int .i64 n.mode,.int .i64 n.uid,.int .i64 n.gid,.int .i64 n.mtime,.int .i64 n.ctime,.int .i64 n.links,.int .i64 n.up,.string (bs n.data),.slice A n.ents.length c]∧wpQuietR Tryz.prog l.toArray V (fun a3=>∀w' bx,Ext V w'→V.heap.size≤bx→Has w' bx (.cells #[.int .i64 n.no,.int .i64 n.dev,.int .i64 n.kind,.int .i64 n.mode,.int .i64 n.uid,.int .i64 n.gid,.int .i64 n.mtime,.int .i64 n.ctime,.int .i64 n.links,.int .i64 n.up,.string (bs n.data),.slice A n.ents.length c] 66)→Q .normal (a3.put (some d) (.pointer (some ⟨bx,0,none⟩))) w') (l.drop (s+1)) a2) ((l.take s).drop (m+1)) a1) (l.take m) a →
  (Code.region id l.toArray true).wp Tryz.prog Q a w:=by
 refine wp_region_box V m s d t (.agg #[.int .i64 n.no,.int .i64 n.dev,.int .i64 n.kind,.int .i64 n.mode,.int .i64 n.uid,.int .i64 n.gid,.int .i64 n.mtime,.int .i64 n.ctime,.int .i64 n.links,.int .i64 n.up,.string (bs n.data),.slice A n.ents.length c]) (.cells #[.int .i64 0,.int .i64 0,.int .i64 0,.int .i64 0,.int .i64 0,.int .i64 0,.int .i64 0,.int .i64 0,.int .i64 0,.int .i64 0,.string ⟨#[]⟩,.slice none 0 0] 66) _ om os (by kernel_rfl) hB hc hom hos ?_ ?_ hV htd
 ·intro a w
  simp [execOp,ho1,go_sem]
 ·intro a w bx hsz hb he
  have hd:(a.put (some d) (.pointer (some ⟨bx,0,none⟩))).eval (.tmp d)=.pointer (some ⟨bx,0,none⟩):=by
   simp [Act.put,Act.eval,hsz]
  have hb':Has w bx (.cells #[.int .i64 nodeZ.no,.int .i64 nodeZ.dev,.int .i64 nodeZ.kind,.int .i64 nodeZ.mode,.int .i64 nodeZ.uid,.int .i64 nodeZ.gid,.int .i64 nodeZ.mtime,.int .i64 nodeZ.ctime,.int .i64 nodeZ.links,.int .i64 nodeZ.up,.string (bs nodeZ.data),.slice none nodeZ.ents.length 0] 66):=hb;refine ⟨_,?_,hb'.setNode n A c,only_setCells (nodeL n A c) 0 w⟩;simp only[execOp,ho2,hd,he,run_storeAt_mid w bx 0 66 #[.int .i64 n.no,.int .i64 n.dev,.int .i64 n.kind,.int .i64 n.mode,.int .i64 n.uid,.int .i64 n.gid,.int .i64 n.mtime,.int .i64 n.ctime,.int .i64 n.links,.int .i64 n.up,.string (bs n.data),.slice A n.ents.length c] hb'.there infoNode12 (node_all n A c),Sem.run_bind,Sem.run_pure,Result.andThen_ok];rfl
attribute [local irreducible] wpLexE wpQuiet
attribute [local go_sem] changeUpon
end Go.Proofs.YtpibnfdolojpcaaGreat
namespace Go.Proofs.YtpibnfdolojpcaaGreat
open Go.ChangeShapes Go.WideShapes Go.ChangeAt Go.RowKit
theorem leaveE_zero {S:TreeD} {cu cg dir:Int} {nm:List UInt8} (h:leaveE S cu cg dir nm=0):placeE S cu cg dir nm=0∧isN S.nodes (findF (getN S.nodes dir).ents nm)=true∧overF S.devs (findF (getN S.nodes dir).ents nm)=findF (getN S.nodes dir).ents nm∧leaveD S cu cg dir nm=getN S.nodes dir∧leaveN S cu cg dir nm=getN S.nodes (findF (getN S.nodes dir).ents nm):=by
 have e1:leaveD S cu cg dir nm=getN S.nodes dir:=by unfold leaveD;rw[if_pos h]
 have e2:leaveN S cu cg dir nm=getN S.nodes (findF (getN S.nodes dir).ents nm):=by unfold leaveN;rw[if_pos h]
 refine ⟨?_,?_,?_,e1,e2⟩<;>unfold leaveE at h<;>split at h
 ·rename_i h1;exact absurd h h1
 ·rename_i h1;exact Decidable.not_not.1 h1
 ·rename_i h1;exact absurd h h1
 ·split at h
  ·cases h
  ·rename_i h2;simpa using h2
 ·rename_i h1;exact absurd h h1
 ·split at h
  ·cases h
  ·split at h
   ·cases h
   ·rename_i h3;exact Decidable.not_not.1 h3
attribute [local irreducible] wpQuiet
def putE (S:TreeD) (cu:Int) (d n old:NodeD):Int:=
 if ¬overF S.devs old.no=old.no then 16 else if n.kind=1∧¬old.kind=1 then 9 else if ¬n.kind=1∧old.kind=1 then 8
 else if 0<(old.ents.length:Int) then 10 else if freeB cu d.mode d.uid old.uid=false then 4 else 0
end Go.Proofs.YtpibnfdolojpcaaGreat
namespace Go.Proofs.YtpibnfdolojpcaaGreat
open Go.ChangeShapes Go.WideShapes Go.ChangeAt Go.RowKit
attribute [local irreducible] wpQuiet
def oldNo (S:TreeD) (cu cg to_:Int) (b:List UInt8):Int:=findF (placeN S cu cg to_ b).ents b
def sameB (S:TreeD) (cu cg fr to_:Int) (a b:List UInt8):Prop:=isN S.nodes (oldNo S cu cg to_ b)=true∧(getN S.nodes (oldNo S cu cg to_ b)).no=(leaveN S cu cg fr a).no
instance (S:TreeD) (cu cg fr to_:Int) (a b:List UInt8):Decidable (sameB S cu cg fr to_ a b):=by unfold sameB;exact inferInstance
def moveX (S:TreeD) (cu cg fr to_ x y:Int) (d n t:NodeD) (is:Bool) (old:NodeD):Int:=
 if ¬x=0 then x else if ¬y=0 then y else if ¬d.dev=t.dev then 11 else if n.kind=1∧withinF S to_ n.no=true then 17
 else if is=true∧old.no=n.no then 0 else if n.kind=1∧¬fr=to_∧mayB cu cg n.uid n.gid n.mode 2=false then 6
 else if is=true then putE S cu t n old else 0
def moveE (S:TreeD) (cu cg fr to_:Int) (a b:List UInt8):Int:=
 moveX S cu cg fr to_ (leaveE S cu cg fr a) (placeE S cu cg to_ b) (leaveD S cu cg fr a) (leaveN S cu cg fr a) (placeN S cu cg to_ b) (isN S.nodes (oldNo S cu cg to_ b)) (getN S.nodes (oldNo S cu cg to_ b))
def overT (S:TreeD) (now no:Int):TreeD:=if isN S.nodes no=true then lessT S now (getN S.nodes no) else S
def laidN (now to_:Int) (n:NodeD):NodeD:={n with ctime:=now,up:=if n.kind=1 then to_ else n.up}
def laidT (T:TreeD) (now fr to_:Int) (a b:List UInt8) (d n:NodeD):TreeD:=
 setT (touchT (touchT T fr now (dropF d.ents a)) to_ now (putF (getN (touchT T fr now (dropF d.ents a)).nodes to_).ents (b,n.no))) (laidN now to_ n)
def moveT (S:TreeD) (cu cg now fr to_:Int) (a b:List UInt8):TreeD:=
 if moveE S cu cg fr to_ a b=0∧¬sameB S cu cg fr to_ a b then laidT (overT S now (oldNo S cu cg to_ b)) now fr to_ a b (leaveD S cu cg fr a) (leaveN S cu cg fr a) else S
theorem all_over {S:TreeD} {P:NodeD→Prop} (h:∀m∈S.nodes,P m) (now no:Int) (hl:∀m,P m→P (lessN now m)):∀m∈(overT S now no).nodes,P m:=by
 unfold overT;split
 ·rename_i hi
  have hs:∀m∈(setT S (lessN now (getN S.nodes no))).nodes,P m:=fun m hm=>by
   rcases mem_setN hm with hm|rfl
   ·exact h m hm
   ·exact hl _ (h _ (isN_true hi).2.2)
  unfold lessT;split
  ·unfold killT
   split
   ·exact fun m hm=>hs m (List.mem_filter.1 hm).1
   ·exact hs
  ·exact hs
 ·exact h
end Go.Proofs.YtpibnfdolojpcaaGreat
namespace Go.Proofs.YtpibnfdolojpcaaGreat
open Go.ChangeShapes Go.WideShapes Go.ChangeAt Go.RowKit
section
variable {H:Type} {enc:TypeId×Value→H} {w:World} {base:Nat} {spare:Nat→Bool} {held:Bool}
theorem opnInt:Tryz.prog.cellsOf 3=1:=by kernel_rfl
theorem opnStr:Tryz.prog.cellsOf 9=1:=by kernel_rfl
theorem opnCred_size:Tryz.prog.cellsOf 27=2:=by kernel_rfl
theorem Cred_cells {n:Nat} {cs:List Value} {x:DataW H×List MemPlace} (h:DataW.trod enc Tryz.prog w base spare held n 27 cs=some x):∃v:(Int×Int),cs=[.int .i64 v.1,.int .i64 v.2]:=by
 obtain ⟨xs,m,_,_,hl,hxl,hf⟩:=DataW.trod_struct Tryz.underlying27 h;rw [opnCred_size]at hl
 match cs,hl with
 | [a0,a1],_ =>
  match xs,hxl with
  | [y0,y1],_ =>
   have f0:DataW.trod enc Tryz.prog w base spare held m 3 (List.take (Tryz.prog.cellsOf 3) (List.drop 0 [a0,a1]))=some y0:=hf 0 _ rfl;rw [opnInt]at f0;obtain ⟨k0,h0,_,_⟩:=DataW.trod_int Tryz.underlying3 f0;have e0:a0=.int .i64 k0:=by simpa using h0
   have f1:DataW.trod enc Tryz.prog w base spare held m 3 (List.take (Tryz.prog.cellsOf 3) (List.drop 1 [a0,a1]))=some y1:=hf 1 _ rfl;rw [opnInt]at f1;obtain ⟨k1,h1,_,_⟩:=DataW.trod_int Tryz.underlying3 f1;have e1:a1=.int .i64 k1:=by simpa using h1
   exact ⟨⟨k0,k1⟩,by rw[e0,e1]⟩
end
end Go.Proofs.YtpibnfdolojpcaaGreat
namespace Go.Proofs.YtpibnfdolojpcaaGreat
open Go.ChangeShapes Go.WideShapes Go.ChangeAt Go.RowKit
attribute [local irreducible] wpLexE
attribute [local go_sem] changeUpon
end Go.Proofs.YtpibnfdolojpcaaGreat
namespace Go.Proofs.YtpibnfdolojpcaaGreat
open Go.ChangeShapes Go.WideShapes Go.ChangeAt Go.RowKit
attribute [local irreducible] wpQuiet
theorem findF_put (l:List EntD) (nm:List UInt8) (no:Int):findF (putF l (nm,no)) nm=no:=by
 unfold findF putF lessF moreF;have h1:(l.filter fun x=>bl x.1 nm).find? (fun x=>x.1 == nm)=none:=by
  rw [List.find?_eq_none];intro x hx;rw [List.mem_filter]at hx;have:=bl_ne hx.2;simpa using this
 simp only[List.find?_append,h1,Option.none_or,List.find?_cons,beq_self_eq_true,Option.some_or]
theorem set_self {S:TreeD} (hu:NosUp S.nodes S.last) {n:NodeD} (hi:isN S.nodes n.no=true):getN (setT S n).nodes n.no=n:=by
 have hm:=set_has (n:=n) (isN_true hi).2.2;rw [if_pos (isN_true hi).2.1]at hm;exact (mem_getN (S:=setT S n) (hu.set n) hm).1
end Go.Proofs.YtpibnfdolojpcaaGreat
