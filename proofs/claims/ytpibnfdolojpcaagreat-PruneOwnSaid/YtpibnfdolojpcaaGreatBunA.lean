import Derived.Test.YtpibnfdolojpcaaGreatRows
import Derived.WalkKit
import Derived.ProofKit
import Derived.OpenShut
import Derived.Handy
import Derived.Lib.Hide
import Derived.BigQuiet
import Derived.Deep.QuietTactic
import Derived.Lib.SlBytesConst
import Derived.Lib.UnsafeStr
import Derived.WalkLawsBesides
import Derived.Below
import Derived.Laws.OwnMore
import Derived.Deep.AppendLies
import Derived.Deep.Draws
import Derived.Deep.RegionHeld3
import Derived.Outline
import Derived.Lib.AppendZeros
import Derived.Laws.AppendOwnNone
import Derived.WalkSpells
import Derived.Lib.Overlaps
import Derived.Lib.AppendZerosOnto
import Derived.Laws.CopyRow
import Derived.Laws.Externs
import Derived.Deep.RegionLaw
import Derived.Deep.Slices
import Derived.Deep.Fields
import Derived.ChangeSame
import Derived.Lib.SmallJoins
import Derived.RangeFuncNested
import Derived.RangeFuncBound
import Derived.RangeFuncCalls
import Derived.RangeFuncLeaves
import Derived.RangeFuncBox
import Derived.Shelf.Abstract
import Derived.OwnWalkIn
import Derived.TacticsInMore
import Derived.LoopNIn
import Derived.LoopIn
import Derived.Sort.QuietTacIn
import Derived.AtR
set_option maxHeartbeats 2000000
set_option maxRecDepth 100000
namespace Go.Proofs.YtpibnfdolojpcaaGreat
theorem zE {α:Sort _} (a:α):∃x,x=a:=⟨a,rfl⟩
instance:Coe Int Value:=⟨fun x=>.int .i64 x⟩
instance:Coe ByteArray Value:=⟨fun x=>.string x⟩
section
theorem gA {α:Type _} {l:List α} {i:Nat}:l.toArray[i]?=l[i]?:=List.getElem?_toArray
theorem gB {α:Type _} {a:α} {l:List α}:(a::l)[0]?=some a:=List.getElem?_cons_zero
theorem gC {α:Type _} {a:α} {l:List α} {i:Nat}:(a::l)[i+1]?=l[i]?:=List.getElem?_cons_succ
theorem zH {p:Prop} (h:p):RowKit.Hid p:=Lib.hid h
open Go.ChangeShapes Go.WideShapes Go.ChangeAt Go.RowKit
def Ext (w w':World):Prop:=Below w.heap.size w w'
theorem Ext.refl (w:World):Ext w w:=Below.refl _ _
theorem Ext.trans {a b c:World} (h:Ext a b) (k:Ext b c):Ext a c:=Below.trans h (Below.mono k h.size)
theorem Ext.alloc {a w:World} (h:Ext a w) (o:Obj):Ext a (w.alloc o):=Below.alloc h h.size o
theorem Ext.drew {a w:World} (h:Ext a w):Ext a w.drew:=Below.drew h
theorem Ext.drewN {a w:World} (h:Ext a w) (n:Nat):Ext a (w.drewN n):=⟨h.os,h.tape,h.output,h.size,h.block⟩
theorem Ext.setCell {a w:World} (h:Ext a w) {p:Addr} (hp:a.heap.size<=p.block) (u:Value):Ext a (w.setCell p u):=Below.setCell h hp u
theorem Ext.size {a w:World} (h:Ext a w):a.heap.size<=w.heap.size:=Below.size h
theorem Ext.grown {a w w':World} {row:Option Nat} (h:Ext a w) (hg:w.grownBy w' row) (hr:∀k,row=some k->a.heap.size<=k):Ext a w':=Below.grown h hg h.size hr
theorem Ext.cell {w w':World} (h:Ext w w') {b o:Nat} (hp:b<w.heap.size):w'.cell? ⟨b,o,none⟩=w.cell? ⟨b,o,none⟩:=Below.cell (p:=⟨b,o,none⟩) h hp
theorem Ext.frozen {w w':World} (h:Ext w w') {b o:Nat} (hp:b<w.heap.size):w'.frozen? ⟨b,o,none⟩=w.frozen? ⟨b,o,none⟩:=Below.frozen (p:=⟨b,o,none⟩) h hp
theorem Ext.block {w w':World} (h:Ext w w') {b:Nat} {o:Obj} (hp:w.heap[b]?=some o):w'.heap[b]?=some o:=by
 have hb:b<w.heap.size:=by
  rcases Nat.lt_or_ge b w.heap.size with h'|h'
  ·exact h'
  ·simp[Array.getElem?_eq_none h']at hp
 rw [Below.block h b hb];exact hp
def aI (w:World) (v:Value) (e:Ending) (w':World):Prop:=e=.returned v/\Ext w w'
theorem aI.mk {w:World} {v:Value} {e:Ending} {w':World} (h:e=.returned v) (k:Ext w w'):aI w v e w':=⟨h,k⟩
theorem a_ {n:Int} (h:-9223372036854775808<=n) (h':n<9223372036854775808):IntKind.i64.wrap n=n:=by rw[IntKind.wrap_i64];omega
theorem iW (x:Int):(BitVec.ofInt 64 x).toNat=(x % 18446744073709551616).toNat:=by
 rw [BitVec.toNat_ofInt];rfl
theorem zO (x:Int) (i:Nat) (hi:i<63):(x % 18446744073709551616).toNat % 2 ^ i=(x % 2 ^ i).toNat:=by
 have h1:(0:Int)<=x % 18446744073709551616:=Int.emod_nonneg _ (by decide);have h2:(0:Int)<2 ^ i:=Int.pow_pos (by decide);have h3:(0:Int)<=x % 2 ^ i:=Int.emod_nonneg _ (by omega);have hd:(2:Int) ^ i ∣ 18446744073709551616:=by
  have:(18446744073709551616:Int)=2 ^ 64:=by decide
  rw [this];exact⟨2 ^ (64-i),by rw[<-Int.pow_add];congr 1;omega⟩
 have h4:x % 18446744073709551616 % 2 ^ i=x % 2 ^ i:=Int.emod_emod_of_dvd x hd;apply Int.ofNat.inj;show ((((x % 18446744073709551616).toNat % 2 ^ i:Nat)):Int)=(((x % 2 ^ i).toNat:Nat):Int);rw [Int.natCast_emod,Int.toNat_of_nonneg h1,Int.toNat_of_nonneg h3,Int.natCast_pow,<-h4];rfl
theorem zP (x:Int) (i:Nat) (hi:i<63):bits .and .i64 x (2 ^ i-1)=x % 2 ^ i:=by
 have h2:(0:Int)<2 ^ i:=Int.pow_pos (by decide);have h3:(0:Int)<=x % 2 ^ i:=Int.emod_nonneg _ (by omega);have h4:x % 2 ^ i<2 ^ i:=Int.emod_lt_of_pos _ h2;have hp:(2:Int) ^ i<=2 ^ 62:=by
  have:(2:Nat) ^ i<=2 ^ 62:=Nat.pow_le_pow_right (by decide) (by omega)
  exact_mod_cast this
 have hc:((2:Int) ^ i-1)=((2 ^ i-1:Nat):Int):=by
  rw [Int.natCast_sub (Nat.two_pow_pos i)];simp
 show IntKind.i64.wrap ((BitVec.ofInt 64 x &&& BitVec.ofInt 64 ((2:Int) ^ i-1)).toNat:Int)=_;have hb:(BitVec.ofInt 64 ((2:Int) ^ i-1)).toNat=2 ^ i-1:=by
  rw [hc,BitVec.ofInt_natCast,BitVec.toNat_ofNat];have:(2:Nat) ^ i<=2 ^ 62:=Nat.pow_le_pow_right (by decide) (by omega);exact Nat.mod_eq_of_lt (by omega)
 rw [BitVec.toNat_and,hb,iW,Nat.and_two_pow_sub_one_eq_mod,zO x i hi,Int.toNat_of_nonneg h3];exact a_ (by omega) (by omega)
theorem WB (x:Int):bits .and .i64 x 1=x % 2:=zP x 1 (by decide)
theorem RE (x:Int):bits .and .i64 x 7=x % 8:=zP x 3 (by decide)
theorem zQ (n:Nat):n &&& 512=(n / 512 % 2)*512:=by
 apply Nat.eq_of_testBit_eq;intro j;have h1:n.testBit 9=decide (n / 512 % 2=1):=by rw[Nat.testBit_eq_decide_div_mod_eq]
 have e:(512:Nat)=2 ^ 9:=rfl;have h2:n / 512 % 2=0\/n / 512 % 2=1:=by omega
 by_cases hj:j=9
 ·subst hj
  rw [Nat.testBit_and,h1];rcases h2 with h|h<;>simp[h]<;>decide
 ·have:(512:Nat).testBit j=false:=by rw[e,Nat.testBit_two_pow];simp;omega
  rw [Nat.testBit_and,this,Bool.and_false];rcases h2 with h|h<;>simp[h,this]
theorem Pe (x:Int):bits .and .i64 x 512=(x / 512 % 2)*512:=by
 show IntKind.i64.wrap ((BitVec.ofInt 64 x &&& BitVec.ofInt 64 512).toNat:Int)=_;have hb:(BitVec.ofInt 64 512).toNat=512:=by decide
 rw [BitVec.toNat_and,hb,iW,zQ,a_ (by omega) (by omega)];omega
def Has (w:World) (b:Nat) (o:Obj):Prop:=w.heap[b]?=some o
theorem Has.ext {w w':World} {b:Nat} {o:Obj} (h:Has w b o) (k:Ext w w'):Has w' b o:=k.block h
theorem Has.lt {w:World} {b:Nat} {o:Obj} (h:Has w b o):b<w.heap.size:=by
 rcases Nat.lt_or_ge b w.heap.size with h'|h'
 ·exact h'
 ·unfold Has at h;simp[Array.getElem?_eq_none h']at h
theorem Has.new (w:World) (o:Obj):Has (w.alloc o) w.heap.size o:=heap_alloc_new w o
theorem Has.alloc {w:World} {b:Nat} {o:Obj} (h:Has w b o) (x:Obj):Has (w.alloc x) b o:=h.ext ((Ext.refl _).alloc x)
theorem Has.cell {w:World} {b:Nat} {C:Array Value} {t:TypeId} {fr:Nat×Nat} (h:Has w b (.cells C t fr)) (i:Nat):w.cell? ⟨b,i,none⟩=C[i]?:=by
 unfold Has at h;simp[World.cell?,h]
theorem Has.free {w:World} {b:Nat} {C:Array Value} {t:TypeId} {lo hi:Nat} (h:Has w b (.cells C t (lo,hi))) (i:Nat):w.frozen? ⟨b,i,none⟩=(decide (lo<=i)&&decide (i<hi)):=by
 unfold Has at h;simp[World.frozen?,h]
theorem rc {P:Program} {t:TypeId} (ht:P.underlying t=some .string) (s:ByteArray) (i j:Int) (a b:Nat) (hi:i=a) (hj:j=b) (hab:a<=b) (hb:b<=s.size) (r:ByteArray) (hr:s.extract a b=r) (w:World) :
  (Instr.slice t (.string s) (some (.int .i64 i)) (some (.int .i64 j)) none).run P w=.ok (.string r) w:=by
 subst hi;subst hj;subst hr;have:=run_slice_string (P:=P) w t s .i64 .i64 (a:Int) (b:Int) ht (by omega) (by omega) (by omega);simpa using this
open Go.RowKit
def bs (l:List UInt8):ByteArray:=⟨l.toArray⟩
theorem bi (l:List UInt8):(bs l).size=l.length:=by simp[bs,ByteArray.size]
theorem yb (s:ByteArray):bs s.data.toList=s:=by cases s;simp[bs]
theorem mj (l:List UInt8):(bs l).data.toList=l:=by simp[bs]
theorem bk (l:List UInt8):(bs l).toList=l:=by rw[ByteArray.toList_eq,mj]
theorem rf (a b:List UInt8):bs a++bs b=bs (a++b):=ByteArray.mk_append_mk a b
theorem Gb (s:ByteArray) (k:Nat) (h:k<s.size):s.data.toList.take (k+1)=s.data.toList.take k++[s[k]]:=by
 rw [List.take_succ_eq_append_getElem (by simpa using h)];rfl
theorem drop_at (s:ByteArray) (k:Nat) (h:k<s.size):s.data.toList.drop k=s[k]::s.data.toList.drop (k+1):=by
 rw [List.drop_eq_getElem_cons (by simpa using h)];rfl
theorem CJ (l:List UInt8) (k:Nat) (h:k<(bs l).size) (h':k<l.length):(bs l)[k]'h=l[k]'h':=rfl
theorem Pf (s:ByteArray) (k:Nat) (h:k<s.size):s.extract k (k+1)=bs [s[k]]:=by
 apply ByteArray.ext;have hd:k<s.data.size:=h;simp only[ByteArray.data_extract,bs];apply Array.ext
 ·simp;omega
 ·intro i h1 h2
  simp at h2;subst h2;simp;rfl
theorem ml (l:List UInt8) (a b:Nat):(bs l).extract a b=bs ((l.drop a).take (b-a)):=ByteArray.extract_mk l a b
theorem iD {a b:Bool} (h:a=b):Ending.returned (.bool a)=.returned (.bool b):=by rw[h]
theorem aB {k:IntKind} {a b:Int} (h:a=b):Ending.returned (.int k a)=.returned (.int k b):=by rw[h]
theorem yc {a b:ByteArray} (h:a=b):Ending.returned (.string a)=.returned (.string b):=by rw[h]
abbrev bl:=Go.Op.bytesLess
theorem cA:∀a,bl a a=false
 | []=>rfl
 | c::a=>by simp[bl,Go.Op.bytesLess,show ¬c<c from fun h=>by exact absurd (UInt8.lt_iff_toNat_lt.1 h) (Nat.lt_irrefl _)];exact cA a
theorem yd (c d:UInt8) (a b:List UInt8):bl (c::a) (d::b)=(decide (c<d) || (c == d&&bl a b)):=rfl
theorem kO:∀{a b c:List UInt8},bl a b=true->bl b c=true->bl a c=true
 | [],[],c,h,_=>absurd h (by decide)
 | [],b::bs,[],_,h=>absurd h (by simp[bl,Go.Op.bytesLess])
 | [],b::bs,c::cs,_,_=>rfl
 | a::al,[],c,h,_=>absurd h (by simp[bl,Go.Op.bytesLess])
 | a::al,b::bs,[],_,h=>absurd h (by simp[bl,Go.Op.bytesLess])
 | a :: al,b::bs,c::cs,h,k=>by
  rw [yd]at h k|-;simp only[Bool.or_eq_true,decide_eq_true_eq,Bool.and_eq_true,beq_iff_eq]at h k|-;rcases h with h|⟨rfl,h⟩
  ·rcases k with k|⟨rfl,k⟩
   ·exact .inl (UInt8.lt_trans h k)
   ·exact .inl h
  ·rcases k with k|⟨rfl,k⟩
   ·exact .inl k
   ·exact .inr ⟨rfl,kO h k⟩
theorem lq:∀(a b:List UInt8),bl a b=true\/a=b\/bl b a=true
 | [],[]=>.inr (.inl rfl)
 | [],b::bs=>.inl rfl
 | a::al,[]=>.inr (.inr rfl)
 | a :: al,b::bs=>by
  rw [yd,yd];simp only[Bool.or_eq_true,decide_eq_true_eq,Bool.and_eq_true,beq_iff_eq]
  by_cases h:a<b
  ·exact .inl (.inl h)
  ·by_cases h2:b<a
   ·exact .inr (.inr (.inl h2))
   ·have:a=b:=UInt8.le_antisymm (UInt8.not_lt.1 h2) (UInt8.not_lt.1 h)
    subst this;rcases lq al bs with g|g|g
    ·exact .inl (.inr ⟨rfl,g⟩)
    ·exact .inr (.inl (by rw[g]))
    ·exact .inr (.inr (.inr ⟨rfl,g⟩))
theorem gu {a b:List UInt8} (h:bl a b=true):bl b a=false:=by
 cases k:bl b a
 ·rfl
 ·have:=kO h k;rw[cA]at this;cases this
abbrev ay:=List UInt8×Int
def lt (x:ay) (n:List UInt8):Bool:=bl x.1 n
def iq (l:List ay):Prop:=l.Pairwise fun x y=>bl x.1 y.1=true
def pos (l:List ay) (n:List UInt8):Nat:=(l.takeWhile (lt · n)).length
def has (l:List ay) (n:List UInt8):Bool:=l.any (·.1 == n)
theorem JU (l:List ay) (n:List UInt8):pos l n<=l.length:=by
 unfold pos
 induction l with
 | nil=>simp
 | cons x l ih=>rw[List.takeWhile_cons];split<;>simp<;>omega
theorem jX (x:ay) (l:List ay) (n:List UInt8):pos (x::l) n=if lt x n=true then pos l n+1 else 0:=by
 unfold pos;rw[List.takeWhile_cons];split<;>simp
theorem zR (l:List ay) (n:List UInt8):∀k,k<pos l n->(h:k<l.length)->lt l[k] n=true:=by
 induction l with
 | nil=>intro k _ h;cases h
 | cons x l ih =>
  intro k hk h;rw [jX]at hk;split at hk
  ·rename_i hx
   cases k with
   | zero=>exact hx
   | succ k=>exact ih k (by omega) (by simpa using h)
  ·omega
theorem Pg (l:List ay) (n:List UInt8) (hr:iq l):∀k,(h:k<l.length)->pos l n<=k->lt l[k] n=false:=by
 induction l with
 | nil=>intro k h;cases h
 | cons x l ih =>
  intro k h hk;rw [jX]at hk;have hr':=List.pairwise_cons.1 hr;split at hk
  ·cases k with
   | zero=>omega
   | succ k=>exact ih hr'.2 k (by simpa using h) (by omega)
  ·rename_i hx
   have hx':lt x n=false:=by simpa using hx
   cases k with
   | zero=>exact hx'
   | succ k =>
    have hm:l[k]'(by simpa using h)∈l:=List.getElem_mem _;have h1:=hr'.1 _ hm
    cases h2:lt ((x::l)[k+1]'h) n
    ·rfl
    ·have:lt x n=true:=kO h1 h2
     rw [hx']at this;cases this
theorem CK (l:List ay) (n:List UInt8) (hr:iq l) (p:Nat) (hp:p<=l.length) (h1:∀k,(h:k<l.length)->k<p->lt l[k] n=true) (h2:∀k,(h:k<l.length)->p<=k->lt l[k] n=false):p=pos l n:=by
 rcases Nat.lt_trichotomy p (pos l n) with g|g|g
 ·have hl:=JU l n
  have a:=zR l n p g (by omega);have b:=h2 p (by omega) (Nat.le_refl _);rw [a]at b;cases b
 ·exact g
 ·have a:=h1 (pos l n) (by omega) g
  have b:=Pg l n hr (pos l n) (by omega) (Nat.le_refl _);rw [a]at b;cases b
theorem ER (l:List ay) (n:List UInt8) (hr:iq l):has l n=(if h:pos l n<l.length then (l[pos l n]'h).1 == n else false):=by
 induction l with
 | nil=>rfl
 | cons x l ih =>
  have hr':=List.pairwise_cons.1 hr;have hp:=jX x l n
  by_cases hx:lt x n=true
  ·rw [if_pos hx]at hp
   have hne:(x.1 == n)=false:=by
    rw [beq_eq_false_iff_ne];intro e;unfold lt at hx;rw[e,cA]at hx;cases hx
   have:has (x::l) n=has l n:=by unfold has;rw[List.any_cons,hne,Bool.false_or]
   rw [this,ih hr'.2];have hlen:(x::l).length=l.length+1:=rfl
   by_cases h:pos l n<l.length
   ·rw [dif_pos h,dif_pos (by omega)]
    have:∀(i j:Nat) (hi:i<(x::l).length) (hj:j<l.length),i=j+1->(x::l)[i]=l[j]:=by
     intro i j hi hj e;subst e;rfl
    rw [this _ _ (by omega) h hp]
   ·rw[dif_neg h,dif_neg (by omega)]
  ·rw [if_neg hx]at hp
   have h0:0<(x::l).length:=by simp
   have e0:∀(i:Nat) (hi:i<(x::l).length),i=0->(x::l)[i]=x:=by intro i hi e;subst e;rfl
   rw [dif_pos (by omega),e0 _ _ hp];unfold has;rw [List.any_cons]
   cases hq:(x.1 == n)
   ·rw [Bool.false_or,List.any_eq_false]
    intro y hy;have h1:=hr'.1 y hy;intro h2;rw [beq_iff_eq]at h2;rw [h2]at h1;exact hx h1
   ·rfl
def cmpL (a b:List UInt8):Int:=if bl a b=true then -1 else if bl b a=true then 1 else 0
theorem wN (s:ByteArray) (w:World):Calls Tryz.prog 201 #[.string s] w (aI w (.bool false)):=by
 go_enter Tryz.func201,Tryz.ntmps201;go_wp2_with fail;go_ret;exact aI.mk rfl (Ext.refl _)
theorem ye {a b:List UInt8} (h:bl a b=true):cmpL a b=-1:=by unfold cmpL;rw[if_pos h]
theorem yg {a b:List UInt8} (h:bl b a=true):cmpL a b=1:=by unfold cmpL;rw[if_neg (by rw[gu h];decide),if_pos h]
theorem cmpL_eq (a:List UInt8):cmpL a a=0:=by unfold cmpL;rw[cA];rfl
theorem zS (a b:List UInt8) (w:World):Calls Tryz.prog 177 #[bs a,bs b] w (aI w (.int .i64 (cmpL a b))):=by
 obtain ⟨x,y,c,hx,hy,hc,hf⟩:∃(x y:Bool) (c:Int),bl a b=x/\(a == b)=y/\cmpL a b=c/\((x=true/\y=false/\c=-1)\/(x=false/\y=true/\c=0)\/(x=false/\y=false/\c=1)):=by
  refine ⟨_,_,_,rfl,rfl,rfl,?_⟩;rcases lq a b with h|h|h
  ·refine .inl ⟨h,?_,ye h⟩
   rw [beq_eq_false_iff_ne];intro e;rw[e,cA]at h;cases h
  ·subst h;exact .inr (.inl ⟨cA a,beq_self_eq_true a,cmpL_eq a⟩)
  ·refine .inr (.inr ⟨gu h,?_,yg h⟩)
   rw [beq_eq_false_iff_ne];intro e;rw[e,cA]at h;cases h
 have e1:Go.Op.bytesLess (bs a).toList (bs b).toList=x:=by rw[bk,bk];exact hx
 have e2:((bs a).toList == (bs b).toList)=y:=by rw[bk,bk];exact hy
 have HC:=zH hc;clear hx hy hc;rcases hf with⟨rfl,rfl,rfl⟩|⟨rfl,rfl,rfl⟩|⟨rfl,rfl,rfl⟩
 all_goals
  go_enter Tryz.func177,Tryz.ntmps177;go_wp2_with fail;refine (wN _ _).mono ?_;rintro e w1 ⟨rfl,b1⟩;go_wp2_with fail;refine (wN _ _).mono ?_;rintro e w2 ⟨rfl,b2⟩;go_wp2_with fail;go_ret;exact aI.mk (aB (by rw[HC.out])) (b1.trans b2)
theorem JV (a n:List UInt8) (no:Int) (w:World):Calls Tryz.prog 148 #[.agg #[bs a,.int .i64 no],bs n] w (aI w (.int .i64 (cmpL a n))):=by
 go_enter Tryz.func148,Tryz.ntmps148;go_wp2_with fail;refine (zS a n _).mono ?_;rintro e w1 ⟨rfl,b1⟩;go_wp2_with fail;go_ret;exact aI.mk rfl (((Ext.refl _).alloc _).trans b1)
def bh (w:World) (A:Option Addr) (l:List ay):Prop:=
 l = []\/∃b o,A=some ⟨b,o,none⟩/\b<w.heap.size/\∀k,(h:k<l.length)->w.cell? ⟨b,o+k*2,none⟩=some (.string (bs l[k].1))/\w.cell? ⟨b,o+k*2+1,none⟩=some (.int .i64 l[k].2)
theorem bh.ext {w w':World} {A:Option Addr} {l:List ay} (h:bh w A l) (k:Ext w w'):bh w' A l:=by
 rcases h with h|⟨b,o,hA,hb,hc⟩
 ·exact .inl h
 ·refine .inr ⟨b,o,hA,by have:=k.size;omega,fun i hi=>?_⟩
  rw [k.cell hb,k.cell hb];exact hc i hi
theorem bh.at_ {w wr:World} {A:Option Addr} {l:List ay} (h:bh w A l) (hE:Ext w wr) (k:Nat) (hk:k<l.length) :
  ∃ b o,A=some ⟨b,o,none⟩/\b<wr.heap.size/\wr.cell? ⟨b,o+k*2,none⟩=some (.string (bs l[k].1))/\wr.cell? ⟨b,o+k*2+1,none⟩=some (.int .i64 l[k].2):=by
 rcases h.ext hE with h0|⟨b,o,hA,hb,hc⟩
 ·rw[h0]at hk;simp at hk
 ·exact⟨b,o,hA,hb,hc k hk⟩
theorem oZ {l:List ay} {nm:List UInt8} (hr:iq l) {i k:Nat} (hik:i<k) (hk:k<l.length) (h:lt l[k] nm=true):lt (l[i]'(by omega)) nm=true:=
 kO (List.pairwise_iff_getElem.1 hr i k (by omega) hk hik) h
theorem kP (A:Option Addr) (l:List ay) (cap:Nat) (nm:List UInt8) (w:World) (h:bh w A l) (hr:iq l) (hlen:l.length<=1000000):Calls Tryz.prog 147 #[.slice A l.length cap,bs nm,.func (Fn.func 148) #[] #[]] w (aI w (.tuple #[.int .i64 (pos l nm),.bool (has l nm)])):=by
 obtain⟨n,hn⟩:=zE l.length;rw [<-hn]at hlen|-;have HN:=zH hn;clear hn;go_enter Tryz.func147,Tryz.ntmps147;go_wp2_with fail;go_loopw [9,10] (fun iv jv wr=>∃i j:Nat,iv=.int .i64 i/\jv=.int .i64 j/\i<=j/\j<=n/\Hid (∀k,(h:k<l.length)->k<i->lt l[k] nm=true)/\Hid (∀k,(h:k<l.length)->j<=k->lt l[k] nm=false)/\Ext w wr) (fun iv jv _=>(intOf jv).toNat-(intOf iv).toNat)
 case atStart=>exact⟨0,n,rfl,rfl,by omega,Nat.le_refl _,fun k _ h=>absurd h (by omega),fun k h h2=>absurd h2 (by have:=HN.out;omega),Ext.refl _⟩
 case round =>
  obtain ⟨i,j,rfl,rfl,hij,hjn,ha,hb,hE⟩:=hrel
  by_cases hlt:(i:Int)<j
  ·obtain⟨m,hm⟩:=zE ((i+j) / 2)
   have fX:i<=m:=by omega
   have bU:m<j:=by omega
   have ES:m<l.length:=by have:=HN.out;omega
   have e1:((i:Int)+(j:Int)) / 2=(m:Int):=by omega
   have JW:(m:Int)<(n:Int):=by omega
   have hm0:(0:Int)<=(m:Int):=by omega
   clear hm;obtain ⟨b,o,rfl,o7,hc⟩:=h.at_ hE m ES;obtain ⟨ca,cb⟩:=hc
   generalize sI:l[m]=x at ca cb
   have h1:=zH sI;clear sI;go_wp2_with fail;refine (JV _ _ _ _).mono ?_;rintro e w1 ⟨rfl,b1⟩
   by_cases hl:lt x nm=true
   ·have e:cmpL x.1 nm=-1:=ye hl
    rw [e];have JX:Hid (∀k,(h:k<l.length)->k<m+1->lt l[k] nm=true):=fun k h3 h4=>by
     by_cases hk:k=m
     ·subst hk
      have q:=h1.out;rw [q];exact hl
     ·exact oZ hr (show k<m by omega) ES (by have q:=h1.out;rw[q];exact hl)
    clear e hl;go_wp2_with fail;go_roundw
    case rel=>exact⟨m+1,j,by go_num,rfl,by omega,hjn,JX,hb,hE.trans b1⟩
    case measure=>simp[intOf];omega
   ·have rh:lt x nm=false:=by simpa using hl
    have e:decide (cmpL x.1 nm<0)=false:=by
     rcases lq x.1 nm with g|g|g
     ·exact absurd g hl
     ·rw[g,cmpL_eq];rfl
     ·rw[yg g];rfl
    have hb2:Hid (∀k,(h:k<l.length)->m<=k->lt l[k] nm=false):=fun k h3 h4=>by
     cases hv:lt l[k] nm
     ·rfl
     ·by_cases hk:m=k
      ·subst hk
       have q:=h1.out;rw [q,rh]at hv;cases hv
      ·have:=oZ hr (show m<k by omega) h3 hv
       rw [h1.out,rh]at this;cases this
    clear hl rh;go_wp2_with fail;go_roundw
    case rel=>exact⟨i,m,rfl,rfl,by omega,by omega,ha,hb2,hE.trans b1⟩
    case measure=>simp[intOf];omega
  ·have aag:i=j:=by omega
   subst aag;have hp:i=pos l nm:=CK l nm hr i (by have:=HN.out;omega) ha.out hb.out;have hh:=ER l nm hr;rw [<-hp]at hh;have HP:=zH hp;clear hp hlt
   by_cases kC:(i:Int)<n
   ·have hil:i<l.length:=by have:=HN.out;omega
    rw [dif_pos hil]at hh;obtain ⟨b,o,rfl,o7,hc⟩:=h.at_ hE i hil;obtain ⟨ca,cb⟩:=hc
    generalize sI:l[i]=x at ca cb hh
    have hq:(cmpL x.1 nm == 0)=has l nm:=by
     rw [hh];rcases lq x.1 nm with g|g|g
     ·rw [ye g];symm;rw[beq_eq_false_iff_ne.2];· rfl
      intro e;rw[e,cA]at g;cases g
     ·rw[g,cmpL_eq];simp
     ·rw [yg g];symm;rw[beq_eq_false_iff_ne.2];· rfl
      intro e;rw[e,cA]at g;cases g
    have HQ:=zH hq;clear sI hh hq;go_wp2_with fail;refine (JV _ _ _ _).mono ?_;rintro e w1 ⟨rfl,b1⟩;go_wp2_with fail;go_ret2;exact aI.mk (by rw[HQ.out,<-HP.out];rfl) (hE.trans b1)
   ·rw [dif_neg (by have:=HN.out;omega)]at hh
    have HH:=zH hh;clear hh;go_wp2_with fail;go_ret2;exact aI.mk (by rw[HH.out,<-HP.out];rfl) hE
def aq (l:List ay):List Value:=l.flatMap fun x=>[.string (bs x.1),.int .i64 x.2]
theorem cE (l:List ay):(aq l).length=l.length*2:=by
 unfold aq
 induction l with
 | nil=>rfl
 | cons x l ih=>rw[List.flatMap_cons,List.length_append,ih];simp;omega
theorem dW (a b:List ay):aq (a++b)=aq a++aq b:=by unfold aq;rw[List.flatMap_append]
theorem dA (l:List ay):∀u∈aq l,u.oneCell'=true:=by
 intro u hu;unfold aq at hu;rw [List.mem_flatMap]at hu;obtain ⟨x,_,hx⟩:=hu;rcases List.mem_cons.1 hx with rfl|hx
 ·rfl
 ·rw[List.mem_singleton.1 hx];rfl
theorem p6 (l:List ay):∀k,(h:k<l.length)->(aq l)[k*2]?=some (.string (bs l[k].1))/\(aq l)[k*2+1]?=some (.int .i64 l[k].2):=by
 induction l with
 | nil=>intro k h;cases h
 | cons x l ih =>
  intro k h;have e:aq (x::l)=.string (bs x.1)::.int .i64 x.2::aq l:=rfl;rw [e]
  cases k with
  | zero=>exact⟨rfl,rfl⟩
  | succ k =>
   have:=ih k (by simpa using h);rw [show (k+1)*2=k*2+1+1 by omega];simpa using this
theorem bh.cells {w:World} {b o:Nat} {l:List ay} (h:bh w (some ⟨b,o,none⟩) l):∀j u,(aq l)[j]?=some u->w.cell? ⟨b,o+j,none⟩=some u:=by
 intro j u hu;have hj:j<l.length*2:=by
  rw [<-cE];rcases Nat.lt_or_ge j (aq l).length with h'|h'
  ·exact h'
  ·rw[List.getElem?_eq_none h']at hu;cases hu
 rcases h with h|⟨b',o',hA,_,hc⟩
 ·subst h;simp at hj
 ·injection hA with hA
  injection hA with h1 h2;subst h1 h2;have hk:=hc (j / 2) (by omega);have hg:=p6 l (j / 2) (by omega);rcases Nat.mod_two_eq_zero_or_one j with hm|hm
  ·have e:j / 2*2=j:=by omega
   rw [e]at hk hg;rw [hk.1,<-hg.1,hu]
  ·have e:j / 2*2+1=j:=by omega
   have e2:o+j / 2*2+1=o+j:=by omega
   rw [e]at hg;rw [e2]at hk;rw [hk.2,<-hg.2,hu]
def dH (w:World) (base:Nat) (v:Value) (l:List ay):Prop:=w.ownsRow base 153 2 v l.length (aq l)
theorem dH.at_ {w:World} {base:Nat} {v:Value} {l:List ay} (h:dH w base v l):∃A cap,v=.slice A l.length cap/\l.length<=cap/\cap<=maxLen/\bh w A l:=by
 unfold dH at h;rcases h.2 with⟨rfl,h0⟩|⟨g,cap,cur,rfl,_,hg,hn,hm,hsz,htake⟩
 ·have:l=[]:=List.eq_nil_of_length_eq_zero h0
  subst this;exact ⟨none,0,rfl,Nat.le_refl _,by decide,.inl rfl⟩
 ·refine ⟨_,cap,rfl,hn,hm,.inr ⟨g,0,rfl,?_,fun k hk=>?_⟩⟩
  ·rcases Nat.lt_or_ge g w.heap.size with h'|h'
   ·exact h'
   ·simp[Array.getElem?_eq_none h']at hg
  ·have hc:=h.cells (g:=g) rfl
   have hg:=p6 l k hk;have h1:=hc _ _ hg.1;have h2:=hc _ _ hg.2;simp only[Addr.add_lit]at h1 h2;rw [Nat.add_assoc];exact ⟨h1,h2⟩
theorem jT:(Tryz.prog.info? 153).map (fun i=>(i.zero,i.size,i.bytes))=some (some (.agg #[.string ⟨#[]⟩,.int .i64 0]),2,24):=by kernel_rfl
theorem jl (z:Array Value) (n:Nat):(Builtin.zeroCells z n).size=n*z.size:=by
 unfold Builtin.zeroCells;simp
theorem Pj (w:World) (G n:Nat) (hge:n<=G) (hle:G<=maxLen):dH ((w.alloc (.cells (Builtin.zeroCells #[.string ⟨#[]⟩,.int .i64 0] n++Builtin.zeroCells #[.string ⟨#[]⟩,.int .i64 0] (G-n)) 153)).drew) w.heap.size (.slice (some ⟨w.heap.size,0,none⟩) 0 G) []:=by
 refine ⟨rfl,.inr ⟨w.heap.size,G,Builtin.zeroCells #[.string ⟨#[]⟩,.int .i64 0] n++Builtin.zeroCells #[.string ⟨#[]⟩,.int .i64 0] (G-n),rfl,Nat.le_refl _,Has.new w _,Nat.zero_le _,hle,?_,rfl⟩⟩;rw [Array.size_append,jl,jl];show n*2+(G-n)*2=G*2;omega
theorem JY (n:Nat) (w:World) (hn:n<=1000000):Calls Tryz.prog 222 #[.slice none 0 0,.int .i64 n] w fun e w'=>∃v,e=.returned v/\dH w' w.heap.size v []/\Ext w w':=by
 by_cases h0:n=0
 ·subst h0
  go_enter Tryz.func222,Tryz.ntmps222;go_wp2_with fail;go_ret;exact ⟨_,rfl,⟨rfl,.inl ⟨rfl,rfl⟩⟩,Ext.refl _⟩
 ·obtain ⟨i0,hi,hz0,hz1,hz2⟩:=info_parts jT
  have hrun:=fun ty=>Lib.run_append_nil_zeros (P:=Tryz.prog) w 64 3 ty 153 i0 _ .i64 .i64 Tryz.underlying64 Tryz.underlying3 hi hz0 n (by omega) (by rw[hz1];decide) (by omega) (by rw[hz2];omega)
  have hge:=grownCap_ge w n 0 153;have hle:=grownCap_le_maxLen w n 0 153 (by unfold maxLen;omega)
  generalize grownCap w n 0 153=G at hrun hge hle
  have hG:(G:Int)<=9223372036854775807:=by unfold maxLen at hle;omega
  have hpos:0<(n:Int):=by omega
  have HR:=zH hrun;clear hrun h0;go_enter Tryz.func222,Tryz.ntmps222;go_wp2_with (at_builtin;refine Lib.wpList_append_run _ rfl _ _ 64 3 rfl _ _ rfl rfl _ _ (HR.out _) ?_);go_ret;refine ⟨.slice (some ⟨w.heap.size,0,none⟩) 0 G,rfl,?_,((Ext.refl _).alloc _).drew⟩;exact Pj w G n hge hle
abbrev Part:=Option Addr×Nat×List ay
def wO (w:World) (b:Nat) (ps:List Part):Prop:=
 b<w.heap.size/\∀i,(h:i<ps.length)->w.cell? ⟨b,i,none⟩=some (.slice ps[i].1 ps[i].2.2.length ps[i].2.1)/\bh w ps[i].1 ps[i].2.2/\(ps[i].1=none->ps[i].2.1=0)
theorem wO.ext {w w':World} {b:Nat} {ps:List Part} (h:wO w b ps) (k:Ext w w'):wO w' b ps:=
 ⟨by have:=k.size;have:=h.1;omega,fun i hi=>⟨by rw[k.cell h.1];exact (h.2 i hi).1,(h.2 i hi).2.1.ext k,(h.2 i hi).2.2⟩⟩
def ef (ps:List Part):List ay:=ps.flatMap (·.2.2)
theorem tU (ps:List Part) (i:Nat) (h:i<ps.length):ef (ps.take (i+1))=ef (ps.take i)++ps[i].2.2:=by
 unfold ef;rw [List.take_succ_eq_append_getElem h,List.flatMap_append];simp
theorem o_ (ps:List Part) (i:Nat):(ef (ps.take i)).length<=(ef ps).length:=by
 have:ef ps=ef (ps.take i)++ef (ps.drop i):=by unfold ef;rw[<-List.flatMap_append,List.take_append_drop]
 rw [this,List.length_append];omega
theorem mo (b cap:Nat) (ps:List Part) (w:World) (hp:wO w b ps) (hlen:(ef ps).length<=1000000) (hk:ps.length<=1000000):Calls Tryz.prog 211 #[.slice (some ⟨b,0,none⟩) ps.length cap] w fun e w'=>∃v,e=.returned v/\dH w' w.heap.size v (ef ps)/\Ext w w':=by
 obtain⟨q,hq⟩:=zE ps.length;rw [<-hq]at hk|-;have HQ:=zH hq;clear hq;go_enter Tryz.func211,Tryz.ntmps211;go_wp2_with fail;go_loop [3,11] (fun s i=>∃k n:Nat,k<=q/\i=.int .i64 k/\s=.int .i64 n/\n<=1000000/\Hid (n=(ef (ps.take k)).length)) (fun _ i=>q-(intOf i).toNat)
 case atStart=>exact⟨0,0,Nat.zero_le _,rfl,rfl,by omega,rfl⟩
 case round =>
  obtain ⟨k,n,hkq,rfl,rfl,hn,Hn⟩:=hrel
  by_cases hlt:(k:Int)<q
  ·have dI:k<ps.length:=by have:=HQ.out;omega
   obtain ⟨hc,he,-⟩:=hp.2 k dI;have hs:=tU ps k dI;have hle:=o_ ps (k+1);rw [hs,List.length_append]at hle
   generalize hx:ps[k]=x at hc he hs hle
   obtain ⟨A,c,l⟩:=x;obtain⟨m,hm⟩:=zE l.length;have hn':n+m<=1000000:=by have:=Hn.out;simp at hle;omega
   have Hn2:Hid (n+m=(ef (ps.take (k+1))).length):=by show _=_;rw[hs,List.length_append];have:=Hn.out;simp;omega
   simp only[]at hc;rw [<-hm]at hc;clear hs hle hx he hm;go_wp2_with fail;go_round
   case rel=>exact⟨k+1,n+m,by omega,by go_num,by go_num,hn',Hn2⟩
   case measure=>simp[intOf];omega
  ·have aah : k=q:=by omega
   subst aah;clear hlt;go_wp2_with fail;refine (JY n _ hn).mono ?_;rintro e w1 ⟨v,rfl,ho,b1⟩;have B1:=zH b1;have HQ':=trivial;go_wp2_with fail;obtain ⟨i0,hi,hz0,hz1,hz2⟩:=info_parts jT;clear b1 HQ' hkq;go_loopw [6,27] (fun u i wr=>∃j:Nat,j<=k/\i=.int .i64 j/\dH wr w.heap.size u (ef (ps.take j))/\Ext w wr) (fun _ i _=>k-(intOf i).toNat)
   case atStart=>exact⟨0,Nat.zero_le _,rfl,ho,B1.out⟩
   case round =>
    obtain ⟨j,Jv,rfl,hown,hE⟩:=hrel
    by_cases hlt:(j:Int)<k
    ·have hjl:j<ps.length:=by have:=HQ.out;omega
     obtain ⟨hc,he,hnone⟩:=(hp.ext hE).2 j hjl;have hs:=tU ps j hjl;have hle:=o_ ps (j+1);rw [hs,List.length_append]at hle
     generalize hx:ps[j]=x at hc he hs hle hnone
     obtain ⟨A,c,l⟩:=x;simp only[]at hc he hs hle hnone
     cases A with
     | none =>
      have j_:l=[]:=by
       rcases he with h|⟨b',o',h,_⟩
       ·exact h
       ·cases h
      subst j_;obtain rfl:c=0:=hnone rfl;have ii:Hid (dH wr w.heap.size u6 (ef (ps.take (j+1)))):=by show dH _ _ _ _;rw[hs,List.append_nil];exact hown
      clear hs hle he hnone hx;go_wp2_with (at_builtin;refine wpList_append_own_none rfl _ _ 64 rfl _ 153 i0 2 Tryz.underlying64 hi _ _ _ rfl hown rfl ?_);go_roundw
      case rel=>exact⟨j+1,by omega,by go_num,ii.out,hE⟩
      case measure=>simp[intOf];omega
     | some ad =>
      have hnews:∀j u,(aq l)[j]?=some u->wr.cell? (ad.add j)=some u:=by
       intro j' u' hu;rcases he with h|⟨b',o',h,hb,h2⟩
       ·subst h;simp[aq]at hu
       ·injection h with h
        subst h;rw [Addr.add_lit];exact bh.cells (.inr ⟨b',o',rfl,hb,h2⟩) j' u' hu
      have iE:(ef (ps.take j)).length+l.length<=1000000:=by omega
      have JZ:=zH hnews;have HS:=zH hs;obtain⟨P,hP⟩:=zE (ef (ps.take j));rw [<-hP]at iE hown HS;obtain⟨m,hm⟩:=zE l.length;rw [<-hm]at hc iE;have HM:=zH hm;unfold dH at hown;clear hnews hs hle he hnone hx hP hm;go_wp2_with (at_builtin;refine wpList_append_own _ rfl _ _ 64 rfl w.heap.size 153 i0 (.agg #[.string ⟨#[]⟩,.int .i64 0]) 2 24 Tryz.underlying64 hi hz0 hz1 hz2 rfl (by decide) _ _ _ rfl hown ad m c (aq l) rfl (by rw[cE,HM.out]) JZ.out (dA l) (by unfold maxLen;omega) (by omega) hE.size ?_);intro v' w2 ii hgrow _;have mO:Hid (dH w2 w.heap.size v' (ef (ps.take (j+1)))):=by
       show dH _ _ _ _;unfold dH;rw [HS.out,dW,List.length_append,<-HM.out];exact ii
      have kD:Ext w w2:=hE.grown hgrow (fun g hg=>(hown.lt g hg).1);clear ii hgrow;go_wp2_with fail;go_roundw
      case rel=>exact⟨j+1,by omega,by go_num,mO.out,kD⟩
      case measure=>simp[intOf];omega
    ·have aai:j=k:=by omega
     subst aai;have ht:Hid (ef (ps.take j)=ef ps):=by show _=_;rw[HQ.out,List.take_length]
     clear hlt;go_wp2_with fail;go_ret;exact ⟨_,rfl,by rw[<-ht.out];exact hown,hE⟩
def numOf (l:List ay) (nm:List UInt8):Int:=if has l nm=true then (l.getD (pos l nm) ([],0)).2 else 0
theorem yh {l:List ay} {nm:List UInt8} (hr:iq l) (h:has l nm=true):∃hp:pos l nm<l.length,(l[pos l nm]'hp).1=nm:=by
 rw [ER l nm hr]at h;split at h
 ·rename_i hp;exact⟨hp,by simpa using h⟩
 ·cases h
theorem nv (A:Option Addr) (l:List ay) (cap:Nat) (nm:List UInt8) (w:World) (h:bh w A l) (hr:iq l) (hlen:l.length<=1000000):Calls Tryz.prog 100 #[.slice A l.length cap,bs nm] w (aI w (.int .i64 (numOf l nm))):=by
 have hf:Hid (numOf l nm=if has l nm=true then (l.getD (pos l nm) ([],0)).2 else 0):=rfl
 cases hh:has l nm
 ·rw [hh]at hf
  have HH:=zH hh;clear hh;go_enter Tryz.func100,Tryz.ntmps100;go_wp2_with fail;refine (kP A l cap nm _ h hr hlen).mono ?_;rintro e w1 ⟨rfl,b1⟩;rw [HH.out];go_wp2_with fail;go_ret;exact aI.mk (aB (by rw[hf.out];rfl)) b1
 ·rw [hh]at hf
  obtain ⟨hp,-⟩:=yh hr hh;obtain⟨p,pC⟩:=zE (pos l nm);have HH:=zH hh;rw [<-pC]at hf;have hpl:p<l.length:=by rw[pC];exact hp
  have HP:=zH pC;clear hh hp pC;obtain⟨n,hn⟩:=zE l.length;have SS:(p:Int)<(n:Int):=by omega
  have HN:=zH hn;clear hn;go_enter Tryz.func100,Tryz.ntmps100;rw [<-HN.out];go_wp2_with fail;rw [HN.out];refine (kP A l cap nm _ h hr hlen).mono ?_;rintro e w1 ⟨rfl,b1⟩;rw [HH.out,<-HP.out,<-HN.out];obtain ⟨b,o,rfl,o7,ca,cb⟩:=h.at_ b1 p hpl;have hx:Hid ((l.getD p ([],0)).2=(l[p]).2):=by show _=_;rw[List.getD_eq_getElem?_getD,List.getElem?_eq_getElem hpl];rfl
  generalize l[p]=x at ca cb hx
  go_wp2_with fail;go_ret;exact aI.mk (aB (by rw[hf.out,if_pos trivial,hx.out])) b1
theorem bh.take {w:World} {A:Option Addr} {l:List ay} (h:bh w A l) (k:Nat):bh w A (l.take k):=by
 rcases h with h|⟨b,o,hA,hb,hc⟩
 ·subst h;exact .inl (by simp)
 ·refine .inr ⟨b,o,hA,hb,fun i hi=>?_⟩
  rw [List.length_take]at hi;rw [List.getElem_take];exact hc i (by omega)
theorem bh.drop {w:World} {b o:Nat} {l:List ay} (h:bh w (some ⟨b,o,none⟩) l) (k:Nat):bh w (some ⟨b,o+k*2,none⟩) (l.drop k):=by
 rcases h with h|⟨b',o',hA,hb,hc⟩
 ·subst h;exact .inl (by simp)
 ·injection hA with hA
  injection hA with h1 h2;subst h1 h2;refine .inr ⟨b,o+k*2,rfl,hb,fun i hi=>?_⟩;rw [List.length_drop]at hi;rw [List.getElem_drop];have:=hc (k+i) (by omega);rw [show o+k*2+i*2=o+(k+i)*2 by omega];exact this
theorem J0 {W:World} {B:Nat} {A1 A2:Option Addr} {c1 c2:Nat} {l1 l2:List ay} (h0:W.cell? ⟨B,0,none⟩=some (.slice A1 l1.length c1)) (h1:W.cell? ⟨B,1,none⟩=some (.slice A2 l2.length c2)) (e1:bh W A1 l1) (e2:bh W A2 l2) (hB:B<W.heap.size) (z1:A1=none->c1=0) (z2:A2=none->c2=0) :
  wO W B [(A1,c1,l1),(A2,c2,l2)]:=by
 refine ⟨hB,fun i hi=>?_⟩
 match i,hi with
 | 0,_=>exact⟨h0,e1,z1⟩
 | 1,_=>exact⟨h1,e2,z2⟩
theorem dH.base {w:World} {B B':Nat} {v:Value} {l:List ay} (h:dH w B v l) (hB:B'<=B):dH w B' v l:=by
 refine ⟨h.1,?_⟩;rcases h.2 with h|⟨g,cap,cur,h1,h2,h3⟩
 ·exact .inl h
 ·exact .inr ⟨g,cap,cur,h1,Nat.le_trans hB h2,h3⟩
def zT (l:List ay) (nm:List UInt8):List ay:=l.take (pos l nm)++l.drop (pos l nm+1)
def aaj (w:World) (l:List ay) (e:Ending) (w':World):Prop:=∃v,e=.returned (.tuple #[v,.bool true])/\dH w' w.heap.size v l/\Ext w w'
theorem J1 (A:Option Addr) (l:List ay) (cap:Nat) (nm:List UInt8) (w:World) (h:bh w A l) (hr:iq l) (hcap:l.length<=cap) (pd:cap<=maxLen) (hlen:l.length<=1000000) (hh:has l nm=true):Calls Tryz.prog 199 #[.slice A l.length cap,bs nm] w (aaj w (zT l nm)):=by
 obtain ⟨hp,-⟩:=yh hr hh;obtain⟨p,pC⟩:=zE (pos l nm);have HH:=zH hh;have hpl:p<l.length:=by rw[pC];exact hp
 have hcut:Hid (zT l nm=l.take p++l.drop (p+1)):=by show _=_;rw[pC];rfl
 have HP:=zH pC;clear hh hp pC;obtain⟨n,hn⟩:=zE l.length;have SS:(p:Int)<(n:Int):=by omega
 have hnc:n<=cap:=by omega
 have hcm:cap<=9223372036854775807:=by unfold maxLen at pd;omega
 have HN:=zH hn;obtain ⟨b,o,rfl,-⟩:=h.at_ (Ext.refl w) p hpl;clear hn hcap pd;go_enter Tryz.func199,Tryz.ntmps199;rw [<-HN.out];go_wp2_with fail;rw [HN.out];refine (kP _ l cap nm _ h hr hlen).mono ?_;rintro e w1 ⟨rfl,b1⟩;rw [HH.out,<-HP.out,<-HN.out];have g1:IntKind.i64.wrap ((p:Int)+1)=(p:Int)+1:=a_ (by omega) (by omega);have g2:(0:Int)<=(p:Int)+1:=by omega
 have g3:((p:Int)+1).toNat=p+1:=by omega
 go_wp2_with fail;have yi:=b1;have hpc:p<=cap:=by omega
 have aak:(p:Int)+1<=(n:Int):=by omega
 have lt:(l.take p).length=p:=by rw[List.length_take];omega
 have ld:(l.drop (p+1)).length=n-(p+1):=by rw[List.length_drop,<-HN.out]
 have J2:(ef [((some ⟨b,o,none⟩:Option Addr),cap,l.take p),(some ⟨b,o+(p+1)*2,none⟩,cap-(p+1),l.drop (p+1))]).length<=1000000:=by
  unfold ef;simp only[List.flatMap_cons,List.flatMap_nil,List.append_nil,List.length_append,lt,ld];have:=HN.out;omega
 have RF:ef [((some ⟨b,o,none⟩:Option Addr),cap,l.take p),(some ⟨b,o+(p+1)*2,none⟩,cap-(p+1),l.drop (p+1))]=l.take p++l.drop (p+1):=by unfold ef;simp
 have LT:=zH lt;have LD:=zH ld;have HL:=zH J2;have HF:=zH RF;clear lt ld J2 RF
 by_cases hc1:cap=p+1
 ·have ET:l.drop (p+1)=[]:=by rw[List.drop_eq_nil_iff,<-HN.out];omega
  obtain rfl:n=p+1:=by omega
  subst hc1;have HD:=zH ET;clear ET;have pC:(p:Int)<=(p:Int)+1:=by omega
  have yj:Hid (ef [((some ⟨b,o,none⟩:Option Addr),p+1,l.take p),(some ⟨b,o,none⟩,0,[])]=l.take p++l.drop (p+1)):=by show _=_;rw[HD.out];unfold ef;simp
  have rh:Hid ((ef [((some ⟨b,o,none⟩:Option Addr),p+1,l.take p),(some ⟨b,o,none⟩,0,[])]).length<=1000000):=by show _<=_;rw[yj.out,HD.out,List.append_nil,LT.out];have:=HN.out;omega
  clear HL HF LD;go_region_held3 (fun w'=>Ext w w') ((first|exact b1.drew|exact (b1.alloc _).drew|exact b1.drew.alloc _|exact Gc))
   ((go_at_call 211;refine (mo _ _ [((some ⟨b,o,none⟩:Option Addr),p+1,l.take p),(some ⟨b,o,none⟩,0,[])] _ (J0 (by rw[LT.out];exact (Has.new w1 _).cell 0) ((Has.new w1 _).cell 1) ((h.ext (b1.alloc _).drew).take p) (.inl rfl) (Has.new w1 _).lt (by intro h;cases h) (by intro h;cases h)) rh.out (by show 2<=1000000;omega)).mono ?_;rintro e w2 ⟨v,rfl,ho,b2⟩;have Gc:=(b1.alloc _).drew.trans b2))
  go_wp2_with fail;go_ret2;exact ⟨v,rfl,by rw[hcut.out,<-yj.out];exact ho.base (by have:=b1.size;simp;omega),Gc⟩
 ·have tF:decide (cap=p+1)=false:=decide_eq_false hc1
  go_region_held3 (fun w'=>Ext w w') ((first|exact b1.drew|exact (b1.alloc _).drew|exact b1.drew.alloc _|exact Gc))
   ((go_at_call 211;refine (mo _ _ [((some ⟨b,o,none⟩:Option Addr),cap,l.take p),(some ⟨b,o+(p+1)*2,none⟩,cap-(p+1),l.drop (p+1))] _ (J0 (by rw[LT.out];exact (Has.new w1 _).cell 0) (by rw[LD.out];exact (Has.new w1 _).cell 1) ((h.ext (b1.alloc _).drew).take p) ((h.ext (b1.alloc _).drew).drop (p+1)) (Has.new w1 _).lt (by intro h;cases h) (by intro h;cases h)) HL.out (by show 2<=1000000;omega)).mono ?_;rintro e w2 ⟨v,rfl,ho,b2⟩;have Gc:=(b1.alloc _).drew.trans b2))
  go_wp2_with fail;go_ret2;exact ⟨v,rfl,by rw[hcut.out,<-HF.out];exact ho.base (by have:=b1.size;simp;omega),Gc⟩
theorem J3 {W:World} {B:Nat} {A1 A2 A3:Option Addr} {c1 c2 c3:Nat} {l1 l2 l3:List ay} (h0:W.cell? ⟨B,0,none⟩=some (.slice A1 l1.length c1)) (h1:W.cell? ⟨B,1,none⟩=some (.slice A2 l2.length c2)) (h2:W.cell? ⟨B,2,none⟩=some (.slice A3 l3.length c3)) (e1:bh W A1 l1) (e2:bh W A2 l2) (e3:bh W A3 l3) (hB:B<W.heap.size) (z1:A1=none->c1=0) (z2:A2=none->c2=0) (z3:A3=none->c3=0) :
  wO W B [(A1,c1,l1),(A2,c2,l2),(A3,c3,l3)]:=by
 refine ⟨hB,fun i hi=>?_⟩
 match i,hi with
 | 0,_=>exact⟨h0,e1,z1⟩
 | 1,_=>exact⟨h1,e2,z2⟩
 | 2,_=>exact⟨h2,e3,z3⟩
theorem lH {W:World} {B:Nat} {nm:List UInt8} {no:Int} (h:Has W B (.cells #[bs nm,.int .i64 no] 153)):bh W (some ⟨B,0,none⟩) [(nm,no)]:=by
 refine .inr ⟨B,0,rfl,h.lt,fun k hk=>?_⟩;obtain rfl:k=0:=by simp at hk;omega
 exact ⟨h.cell 0,h.cell 1⟩
def oR (l:List ay) (nm:List UInt8) (no:Int):List ay:=l.take (pos l nm)++(nm,no)::l.drop (pos l nm+if has l nm=true then 1 else 0)
def J5 (w:World) (l:List ay) (e:Ending) (w':World):Prop:=∃v,e=.returned v/\dH w' w.heap.size v l/\Ext w w'
theorem Pk (A:Option Addr) (l:List ay) (cap:Nat) (nm:List UInt8) (no:Int) (w:World) (h:bh w A l) (hr:iq l) (hcap:l.length<=cap) (pd:cap<=maxLen) (hlen:l.length<=999999) (hh:has l nm=true):Calls Tryz.prog 195 #[.slice A l.length cap,bs nm,.int .i64 no] w (J5 w (oR l nm no)):=by
 obtain ⟨hp,-⟩:=yh hr hh;obtain⟨p,pC⟩:=zE (pos l nm);have HH:=zH hh;have hpl:p<l.length:=by rw[pC];exact hp
 have hcut:Hid (oR l nm no=l.take p++(nm,no)::l.drop (p+1)):=by show _=_;unfold oR;rw[hh,if_pos rfl,pC]
 have HP:=zH pC;clear hh hp pC;obtain⟨n,hn⟩:=zE l.length;have SS:(p:Int)<(n:Int):=by omega
 have hnc:n<=cap:=by omega
 have hcm:cap<=9223372036854775807:=by unfold maxLen at pd;omega
 have HN:=zH hn;obtain ⟨b,o,rfl,-⟩:=h.at_ (Ext.refl w) p hpl;clear hn hcap pd;go_enter Tryz.func195,Tryz.ntmps195;rw [<-HN.out];go_wp2_with fail;rw [HN.out];refine (kP _ l cap nm _ h hr (by omega)).mono ?_;rintro e w1 ⟨rfl,b1⟩;rw [HH.out,<-HP.out,<-HN.out];have g1:IntKind.i64.wrap ((p:Int)+1)=(p:Int)+1:=a_ (by omega) (by omega);have g2:(0:Int)<=(p:Int)+1:=by omega
 have g3:((p:Int)+1).toNat=p+1:=by omega
 go_wp2_with fail;have hpc:p<=cap:=by omega
 have aak:(p:Int)+1<=(n:Int):=by omega
 have lt:(l.take p).length=p:=by rw[List.length_take];omega
 have LT:=zH lt;clear lt
 by_cases hc1:cap=p+1
 ·have ET:l.drop (p+1)=[]:=by rw[List.drop_eq_nil_iff,<-HN.out];omega
  obtain rfl:n=p+1:=by omega
  subst hc1;have HD:=zH ET;clear ET;have pC:(p:Int)<=(p:Int)+1:=by omega
  have yj:Hid (ef [((some ⟨b,o,none⟩:Option Addr),p+1,l.take p),(some ⟨w1.heap.size,0,none⟩,1,[(nm,no)]),(some ⟨b,o,none⟩,0,[])]=l.take p++(nm,no)::l.drop (p+1)):=by show _=_;rw[HD.out];unfold ef;simp
  have rh:Hid ((ef [((some ⟨b,o,none⟩:Option Addr),p+1,l.take p),(some ⟨w1.heap.size,0,none⟩,1,[(nm,no)]),(some ⟨b,o,none⟩,0,[])]).length<=1000000):=by show _<=_;rw[yj.out,List.length_append,LT.out,List.length_cons,List.length_drop];have:=HN.out;omega
  obtain⟨W1,bL⟩:=zE (w1.alloc (.cells #[bs nm,.int .i64 no] 153));have wP:Has W1 w1.heap.size (.cells #[bs nm,.int .i64 no] 153):=by rw[bL];exact Has.new _ _
  have X1:Ext w W1:=by rw[bL];exact b1.alloc _
  have z1:W1.heap.size=w1.heap.size+1:=by rw[bL];simp
  have HW:=zH bL;have HZ:=zH z1;clear bL z1;go_region_held3 (fun w'=>Ext w w') ((first|exact b1.drew|exact (b1.alloc _).drew|exact ((b1.alloc _).alloc _).drew|exact Gc))
   ((go_at_call 211;rw[<-HW.out,<-HZ.out];refine (mo _ _ [((some ⟨b,o,none⟩:Option Addr),p+1,l.take p),(some ⟨w1.heap.size,0,none⟩,1,[(nm,no)]),(some ⟨b,o,none⟩,0,[])] _ (J3 (by rw[LT.out];exact (Has.new W1 _).cell 0) ((Has.new W1 _).cell 1) (by exact (Has.new W1 _).cell 2) ((h.ext (X1.alloc _).drew).take p) (lH (wP.ext ((Ext.refl _).alloc _).drew)) (.inl rfl) (Has.new W1 _).lt (by intro h;cases h) (by intro h;cases h) (by intro h;cases h)) rh.out (by show 3<=1000000;omega)).mono ?_;rintro e w2 ⟨v,rfl,ho,b2⟩;have Gc:=(X1.alloc _).drew.trans b2))
  go_wp2_with fail;go_ret;exact ⟨v,rfl,by rw[hcut.out,<-yj.out];exact ho.base (by have:=X1.size;simp;omega),Gc⟩
 ·have tF:decide (cap=p+1)=false:=decide_eq_false hc1
  have ld:(l.drop (p+1)).length=n-(p+1):=by rw[List.length_drop,<-HN.out]
  have LD:=zH ld;clear ld;have yj:Hid (ef [((some ⟨b,o,none⟩:Option Addr),cap,l.take p),(some ⟨w1.heap.size,0,none⟩,1,[(nm,no)]),(some ⟨b,o+(p+1)*2,none⟩,cap-(p+1),l.drop (p+1))]=l.take p++(nm,no)::l.drop (p+1)):=by show _=_;unfold ef;simp
  have rh:Hid ((ef [((some ⟨b,o,none⟩:Option Addr),cap,l.take p),(some ⟨w1.heap.size,0,none⟩,1,[(nm,no)]),(some ⟨b,o+(p+1)*2,none⟩,cap-(p+1),l.drop (p+1))]).length<=1000000):=by show _<=_;rw[yj.out,List.length_append,LT.out,List.length_cons,List.length_drop];have:=HN.out;omega
  obtain⟨W1,bL⟩:=zE (w1.alloc (.cells #[bs nm,.int .i64 no] 153));have wP:Has W1 w1.heap.size (.cells #[bs nm,.int .i64 no] 153):=by rw[bL];exact Has.new _ _
  have X1:Ext w W1:=by rw[bL];exact b1.alloc _
  have z1:W1.heap.size=w1.heap.size+1:=by rw[bL];simp
  have HW:=zH bL;have HZ:=zH z1;clear bL z1;go_region_held3 (fun w'=>Ext w w') ((first|exact b1.drew|exact (b1.alloc _).drew|exact ((b1.alloc _).alloc _).drew|exact Gc))
   ((go_at_call 211;rw[<-HW.out,<-HZ.out];refine (mo _ _ [((some ⟨b,o,none⟩:Option Addr),cap,l.take p),(some ⟨w1.heap.size,0,none⟩,1,[(nm,no)]),(some ⟨b,o+(p+1)*2,none⟩,cap-(p+1),l.drop (p+1))] _ (J3 (by rw[LT.out];exact (Has.new W1 _).cell 0) ((Has.new W1 _).cell 1) (by rw[LD.out];exact (Has.new W1 _).cell 2) ((h.ext (X1.alloc _).drew).take p) (lH (wP.ext ((Ext.refl _).alloc _).drew)) ((h.ext (X1.alloc _).drew).drop (p+1)) (Has.new W1 _).lt (by intro h;cases h) (by intro h;cases h) (by intro h;cases h)) rh.out (by show 3<=1000000;omega)).mono ?_;rintro e w2 ⟨v,rfl,ho,b2⟩;have Gc:=(X1.alloc _).drew.trans b2))
  go_wp2_with fail;go_ret;exact ⟨v,rfl,by rw[hcut.out,<-yj.out];exact ho.base (by have:=X1.size;simp;omega),Gc⟩
theorem Gd (A:Option Addr) (l:List ay) (cap:Nat) (w:World) (h:bh w A l) (hnone:A=none->cap=0) (hlen:l.length<=1000000):Calls Tryz.prog 213 #[.slice A l.length cap] w (J5 w l):=by
 obtain⟨n,hn⟩:=zE l.length;have HN:=zH hn
 cases A with
 | none =>
  have j_:l=[]:=by
   rcases h with h|⟨b',o',h,_⟩
   ·exact h
   ·cases h
  subst j_;obtain rfl:cap=0:=hnone rfl;clear hnone hn HN;have e0:∀w,(binOp .eql 64 (.slice none 0 0) (.slice none 0 0)).run Tryz.prog w=.ok (.bool true) w:=fun w=>Lib.run_eql_slice_nil w _ _ none 0 0 0 0 Tryz.underlying64
  show Calls _ _ #[.slice none 0 0] _ _;go_enter Tryz.func213,Tryz.ntmps213;go_wp2_with fail;go_ret;exact ⟨_,rfl,⟨rfl,.inl ⟨rfl,rfl⟩⟩,Ext.refl _⟩
 | some ad =>
  rw [<-hn]at hlen|-;clear hnone hn;obtain ⟨i0,hi,hz0,hz1,hz2⟩:=info_parts jT;have e0:∀w,(binOp .eql 64 (.slice (some ad) n cap) (.slice none 0 0)).run Tryz.prog w=.ok (.bool false) w:=fun w=>Lib.run_eql_slice_nil w _ _ (some ad) n cap 0 0 Tryz.underlying64
  go_enter Tryz.func213,Tryz.ntmps213;have hown:(w.alloc (.cells #[] 153)).ownsRow w.heap.size 153 2 (.slice (some ⟨w.heap.size,0,none⟩) 0 0) 0 []:=⟨rfl,.inr ⟨w.heap.size,0,#[],rfl,Nat.le_refl _,Has.new w _,Nat.le_refl _,by decide,rfl,rfl⟩⟩;have tf:∀j u,(aq l)[j]?=some u->(w.alloc (.cells #[] 153)).cell? (ad.add j)=some u:=by
   intro j u hu;rcases h.ext ((Ext.refl w).alloc (.cells #[] 153)) with h|⟨b',o',h,hb,h2⟩
   ·subst h;simp[aq]at hu
   ·injection h with h
    subst h;rw [Addr.add_lit];exact bh.cells (.inr ⟨b',o',rfl,hb,h2⟩) j u hu
  have HO:=zH hown;have HE:=zH tf;clear hown tf;go_wp2_with (at_builtin;refine wpList_append_own _ rfl _ _ 64 rfl w.heap.size 153 i0 (.agg #[.string ⟨#[]⟩,.int .i64 0]) 2 24 Tryz.underlying64 hi hz0 hz1 hz2 rfl (by decide) _ _ _ rfl HO.out ad n cap (aq l) rfl (by rw[cE,HN.out]) HE.out (dA l) (by unfold maxLen;omega) (by omega) (by simp) ?_);intro v' w2 ii hgrow _;have mO:Hid (dH w2 w.heap.size v' l):=by
   show dH _ _ _ _;unfold dH;have h3:w2.ownsRow w.heap.size 153 2 v' n (aq l):=ii;rw [HN.out]at h3;exact h3
  have kD:Ext w w2:=((Ext.refl w).alloc _).grown hgrow (fun g hg=>(HO.out.lt g hg).1);clear ii hgrow;go_wp2_with fail;go_ret;exact ⟨_,rfl,mO.out,kD⟩
theorem kE {P:Program} (w:World) (dT sT ty elem:TypeId) (g o WC aal:Nat) (a:Addr) (sLen sCap n:Nat) (cur:Array Value) (t:TypeId) (cs:List Value)
  (hu:P.underlying dT=some (.slice elem)) (hs:(P.info? elem).map (·.size)=some 2)
  (hg:w.heap[g]?=some (.cells cur t (0,0))) (hn:n=Nat.min sLen WC) (hl:cs.length=n*2)
  (aam:∀j v,cs[j]?=some v->w.cell? (a.add j)=some v) (hfit:o+cs.length<=cur.size) (h1:∀v∈cs,v.oneCell'=true) :
  (Builtin.copy_ #[dT,sT] ty #[.slice (some ⟨g,o,none⟩) WC aal,.slice (some a) sLen sCap]).run P w =
   .ok (goInt n) (w.setRow g (cur.toList.take o++cs++cur.toList.drop (o+cs.length)).toArray):=by
 have rh:=run_loadCells_list (P:=P) w a cs aam;have hst:=run_storeCells_at P g o t cs 0 cur w hg (by simpa using hfit) h1;rw [hl]at rh
 cases hq:P.info? elem with
 | none=>simp[hq]at hs
 | some i =>
  have hi:i.size=2:=by simpa [hq]using hs
  simp [Builtin.copy_,run_underlying hu,Builtin.lenOf,Builtin.firstCells,sizeOf,typeInfo,hq,hi,<-hn,rh,hst]
theorem sJ {P:Program} (w:World) {o:Oper} {a:Act} {K:Act->World->Prop} {Q:Exit->Act->World->Prop} (d s:Operand) (t t':TypeId)
  (ho:o.op=.call {callee:=.builtin .copy,args:=#[d,s],argTypes:=#[t,t']}) (v u:Value) (hd:a.eval d=v) (hs:a.eval s=u) {v':Value} {w':World}
  (hr:(Builtin.copy_ #[t,t'] o.type #[v,u]).run P w=.ok v' w') (h:K (a.put o.dst v') w'):o.wp P a w K Q:=by
 unfold Oper.wp execOp;simp only[ho,resolve,invoke,builtin,Sem.run_bind,Sem.run_pure,Result.andThen_ok,List.map_toArray,List.map_cons,List.map_nil,hd,hs,hr];exact h
theorem lI {P:Program} (w:World) {ops:Array Oper} {rest:List Oper} {o:Oper} {a:Act} {Q:Exit->Act->World->Prop} (hgd:o.guard=none) (d s:Operand) (t t':TypeId)
  (ho:o.op=.call {callee:=.builtin .copy,args:=#[d,s],argTypes:=#[t,t']}) (v u:Value) (hd:a.eval d=v) (hs:a.eval s=u) {v':Value} {w':World}
  (hr:(Builtin.copy_ #[t,t'] o.type #[v,u]).run P w=.ok v' w') (h:wpList P ops Q rest (a.put o.dst v') w'):wpList P ops Q (o::rest) a w:=
 wpList_plain hgd fun _ hK=>sJ w d s t t' ho v u hd hs hr (hK _ _ h)
theorem ny {P:Program} {ops:Array Oper} {o:Oper} {a:Act} {w:World} {K:Act->World->Prop} {Q:Exit->Act->World->Prop} {E:Prop}
  (hg:o.guard=none) (d x:Operand) (dT sT:TypeId) (hop:o.op=Op.call {callee:=Callee.builtin Builtin.copy,args:=#[d,x],argTypes:=#[dT,sT]})
  (v u:Value) (hd:a.eval d=v) (hx:a.eval x=u) {v':Value} {w':World} (hr:(Builtin.copy_ #[dT,sT] o.type #[v,u]).run P w=.ok v' w') (hK:K (a.put o.dst v') w') :
  if Region.wanted o (yielded ops a.tmps)=true then Oper.wp P o a w K Q else E:=by
 have hw:Region.wanted o (yielded ops a.tmps)=true:=by simp[Region.wanted,hg]
 rw [if_pos hw];exact sJ w d x dT sT hop v u hd hx hr hK
def rl (l:List ay) (p:Nat) (x:ay):List ay:=l.take p++x::l.drop p
def Pm (B:Nat) (w:World) (l:List ay) (e:Ending) (w':World):Prop:=∃v,e=.returned v/\dH w' B v l/\Below B w w'
theorem CL (B vb:Nat) (v:Value) (l:List ay) (x:ay) (w:World) (ho:dH w B v l) (hB:B<=w.heap.size) (hx:Has w vb (.cells #[bs x.1,.int .i64 x.2] 153)) (hlen:l.length<=999999):Calls Tryz.prog 212 #[v,.int .i64 l.length,.slice (some ⟨vb,0,none⟩) 1 1] w (Pm B w (l++[x])):=by
 obtain ⟨A,c,rfl,hc,hcm,he⟩:=ho.at_;obtain⟨n,hn⟩:=zE l.length;have HO:Hid (w.ownsRow B 153 2 (.slice A n c) n (aq l)):=by rw[hn];exact ho
 rw [<-hn]at hc hlen|-;have HN:=zH hn;have hcm2:c<=9223372036854775807:=by unfold maxLen at hcm;omega
 obtain ⟨i0,hi,hz0,hz1,hz2⟩:=info_parts jT;have hnews:∀j u,(aq [x])[j]?=some u->w.cell? ((⟨vb,0,none⟩:Addr).add j)=some u:=by
  intro j u hu;rw [Addr.add_lit];exact bh.cells (lH hx) j u hu
 have JZ:=zH hnews;clear hn hcm ho he hnews;go_enter Tryz.func212,Tryz.ntmps212;go_wp2_with (at_builtin;refine wpList_append_own _ rfl _ _ 64 rfl B 153 i0 (.agg #[.string ⟨#[]⟩,.int .i64 0]) 2 24 Tryz.underlying64 hi hz0 hz1 hz2 rfl (by decide) _ _ _ rfl HO.out ⟨vb,0,none⟩ 1 1 (aq [x]) rfl rfl JZ.out (dA [x]) (by unfold maxLen;omega) (by omega) hB ?_)
 all_goals
  intro v' w2 ii hgrow _;have mO:Hid (dH w2 B v' (l++[x])):=by
   show w2.ownsRow B 153 2 v' (l++[x]).length (aq (l++[x]));rw [dW,List.length_append,<-HN.out];exact ii
  have kD:Below B w w2:=(Below.refl B w).grown hgrow hB (fun g hg=>(HO.out.lt g (by first|exact hg|(rw[‹c=n›];exact hg))).1);clear ii hgrow;go_wp2_with fail;go_ret;exact ⟨_,rfl,mO.out,kD⟩
theorem Ge {R C1 X C2:List Value} {p n:Nat} (h1:C1.length=p*2) (hx:X.length=2) (h2:C2.length=(n-p)*2) (hp:p<=n) (hR:R.take (p*2)=C1) (hl:(n+1)*2<=R.length) :
  ∀ R2 R3,R2=R.take (p*2)++X++R.drop (p*2+X.length)->R3=R2.take ((p+1)*2)++C2++R2.drop ((p+1)*2+C2.length)->R2.length=R.length/\R3.length=R.length/\R3.take ((n+1)*2)=C1++X++C2:=by
 rintro R2 R3 e2 e3;have l2:R2.length=R.length:=by rw[e2];simp;omega
 have t2:R2.take ((p+1)*2)=C1++X:=by
  rw [e2,hR,List.take_append_of_le_length (by simp;omega),List.take_of_length_le (by simp;omega)]
 refine ⟨l2,by rw[e3];simp;omega,?_⟩;rw [e3,t2,List.take_append_of_le_length (by simp;omega),List.take_of_length_le (by simp;omega)]
theorem Gf {R C1 X C2:List Value} {p n:Nat} (h1:C1.length=p*2) (hx:X.length=2) (h2:C2.length=(n-p)*2) (hp:p<=n) (hR:R.take (p*2)=C1) (hl:(n+1)*2<=R.length) :
  ∀ R2 R3,R2=R.take ((p+1)*2)++C2++R.drop ((p+1)*2+C2.length)->R3=R2.take (p*2)++X++R2.drop (p*2+X.length)->R2.length=R.length/\R3.length=R.length/\R3.take ((n+1)*2)=C1++X++C2:=by
 rintro R2 R3 e2 e3;have l2:R2.length=R.length:=by rw[e2];simp;omega
 have lt:(R.take ((p+1)*2)).length=(p+1)*2:=by rw[List.length_take];omega
 have t2:R2.take (p*2)=C1:=by
  rw [e2,List.append_assoc,List.take_append_of_le_length (by omega),List.take_take,Nat.min_eq_left (by omega),hR]
 have d2:R2.drop (p*2+X.length)=C2++R.drop ((p+1)*2+C2.length):=by
  rw [e2,List.append_assoc,hx,List.drop_append_of_le_length (by omega),List.drop_of_length_le (by omega),List.nil_append]
 refine ⟨l2,by rw[e3];simp;omega,?_⟩;rw [e3,t2,d2,<-List.append_assoc,List.take_append_of_le_length (by simp;omega),List.take_of_length_le (by simp;omega)]
theorem p7 (l:List ay) (p:Nat) (x:ay):aq (rl l p x)=aq (l.take p)++aq [x]++aq (l.drop p):=by
 unfold rl;rw [show x::l.drop p=[x]++l.drop p from rfl,dW,dW,List.append_assoc]
theorem p9 (l:List ay) (p:Nat) (x:ay) (h:p<=l.length):(rl l p x).length=l.length+1:=by
 unfold rl;simp;omega
theorem pg (l:List ay) (p:Nat):(aq l).take (p*2)=aq (l.take p):=by
 conv=>lhs;rw[<-List.take_append_drop p l,dW]
 have:(aq (l.take p)).length<=p*2:=by rw[cE,List.length_take];omega
 rcases Nat.lt_or_ge l.length p with h|h
 ·rw [List.drop_of_length_le (by omega)]
  show List.take (p*2) (_++[])=_;rw [List.append_nil,List.take_of_length_le this]
 ·rw[List.take_append_of_le_length (by rw[cE,List.length_take];omega),List.take_of_length_le this]
theorem kF {B g:Nat} {w0 w:World} (hb:Below B w0 w) (WD:B<=g) (cs:Array Value):Below B w0 (w.setRow g cs):=
 hb.trans ⟨rfl,rfl,rfl,by simp[World.setRow],fun k hk=>setRow_other w g k cs (by omega)⟩
theorem tG:(Tryz.prog.info? 153).map (·.size)=some 2:=by kernel_rfl
theorem zU (B vb g c p:Nat) (l:List ay) (x:ay) (w:World) (ho:dH w B (.slice (some ⟨g,0,none⟩) l.length c) l) (hB:B<=w.heap.size) (hx:Has w vb (.cells #[bs x.1,.int .i64 x.2] 153)) (hp:p<l.length) (hlen:l.length<=999999) (hroom:c<l.length+1):Calls Tryz.prog 212 #[.slice (some ⟨g,0,none⟩) l.length c,.int .i64 p,.slice (some ⟨vb,0,none⟩) 1 1] w (Pm B w (rl l p x)):=by
 obtain ⟨A',c',hv,hc,hcm,he⟩:=ho.at_;injection hv with hA hn' ST;subst hA ST;obtain⟨n,hn⟩:=zE l.length;obtain ⟨i0,hi,hz0,hz1,hz2⟩:=info_parts jT;have VJ:g<w.heap.size:=by
  rcases he with h|⟨b',o',h,hb,_⟩
  ·rw[h]at hp;simp at hp
  ·injection h with h;injection h with h1 h2;omega
 have WD:B<=g:=(ho.lt g rfl).1;have hcl:=he.cells;have zW:=he.drop p;rw [<-hn]at hc hlen hroom hp|-;obtain rfl:c=n:=by omega
 have HN:=zH hn;have hold:(Builtin.firstCells i0.size p (.slice (some ⟨g,0,none⟩) p c)).run Tryz.prog w.drew=.ok (aq (l.take p)).toArray w.drew:=by
  rw [hz1];refine run_firstCells_some w.drew 2 p ⟨g,0,none⟩ p c (aq (l.take p)) (by rw[cE,List.length_take];omega) (fun j v hj=>?_);rw [Addr.add_lit];refine hcl j v ?_;rw [<-pg,List.getElem?_take]at hj;split at hj
  ·exact hj
  ·cases hj
 have VK:=fun ty=>Lib.run_append_grow_zeros w 64 3 ty 153 i0 _ .i64 .i64 Tryz.underlying64 Tryz.underlying3 hi hz0 (some ⟨g,0,none⟩) p c (aq (l.take p)) hold (c+1-p) (by omega) (by omega) (by omega) (by omega) (by rw[hz2];omega) (by rw[hz2,show p+(c+1-p)=c+1 by omega];exact growslice_fits (by omega) (by omega))
 have hik:p+(c+1-p)=c+1:=by omega
 rw [hik]at VK;have hge:=grownCap_ge w (c+1) c 153;have hle:=grownCap_le_maxLen w (c+1) c 153 (by unfold maxLen;omega)
 generalize grownCap w (c+1) c 153=G at VK hge hle
 have ach:G<=9223372036854775807:=by unfold maxLen at hle;omega
 obtain ⟨R,hR⟩:∃R:Array Value,R=(aq (l.take p)).toArray++Builtin.zeroCells (Value.agg #[.string ⟨#[]⟩,.int .i64 0]).cells (c+1-p)++Builtin.zeroCells (Value.agg #[.string ⟨#[]⟩,.int .i64 0]).cells (G-(c+1)):=⟨_,rfl⟩;obtain⟨W1,bL⟩:=zE (w.drew.alloc (.cells R 153));rw [<-hR,<-bL]at VK;have rn:(c:Int)+1-(p:Int)=((c+1-p:Nat):Int):=by omega
 have E1:Ext w W1:=by rw[bL];exact ((Ext.refl _).drew).alloc _
 have kG:Has W1 w.heap.size (.cells R 153):=by rw[bL];exact Has.new w.drew _
 have EU:R.size=G*2:=by
  rw [hR,Array.size_append,Array.size_append,jl,jl];simp only[List.size_toArray,cE,List.length_take];show _+(c+1-p)*2+(G-(c+1))*2=_;omega
 have VL:R.toList.take (p*2)=aq (l.take p):=by
  rw [hR];have hl:(aq (l.take p)).length=p*2:=by rw[cE,List.length_take];omega
  rw [Array.toList_append,Array.toList_append,List.append_assoc,List.take_append_of_le_length (by simp;omega),List.take_of_length_le (by simp;omega)]
 have VM:=hx.ext E1;have CM:=fun ty dc=>kE (P:=Tryz.prog) W1 64 64 ty 153 w.heap.size (p*2) (c+1-p) dc ⟨vb,0,none⟩ 1 1 1 R 153 (aq [x]) Tryz.underlying64 tG kG (by simp only[Nat.min_def];split<;>omega) rfl
  (fun j u hu=>by rw[Addr.add_lit];exact bh.cells (lH VM) j u hu) (by show p*2+2<=R.size;rw[EU];omega) (dA [x])
 obtain ⟨R2,Po⟩:∃R2:List Value,R2=R.toList.take (p*2)++aq [x]++R.toList.drop (p*2+(aq [x]).length):=⟨_,rfl⟩;obtain⟨W2,cQ⟩:=zE (W1.setRow w.heap.size R2.toArray);simp only[<-Po,<-cQ]at CM;have hb2:Has W2 w.heap.size (.cells R2.toArray 153):=by rw[cQ];exact setRow_heap W1 w.heap.size R R2.toArray 153 (0,0) kG
 have E2:Below B w W2:=by rw[cQ];exact kF (Below.mono E1 hB) hB _
 have WE:bh W2.drew (some ⟨g,0+p*2,none⟩) (l.drop p):=by
  rw [cQ];rcases zW.ext E1 with h|⟨b',o',h,hb,h2⟩
  ·exact .inl h
  ·injection h with h;injection h with q1 q2
   subst q1 q2;refine .inr ⟨_,_,rfl,by simpa using hb,fun k hk=>?_⟩;have:=h2 k hk;rw [<-cell_setRow_other W1 w.heap.size R2.toArray ⟨g,0+p*2+k*2,none⟩ (by show g≠_;omega),<-cell_setRow_other W1 w.heap.size R2.toArray ⟨g,0+p*2+k*2+1,none⟩ (by show g≠_;omega)]at this;exact this
 have lr:(aq (l.drop p)).length=(c-p)*2:=by rw[cE,List.length_drop,<-hn]
 have iE:(aq (l.take p)).length=p*2:=by rw[cE,List.length_take];omega
 have CN:=fun ty dc sc=>kE (P:=Tryz.prog) W2.drew 64 64 ty 153 w.heap.size ((p+1)*2) (c+1-(p+1)) dc ⟨g,p*2,none⟩ (c-p) sc (c-p) R2.toArray 153 (aq (l.drop p)) Tryz.underlying64 tG hb2 (by simp only[Nat.min_def];split<;>omega) lr
  (fun j u hu=>by rw[Addr.add_lit];have:=bh.cells WE j u hu;rwa [Nat.zero_add]at this) (by
   rw [lr];have:R2.length=R.toList.length:=by rw[Po];simp;rw[EU];show _+(2+(_-(_+2)))=_;omega
   simp only[List.size_toArray,this,Array.length_toList,EU];omega) (dA _)
 obtain ⟨R3,SU⟩:∃R3:List Value,R3=R2.take ((p+1)*2)++aq (l.drop p)++R2.drop ((p+1)*2+(aq (l.drop p)).length):=⟨_,rfl⟩;obtain⟨W3,cj⟩:=zE (W2.drew.setRow w.heap.size R3.toArray);simp only[<-SU,<-cj]at CN;have oT:Has W3 w.heap.size (.cells R3.toArray 153):=by rw[cj];exact setRow_heap W2.drew w.heap.size R2.toArray R3.toArray 153 (0,0) hb2
 have E3:Below B w W3:=by rw[cj];exact kF (Below.drew E2) hB _
 obtain ⟨k1,k2,k3⟩:=Ge iE (show (aq [x]).length=2 from rfl) lr (by omega) VL (by rw[Array.length_toList,EU];omega) R2 R3 Po SU;have pE:Hid (dH W3 B (.slice (some ⟨w.heap.size,0,none⟩) (c+1) G) (rl l p x)):=by
  show dH _ _ _ _;unfold dH;rw [p9 l p x (by omega),<-hn];refine ⟨by rw[cE,p9 l p x (by omega),<-hn],.inr ⟨w.heap.size,G,R3.toArray,rfl,hB,oT,hge,hle,?_,?_⟩⟩
  ·simp only[List.size_toArray,k2,Array.length_toList,EU]
  ·rw[p7];exact k3
 have J7:=zH E3;simp only[<-rn]at VK;have HRZ:=zH VK;have HCA:=zH CM;have HCB:=zH CN;have g1:IntKind.i64.wrap ((p:Int)+1)=(p:Int)+1:=a_ (by omega) (by omega);have g2:(0:Int)<=(p:Int)+1:=by omega
 have g3:((p:Int)+1).toNat=p+1:=by omega
 have hGi:¬(G=p):=by omega
 have aci:¬(G=p+1):=by omega
 have hci:¬(c=p):=by omega
 have hpc:(p:Int)<=(c:Int):=by omega
 have hne:¬((p:Int)=(c:Int)):=by omega
 clear ho hn hR EU VL bL kG VM CM Po cQ hb2 E2 WE lr iE CN SU cj oT E3 k1 k2 k3 VK hold hik zW hcl he E1 hx hn' rn hle;go_enter Tryz.func212,Tryz.ntmps212;go_wp2_with (first
  | (at_builtin;refine Lib.wpList_append_run _ rfl _ _ 64 3 rfl _ _ rfl rfl _ _ (HRZ.out _) ?_)
  | (with_reducible refine lI _ rfl (.tmp 43) (.tmp 44) 64 64 rfl _ _ rfl rfl (HCA.out _ _) ?_))
 go_region_law (refine ny rfl _ _ 64 64 rfl (.slice (some ⟨w.heap.size,(p+1)*2,none⟩) (c+1-(p+1)) (G-(p+1))) (.slice (some ⟨g,p*2,none⟩) (c-p) (c-p)) (by simp[Act.eval,Act.put]) (by simp[Act.eval,Act.put]) (HCB.out _ _ _) ?_);go_wp2_with fail;go_ret;exact ⟨_,rfl,pE.out,J7.out⟩
theorem wS {w:World} {b:Nat} {C:Array Value} {t:TypeId} {fr:Nat×Nat} (h:Has w b (.cells C t fr)):w.shape? b=some (t,C.size):=by
 unfold Has at h;simp [World.shape?,h]
theorem zX (B vb g c p:Nat) (l:List ay) (x:ay) (w:World) (ho:dH w B (.slice (some ⟨g,0,none⟩) l.length c) l) (hB:B<=w.heap.size) (hx:Has w vb (.cells #[bs x.1,.int .i64 x.2] 153)) (hvg:vb≠g) (hp:p<l.length) (hlen:l.length<=999999) (hroom:l.length+1<=c):Calls Tryz.prog 212 #[.slice (some ⟨g,0,none⟩) l.length c,.int .i64 p,.slice (some ⟨vb,0,none⟩) 1 1] w (Pm B w (rl l p x)):=by
 obtain ⟨A',c',hv,hc,hcm,he⟩:=ho.at_;injection hv with hA hn' ST;subst hA ST;obtain⟨n,hn⟩:=zE l.length;have WD:B<=g:=(ho.lt g rfl).1;obtain ⟨R,WG,EU,VL⟩:∃R:Array Value,Has w g (.cells R 153)/\R.size=c*2/\R.toList.take (l.length*2)=aq l:=by
  rcases ho.2 with⟨h,_⟩|⟨g',cap,cur,h,_,hg,_,_,hs,ht⟩
  ·cases h
  ·injection h with h1 h2 h3
   injection h1 with h1;injection h1 with h1;subst h1 h3;exact ⟨cur,hg,hs,ht⟩
 have zW:=he.drop p;rw [<-hn]at hc hlen hroom hp VL|-;have HN:=zH hn;have hRp:R.toList.take (p*2)=aq (l.take p):=by
  rw [<-pg,<-VL,List.take_take,Nat.min_eq_left (by omega)]
 have lr:(aq (l.drop p)).length=(n-p)*2:=by rw[cE,List.length_drop,<-hn]
 have iE:(aq (l.take p)).length=p*2:=by rw[cE,List.length_take];omega
 have VJ:=WG.lt;have J8:∀W,W=w->∀lb cb,(callFunc 223 #[.slice (some ⟨vb,0,none⟩) 1 1,.slice (some ⟨g,(p+1)*2,none⟩) lb cb]).run Tryz.prog W=.ok (.value (.bool false)) W:=fun W hW lb cb=>by
  subst hW;rw [run_callFunc_extern Tryz.func223 (by kernel_rfl) (by kernel_rfl) (by kernel_rfl) (e:=Extern.SlicesOverlaps.overlaps #[64,64] #[4]) (by kernel_rfl),
   Lib.run_overlaps_apart _ 64 4 153 Tryz.underlying64 2 Tryz.sizeOf153 ⟨vb,0,none⟩ ⟨g,(p+1)*2,none⟩ 1 1 lb cb hvg _ _ _ _ (wS hx) (wS WG) (by rw[EU];omega) (hx.free 0) (hx.free 2)]
  rfl
 have CM:=fun ty dc sc=>kE (P:=Tryz.prog) w.drew 64 64 ty 153 g ((p+1)*2) (n-p) dc ⟨g,p*2,none⟩ (n+1-p) sc (n-p) R 153 (aq (l.drop p)) Tryz.underlying64 tG WG (by simp only[Nat.min_def];split<;>omega) lr
  (fun j u hu=>by rw[Addr.add_lit];have:=bh.cells zW j u hu;rwa [Nat.zero_add]at this) (by rw[lr,EU];omega) (dA _)
 obtain ⟨R2,Po⟩:∃R2:List Value,R2=R.toList.take ((p+1)*2)++aq (l.drop p)++R.toList.drop ((p+1)*2+(aq (l.drop p)).length):=⟨_,rfl⟩;obtain⟨W2,cQ⟩:=zE (w.drew.setRow g R2.toArray);simp only[<-Po,<-cQ]at CM;have hb2:Has W2 g (.cells R2.toArray 153):=by rw[cQ];exact setRow_heap w.drew g R R2.toArray 153 (0,0) WG
 have E2:Below B w W2:=by rw[cQ];exact kF (Below.drew (Below.refl B w)) WD _
 have hX2:Has W2 vb (.cells #[bs x.1,.int .i64 x.2] 153):=by
  rw [cQ];unfold Has;rw[setRow_other w.drew g vb R2.toArray hvg];exact hx
 have WH:R2.length=c*2:=by rw[Po];simp only[List.length_append,List.length_take,List.length_drop,Array.length_toList,EU,lr];omega
 have CN:=fun ty dc=>kE (P:=Tryz.prog) W2 64 64 ty 153 g (p*2) (n+1-p) dc ⟨vb,0,none⟩ 1 1 1 R2.toArray 153 (aq [x]) Tryz.underlying64 tG hb2 (by simp only[Nat.min_def];split<;>omega) rfl
  (fun j u hu=>by rw[Addr.add_lit];exact bh.cells (lH hX2) j u hu) (by simp only[List.size_toArray,WH];show p*2+2<=_;omega) (dA [x])
 obtain ⟨R3,SU⟩:∃R3:List Value,R3=R2.take (p*2)++aq [x]++R2.drop (p*2+(aq [x]).length):=⟨_,rfl⟩;obtain⟨W3,cj⟩:=zE (W2.setRow g R3.toArray);simp only[<-SU,<-cj]at CN;have oT:Has W3 g (.cells R3.toArray 153):=by rw[cj];exact setRow_heap W2 g R2.toArray R3.toArray 153 (0,0) hb2
 have E3:Below B w W3:=by rw[cj];exact kF E2 WD _
 obtain ⟨k1,k2,k3⟩:=Gf iE (show (aq [x]).length=2 from rfl) lr (by omega) hRp (by rw[Array.length_toList,EU];omega) R2 R3 Po SU;have pE:Hid (dH W3 B (.slice (some ⟨g,0,none⟩) (n+1) c) (rl l p x)):=by
  show dH _ _ _ _;unfold dH;rw [p9 l p x (by omega),<-hn];refine ⟨by rw[cE,p9 l p x (by omega),<-hn],.inr ⟨g,c,R3.toArray,rfl,WD,oT,hroom,hcm,?_,?_⟩⟩
  ·simp only[List.size_toArray,k2,Array.length_toList,EU]
  ·rw[p7];exact k3
 have J7:=zH E3;have HCA:=zH CM;have HCB:=zH CN;have aan:=fun lb cb=>J8 w rfl lb cb
 have g1:IntKind.i64.wrap ((p:Int)+1)=(p:Int)+1:=a_ (by omega) (by omega);have g2:(0:Int)<=(p:Int)+1:=by omega
 have g3:((p:Int)+1).toNat=p+1:=by omega
 have OC:¬(c=p):=by omega
 have acj:¬(c=p+1):=by omega
 have SS:(p:Int)<=(n:Int)+1:=by omega
 have ack:p<=n:=by omega
 have acm:p<=n+1:=by omega
 have hne:¬((p:Int)=(n:Int)):=by omega
 have ST:c<=9223372036854775807:=by unfold maxLen at hcm;omega
 clear ho hn WG EU VL hx J8 CM Po cQ hb2 E2 hX2 WH CN SU cj oT E3 k1 k2 k3 zW lr iE hRp he hn' hcm;go_enter Tryz.func212,Tryz.ntmps212;go_wp2_with (simp only[aan]);go_region_law (refine ny rfl _ _ 64 64 rfl (.slice (some ⟨g,(p+1)*2,none⟩) (n-p) (c-(p+1))) (.slice (some ⟨g,p*2,none⟩) (n+1-p) (c-p)) (by simp[Act.eval,Act.put]) (by simp[Act.eval,Act.put]) (HCA.out _ _ _) ?_);go_wp2_with (with_reducible refine lI _ rfl (.tmp 80) (.tmp 81) 64 64 rfl _ _ rfl rfl (HCB.out _ _) ?_);go_ret;exact ⟨_,rfl,pE.out,J7.out⟩
theorem Ext.trans' {a b c:World} (h:Ext a b) (k:Below a.heap.size b c):Ext a c:=Below.trans h k
theorem dH.keep {w w':World} {B:Nat} {v:Value} {l:List ay} (h:dH w B v l) (k:Ext w w'):dH w' B v l:=
 World.ownsRow.kept (row:=none) h ⟨k.os,k.tape,k.output,k.size,fun j hj _=>Below.block k j hj⟩ (by cases v.ownBlock<;>simp)
theorem CO (B vb p:Nat) (v:Value) (l:List ay) (x:ay) (w:World) (ho:dH w B v l) (hB:B<=w.heap.size) (hx:Has w vb (.cells #[bs x.1,.int .i64 x.2] 153)) (hvb:v.ownBlock≠some vb) (hp:p<=l.length) (hlen:l.length<=999999):Calls Tryz.prog 212 #[v,.int .i64 p,.slice (some ⟨vb,0,none⟩) 1 1] w (Pm B w (rl l p x)):=by
 by_cases he:p=l.length
 ·subst he
  have:rl l l.length x=l++[x]:=by unfold rl;rw[List.take_length,List.drop_length]
  rw [this];exact CL B vb v l x w ho hB hx hlen
 ·obtain ⟨g,c,rfl⟩:∃g c,v=.slice (some ⟨g,0,none⟩) l.length c:=by
   rcases ho.2 with⟨_,h0⟩|⟨g,cap,_,h,_⟩
   ·omega
   ·exact⟨g,cap,h⟩
  have hvg:vb≠g:=fun e=>hvb (by rw[e];rfl)
  by_cases hr:c<l.length+1
  ·exact zU B vb g c p l x w ho hB hx (by omega) hlen hr
  ·exact zX B vb g c p l x w ho hB hx hvg (by omega) hlen (by omega)
theorem SV (A:Option Addr) (l:List ay) (cap:Nat) (nm:List UInt8) (no:Int) (w:World) (h:bh w A l) (hnone:A=none->cap=0) (hr:iq l) (hlen:l.length<=999999) (hh:has l nm=false):Calls Tryz.prog 195 #[.slice A l.length cap,bs nm,.int .i64 no] w (J5 w (oR l nm no)):=by
 have hcut:Hid (oR l nm no=rl l (pos l nm) (nm,no)):=by show _=_;unfold oR rl;rw[hh];rfl
 have hpl:=JU l nm;have HH:=zH hh;clear hh;go_enter Tryz.func195,Tryz.ntmps195;go_wp2_with fail;refine (kP _ l cap nm _ h hr (by omega)).mono ?_;rintro e w1 ⟨rfl,b1⟩;rw [HH.out];go_wp2_with fail;refine (Gd A l cap _ (h.ext b1) hnone (by omega)).mono ?_;rintro e w2 ⟨v,rfl,ho,b2⟩;have aao:v.ownBlock≠some w2.heap.size:=by
  intro hv;have:=(ho.lt _ hv).2;omega
 have hB:w.heap.size<=w2.heap.size:=by have:=b1.size;have:=b2.size;omega
 have mO:dH (w2.alloc (.cells #[bs nm,.int .i64 no] 153)) w.heap.size v l:=dH.base (dH.keep ho ((Ext.refl _).alloc _)) b1.size;go_wp2_with fail;refine (CO w.heap.size w2.heap.size (pos l nm) v l (nm,no) _ mO (by simp;omega) (Has.new w2 _) aao hpl hlen).mono ?_;rintro e w3 ⟨v',rfl,ho3,b3⟩;go_wp2_with fail;go_ret;exact ⟨v',rfl,by rw[hcut.out];exact ho3,(((b1.trans b2).alloc _).trans' b3)⟩
theorem EX (A:Option Addr) (l:List ay) (cap:Nat) (nm:List UInt8) (no:Int) (w:World) (h:bh w A l) (hnone:A=none->cap=0) (hr:iq l) (hcap:l.length<=cap) (pd:cap<=maxLen) (hlen:l.length<=999999):Calls Tryz.prog 195 #[.slice A l.length cap,bs nm,.int .i64 no] w (J5 w (oR l nm no)):=by
 cases hh:has l nm
 ·exact SV A l cap nm no w h hnone hr hlen hh
 ·exact Pk A l cap nm no w h hr hcap pd hlen hh
theorem Pr {α:Type} (n:Nat) (P:Nat->α->Prop) (h:∀i,i<n->∃x,P i x):∃l:List α,l.length=n/\∀i,(hi:i<l.length)->P i l[i]:=by
 induction n with
 | zero=>exact⟨[],rfl,fun i hi=>by cases hi⟩
 | succ n ih =>
  obtain ⟨l,hl,hp⟩:=ih (fun i hi=>h i (by omega));obtain ⟨x,hx⟩:=h n (by omega);refine ⟨l++[x],by simp[hl],fun i hi=>?_⟩
  by_cases kC:i<l.length
  ·rw[List.getElem_append_left kC];exact hp i kC
  ·have:i=l.length:=by simp at hi;omega
   subst this;rw [List.getElem_append_right (Nat.le_refl _)];simpa [hl]using hx
section
variable {H:Type} {enc:TypeId×Value->H} {w:World} {base:Nat} {spare:Nat->Bool} {held:Bool}
end
end
section
open Go.ChangeShapes Go.WideShapes Go.ChangeAt Go.RowKit
def cX (l:List ay) (nm:List UInt8):List ay:=l.filter fun x=>!(x.1 == nm)
def jm (l:List ay) (nm:List UInt8):List ay:=l.filter fun x=>bl x.1 nm
def jG (l:List ay) (nm:List UInt8):List ay:=l.filter fun x=>bl nm x.1
def en (l:List ay) (x:ay):List ay:=jm l x.1++[x]++jG l x.1
theorem sK {l:List ay} {k:Nat} (hk:k<l.length) (f:ay->Bool):(l.take (k+1)).filter f=(l.take k).filter f++(if f l[k]=true then [l[k]] else []):=by
 rw [List.take_succ_eq_append_getElem hk,List.filter_append]
 congr 1
 by_cases h:f l[k]=true<;>simp[h]
theorem pF (l:List ay) (k:Nat) (f:ay->Bool):((l.take k).filter f).length<=k:=by
 have h1:=List.length_filter_le f (l.take k);have h2:(l.take k).length<=k:=List.length_take_le _ _;omega
theorem p_ (wr:World) (x:ay):∀j u,(aq [x])[j]?=some u->(wr.alloc (.cells #[bs x.1,.int .i64 x.2] 153)).cell? ((⟨wr.heap.size,0,none⟩:Addr).add j)=some u:=by
 intro j u hu;rw [Addr.add_lit];exact bh.cells (lH (Has.new wr _)) j u hu
theorem yl {w wr w2:World} {v v':Value} {P:List ay} {x:ay} {o:Obj} (h:wr.ownsRow w.heap.size 153 2 v P.length (aq P)) (hE:Ext w wr) (h2:w2.ownsRow w.heap.size 153 2 v' (P.length+1) (aq P++aq [x])) (hg:(wr.alloc o).grownBy w2 v.ownBlock):dH w2 w.heap.size v' (P++[x])/\Ext w w2:=by
 refine ⟨?_,(hE.alloc o).grown hg (fun g hv=>(h.lt g hv).1)⟩;unfold dH;rw [dW,List.length_append];exact h2
open Go.ChangeShapes Go.WideShapes Go.ChangeAt Go.RowKit Go.Shelf
attribute [local go_sem] Oper.semAt_some
def wT (n₀:Nat) (w:World) (A:Option Addr) (l:List ay):Prop:=
 l = []\/∃b o,A=some ⟨b,o,none⟩/\b<n₀/\∀k,(h:k<l.length)->w.cell? ⟨b,o+k*2,none⟩=some (.string (bs l[k].1))/\w.cell? ⟨b,o+k*2+1,none⟩=some (.int .i64 l[k].2)
theorem wT.below {n₀:Nat} {w w':World} {A:Option Addr} {l:List ay} (h:wT n₀ w A l) (k:Below n₀ w w'):wT n₀ w' A l:=by
 rcases h with h|⟨b,o,hA,hb,hc⟩
 ·exact .inl h
 ·exact .inr ⟨b,o,hA,hb,fun i hi=>⟨(k.cell (p:=⟨b,o+i*2,none⟩) hb).trans (hc i hi).1,(k.cell (p:=⟨b,o+i*2+1,none⟩) hb).trans (hc i hi).2⟩⟩
abbrev SW (x:ay):Array Value:=#[bs x.1,.int .i64 x.2]
theorem Ps (F:Fence) (n:Nat) (hf:F.fn 202) (hro:F.round=none) (hn:1<=n) (lb Bs n₀ cap:Nat) (A:Option Addr) (es:List ay) (hlen:es.length<=1000000) (J Jx:List ay->World->Prop)
  (W:World) (EY:n₀<=W.heap.size) (hJa:AbidesFrom W.heap.size J)
  (hY : ∀pre x W,J pre W->pre.length<es.length->YieldAt F (n-1) Tryz.prog lb (SW x) W fun e W' =>
   (e=.returned (.bool true)/\J (pre++[x]) W'/\Below n₀ W W')\/(e=.returned (.bool false)/\Jx (pre++[x]) W'))
  (EZ:W.cell? ⟨Bs,0,none⟩=some (.slice A es.length cap)) (hc:wT n₀ W A es) (h0:J [] W) :
  CallsIn F n Tryz.prog 202 #[.func (.yield lb) #[] #[],.pointer (some ⟨Bs,0,none⟩)] W fun e W'=>(∃v,e=.returned v) /\
   ((∃ys,ys=es/\J ys W')\/(∃pre,pre <+: es/\Jx pre W')):=by
 obtain⟨m,hm⟩:=zE es.length;rw [<-hm]at EZ hlen;have HM:=zH hm;clear hm;refine callsIn_of_wp Tryz.func202 rfl hf ?_ hro;simp only[Tryz.ntmps202,List.size_toArray,List.length_cons,List.length_nil,Nat.reduceAdd,Nat.reduceSub,Array.replicate_succ,Array.replicate_zero,List.push_toArray,List.append_toArray,List.nil_append,List.cons_append];gi_wp2;gi_loopw [7] (fun i wr=>∃k:Nat,k<=m/\i=.int .i64 k/\J (es.take k) wr/\Below n₀ W wr/\W.heap.size<=wr.heap.size) (fun i _=>m-(intOf i).toNat)
 case atStart=>exact⟨0,Nat.zero_le _,rfl,h0,Below.refl _ _,Nat.le_refl _⟩
 case round =>
  obtain ⟨k,hk,rfl,hJs,SX,hsz⟩:=hrel
  by_cases hlt:k<m
  ·have dI:k<es.length:=by have:=HM.out;omega
   obtain ⟨b,o,rfl,hb,hcs⟩:∃b o,A=some ⟨b,o,none⟩/\b<n₀/\∀k,(h:k<es.length)->wr.cell? ⟨b,o+k*2,none⟩=some (.string (bs es[k].1))/\wr.cell? ⟨b,o+k*2+1,none⟩=some (.int .i64 es[k].2):=by
    rcases hc.below SX with h|h
    ·rw[h]at dI;simp at dI
    ·exact h
   obtain ⟨ca,cb⟩:=hcs k dI;have ng:Hid (es.take (k+1)=es.take k++[es[k]]):=List.take_succ_eq_append_getElem dI;have hpl:(es.take k).length<es.length:=by rw[List.length_take];omega
   generalize es[k]=x at ca cb ng
   have Cw:J (es.take k) (wr.alloc (.cells #[bs x.1,.int .i64 x.2] 153)):=hJa (es.take k) wr _ none hJs (World.grownBy_alloc wr _ none) (fun r e=>by cases e);obtain ⟨fn,tmps,assign,body,hy,hR⟩:=hY _ x _ Cw hpl
   try dsimp only[SW]at hy
   clear hcs hpl;gi_wp2;refine hR.mono ?_;rintro e W3 (⟨rfl,Cx,mq⟩|⟨rfl,tV⟩)
   ·gi_wp2
    go_roundw
    case rel=>exact⟨k+1,by omega,by simp,by rw[ng.out];exact Cx,(SX.alloc (by omega) _).trans mq,by have:=mq.size;simp at this;omega⟩
    case measure=>simp[intOf];omega
   ·gi_wp2
    refine bodyPost_ret (results_none rfl _ _ _) rfl ?_;exact ⟨⟨_,rfl⟩,.inr ⟨_,by rw[<-ng.out];exact List.take_prefix _ _,tV⟩⟩
  ·obtain rfl:k=m:=by omega
   have ht:Hid (es.take k=es):=by show _=_;rw[HM.out,List.take_length]
   gi_wp2;go_end0;exact ⟨⟨_,rfl⟩,.inl ⟨_,ht.out,hJs⟩⟩
theorem SY (F:Fence) (n:Nat) (hf:F.fn 178) (hro:F.round=none) (a:Option Addr) (len cap:Nat) (w:World) :
  CallsIn F n Tryz.prog 178 #[.slice a len cap] w fun e w'=>e=.returned (.func (.func 202) #[] #[.pointer (some ⟨w.heap.size,0,none⟩)])/\w'=w.alloc (.cells #[.slice a len cap] 64):=by
 refine callsIn_of_wp Tryz.func178 rfl hf ?_ hro;simp only[Tryz.ntmps178,List.size_toArray,List.length_cons,List.length_nil,Nat.reduceAdd,Nat.reduceSub,Array.replicate_succ,Array.replicate_zero,List.push_toArray,List.append_toArray,List.nil_append,List.cons_append];gi_wp2;go_ret;exact ⟨rfl,rfl⟩
theorem Gg (F:Fence) (n:Nat) (hf:F.fn 202) (hro:F.round=none) (hn:1<=n) (Bs n₀ cap:Nat) (A:Option Addr) (es:List ay) (hlen:es.length<=1000000) (w:World) (EZ:Bs<w.heap.size) (EY:n₀<=w.heap.size)
  (hc:w.cell? ⟨Bs,0,none⟩=some (.slice A es.length cap)) (he:wT n₀ w A es) :
  SeqStopsK F n Tryz.prog 202 #[.pointer (some ⟨Bs,0,none⟩)] SW (Below n₀) (fun ys=>ys=es) (fun pre=>pre <+: es) es.length w:=fun l J Jx W hW hJ _ hY h0 =>
 Ps F n hf hro hn l Bs n₀ cap A es hlen J Jx W (by have:=hW.size;omega) hJ hY ((hW.cell (p:=⟨Bs,0,none⟩) EZ).trans hc) (he.below (hW.mono EY)) h0
end
section
open Go
section
variable {F:Fence} {n:Nat} {P:Program} {ops:Array Oper} {md:Region.Mode} {C:World->Prop}
def qa (o:Oper):Bool:=match o.op with | .defer _=>false|_=>true
theorem ym {o:Oper} (h:qa o=true):∀c,o.op≠.defer c:=fun c hc=>by simp[qa,hc]at h
end
end
section
open Go.ChangeShapes Go.WideShapes Go.ChangeAt Go.RowKit Go.Shelf
attribute [local go_sem] Oper.semAt_some
end
theorem oH {x:ay} {l:List ay}:iq (x::l)↔(∀y∈l,bl x.1 y.1=true)/\iq l:=List.pairwise_cons
theorem nA {a b:List UInt8} (h:bl a b=true):a≠b:=by
 rintro rfl;rw [cA]at h;cases h
theorem filter_all {l:List ay} {f:ay->Bool} (h:∀x∈l,f x=true):l.filter f=l:=List.filter_eq_self.2 h
theorem filter_none {l:List ay} {f:ay->Bool} (h:∀x∈l,f x=false):l.filter f=[]:=List.filter_eq_nil_iff.2 fun x hx=>by rw[h x hx];simp
theorem rp:∀(l:List ay) (nm:List UInt8) (no:Int),iq l->oR l nm no=en l (nm,no)
 | [],nm,no,_=>by simp[oR,en,pos,has,jm,jG]
 | x :: l,nm,no,hr=>by
  have hx:=(oH.1 hr).1;have ih:=rp l nm no (oH.1 hr).2;rcases lq x.1 nm with h|h|h
  ·have e1:pos (x::l) nm=pos l nm+1:=by rw[jX,if_pos (show lt x nm=true from h)]
   have e2:has (x::l) nm=has l nm:=by simp[has,nA h]
   have e3:oR (x::l) nm no=x::oR l nm no:=by
    unfold oR;rw [e1,e2,List.take_succ_cons,show pos l nm+1+(if has l nm=true then 1 else 0)=(pos l nm+if has l nm=true then 1 else 0)+1 by omega,List.drop_succ_cons];rfl
   rw [e3,ih];simp [en,jm,jG,h,gu h]
  ·subst h
   have e1:pos (x::l) x.1=0:=by rw[jX,if_neg (by show ¬bl x.1 x.1=true;rw[cA];simp)]
   have e2:has (x::l) x.1=true:=by simp[has]
   have e3:oR (x::l) x.1 no=(x.1,no)::l:=by unfold oR;rw[e1,e2];simp
   rw [e3];have f1:jm l x.1=[]:=filter_none fun y hy=>gu (hx y hy)
   have f2:jG l x.1=l:=filter_all fun y hy=>hx y hy
   have g1:jm (x::l) x.1=[]:=by unfold jm at f1|-;rw[List.filter_cons,if_neg (by rw[cA];simp),f1]
   have g2:jG (x::l) x.1=l:=by unfold jG at f2|-;rw[List.filter_cons,if_neg (by rw[cA];simp),f2]
   unfold en;rw [g1,g2];rfl
  ·have hall:∀y∈x::l,bl nm y.1=true:=by
    intro y hy;rcases List.mem_cons.1 hy with rfl|hy
    ·exact h
    ·exact kO h (hx y hy)
   have e1:pos (x::l) nm=0:=by rw[jX,if_neg (by show ¬bl x.1 nm=true;rw[gu h];simp)]
   have e2:has (x::l) nm=false:=by
    unfold has;rw [List.any_eq_false];intro y hy;have:=nA (hall y hy);simpa using fun e=>this e.symm
   have e3:oR (x::l) nm no=(nm,no)::x::l:=by unfold oR;rw[e1,e2];simp
   rw [e3];have g1:jm (x::l) nm=[]:=filter_none fun y hy=>gu (hall y hy)
   have g2:jG (x::l) nm=x::l:=filter_all hall;unfold en;rw [show (nm,no).1=nm from rfl,g1,g2];rfl
theorem tW:∀(l:List ay) (nm:List UInt8),iq l->has l nm=true->zT l nm=cX l nm
 | [],nm,_,h=>by simp[has]at h
 | x :: l,nm,hr,hh=>by
  have hx:=(oH.1 hr).1;rcases lq x.1 nm with h|h|h
  ·have e2:has l nm=true:=by simpa [has,nA h]using hh
   have ih:=tW l nm (oH.1 hr).2 e2;have e1:pos (x::l) nm=pos l nm+1:=by rw[jX,if_pos (show lt x nm=true from h)]
   have e3:zT (x::l) nm=x::zT l nm:=by unfold zT;rw[e1,List.take_succ_cons,List.drop_succ_cons];rfl
   rw [e3,ih];simp [cX,nA h]
  ·subst h
   have e1:pos (x::l) x.1=0:=by rw[jX,if_neg (by show ¬bl x.1 x.1=true;rw[cA];simp)]
   have e3:zT (x::l) x.1=l:=by unfold zT;rw[e1];simp
   rw [e3];have f1:cX l x.1=l:=filter_all fun y hy=>by simpa using fun e=>nA (hx y hy) e.symm
   unfold cX at f1|-;rw [List.filter_cons,if_neg (by simp),f1]
  ·exfalso
   have:∀y∈x::l,y.1≠nm:=by
    intro y hy;rcases List.mem_cons.1 hy with rfl|hy
    ·exact (nA h).symm
    ·exact (nA (kO h (hx y hy))).symm
   unfold has at hh;obtain ⟨y,hy,he⟩:=List.any_eq_true.1 hh;exact this y hy (by simpa using he)
theorem sL {l:List ay} (f:ay->Bool) (h:iq l):iq (l.filter f):=List.Pairwise.sublist List.filter_sublist h
theorem wU {l:List ay} (x:ay) (h:iq l):iq (en l x):=by
 unfold en iq;rw [List.append_assoc,List.pairwise_append];refine ⟨sL _ h,?_,?_⟩
 ·rw [List.singleton_append,List.pairwise_cons]
  exact ⟨fun y hy=>(List.mem_filter.1 hy).2,sL _ h⟩
 ·intro a ha b hb
  have h1:bl a.1 x.1=true:=(List.mem_filter.1 ha).2;rcases List.mem_cons.1 hb with rfl|hb
  ·exact h1
  ·exact kO h1 (List.mem_filter.1 hb).2
theorem yp {l:List ay} {nm:List UInt8} (h:has l nm=true):(cX l nm).length<l.length:=by
 obtain ⟨y,hy,he⟩:=List.any_eq_true.1 h;rcases Nat.lt_or_ge (cX l nm).length l.length with h'|h'
 ·exact h'
 ·have e:cX l nm=l:=List.Sublist.eq_of_length_le List.filter_sublist h'
  rw [<-e]at hy;have:=(List.mem_filter.1 hy).2;simp at this he;exact absurd he this
theorem qb (l:List ay) (x:ay):(en l x).length<=l.length+1:=by
 have : ∀l:List ay,(jm l x.1).length+(jG l x.1).length<=l.length:=by
  intro l
  induction l with
  | nil=>simp[jm,jG]
  | cons y l ih =>
   unfold jm jG at ih|-;simp only[List.filter_cons]
   by_cases h:bl y.1 x.1=true
   ·rw[if_pos h,if_neg (by rw[gu h];simp)];simp only[List.length_cons];omega
   ·rw[if_neg h];split<;>simp only[List.length_cons]<;>omega
 have:=this l;unfold en;simp only[List.length_append,List.length_singleton];omega
end Go.Proofs.YtpibnfdolojpcaaGreat
