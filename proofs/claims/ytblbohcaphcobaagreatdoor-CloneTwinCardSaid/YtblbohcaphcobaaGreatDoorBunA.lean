import Derived.Test.YtblbohcaphcobaaGreatDoorRows
import Derived.WalkKit
import Derived.ProofKit
import Derived.OpenShut
import Derived.Handy
import Derived.Lib.Hide
import Derived.BigQuiet
import Derived.Deep.QuietTactic
import Derived.Lib.SlBytesConst
import Derived.Lib.UnsafeStr
import Derived.WalkLawsBesides
import Derived.Below
import Derived.Laws.OwnMore
import Derived.Deep.AppendLies
import Derived.Deep.Draws
import Derived.Deep.RegionHeld3
import Derived.Outline
import Derived.Lib.AppendZeros
import Derived.Laws.AppendOwnNone
import Derived.WalkSpells
import Derived.Lib.Overlaps
import Derived.Lib.AppendZerosOnto
import Derived.Laws.CopyRow
import Derived.Laws.Externs
import Derived.Deep.RegionLaw
import Derived.Deep.Slices
import Derived.Deep.Fields
import Derived.ChangeSame
import Derived.Lib.SmallJoins
import Derived.RangeFuncNested
import Derived.RangeFuncBound
import Derived.RangeFuncCalls
import Derived.RangeFuncLeaves
import Derived.RangeFuncBox
import Derived.Shelf.Abstract
import Derived.OwnWalkIn
import Derived.TacticsInMore
import Derived.LoopNIn
import Derived.LoopIn
import Derived.Sort.QuietTacIn
import Derived.AtR
set_option maxHeartbeats 2000000
set_option maxRecDepth 100000
namespace Go.Proofs.YtblbohcaphcobaaGreatDoor
theorem ar {α:Sort _} (a:α):∃x,x=a:=⟨a,rfl⟩
instance:Coe Int Value:=⟨fun x=>.int .i64 x⟩
instance:Coe ByteArray Value:=⟨fun x=>.string x⟩
section
theorem gA {α:Type _} {l:List α} {i:Nat}:l.toArray[i]?=l[i]?:=List.getElem?_toArray
theorem gB {α:Type _} {a:α} {l:List α}:(a::l)[0]?=some a:=List.getElem?_cons_zero
theorem gC {α:Type _} {a:α} {l:List α} {i:Nat}:(a::l)[i+1]?=l[i]?:=List.getElem?_cons_succ
theorem zH {p:Prop} (h:p):RowKit.Hid p:=Lib.hid h
open Go.ChangeShapes Go.WideShapes Go.ChangeAt Go.RowKit
def Ext (w w':World):Prop:=Below w.heap.size w w'
theorem Ext.refl (w:World):Ext w w:=Below.refl _ _
theorem Ext.trans {a b c:World} (h:Ext a b) (k:Ext b c):Ext a c:=Below.trans h (Below.mono k h.size)
theorem Ext.alloc {a w:World} (h:Ext a w) (o:Obj):Ext a (w.alloc o):=Below.alloc h h.size o
theorem Ext.drew {a w:World} (h:Ext a w):Ext a w.drew:=Below.drew h
theorem Ext.drewN {a w:World} (h:Ext a w) (n:Nat):Ext a (w.drewN n):=⟨h.os,h.tape,h.output,h.size,h.block⟩
theorem Ext.setCell {a w:World} (h:Ext a w) {p:Addr} (hp:a.heap.size<=p.block) (u:Value):Ext a (w.setCell p u):=Below.setCell h hp u
theorem Ext.size {a w:World} (h:Ext a w):a.heap.size<=w.heap.size:=Below.size h
theorem Ext.grown {a w w':World} {row:Option Nat} (h:Ext a w) (hg:w.grownBy w' row) (hr:∀k,row=some k->a.heap.size<=k):Ext a w':=Below.grown h hg h.size hr
theorem Ext.cell {w w':World} (h:Ext w w') {b o:Nat} (hp:b<w.heap.size):w'.cell? ⟨b,o,none⟩=w.cell? ⟨b,o,none⟩:=Below.cell (p:=⟨b,o,none⟩) h hp
theorem Ext.frozen {w w':World} (h:Ext w w') {b o:Nat} (hp:b<w.heap.size):w'.frozen? ⟨b,o,none⟩=w.frozen? ⟨b,o,none⟩:=Below.frozen (p:=⟨b,o,none⟩) h hp
theorem Ext.block {w w':World} (h:Ext w w') {b:Nat} {o:Obj} (hp:w.heap[b]?=some o):w'.heap[b]?=some o:=by
 have hb:b<w.heap.size:=by
  rcases Nat.lt_or_ge b w.heap.size with h'|h'
  ·exact h'
  ·simp[Array.getElem?_eq_none h']at hp
 rw [Below.block h b hb];exact hp
def aH (w:World) (v:Value) (e:Ending) (w':World):Prop:=e=.returned v/\Ext w w'
theorem aH.mk {w:World} {v:Value} {e:Ending} {w':World} (h:e=.returned v) (k:Ext w w'):aH w v e w':=⟨h,k⟩
theorem bV {n:Int} (h:-9223372036854775808<=n) (h':n<9223372036854775808):IntKind.i64.wrap n=n:=by rw[IntKind.wrap_i64];omega
theorem jE (x:Int):(BitVec.ofInt 64 x).toNat=(x % 18446744073709551616).toNat:=by
 rw [BitVec.toNat_ofInt];rfl
theorem zO (x:Int) (i:Nat) (hi:i<63):(x % 18446744073709551616).toNat % 2 ^ i=(x % 2 ^ i).toNat:=by
 have h1:(0:Int)<=x % 18446744073709551616:=Int.emod_nonneg _ (by decide);have h2:(0:Int)<2 ^ i:=Int.pow_pos (by decide);have h3:(0:Int)<=x % 2 ^ i:=Int.emod_nonneg _ (by omega);have hd:(2:Int) ^ i ∣ 18446744073709551616:=by
  have:(18446744073709551616:Int)=2 ^ 64:=by decide
  rw [this];exact⟨2 ^ (64-i),by rw[<-Int.pow_add];congr 1;omega⟩
 have h4:x % 18446744073709551616 % 2 ^ i=x % 2 ^ i:=Int.emod_emod_of_dvd x hd;apply Int.ofNat.inj;show ((((x % 18446744073709551616).toNat % 2 ^ i:Nat)):Int)=(((x % 2 ^ i).toNat:Nat):Int);rw [Int.natCast_emod,Int.toNat_of_nonneg h1,Int.toNat_of_nonneg h3,Int.natCast_pow,<-h4];rfl
theorem zP (x:Int) (i:Nat) (hi:i<63):bits .and .i64 x (2 ^ i-1)=x % 2 ^ i:=by
 have h2:(0:Int)<2 ^ i:=Int.pow_pos (by decide);have h3:(0:Int)<=x % 2 ^ i:=Int.emod_nonneg _ (by omega);have h4:x % 2 ^ i<2 ^ i:=Int.emod_lt_of_pos _ h2;have hp:(2:Int) ^ i<=2 ^ 62:=by
  have:(2:Nat) ^ i<=2 ^ 62:=Nat.pow_le_pow_right (by decide) (by omega)
  exact_mod_cast this
 have hc:((2:Int) ^ i-1)=((2 ^ i-1:Nat):Int):=by
  rw [Int.natCast_sub (Nat.two_pow_pos i)];simp
 show IntKind.i64.wrap ((BitVec.ofInt 64 x &&& BitVec.ofInt 64 ((2:Int) ^ i-1)).toNat:Int)=_;have hb:(BitVec.ofInt 64 ((2:Int) ^ i-1)).toNat=2 ^ i-1:=by
  rw [hc,BitVec.ofInt_natCast,BitVec.toNat_ofNat];have:(2:Nat) ^ i<=2 ^ 62:=Nat.pow_le_pow_right (by decide) (by omega);exact Nat.mod_eq_of_lt (by omega)
 rw [BitVec.toNat_and,hb,jE,Nat.and_two_pow_sub_one_eq_mod,zO x i hi,Int.toNat_of_nonneg h3];exact bV (by omega) (by omega)
theorem V6 (x:Int):bits .and .i64 x 1=x % 2:=zP x 1 (by decide)
theorem Q5 (x:Int):bits .and .i64 x 7=x % 8:=zP x 3 (by decide)
def Has (w:World) (b:Nat) (o:Obj):Prop:=w.heap[b]?=some o
theorem Has.ext {w w':World} {b:Nat} {o:Obj} (h:Has w b o) (k:Ext w w'):Has w' b o:=k.block h
theorem Has.lt {w:World} {b:Nat} {o:Obj} (h:Has w b o):b<w.heap.size:=by
 rcases Nat.lt_or_ge b w.heap.size with h'|h'
 ·exact h'
 ·unfold Has at h;simp[Array.getElem?_eq_none h']at h
theorem Has.new (w:World) (o:Obj):Has (w.alloc o) w.heap.size o:=heap_alloc_new w o
theorem Has.alloc {w:World} {b:Nat} {o:Obj} (h:Has w b o) (x:Obj):Has (w.alloc x) b o:=h.ext ((Ext.refl _).alloc x)
theorem Has.cell {w:World} {b:Nat} {C:Array Value} {t:TypeId} {fr:Nat×Nat} (h:Has w b (.cells C t fr)) (i:Nat):w.cell? ⟨b,i,none⟩=C[i]?:=by
 unfold Has at h;simp[World.cell?,h]
theorem Has.free {w:World} {b:Nat} {C:Array Value} {t:TypeId} {lo hi:Nat} (h:Has w b (.cells C t (lo,hi))) (i:Nat):w.frozen? ⟨b,i,none⟩=(decide (lo<=i)&&decide (i<hi)):=by
 unfold Has at h;simp[World.frozen?,h]
theorem qE {P:Program} {t:TypeId} (ht:P.underlying t=some .string) (s:ByteArray) (i j:Int) (a b:Nat) (hi:i=a) (hj:j=b) (hab:a<=b) (hb:b<=s.size) (r:ByteArray) (hr:s.extract a b=r) (w:World) :
  (Instr.slice t (.string s) (some (.int .i64 i)) (some (.int .i64 j)) none).run P w=.ok (.string r) w:=by
 subst hi;subst hj;subst hr;have:=run_slice_string (P:=P) w t s .i64 .i64 (a:Int) (b:Int) ht (by omega) (by omega) (by omega);simpa using this
open Go.RowKit
def bs (l:List UInt8):ByteArray:=⟨l.toArray⟩
theorem aU (l:List UInt8):(bs l).size=l.length:=by simp[bs,ByteArray.size]
theorem x_ (s:ByteArray):bs s.data.toList=s:=by cases s;simp[bs]
theorem kV (l:List UInt8):(bs l).data.toList=l:=by simp[bs]
theorem bk (l:List UInt8):(bs l).toList=l:=by rw[ByteArray.toList_eq,kV]
theorem lA (a b:List UInt8):bs a++bs b=bs (a++b):=ByteArray.mk_append_mk a b
theorem FT (s:ByteArray) (k:Nat) (h:k<s.size):s.data.toList.take (k+1)=s.data.toList.take k++[s[k]]:=by
 rw [List.take_succ_eq_append_getElem (by simpa using h)];rfl
theorem drop_at (s:ByteArray) (k:Nat) (h:k<s.size):s.data.toList.drop k=s[k]::s.data.toList.drop (k+1):=by
 rw [List.drop_eq_getElem_cons (by simpa using h)];rfl
theorem CD (l:List UInt8) (k:Nat) (h:k<(bs l).size) (h':k<l.length):(bs l)[k]'h=l[k]'h':=rfl
theorem OD (s:ByteArray) (k:Nat) (h:k<s.size):s.extract k (k+1)=bs [s[k]]:=by
 apply ByteArray.ext;have hd:k<s.data.size:=h;simp only[ByteArray.data_extract,bs];apply Array.ext
 ·simp;omega
 ·intro i h1 h2
  simp at h2;subst h2;simp;rfl
theorem l7 (l:List UInt8) (a b:Nat):(bs l).extract a b=bs ((l.drop a).take (b-a)):=ByteArray.extract_mk l a b
theorem gU {a b:Bool} (h:a=b):Ending.returned (.bool a)=.returned (.bool b):=by rw[h]
theorem aB {k:IntKind} {a b:Int} (h:a=b):Ending.returned (.int k a)=.returned (.int k b):=by rw[h]
theorem sS {a b:ByteArray} (h:a=b):Ending.returned (.string a)=.returned (.string b):=by rw[h]
abbrev bl:=Go.Op.bytesLess
theorem cH:∀a,bl a a=false
 | []=>rfl
 | c::a=>by simp[bl,Go.Op.bytesLess,show ¬c<c from fun h=>by exact absurd (UInt8.lt_iff_toNat_lt.1 h) (Nat.lt_irrefl _)];exact cH a
theorem yb (c d:UInt8) (a b:List UInt8):bl (c::a) (d::b)=(decide (c<d) || (c == d&&bl a b)):=rfl
theorem lB:∀{a b c:List UInt8},bl a b=true->bl b c=true->bl a c=true
 | [],[],c,h,_=>absurd h (by decide)
 | [],b::bs,[],_,h=>absurd h (by simp[bl,Go.Op.bytesLess])
 | [],b::bs,c::cs,_,_=>rfl
 | a::al,[],c,h,_=>absurd h (by simp[bl,Go.Op.bytesLess])
 | a::al,b::bs,[],_,h=>absurd h (by simp[bl,Go.Op.bytesLess])
 | a :: al,b::bs,c::cs,h,k=>by
  rw [yb]at h k|-;simp only[Bool.or_eq_true,decide_eq_true_eq,Bool.and_eq_true,beq_iff_eq]at h k|-;rcases h with h|⟨rfl,h⟩
  ·rcases k with k|⟨rfl,k⟩
   ·exact .inl (UInt8.lt_trans h k)
   ·exact .inl h
  ·rcases k with k|⟨rfl,k⟩
   ·exact .inl k
   ·exact .inr ⟨rfl,lB h k⟩
theorem l8:∀(a b:List UInt8),bl a b=true\/a=b\/bl b a=true
 | [],[]=>.inr (.inl rfl)
 | [],b::bs=>.inl rfl
 | a::al,[]=>.inr (.inr rfl)
 | a :: al,b::bs=>by
  rw [yb,yb];simp only[Bool.or_eq_true,decide_eq_true_eq,Bool.and_eq_true,beq_iff_eq]
  by_cases h:a<b
  ·exact .inl (.inl h)
  ·by_cases h2:b<a
   ·exact .inr (.inr (.inl h2))
   ·have:a=b:=UInt8.le_antisymm (UInt8.not_lt.1 h2) (UInt8.not_lt.1 h)
    subst this;rcases l8 al bs with g|g|g
    ·exact .inl (.inr ⟨rfl,g⟩)
    ·exact .inr (.inl (by rw[g]))
    ·exact .inr (.inr (.inr ⟨rfl,g⟩))
theorem fA {a b:List UInt8} (h:bl a b=true):bl b a=false:=by
 cases k:bl b a
 ·rfl
 ·have:=lB h k;rw[cH]at this;cases this
abbrev ax:=List UInt8×Int
def lt (x:ax) (n:List UInt8):Bool:=bl x.1 n
def iR (l:List ax):Prop:=l.Pairwise fun x y=>bl x.1 y.1=true
def pos (l:List ax) (n:List UInt8):Nat:=(l.takeWhile (lt · n)).length
def has (l:List ax) (n:List UInt8):Bool:=l.any (·.1 == n)
theorem Jf (l:List ax) (n:List UInt8):pos l n<=l.length:=by
 unfold pos
 induction l with
 | nil=>simp
 | cons x l ih=>rw[List.takeWhile_cons];split<;>simp<;>omega
theorem lC (x:ax) (l:List ax) (n:List UInt8):pos (x::l) n=if lt x n=true then pos l n+1 else 0:=by
 unfold pos;rw[List.takeWhile_cons];split<;>simp
theorem zQ (l:List ax) (n:List UInt8):∀k,k<pos l n->(h:k<l.length)->lt l[k] n=true:=by
 induction l with
 | nil=>intro k _ h;cases h
 | cons x l ih =>
  intro k hk h;rw [lC]at hk;split at hk
  ·rename_i hx
   cases k with
   | zero=>exact hx
   | succ k=>exact ih k (by omega) (by simpa using h)
  ·omega
theorem OE (l:List ax) (n:List UInt8) (hr:iR l):∀k,(h:k<l.length)->pos l n<=k->lt l[k] n=false:=by
 induction l with
 | nil=>intro k h;cases h
 | cons x l ih =>
  intro k h hk;rw [lC]at hk;have hr':=List.pairwise_cons.1 hr;split at hk
  ·cases k with
   | zero=>omega
   | succ k=>exact ih hr'.2 k (by simpa using h) (by omega)
  ·rename_i hx
   have hx':lt x n=false:=by simpa using hx
   cases k with
   | zero=>exact hx'
   | succ k =>
    have hm:l[k]'(by simpa using h)∈l:=List.getElem_mem _;have h1:=hr'.1 _ hm
    cases h2:lt ((x::l)[k+1]'h) n
    ·rfl
    ·have:lt x n=true:=lB h1 h2
     rw [hx']at this;cases this
theorem CE (l:List ax) (n:List UInt8) (hr:iR l) (p:Nat) (hp:p<=l.length) (h1:∀k,(h:k<l.length)->k<p->lt l[k] n=true) (h2:∀k,(h:k<l.length)->p<=k->lt l[k] n=false):p=pos l n:=by
 rcases Nat.lt_trichotomy p (pos l n) with g|g|g
 ·have hl:=Jf l n
  have a:=zQ l n p g (by omega);have b:=h2 p (by omega) (Nat.le_refl _);rw [a]at b;cases b
 ·exact g
 ·have a:=h1 (pos l n) (by omega) g
  have b:=OE l n hr (pos l n) (by omega) (Nat.le_refl _);rw [a]at b;cases b
theorem EA (l:List ax) (n:List UInt8) (hr:iR l):has l n=(if h:pos l n<l.length then (l[pos l n]'h).1 == n else false):=by
 induction l with
 | nil=>rfl
 | cons x l ih =>
  have hr':=List.pairwise_cons.1 hr;have hp:=lC x l n
  by_cases hx:lt x n=true
  ·rw [if_pos hx]at hp
   have hne:(x.1 == n)=false:=by
    rw [beq_eq_false_iff_ne];intro e;unfold lt at hx;rw[e,cH]at hx;cases hx
   have:has (x::l) n=has l n:=by unfold has;rw[List.any_cons,hne,Bool.false_or]
   rw [this,ih hr'.2];have hlen:(x::l).length=l.length+1:=rfl
   by_cases h:pos l n<l.length
   ·rw [dif_pos h,dif_pos (by omega)]
    have:∀(i j:Nat) (hi:i<(x::l).length) (hj:j<l.length),i=j+1->(x::l)[i]=l[j]:=by
     intro i j hi hj e;subst e;rfl
    rw [this _ _ (by omega) h hp]
   ·rw[dif_neg h,dif_neg (by omega)]
  ·rw [if_neg hx]at hp
   have h0:0<(x::l).length:=by simp
   have e0:∀(i:Nat) (hi:i<(x::l).length),i=0->(x::l)[i]=x:=by intro i hi e;subst e;rfl
   rw [dif_pos (by omega),e0 _ _ hp];unfold has;rw [List.any_cons]
   cases hq:(x.1 == n)
   ·rw [Bool.false_or,List.any_eq_false]
    intro y hy;have h1:=hr'.1 y hy;intro h2;rw [beq_iff_eq]at h2;rw [h2]at h1;exact hx h1
   ·rfl
def cmpL (a b:List UInt8):Int:=if bl a b=true then -1 else if bl b a=true then 1 else 0
theorem wK (s:ByteArray) (w:World):Calls Tryz.prog 181 #[.string s] w (aH w (.bool false)):=by
 go_enter Tryz.func181,Tryz.ntmps181;go_wp2_with fail;go_ret;exact aH.mk rfl (Ext.refl _)
theorem yc {a b:List UInt8} (h:bl a b=true):cmpL a b=-1:=by unfold cmpL;rw[if_pos h]
theorem yd {a b:List UInt8} (h:bl b a=true):cmpL a b=1:=by unfold cmpL;rw[if_neg (by rw[fA h];decide),if_pos h]
theorem cmpL_eq (a:List UInt8):cmpL a a=0:=by unfold cmpL;rw[cH];rfl
theorem zR (a b:List UInt8) (w:World):Calls Tryz.prog 168 #[bs a,bs b] w (aH w (.int .i64 (cmpL a b))):=by
 obtain ⟨x,y,c,hx,hy,hc,hf⟩:∃(x y:Bool) (c:Int),bl a b=x/\(a == b)=y/\cmpL a b=c/\((x=true/\y=false/\c=-1)\/(x=false/\y=true/\c=0)\/(x=false/\y=false/\c=1)):=by
  refine ⟨_,_,_,rfl,rfl,rfl,?_⟩;rcases l8 a b with h|h|h
  ·refine .inl ⟨h,?_,yc h⟩
   rw [beq_eq_false_iff_ne];intro e;rw[e,cH]at h;cases h
  ·subst h;exact .inr (.inl ⟨cH a,beq_self_eq_true a,cmpL_eq a⟩)
  ·refine .inr (.inr ⟨fA h,?_,yd h⟩)
   rw [beq_eq_false_iff_ne];intro e;rw[e,cH]at h;cases h
 have e1:Go.Op.bytesLess (bs a).toList (bs b).toList=x:=by rw[bk,bk];exact hx
 have e2:((bs a).toList == (bs b).toList)=y:=by rw[bk,bk];exact hy
 have HC:=zH hc;clear hx hy hc;rcases hf with⟨rfl,rfl,rfl⟩|⟨rfl,rfl,rfl⟩|⟨rfl,rfl,rfl⟩
 all_goals
  go_enter Tryz.func168,Tryz.ntmps168;go_wp2_with fail;refine (wK _ _).mono ?_;rintro e w1 ⟨rfl,b1⟩;go_wp2_with fail;refine (wK _ _).mono ?_;rintro e w2 ⟨rfl,b2⟩;go_wp2_with fail;go_ret;exact aH.mk (aB (by rw[HC.out])) (b1.trans b2)
theorem Jg (a n:List UInt8) (no:Int) (w:World):Calls Tryz.prog 151 #[.agg #[bs a,.int .i64 no],bs n] w (aH w (.int .i64 (cmpL a n))):=by
 go_enter Tryz.func151,Tryz.ntmps151;go_wp2_with fail;refine (zR a n _).mono ?_;rintro e w1 ⟨rfl,b1⟩;go_wp2_with fail;go_ret;exact aH.mk rfl (((Ext.refl _).alloc _).trans b1)
def bU (w:World) (A:Option Addr) (l:List ax):Prop:=
 l = []\/∃b o,A=some ⟨b,o,none⟩/\b<w.heap.size/\∀k,(h:k<l.length)->w.cell? ⟨b,o+k*2,none⟩=some (.string (bs l[k].1))/\w.cell? ⟨b,o+k*2+1,none⟩=some (.int .i64 l[k].2)
theorem bU.ext {w w':World} {A:Option Addr} {l:List ax} (h:bU w A l) (k:Ext w w'):bU w' A l:=by
 rcases h with h|⟨b,o,hA,hb,hc⟩
 ·exact .inl h
 ·refine .inr ⟨b,o,hA,by have:=k.size;omega,fun i hi=>?_⟩
  rw [k.cell hb,k.cell hb];exact hc i hi
theorem bU.at_ {w wr:World} {A:Option Addr} {l:List ax} (h:bU w A l) (hE:Ext w wr) (k:Nat) (hk:k<l.length) :
  ∃ b o,A=some ⟨b,o,none⟩/\b<wr.heap.size/\wr.cell? ⟨b,o+k*2,none⟩=some (.string (bs l[k].1))/\wr.cell? ⟨b,o+k*2+1,none⟩=some (.int .i64 l[k].2):=by
 rcases h.ext hE with h0|⟨b,o,hA,hb,hc⟩
 ·rw[h0]at hk;simp at hk
 ·exact⟨b,o,hA,hb,hc k hk⟩
theorem ow {l:List ax} {nm:List UInt8} (hr:iR l) {i k:Nat} (hik:i<k) (hk:k<l.length) (h:lt l[k] nm=true):lt (l[i]'(by omega)) nm=true:=
 lB (List.pairwise_iff_getElem.1 hr i k (by omega) hk hik) h
theorem l9 (A:Option Addr) (l:List ax) (cap:Nat) (nm:List UInt8) (w:World) (h:bU w A l) (hr:iR l) (hlen:l.length<=1000000):Calls Tryz.prog 150 #[.slice A l.length cap,bs nm,.func (Fn.func 151) #[] #[]] w (aH w (.tuple #[.int .i64 (pos l nm),.bool (has l nm)])):=by
 obtain⟨n,hn⟩:=ar l.length;rw [<-hn]at hlen|-;have HN:=zH hn;clear hn;go_enter Tryz.func150,Tryz.ntmps150;go_wp2_with fail;go_loopw [9,10] (fun iv jv wr=>∃i j:Nat,iv=.int .i64 i/\jv=.int .i64 j/\i<=j/\j<=n/\Hid (∀k,(h:k<l.length)->k<i->lt l[k] nm=true)/\Hid (∀k,(h:k<l.length)->j<=k->lt l[k] nm=false)/\Ext w wr) (fun iv jv _=>(intOf jv).toNat-(intOf iv).toNat)
 case atStart=>exact⟨0,n,rfl,rfl,by omega,Nat.le_refl _,fun k _ h=>absurd h (by omega),fun k h h2=>absurd h2 (by have:=HN.out;omega),Ext.refl _⟩
 case round =>
  obtain ⟨i,j,rfl,rfl,hij,hjn,ha,hb,hE⟩:=hrel
  by_cases hlt:(i:Int)<j
  ·obtain⟨m,hm⟩:=ar ((i+j) / 2)
   have jl:i<=m:=by omega
   have cL:m<j:=by omega
   have OG:m<l.length:=by have:=HN.out;omega
   have e1:((i:Int)+(j:Int)) / 2=(m:Int):=by omega
   have OH:(m:Int)<(n:Int):=by omega
   have hm0:(0:Int)<=(m:Int):=by omega
   clear hm;obtain ⟨b,o,rfl,vQ,hc⟩:=h.at_ hE m OG;obtain ⟨ca,cb⟩:=hc
   generalize hx1:l[m]=x at ca cb
   have h1:=zH hx1;clear hx1;go_wp2_with fail;refine (Jg _ _ _ _).mono ?_;rintro e w1 ⟨rfl,b1⟩
   by_cases hl:lt x nm=true
   ·have e:cmpL x.1 nm=-1:=yc hl
    rw [e];have Jh:Hid (∀k,(h:k<l.length)->k<m+1->lt l[k] nm=true):=fun k h3 h4=>by
     by_cases hk:k=m
     ·subst hk
      have q:=h1.out;rw [q];exact hl
     ·exact ow hr (show k<m by omega) OG (by have q:=h1.out;rw[q];exact hl)
    clear e hl;go_wp2_with fail;go_roundw
    case rel=>exact⟨m+1,j,by go_num,rfl,by omega,hjn,Jh,hb,hE.trans b1⟩
    case measure=>simp[intOf];omega
   ·have rO:lt x nm=false:=by simpa using hl
    have e:decide (cmpL x.1 nm<0)=false:=by
     rcases l8 x.1 nm with g|g|g
     ·exact absurd g hl
     ·rw[g,cmpL_eq];rfl
     ·rw[yd g];rfl
    have hb2:Hid (∀k,(h:k<l.length)->m<=k->lt l[k] nm=false):=fun k h3 h4=>by
     cases hv:lt l[k] nm
     ·rfl
     ·by_cases hk:m=k
      ·subst hk
       have q:=h1.out;rw [q,rO]at hv;cases hv
      ·have:=ow hr (show m<k by omega) h3 hv
       rw [h1.out,rO]at this;cases this
    clear hl rO;go_wp2_with fail;go_roundw
    case rel=>exact⟨i,m,rfl,rfl,by omega,by omega,ha,hb2,hE.trans b1⟩
    case measure=>simp[intOf];omega
  ·have aaa:i=j:=by omega
   subst aaa;have hp:i=pos l nm:=CE l nm hr i (by have:=HN.out;omega) ha.out hb.out;have hh:=EA l nm hr;rw [<-hp]at hh;have HP:=zH hp;clear hp hlt
   by_cases sw:(i:Int)<n
   ·have hil:i<l.length:=by have:=HN.out;omega
    rw [dif_pos hil]at hh;obtain ⟨b,o,rfl,vQ,hc⟩:=h.at_ hE i hil;obtain ⟨ca,cb⟩:=hc
    generalize hx1:l[i]=x at ca cb hh
    have hq:(cmpL x.1 nm == 0)=has l nm:=by
     rw [hh];rcases l8 x.1 nm with g|g|g
     ·rw [yc g];symm;rw[beq_eq_false_iff_ne.2];· rfl
      intro e;rw[e,cH]at g;cases g
     ·rw[g,cmpL_eq];simp
     ·rw [yd g];symm;rw[beq_eq_false_iff_ne.2];· rfl
      intro e;rw[e,cH]at g;cases g
    have HQ:=zH hq;clear hx1 hh hq;go_wp2_with fail;refine (Jg _ _ _ _).mono ?_;rintro e w1 ⟨rfl,b1⟩;go_wp2_with fail;go_ret2;exact aH.mk (by rw[HQ.out,<-HP.out];rfl) (hE.trans b1)
   ·rw [dif_neg (by have:=HN.out;omega)]at hh
    have HH:=zH hh;clear hh;go_wp2_with fail;go_ret2;exact aH.mk (by rw[HH.out,<-HP.out];rfl) hE
def au (l:List ax):List Value:=l.flatMap fun x=>[.string (bs x.1),.int .i64 x.2]
theorem cD (l:List ax):(au l).length=l.length*2:=by
 unfold au
 induction l with
 | nil=>rfl
 | cons x l ih=>rw[List.flatMap_cons,List.length_append,ih];simp;omega
theorem ef (a b:List ax):au (a++b)=au a++au b:=by unfold au;rw[List.flatMap_append]
theorem dw (l:List ax):∀u∈au l,u.oneCell'=true:=by
 intro u hu;unfold au at hu;rw [List.mem_flatMap]at hu;obtain ⟨x,_,hx⟩:=hu;rcases List.mem_cons.1 hx with rfl|hx
 ·rfl
 ·rw[List.mem_singleton.1 hx];rfl
theorem pD (l:List ax):∀k,(h:k<l.length)->(au l)[k*2]?=some (.string (bs l[k].1))/\(au l)[k*2+1]?=some (.int .i64 l[k].2):=by
 induction l with
 | nil=>intro k h;cases h
 | cons x l ih =>
  intro k h;have e:au (x::l)=.string (bs x.1)::.int .i64 x.2::au l:=rfl;rw [e]
  cases k with
  | zero=>exact⟨rfl,rfl⟩
  | succ k =>
   have:=ih k (by simpa using h);rw [show (k+1)*2=k*2+1+1 by omega];simpa using this
theorem bU.cells {w:World} {b o:Nat} {l:List ax} (h:bU w (some ⟨b,o,none⟩) l):∀j u,(au l)[j]?=some u->w.cell? ⟨b,o+j,none⟩=some u:=by
 intro j u hu;have hj:j<l.length*2:=by
  rw [<-cD];rcases Nat.lt_or_ge j (au l).length with h'|h'
  ·exact h'
  ·rw[List.getElem?_eq_none h']at hu;cases hu
 rcases h with h|⟨b',o',hA,_,hc⟩
 ·subst h;simp at hj
 ·injection hA with hA
  injection hA with h1 h2;subst h1 h2;have hk:=hc (j / 2) (by omega);have hg:=pD l (j / 2) (by omega);rcases Nat.mod_two_eq_zero_or_one j with hm|hm
  ·have e:j / 2*2=j:=by omega
   rw [e]at hk hg;rw [hk.1,<-hg.1,hu]
  ·have e:j / 2*2+1=j:=by omega
   have e2:o+j / 2*2+1=o+j:=by omega
   rw [e]at hg;rw [e2]at hk;rw [hk.2,<-hg.2,hu]
def dY (w:World) (base:Nat) (v:Value) (l:List ax):Prop:=w.ownsRow base 106 2 v l.length (au l)
theorem dY.at_ {w:World} {base:Nat} {v:Value} {l:List ax} (h:dY w base v l):∃A cap,v=.slice A l.length cap/\l.length<=cap/\cap<=maxLen/\bU w A l:=by
 unfold dY at h;rcases h.2 with⟨rfl,h0⟩|⟨g,cap,cur,rfl,_,hg,hn,hm,hsz,htake⟩
 ·have:l=[]:=List.eq_nil_of_length_eq_zero h0
  subst this;exact ⟨none,0,rfl,Nat.le_refl _,by decide,.inl rfl⟩
 ·refine ⟨_,cap,rfl,hn,hm,.inr ⟨g,0,rfl,?_,fun k hk=>?_⟩⟩
  ·rcases Nat.lt_or_ge g w.heap.size with h'|h'
   ·exact h'
   ·simp[Array.getElem?_eq_none h']at hg
  ·have hc:=h.cells (g:=g) rfl
   have hg:=pD l k hk;have h1:=hc _ _ hg.1;have h2:=hc _ _ hg.2;simp only[Addr.add_lit]at h1 h2;rw [Nat.add_assoc];exact ⟨h1,h2⟩
theorem ki:(Tryz.prog.info? 106).map (fun i=>(i.zero,i.size,i.bytes))=some (some (.agg #[.string ⟨#[]⟩,.int .i64 0]),2,24):=by kernel_rfl
theorem iZ (z:Array Value) (n:Nat):(Builtin.zeroCells z n).size=n*z.size:=by
 unfold Builtin.zeroCells;simp
theorem OI (w:World) (G n:Nat) (hge:n<=G) (hle:G<=maxLen):dY ((w.alloc (.cells (Builtin.zeroCells #[.string ⟨#[]⟩,.int .i64 0] n++Builtin.zeroCells #[.string ⟨#[]⟩,.int .i64 0] (G-n)) 106)).drew) w.heap.size (.slice (some ⟨w.heap.size,0,none⟩) 0 G) []:=by
 refine ⟨rfl,.inr ⟨w.heap.size,G,Builtin.zeroCells #[.string ⟨#[]⟩,.int .i64 0] n++Builtin.zeroCells #[.string ⟨#[]⟩,.int .i64 0] (G-n),rfl,Nat.le_refl _,Has.new w _,Nat.zero_le _,hle,?_,rfl⟩⟩;rw [Array.size_append,iZ,iZ];show n*2+(G-n)*2=G*2;omega
theorem Ji (n:Nat) (w:World) (hn:n<=1000000):Calls Tryz.prog 169 #[.slice none 0 0,.int .i64 n] w fun e w'=>∃v,e=.returned v/\dY w' w.heap.size v []/\Ext w w':=by
 by_cases h0:n=0
 ·subst h0
  go_enter Tryz.func169,Tryz.ntmps169;go_wp2_with fail;go_ret;exact ⟨_,rfl,⟨rfl,.inl ⟨rfl,rfl⟩⟩,Ext.refl _⟩
 ·obtain ⟨i0,hi,hz0,hz1,hz2⟩:=info_parts ki
  have hrun:=fun ty=>Lib.run_append_nil_zeros (P:=Tryz.prog) w 56 3 ty 106 i0 _ .i64 .i64 Tryz.underlying56 Tryz.underlying3 hi hz0 n (by omega) (by rw[hz1];decide) (by omega) (by rw[hz2];omega)
  have hge:=grownCap_ge w n 0 106;have hle:=grownCap_le_maxLen w n 0 106 (by unfold maxLen;omega)
  generalize grownCap w n 0 106=G at hrun hge hle
  have hG:(G:Int)<=9223372036854775807:=by unfold maxLen at hle;omega
  have hpos:0<(n:Int):=by omega
  have HR:=zH hrun;clear hrun h0;go_enter Tryz.func169,Tryz.ntmps169;go_wp2_with (at_builtin;refine Lib.wpList_append_run _ rfl _ _ 56 3 rfl _ _ rfl rfl _ _ (HR.out _) ?_);go_ret;refine ⟨.slice (some ⟨w.heap.size,0,none⟩) 0 G,rfl,?_,((Ext.refl _).alloc _).drew⟩;exact OI w G n hge hle
abbrev Part:=Option Addr×Nat×List ax
def zS (w:World) (b:Nat) (ps:List Part):Prop:=
 b<w.heap.size/\∀i,(h:i<ps.length)->w.cell? ⟨b,i,none⟩=some (.slice ps[i].1 ps[i].2.2.length ps[i].2.1)/\bU w ps[i].1 ps[i].2.2/\(ps[i].1=none->ps[i].2.1=0)
theorem zS.ext {w w':World} {b:Nat} {ps:List Part} (h:zS w b ps) (k:Ext w w'):zS w' b ps:=
 ⟨by have:=k.size;have:=h.1;omega,fun i hi=>⟨by rw[k.cell h.1];exact (h.2 i hi).1,(h.2 i hi).2.1.ext k,(h.2 i hi).2.2⟩⟩
def fF (ps:List Part):List ax:=ps.flatMap (·.2.2)
theorem tA (ps:List Part) (i:Nat) (h:i<ps.length):fF (ps.take (i+1))=fF (ps.take i)++ps[i].2.2:=by
 unfold fF;rw [List.take_succ_eq_append_getElem h,List.flatMap_append];simp
theorem oy (ps:List Part) (i:Nat):(fF (ps.take i)).length<=(fF ps).length:=by
 have:fF ps=fF (ps.take i)++fF (ps.drop i):=by unfold fF;rw[<-List.flatMap_append,List.take_append_drop]
 rw [this,List.length_append];omega
theorem tB (b cap:Nat) (ps:List Part) (w:World) (hp:zS w b ps) (hlen:(fF ps).length<=1000000) (hk:ps.length<=1000000):Calls Tryz.prog 152 #[.slice (some ⟨b,0,none⟩) ps.length cap] w fun e w'=>∃v,e=.returned v/\dY w' w.heap.size v (fF ps)/\Ext w w':=by
 obtain⟨q,hq⟩:=ar ps.length;rw [<-hq]at hk|-;have HQ:=zH hq;clear hq;go_enter Tryz.func152,Tryz.ntmps152;go_wp2_with fail;go_loop [3,11] (fun s i=>∃k n:Nat,k<=q/\i=.int .i64 k/\s=.int .i64 n/\n<=1000000/\Hid (n=(fF (ps.take k)).length)) (fun _ i=>q-(intOf i).toNat)
 case atStart=>exact⟨0,0,Nat.zero_le _,rfl,rfl,by omega,rfl⟩
 case round =>
  obtain ⟨k,n,hkq,rfl,rfl,hn,Hn⟩:=hrel
  by_cases hlt:(k:Int)<q
  ·have dq:k<ps.length:=by have:=HQ.out;omega
   obtain ⟨hc,he,-⟩:=hp.2 k dq;have hs:=tA ps k dq;have hle:=oy ps (k+1);rw [hs,List.length_append]at hle
   generalize hx:ps[k]=x at hc he hs hle
   obtain ⟨A,c,l⟩:=x;obtain⟨m,hm⟩:=ar l.length;have hn':n+m<=1000000:=by have:=Hn.out;simp at hle;omega
   have Hn2:Hid (n+m=(fF (ps.take (k+1))).length):=by show _=_;rw[hs,List.length_append];have:=Hn.out;simp;omega
   simp only[]at hc;rw [<-hm]at hc;clear hs hle hx he hm;go_wp2_with fail;go_round
   case rel=>exact⟨k+1,n+m,by omega,by go_num,by go_num,hn',Hn2⟩
   case measure=>simp[intOf];omega
  ·have aab : k=q:=by omega
   subst aab;clear hlt;go_wp2_with fail;refine (Ji n _ hn).mono ?_;rintro e w1 ⟨v,rfl,ho,b1⟩;have B1:=zH b1;have HQ':=trivial;go_wp2_with fail;obtain ⟨i0,hi,hz0,hz1,hz2⟩:=info_parts ki;clear b1 HQ' hkq;go_loopw [6,27] (fun u i wr=>∃j:Nat,j<=k/\i=.int .i64 j/\dY wr w.heap.size u (fF (ps.take j))/\Ext w wr) (fun _ i _=>k-(intOf i).toNat)
   case atStart=>exact⟨0,Nat.zero_le _,rfl,ho,B1.out⟩
   case round =>
    obtain ⟨j,Q6,rfl,hown,hE⟩:=hrel
    by_cases hlt:(j:Int)<k
    ·have hjl:j<ps.length:=by have:=HQ.out;omega
     obtain ⟨hc,he,hnone⟩:=(hp.ext hE).2 j hjl;have hs:=tA ps j hjl;have hle:=oy ps (j+1);rw [hs,List.length_append]at hle
     generalize hx:ps[j]=x at hc he hs hle hnone
     obtain ⟨A,c,l⟩:=x;simp only[]at hc he hs hle hnone
     cases A with
     | none =>
      have jF:l=[]:=by
       rcases he with h|⟨b',o',h,_⟩
       ·exact h
       ·cases h
      subst jF;obtain rfl:c=0:=hnone rfl;have gQ:Hid (dY wr w.heap.size u6 (fF (ps.take (j+1)))):=by show dY _ _ _ _;rw[hs,List.append_nil];exact hown
      clear hs hle he hnone hx;go_wp2_with (at_builtin;refine wpList_append_own_none rfl _ _ 56 rfl _ 106 i0 2 Tryz.underlying56 hi _ _ _ rfl hown rfl ?_);go_roundw
      case rel=>exact⟨j+1,by omega,by go_num,gQ.out,hE⟩
      case measure=>simp[intOf];omega
     | some ad =>
      have hnews:∀j u,(au l)[j]?=some u->wr.cell? (ad.add j)=some u:=by
       intro j' u' hu;rcases he with h|⟨b',o',h,hb,h2⟩
       ·subst h;simp[au]at hu
       ·injection h with h
        subst h;rw [Addr.add_lit];exact bU.cells (.inr ⟨b',o',rfl,hb,h2⟩) j' u' hu
      have g_:(fF (ps.take j)).length+l.length<=1000000:=by omega
      have Jj:=zH hnews;have HS:=zH hs;obtain⟨P,hP⟩:=ar (fF (ps.take j));rw [<-hP]at g_ hown HS;obtain⟨m,hm⟩:=ar l.length;rw [<-hm]at hc g_;have HM:=zH hm;unfold dY at hown;clear hnews hs hle he hnone hx hP hm;go_wp2_with (at_builtin;refine wpList_append_own _ rfl _ _ 56 rfl w.heap.size 106 i0 (.agg #[.string ⟨#[]⟩,.int .i64 0]) 2 24 Tryz.underlying56 hi hz0 hz1 hz2 rfl (by decide) _ _ _ rfl hown ad m c (au l) rfl (by rw[cD,HM.out]) Jj.out (dw l) (by unfold maxLen;omega) (by omega) hE.size ?_);intro v' w2 gQ hgrow _;have mL:Hid (dY w2 w.heap.size v' (fF (ps.take (j+1)))):=by
       show dY _ _ _ _;unfold dY;rw [HS.out,ef,List.length_append,<-HM.out];exact gQ
      have lj:Ext w w2:=hE.grown hgrow (fun g hg=>(hown.lt g hg).1);clear gQ hgrow;go_wp2_with fail;go_roundw
      case rel=>exact⟨j+1,by omega,by go_num,mL.out,lj⟩
      case measure=>simp[intOf];omega
    ·have aac:j=k:=by omega
     subst aac;have ht:Hid (fF (ps.take j)=fF ps):=by show _=_;rw[HQ.out,List.take_length]
     clear hlt;go_wp2_with fail;go_ret;exact ⟨_,rfl,by rw[<-ht.out];exact hown,hE⟩
def numOf (l:List ax) (nm:List UInt8):Int:=if has l nm=true then (l.getD (pos l nm) ([],0)).2 else 0
theorem CG {l:List ax} {nm:List UInt8} (hr:iR l) (h:has l nm=true):∃hp:pos l nm<l.length,(l[pos l nm]'hp).1=nm:=by
 rw [EA l nm hr]at h;split at h
 ·rename_i hp;exact⟨hp,by simpa using h⟩
 ·cases h
theorem pE (A:Option Addr) (l:List ax) (cap:Nat) (nm:List UInt8) (w:World) (h:bU w A l) (hr:iR l) (hlen:l.length<=1000000):Calls Tryz.prog 125 #[.slice A l.length cap,bs nm] w (aH w (.int .i64 (numOf l nm))):=by
 have hf:Hid (numOf l nm=if has l nm=true then (l.getD (pos l nm) ([],0)).2 else 0):=rfl
 cases hh:has l nm
 ·rw [hh]at hf
  have HH:=zH hh;clear hh;go_enter Tryz.func125,Tryz.ntmps125;go_wp2_with fail;refine (l9 A l cap nm _ h hr hlen).mono ?_;rintro e w1 ⟨rfl,b1⟩;rw [HH.out];go_wp2_with fail;go_ret;exact aH.mk (aB (by rw[hf.out];rfl)) b1
 ·rw [hh]at hf
  obtain ⟨hp,-⟩:=CG hr hh;obtain⟨p,sU⟩:=ar (pos l nm);have HH:=zH hh;rw [<-sU]at hf;have hpl:p<l.length:=by rw[sU];exact hp
  have HP:=zH sU;clear hh hp sU;obtain⟨n,hn⟩:=ar l.length;have Vk:(p:Int)<(n:Int):=by omega
  have HN:=zH hn;clear hn;go_enter Tryz.func125,Tryz.ntmps125;rw [<-HN.out];go_wp2_with fail;rw [HN.out];refine (l9 A l cap nm _ h hr hlen).mono ?_;rintro e w1 ⟨rfl,b1⟩;rw [HH.out,<-HP.out,<-HN.out];obtain ⟨b,o,rfl,vQ,ca,cb⟩:=h.at_ b1 p hpl;have hx:Hid ((l.getD p ([],0)).2=(l[p]).2):=by show _=_;rw[List.getD_eq_getElem?_getD,List.getElem?_eq_getElem hpl];rfl
  generalize l[p]=x at ca cb hx
  go_wp2_with fail;go_ret;exact aH.mk (aB (by rw[hf.out,if_pos trivial,hx.out])) b1
theorem bU.take {w:World} {A:Option Addr} {l:List ax} (h:bU w A l) (k:Nat):bU w A (l.take k):=by
 rcases h with h|⟨b,o,hA,hb,hc⟩
 ·subst h;exact .inl (by simp)
 ·refine .inr ⟨b,o,hA,hb,fun i hi=>?_⟩
  rw [List.length_take]at hi;rw [List.getElem_take];exact hc i (by omega)
theorem bU.drop {w:World} {b o:Nat} {l:List ax} (h:bU w (some ⟨b,o,none⟩) l) (k:Nat):bU w (some ⟨b,o+k*2,none⟩) (l.drop k):=by
 rcases h with h|⟨b',o',hA,hb,hc⟩
 ·subst h;exact .inl (by simp)
 ·injection hA with hA
  injection hA with h1 h2;subst h1 h2;refine .inr ⟨b,o+k*2,rfl,hb,fun i hi=>?_⟩;rw [List.length_drop]at hi;rw [List.getElem_drop];have:=hc (k+i) (by omega);rw [show o+k*2+i*2=o+(k+i)*2 by omega];exact this
theorem dY.base {w:World} {B B':Nat} {v:Value} {l:List ax} (h:dY w B v l) (hB:B'<=B):dY w B' v l:=by
 refine ⟨h.1,?_⟩;rcases h.2 with h|⟨g,cap,cur,h1,h2,h3⟩
 ·exact .inl h
 ·exact .inr ⟨g,cap,cur,h1,Nat.le_trans hB h2,h3⟩
theorem Jk {W:World} {B:Nat} {A1 A2 A3:Option Addr} {c1 c2 c3:Nat} {l1 l2 l3:List ax} (h0:W.cell? ⟨B,0,none⟩=some (.slice A1 l1.length c1)) (h1:W.cell? ⟨B,1,none⟩=some (.slice A2 l2.length c2)) (h2:W.cell? ⟨B,2,none⟩=some (.slice A3 l3.length c3)) (e1:bU W A1 l1) (e2:bU W A2 l2) (e3:bU W A3 l3) (hB:B<W.heap.size) (z1:A1=none->c1=0) (z2:A2=none->c2=0) (z3:A3=none->c3=0) :
  zS W B [(A1,c1,l1),(A2,c2,l2),(A3,c3,l3)]:=by
 refine ⟨hB,fun i hi=>?_⟩
 match i,hi with
 | 0,_=>exact⟨h0,e1,z1⟩
 | 1,_=>exact⟨h1,e2,z2⟩
 | 2,_=>exact⟨h2,e3,z3⟩
theorem lD {W:World} {B:Nat} {nm:List UInt8} {no:Int} (h:Has W B (.cells #[bs nm,.int .i64 no] 106)):bU W (some ⟨B,0,none⟩) [(nm,no)]:=by
 refine .inr ⟨B,0,rfl,h.lt,fun k hk=>?_⟩;obtain rfl:k=0:=by simp at hk;omega
 exact ⟨h.cell 0,h.cell 1⟩
def od (l:List ax) (nm:List UInt8) (no:Int):List ax:=l.take (pos l nm)++(nm,no)::l.drop (pos l nm+if has l nm=true then 1 else 0)
def Jl (w:World) (l:List ax) (e:Ending) (w':World):Prop:=∃v,e=.returned v/\dY w' w.heap.size v l/\Ext w w'
theorem OJ (A:Option Addr) (l:List ax) (cap:Nat) (nm:List UInt8) (no:Int) (w:World) (h:bU w A l) (hr:iR l) (hcap:l.length<=cap) (tD:cap<=maxLen) (hlen:l.length<=999999) (hh:has l nm=true):Calls Tryz.prog 127 #[.slice A l.length cap,bs nm,.int .i64 no] w (Jl w (od l nm no)):=by
 obtain ⟨hp,-⟩:=CG hr hh;obtain⟨p,sU⟩:=ar (pos l nm);have HH:=zH hh;have hpl:p<l.length:=by rw[sU];exact hp
 have hcut:Hid (od l nm no=l.take p++(nm,no)::l.drop (p+1)):=by show _=_;unfold od;rw[hh,if_pos rfl,sU]
 have HP:=zH sU;clear hh hp sU;obtain⟨n,hn⟩:=ar l.length;have Vk:(p:Int)<(n:Int):=by omega
 have hnc:n<=cap:=by omega
 have hcm:cap<=9223372036854775807:=by unfold maxLen at tD;omega
 have HN:=zH hn;obtain ⟨b,o,rfl,-⟩:=h.at_ (Ext.refl w) p hpl;clear hn hcap tD;go_enter Tryz.func127,Tryz.ntmps127;rw [<-HN.out];go_wp2_with fail;rw [HN.out];refine (l9 _ l cap nm _ h hr (by omega)).mono ?_;rintro e w1 ⟨rfl,b1⟩;rw [HH.out,<-HP.out,<-HN.out];have g1:IntKind.i64.wrap ((p:Int)+1)=(p:Int)+1:=bV (by omega) (by omega);have g2:(0:Int)<=(p:Int)+1:=by omega
 have g3:((p:Int)+1).toNat=p+1:=by omega
 go_wp2_with fail;have hpc:p<=cap:=by omega
 have abX:(p:Int)+1<=(n:Int):=by omega
 have lt:(l.take p).length=p:=by rw[List.length_take];omega
 have LT:=zH lt;clear lt
 by_cases hc1:cap=p+1
 ·have V7:l.drop (p+1)=[]:=by rw[List.drop_eq_nil_iff,<-HN.out];omega
  obtain rfl:n=p+1:=by omega
  subst hc1;have HD:=zH V7;clear V7;have sU:(p:Int)<=(p:Int)+1:=by omega
  have Jm:Hid (fF [((some ⟨b,o,none⟩:Option Addr),p+1,l.take p),(some ⟨w1.heap.size,0,none⟩,1,[(nm,no)]),(some ⟨b,o,none⟩,0,[])]=l.take p++(nm,no)::l.drop (p+1)):=by show _=_;rw[HD.out];unfold fF;simp
  have rO:Hid ((fF [((some ⟨b,o,none⟩:Option Addr),p+1,l.take p),(some ⟨w1.heap.size,0,none⟩,1,[(nm,no)]),(some ⟨b,o,none⟩,0,[])]).length<=1000000):=by show _<=_;rw[Jm.out,List.length_append,LT.out,List.length_cons,List.length_drop];have:=HN.out;omega
  obtain⟨W1,b_⟩:=ar (w1.alloc (.cells #[bs nm,.int .i64 no] 106));have zT:Has W1 w1.heap.size (.cells #[bs nm,.int .i64 no] 106):=by rw[b_];exact Has.new _ _
  have X1:Ext w W1:=by rw[b_];exact b1.alloc _
  have z1:W1.heap.size=w1.heap.size+1:=by rw[b_];simp
  have HW:=zH b_;have HZ:=zH z1;clear b_ z1;go_region_held3 (fun w'=>Ext w w') ((first|exact b1.drew|exact (b1.alloc _).drew|exact ((b1.alloc _).alloc _).drew|exact Sm))
   ((go_at_call 152;rw[<-HW.out,<-HZ.out];refine (tB _ _ [((some ⟨b,o,none⟩:Option Addr),p+1,l.take p),(some ⟨w1.heap.size,0,none⟩,1,[(nm,no)]),(some ⟨b,o,none⟩,0,[])] _ (Jk (by rw[LT.out];exact (Has.new W1 _).cell 0) ((Has.new W1 _).cell 1) (by exact (Has.new W1 _).cell 2) ((h.ext (X1.alloc _).drew).take p) (lD (zT.ext ((Ext.refl _).alloc _).drew)) (.inl rfl) (Has.new W1 _).lt (by intro h;cases h) (by intro h;cases h) (by intro h;cases h)) rO.out (by show 3<=1000000;omega)).mono ?_;rintro e w2 ⟨v,rfl,ho,b2⟩;have Sm:=(X1.alloc _).drew.trans b2))
  go_wp2_with fail;go_ret;exact ⟨v,rfl,by rw[hcut.out,<-Jm.out];exact ho.base (by have:=X1.size;simp;omega),Sm⟩
 ·have EB:decide (cap=p+1)=false:=decide_eq_false hc1
  have ld:(l.drop (p+1)).length=n-(p+1):=by rw[List.length_drop,<-HN.out]
  have LD:=zH ld;clear ld;have Jm:Hid (fF [((some ⟨b,o,none⟩:Option Addr),cap,l.take p),(some ⟨w1.heap.size,0,none⟩,1,[(nm,no)]),(some ⟨b,o+(p+1)*2,none⟩,cap-(p+1),l.drop (p+1))]=l.take p++(nm,no)::l.drop (p+1)):=by show _=_;unfold fF;simp
  have rO:Hid ((fF [((some ⟨b,o,none⟩:Option Addr),cap,l.take p),(some ⟨w1.heap.size,0,none⟩,1,[(nm,no)]),(some ⟨b,o+(p+1)*2,none⟩,cap-(p+1),l.drop (p+1))]).length<=1000000):=by show _<=_;rw[Jm.out,List.length_append,LT.out,List.length_cons,List.length_drop];have:=HN.out;omega
  obtain⟨W1,b_⟩:=ar (w1.alloc (.cells #[bs nm,.int .i64 no] 106));have zT:Has W1 w1.heap.size (.cells #[bs nm,.int .i64 no] 106):=by rw[b_];exact Has.new _ _
  have X1:Ext w W1:=by rw[b_];exact b1.alloc _
  have z1:W1.heap.size=w1.heap.size+1:=by rw[b_];simp
  have HW:=zH b_;have HZ:=zH z1;clear b_ z1;go_region_held3 (fun w'=>Ext w w') ((first|exact b1.drew|exact (b1.alloc _).drew|exact ((b1.alloc _).alloc _).drew|exact Sm))
   ((go_at_call 152;rw[<-HW.out,<-HZ.out];refine (tB _ _ [((some ⟨b,o,none⟩:Option Addr),cap,l.take p),(some ⟨w1.heap.size,0,none⟩,1,[(nm,no)]),(some ⟨b,o+(p+1)*2,none⟩,cap-(p+1),l.drop (p+1))] _ (Jk (by rw[LT.out];exact (Has.new W1 _).cell 0) ((Has.new W1 _).cell 1) (by rw[LD.out];exact (Has.new W1 _).cell 2) ((h.ext (X1.alloc _).drew).take p) (lD (zT.ext ((Ext.refl _).alloc _).drew)) ((h.ext (X1.alloc _).drew).drop (p+1)) (Has.new W1 _).lt (by intro h;cases h) (by intro h;cases h) (by intro h;cases h)) rO.out (by show 3<=1000000;omega)).mono ?_;rintro e w2 ⟨v,rfl,ho,b2⟩;have Sm:=(X1.alloc _).drew.trans b2))
  go_wp2_with fail;go_ret;exact ⟨v,rfl,by rw[hcut.out,<-Jm.out];exact ho.base (by have:=X1.size;simp;omega),Sm⟩
theorem FU (A:Option Addr) (l:List ax) (cap:Nat) (w:World) (h:bU w A l) (hnone:A=none->cap=0) (hlen:l.length<=1000000):Calls Tryz.prog 154 #[.slice A l.length cap] w (Jl w l):=by
 obtain⟨n,hn⟩:=ar l.length;have HN:=zH hn
 cases A with
 | none =>
  have jF:l=[]:=by
   rcases h with h|⟨b',o',h,_⟩
   ·exact h
   ·cases h
  subst jF;obtain rfl:cap=0:=hnone rfl;clear hnone hn HN;have e0:∀w,(binOp .eql 56 (.slice none 0 0) (.slice none 0 0)).run Tryz.prog w=.ok (.bool true) w:=fun w=>Lib.run_eql_slice_nil w _ _ none 0 0 0 0 Tryz.underlying56
  show Calls _ _ #[.slice none 0 0] _ _;go_enter Tryz.func154,Tryz.ntmps154;go_wp2_with fail;go_ret;exact ⟨_,rfl,⟨rfl,.inl ⟨rfl,rfl⟩⟩,Ext.refl _⟩
 | some ad =>
  rw [<-hn]at hlen|-;clear hnone hn;obtain ⟨i0,hi,hz0,hz1,hz2⟩:=info_parts ki;have e0:∀w,(binOp .eql 56 (.slice (some ad) n cap) (.slice none 0 0)).run Tryz.prog w=.ok (.bool false) w:=fun w=>Lib.run_eql_slice_nil w _ _ (some ad) n cap 0 0 Tryz.underlying56
  go_enter Tryz.func154,Tryz.ntmps154;have hown:(w.alloc (.cells #[] 106)).ownsRow w.heap.size 106 2 (.slice (some ⟨w.heap.size,0,none⟩) 0 0) 0 []:=⟨rfl,.inr ⟨w.heap.size,0,#[],rfl,Nat.le_refl _,Has.new w _,Nat.le_refl _,by decide,rfl,rfl⟩⟩;have sx:∀j u,(au l)[j]?=some u->(w.alloc (.cells #[] 106)).cell? (ad.add j)=some u:=by
   intro j u hu;rcases h.ext ((Ext.refl w).alloc (.cells #[] 106)) with h|⟨b',o',h,hb,h2⟩
   ·subst h;simp[au]at hu
   ·injection h with h
    subst h;rw [Addr.add_lit];exact bU.cells (.inr ⟨b',o',rfl,hb,h2⟩) j u hu
  have HO:=zH hown;have HE:=zH sx;clear hown sx;go_wp2_with (at_builtin;refine wpList_append_own _ rfl _ _ 56 rfl w.heap.size 106 i0 (.agg #[.string ⟨#[]⟩,.int .i64 0]) 2 24 Tryz.underlying56 hi hz0 hz1 hz2 rfl (by decide) _ _ _ rfl HO.out ad n cap (au l) rfl (by rw[cD,HN.out]) HE.out (dw l) (by unfold maxLen;omega) (by omega) (by simp) ?_);intro v' w2 gQ hgrow _;have mL:Hid (dY w2 w.heap.size v' l):=by
   show dY _ _ _ _;unfold dY;have h3:w2.ownsRow w.heap.size 106 2 v' n (au l):=gQ;rw [HN.out]at h3;exact h3
  have lj:Ext w w2:=((Ext.refl w).alloc _).grown hgrow (fun g hg=>(HO.out.lt g hg).1);clear gQ hgrow;go_wp2_with fail;go_ret;exact ⟨_,rfl,mL.out,lj⟩
theorem kj {P:Program} (w:World) (dT sT ty elem:TypeId) (g o V_ aad:Nat) (a:Addr) (sLen sCap n:Nat) (cur:Array Value) (t:TypeId) (cs:List Value)
  (hu:P.underlying dT=some (.slice elem)) (hs:(P.info? elem).map (·.size)=some 2)
  (hg:w.heap[g]?=some (.cells cur t (0,0))) (hn:n=Nat.min sLen V_) (hl:cs.length=n*2)
  (aae:∀j v,cs[j]?=some v->w.cell? (a.add j)=some v) (hfit:o+cs.length<=cur.size) (h1:∀v∈cs,v.oneCell'=true) :
  (Builtin.copy_ #[dT,sT] ty #[.slice (some ⟨g,o,none⟩) V_ aad,.slice (some a) sLen sCap]).run P w =
   .ok (goInt n) (w.setRow g (cur.toList.take o++cs++cur.toList.drop (o+cs.length)).toArray):=by
 have rO:=run_loadCells_list (P:=P) w a cs aae;have hst:=run_storeCells_at P g o t cs 0 cur w hg (by simpa using hfit) h1;rw [hl]at rO
 cases hq:P.info? elem with
 | none=>simp[hq]at hs
 | some i =>
  have hi:i.size=2:=by simpa [hq]using hs
  simp [Builtin.copy_,run_underlying hu,Builtin.lenOf,Builtin.firstCells,sizeOf,typeInfo,hq,hi,<-hn,rO,hst]
theorem rP {P:Program} (w:World) {o:Oper} {a:Act} {K:Act->World->Prop} {Q:Exit->Act->World->Prop} (d s:Operand) (t t':TypeId)
  (ho:o.op=.call {callee:=.builtin .copy,args:=#[d,s],argTypes:=#[t,t']}) (v u:Value) (hd:a.eval d=v) (hs:a.eval s=u) {v':Value} {w':World}
  (hr:(Builtin.copy_ #[t,t'] o.type #[v,u]).run P w=.ok v' w') (h:K (a.put o.dst v') w'):o.wp P a w K Q:=by
 unfold Oper.wp execOp;simp only[ho,resolve,invoke,builtin,Sem.run_bind,Sem.run_pure,Result.andThen_ok,List.map_toArray,List.map_cons,List.map_nil,hd,hs,hr];exact h
theorem lE {P:Program} (w:World) {ops:Array Oper} {rest:List Oper} {o:Oper} {a:Act} {Q:Exit->Act->World->Prop} (hgd:o.guard=none) (d s:Operand) (t t':TypeId)
  (ho:o.op=.call {callee:=.builtin .copy,args:=#[d,s],argTypes:=#[t,t']}) (v u:Value) (hd:a.eval d=v) (hs:a.eval s=u) {v':Value} {w':World}
  (hr:(Builtin.copy_ #[t,t'] o.type #[v,u]).run P w=.ok v' w') (h:wpList P ops Q rest (a.put o.dst v') w'):wpList P ops Q (o::rest) a w:=
 wpList_plain hgd fun _ hK=>rP w d s t t' ho v u hd hs hr (hK _ _ h)
theorem mQ {P:Program} {ops:Array Oper} {o:Oper} {a:Act} {w:World} {K:Act->World->Prop} {Q:Exit->Act->World->Prop} {E:Prop}
  (hg:o.guard=none) (d x:Operand) (dT sT:TypeId) (hop:o.op=Op.call {callee:=Callee.builtin Builtin.copy,args:=#[d,x],argTypes:=#[dT,sT]})
  (v u:Value) (hd:a.eval d=v) (hx:a.eval x=u) {v':Value} {w':World} (hr:(Builtin.copy_ #[dT,sT] o.type #[v,u]).run P w=.ok v' w') (hK:K (a.put o.dst v') w') :
  if Region.wanted o (yielded ops a.tmps)=true then Oper.wp P o a w K Q else E:=by
 have hw:Region.wanted o (yielded ops a.tmps)=true:=by simp[Region.wanted,hg]
 rw [if_pos hw];exact rP w d x dT sT hop v u hd hx hr hK
def qF (l:List ax) (p:Nat) (x:ax):List ax:=l.take p++x::l.drop p
def OK (B:Nat) (w:World) (l:List ax) (e:Ending) (w':World):Prop:=∃v,e=.returned v/\dY w' B v l/\Below B w w'
theorem CH (B vb:Nat) (v:Value) (l:List ax) (x:ax) (w:World) (ho:dY w B v l) (hB:B<=w.heap.size) (hx:Has w vb (.cells #[bs x.1,.int .i64 x.2] 106)) (hlen:l.length<=999999):Calls Tryz.prog 153 #[v,.int .i64 l.length,.slice (some ⟨vb,0,none⟩) 1 1] w (OK B w (l++[x])):=by
 obtain ⟨A,c,rfl,hc,hcm,he⟩:=ho.at_;obtain⟨n,hn⟩:=ar l.length;have HO:Hid (w.ownsRow B 106 2 (.slice A n c) n (au l)):=by rw[hn];exact ho
 rw [<-hn]at hc hlen|-;have HN:=zH hn;have hcm2:c<=9223372036854775807:=by unfold maxLen at hcm;omega
 obtain ⟨i0,hi,hz0,hz1,hz2⟩:=info_parts ki;have hnews:∀j u,(au [x])[j]?=some u->w.cell? ((⟨vb,0,none⟩:Addr).add j)=some u:=by
  intro j u hu;rw [Addr.add_lit];exact bU.cells (lD hx) j u hu
 have Jj:=zH hnews;clear hn hcm ho he hnews;go_enter Tryz.func153,Tryz.ntmps153;go_wp2_with (at_builtin;refine wpList_append_own _ rfl _ _ 56 rfl B 106 i0 (.agg #[.string ⟨#[]⟩,.int .i64 0]) 2 24 Tryz.underlying56 hi hz0 hz1 hz2 rfl (by decide) _ _ _ rfl HO.out ⟨vb,0,none⟩ 1 1 (au [x]) rfl rfl Jj.out (dw [x]) (by unfold maxLen;omega) (by omega) hB ?_)
 all_goals
  intro v' w2 gQ hgrow _;have mL:Hid (dY w2 B v' (l++[x])):=by
   show w2.ownsRow B 106 2 v' (l++[x]).length (au (l++[x]));rw [ef,List.length_append,<-HN.out];exact gQ
  have lj:Below B w w2:=(Below.refl B w).grown hgrow hB (fun g hg=>(HO.out.lt g (by first|exact hg|(rw[‹c=n›];exact hg))).1);clear gQ hgrow;go_wp2_with fail;go_ret;exact ⟨_,rfl,mL.out,lj⟩
theorem FV {R C1 X C2:List Value} {p n:Nat} (h1:C1.length=p*2) (hx:X.length=2) (h2:C2.length=(n-p)*2) (hp:p<=n) (hR:R.take (p*2)=C1) (hl:(n+1)*2<=R.length) :
  ∀ R2 R3,R2=R.take (p*2)++X++R.drop (p*2+X.length)->R3=R2.take ((p+1)*2)++C2++R2.drop ((p+1)*2+C2.length)->R2.length=R.length/\R3.length=R.length/\R3.take ((n+1)*2)=C1++X++C2:=by
 rintro R2 R3 e2 e3;have l2:R2.length=R.length:=by rw[e2];simp;omega
 have t2:R2.take ((p+1)*2)=C1++X:=by
  rw [e2,hR,List.take_append_of_le_length (by simp;omega),List.take_of_length_le (by simp;omega)]
 refine ⟨l2,by rw[e3];simp;omega,?_⟩;rw [e3,t2,List.take_append_of_le_length (by simp;omega),List.take_of_length_le (by simp;omega)]
theorem FW {R C1 X C2:List Value} {p n:Nat} (h1:C1.length=p*2) (hx:X.length=2) (h2:C2.length=(n-p)*2) (hp:p<=n) (hR:R.take (p*2)=C1) (hl:(n+1)*2<=R.length) :
  ∀ R2 R3,R2=R.take ((p+1)*2)++C2++R.drop ((p+1)*2+C2.length)->R3=R2.take (p*2)++X++R2.drop (p*2+X.length)->R2.length=R.length/\R3.length=R.length/\R3.take ((n+1)*2)=C1++X++C2:=by
 rintro R2 R3 e2 e3;have l2:R2.length=R.length:=by rw[e2];simp;omega
 have lt:(R.take ((p+1)*2)).length=(p+1)*2:=by rw[List.length_take];omega
 have t2:R2.take (p*2)=C1:=by
  rw [e2,List.append_assoc,List.take_append_of_le_length (by omega),List.take_take,Nat.min_eq_left (by omega),hR]
 have d2:R2.drop (p*2+X.length)=C2++R.drop ((p+1)*2+C2.length):=by
  rw [e2,List.append_assoc,hx,List.drop_append_of_le_length (by omega),List.drop_of_length_le (by omega),List.nil_append]
 refine ⟨l2,by rw[e3];simp;omega,?_⟩;rw [e3,t2,d2,<-List.append_assoc,List.take_append_of_le_length (by simp;omega),List.take_of_length_le (by simp;omega)]
theorem pF (l:List ax) (p:Nat) (x:ax):au (qF l p x)=au (l.take p)++au [x]++au (l.drop p):=by
 unfold qF;rw [show x::l.drop p=[x]++l.drop p from rfl,ef,ef,List.append_assoc]
theorem pG (l:List ax) (p:Nat) (x:ax) (h:p<=l.length):(qF l p x).length=l.length+1:=by
 unfold qF;simp;omega
theorem oz (l:List ax) (p:Nat):(au l).take (p*2)=au (l.take p):=by
 conv=>lhs;rw[<-List.take_append_drop p l,ef]
 have:(au (l.take p)).length<=p*2:=by rw[cD,List.length_take];omega
 rcases Nat.lt_or_ge l.length p with h|h
 ·rw [List.drop_of_length_le (by omega)]
  show List.take (p*2) (_++[])=_;rw [List.append_nil,List.take_of_length_le this]
 ·rw[List.take_append_of_le_length (by rw[cD,List.length_take];omega),List.take_of_length_le this]
theorem km {B g:Nat} {w0 w:World} (hb:Below B w0 w) (Wb:B<=g) (cs:Array Value):Below B w0 (w.setRow g cs):=
 hb.trans ⟨rfl,rfl,rfl,by simp[World.setRow],fun k hk=>setRow_other w g k cs (by omega)⟩
theorem sV:(Tryz.prog.info? 106).map (·.size)=some 2:=by kernel_rfl
theorem zU (B vb g c p:Nat) (l:List ax) (x:ax) (w:World) (ho:dY w B (.slice (some ⟨g,0,none⟩) l.length c) l) (hB:B<=w.heap.size) (hx:Has w vb (.cells #[bs x.1,.int .i64 x.2] 106)) (hp:p<l.length) (hlen:l.length<=999999) (hroom:c<l.length+1):Calls Tryz.prog 153 #[.slice (some ⟨g,0,none⟩) l.length c,.int .i64 p,.slice (some ⟨vb,0,none⟩) 1 1] w (OK B w (qF l p x)):=by
 obtain ⟨A',c',hv,hc,hcm,he⟩:=ho.at_;injection hv with hA hn' Sn;subst hA Sn;obtain⟨n,hn⟩:=ar l.length;obtain ⟨i0,hi,hz0,hz1,hz2⟩:=info_parts ki;have hgw:g<w.heap.size:=by
  rcases he with h|⟨b',o',h,hb,_⟩
  ·rw[h]at hp;simp at hp
  ·injection h with h;injection h with h1 h2;omega
 have Wb:B<=g:=(ho.lt g rfl).1;have hcl:=he.cells;have pH:=he.drop p;rw [<-hn]at hc hlen hroom hp|-;obtain rfl:c=n:=by omega
 have HN:=zH hn;have hold:(Builtin.firstCells i0.size p (.slice (some ⟨g,0,none⟩) p c)).run Tryz.prog w.drew=.ok (au (l.take p)).toArray w.drew:=by
  rw [hz1];refine run_firstCells_some w.drew 2 p ⟨g,0,none⟩ p c (au (l.take p)) (by rw[cD,List.length_take];omega) (fun j v hj=>?_);rw [Addr.add_lit];refine hcl j v ?_;rw [<-oz,List.getElem?_take]at hj;split at hj
  ·exact hj
  ·cases hj
 have Vl:=fun ty=>Lib.run_append_grow_zeros w 56 3 ty 106 i0 _ .i64 .i64 Tryz.underlying56 Tryz.underlying3 hi hz0 (some ⟨g,0,none⟩) p c (au (l.take p)) hold (c+1-p) (by omega) (by omega) (by omega) (by omega) (by rw[hz2];omega) (by rw[hz2,show p+(c+1-p)=c+1 by omega];exact growslice_fits (by omega) (by omega))
 have hik:p+(c+1-p)=c+1:=by omega
 rw [hik]at Vl;have hge:=grownCap_ge w (c+1) c 106;have hle:=grownCap_le_maxLen w (c+1) c 106 (by unfold maxLen;omega)
 generalize grownCap w (c+1) c 106=G at Vl hge hle
 have abY:G<=9223372036854775807:=by unfold maxLen at hle;omega
 obtain ⟨R,hR⟩:∃R:Array Value,R=(au (l.take p)).toArray++Builtin.zeroCells (Value.agg #[.string ⟨#[]⟩,.int .i64 0]).cells (c+1-p)++Builtin.zeroCells (Value.agg #[.string ⟨#[]⟩,.int .i64 0]).cells (G-(c+1)):=⟨_,rfl⟩;obtain⟨W1,b_⟩:=ar (w.drew.alloc (.cells R 106));rw [<-hR,<-b_]at Vl;have vV:(c:Int)+1-(p:Int)=((c+1-p:Nat):Int):=by omega
 have E1:Ext w W1:=by rw[b_];exact ((Ext.refl _).drew).alloc _
 have jZ:Has W1 w.heap.size (.cells R 106):=by rw[b_];exact Has.new w.drew _
 have EC:R.size=G*2:=by
  rw [hR,Array.size_append,Array.size_append,iZ,iZ];simp only[List.size_toArray,cD,List.length_take];show _+(c+1-p)*2+(G-(c+1))*2=_;omega
 have Vm:R.toList.take (p*2)=au (l.take p):=by
  rw [hR];have hl:(au (l.take p)).length=p*2:=by rw[cD,List.length_take];omega
  rw [Array.toList_append,Array.toList_append,List.append_assoc,List.take_append_of_le_length (by simp;omega),List.take_of_length_le (by simp;omega)]
 have Q7:=hx.ext E1;have CJ:=fun ty dc=>kj (P:=Tryz.prog) W1 56 56 ty 106 w.heap.size (p*2) (c+1-p) dc ⟨vb,0,none⟩ 1 1 1 R 106 (au [x]) Tryz.underlying56 sV jZ (by simp only[Nat.min_def];split<;>omega) rfl
  (fun j u hu=>by rw[Addr.add_lit];exact bU.cells (lD Q7) j u hu) (by show p*2+2<=R.size;rw[EC];omega) (dw [x])
 obtain ⟨R2,OL⟩:∃R2:List Value,R2=R.toList.take (p*2)++au [x]++R.toList.drop (p*2+(au [x]).length):=⟨_,rfl⟩;obtain⟨W2,dF⟩:=ar (W1.setRow w.heap.size R2.toArray);simp only[<-OL,<-dF]at CJ;have hb2:Has W2 w.heap.size (.cells R2.toArray 106):=by rw[dF];exact setRow_heap W1 w.heap.size R R2.toArray 106 (0,0) jZ
 have E2:Below B w W2:=by rw[dF];exact km (Below.mono E1 hB) hB _
 have Wd:bU W2.drew (some ⟨g,0+p*2,none⟩) (l.drop p):=by
  rw [dF];rcases pH.ext E1 with h|⟨b',o',h,hb,h2⟩
  ·exact .inl h
  ·injection h with h;injection h with q1 q2
   subst q1 q2;refine .inr ⟨_,_,rfl,by simpa using hb,fun k hk=>?_⟩;have:=h2 k hk;rw [<-cell_setRow_other W1 w.heap.size R2.toArray ⟨g,0+p*2+k*2,none⟩ (by show g≠_;omega),<-cell_setRow_other W1 w.heap.size R2.toArray ⟨g,0+p*2+k*2+1,none⟩ (by show g≠_;omega)]at this;exact this
 have kT:(au (l.drop p)).length=(c-p)*2:=by rw[cD,List.length_drop,<-hn]
 have g_:(au (l.take p)).length=p*2:=by rw[cD,List.length_take];omega
 have CK:=fun ty dc sc=>kj (P:=Tryz.prog) W2.drew 56 56 ty 106 w.heap.size ((p+1)*2) (c+1-(p+1)) dc ⟨g,p*2,none⟩ (c-p) sc (c-p) R2.toArray 106 (au (l.drop p)) Tryz.underlying56 sV hb2 (by simp only[Nat.min_def];split<;>omega) kT
  (fun j u hu=>by rw[Addr.add_lit];have:=bU.cells Wd j u hu;rwa [Nat.zero_add]at this) (by
   rw [kT];have:R2.length=R.toList.length:=by rw[OL];simp;rw[EC];show _+(2+(_-(_+2)))=_;omega
   simp only[List.size_toArray,this,Array.length_toList,EC];omega) (dw _)
 obtain ⟨R3,Sq⟩:∃R3:List Value,R3=R2.take ((p+1)*2)++au (l.drop p)++R2.drop ((p+1)*2+(au (l.drop p)).length):=⟨_,rfl⟩;obtain⟨W3,du⟩:=ar (W2.drew.setRow w.heap.size R3.toArray);simp only[<-Sq,<-du]at CK;have oh:Has W3 w.heap.size (.cells R3.toArray 106):=by rw[du];exact setRow_heap W2.drew w.heap.size R2.toArray R3.toArray 106 (0,0) hb2
 have E3:Below B w W3:=by rw[du];exact km (Below.drew E2) hB _
 obtain ⟨k1,k2,k3⟩:=FV g_ (show (au [x]).length=2 from rfl) kT (by omega) Vm (by rw[Array.length_toList,EC];omega) R2 R3 OL Sq;have oT:Hid (dY W3 B (.slice (some ⟨w.heap.size,0,none⟩) (c+1) G) (qF l p x)):=by
  show dY _ _ _ _;unfold dY;rw [pG l p x (by omega),<-hn];refine ⟨by rw[cD,pG l p x (by omega),<-hn],.inr ⟨w.heap.size,G,R3.toArray,rfl,hB,oh,hge,hle,?_,?_⟩⟩
  ·simp only[List.size_toArray,k2,Array.length_toList,EC]
  ·rw[pF];exact k3
 have Jn:=zH E3;simp only[<-vV]at Vl;have HRZ:=zH Vl;have HCA:=zH CJ;have HCB:=zH CK;have g1:IntKind.i64.wrap ((p:Int)+1)=(p:Int)+1:=bV (by omega) (by omega);have g2:(0:Int)<=(p:Int)+1:=by omega
 have g3:((p:Int)+1).toNat=p+1:=by omega
 have hGi:¬(G=p):=by omega
 have abZ:¬(G=p+1):=by omega
 have hci:¬(c=p):=by omega
 have hpc:(p:Int)<=(c:Int):=by omega
 have hne:¬((p:Int)=(c:Int)):=by omega
 clear ho hn hR EC Vm b_ jZ Q7 CJ OL dF hb2 E2 Wd kT g_ CK Sq du oh E3 k1 k2 k3 Vl hold hik pH hcl he E1 hx hn' vV hle;go_enter Tryz.func153,Tryz.ntmps153;go_wp2_with (first
  | (at_builtin;refine Lib.wpList_append_run _ rfl _ _ 56 3 rfl _ _ rfl rfl _ _ (HRZ.out _) ?_)
  | (with_reducible refine lE _ rfl (.tmp 43) (.tmp 44) 56 56 rfl _ _ rfl rfl (HCA.out _ _) ?_))
 go_region_law (refine mQ rfl _ _ 56 56 rfl (.slice (some ⟨w.heap.size,(p+1)*2,none⟩) (c+1-(p+1)) (G-(p+1))) (.slice (some ⟨g,p*2,none⟩) (c-p) (c-p)) (by simp[Act.eval,Act.put]) (by simp[Act.eval,Act.put]) (HCB.out _ _ _) ?_);go_wp2_with fail;go_ret;exact ⟨_,rfl,oT.out,Jn.out⟩
theorem wL {w:World} {b:Nat} {C:Array Value} {t:TypeId} {fr:Nat×Nat} (h:Has w b (.cells C t fr)):w.shape? b=some (t,C.size):=by
 unfold Has at h;simp [World.shape?,h]
theorem zW (B vb g c p:Nat) (l:List ax) (x:ax) (w:World) (ho:dY w B (.slice (some ⟨g,0,none⟩) l.length c) l) (hB:B<=w.heap.size) (hx:Has w vb (.cells #[bs x.1,.int .i64 x.2] 106)) (ZU:vb≠g) (hp:p<l.length) (hlen:l.length<=999999) (hroom:l.length+1<=c):Calls Tryz.prog 153 #[.slice (some ⟨g,0,none⟩) l.length c,.int .i64 p,.slice (some ⟨vb,0,none⟩) 1 1] w (OK B w (qF l p x)):=by
 obtain ⟨A',c',hv,hc,hcm,he⟩:=ho.at_;injection hv with hA hn' Sn;subst hA Sn;obtain⟨n,hn⟩:=ar l.length;have Wb:B<=g:=(ho.lt g rfl).1;obtain ⟨R,We,EC,Vm⟩:∃R:Array Value,Has w g (.cells R 106)/\R.size=c*2/\R.toList.take (l.length*2)=au l:=by
  rcases ho.2 with⟨h,_⟩|⟨g',cap,cur,h,_,hg,_,_,hs,ht⟩
  ·cases h
  ·injection h with h1 h2 h3
   injection h1 with h1;injection h1 with h1;subst h1 h3;exact ⟨cur,hg,hs,ht⟩
 have pH:=he.drop p;rw [<-hn]at hc hlen hroom hp Vm|-;have HN:=zH hn;have hRp:R.toList.take (p*2)=au (l.take p):=by
  rw [<-oz,<-Vm,List.take_take,Nat.min_eq_left (by omega)]
 have kT:(au (l.drop p)).length=(n-p)*2:=by rw[cD,List.length_drop,<-hn]
 have g_:(au (l.take p)).length=p*2:=by rw[cD,List.length_take];omega
 have hgw:=We.lt;have Jo:∀W,W=w->∀lb cb,(callFunc 170 #[.slice (some ⟨vb,0,none⟩) 1 1,.slice (some ⟨g,(p+1)*2,none⟩) lb cb]).run Tryz.prog W=.ok (.value (.bool false)) W:=fun W hW lb cb=>by
  subst hW;rw [run_callFunc_extern Tryz.func170 (by kernel_rfl) (by kernel_rfl) (by kernel_rfl) (e:=Extern.SlicesOverlaps.overlaps #[56,56] #[4]) (by kernel_rfl),
   Lib.run_overlaps_apart _ 56 4 106 Tryz.underlying56 2 Tryz.sizeOf106 ⟨vb,0,none⟩ ⟨g,(p+1)*2,none⟩ 1 1 lb cb ZU _ _ _ _ (wL hx) (wL We) (by rw[EC];omega) (hx.free 0) (hx.free 2)]
  rfl
 have CJ:=fun ty dc sc=>kj (P:=Tryz.prog) w.drew 56 56 ty 106 g ((p+1)*2) (n-p) dc ⟨g,p*2,none⟩ (n+1-p) sc (n-p) R 106 (au (l.drop p)) Tryz.underlying56 sV We (by simp only[Nat.min_def];split<;>omega) kT
  (fun j u hu=>by rw[Addr.add_lit];have:=bU.cells pH j u hu;rwa [Nat.zero_add]at this) (by rw[kT,EC];omega) (dw _)
 obtain ⟨R2,OL⟩:∃R2:List Value,R2=R.toList.take ((p+1)*2)++au (l.drop p)++R.toList.drop ((p+1)*2+(au (l.drop p)).length):=⟨_,rfl⟩;obtain⟨W2,dF⟩:=ar (w.drew.setRow g R2.toArray);simp only[<-OL,<-dF]at CJ;have hb2:Has W2 g (.cells R2.toArray 106):=by rw[dF];exact setRow_heap w.drew g R R2.toArray 106 (0,0) We
 have E2:Below B w W2:=by rw[dF];exact km (Below.drew (Below.refl B w)) Wb _
 have hX2:Has W2 vb (.cells #[bs x.1,.int .i64 x.2] 106):=by
  rw [dF];unfold Has;rw[setRow_other w.drew g vb R2.toArray ZU];exact hx
 have Wf:R2.length=c*2:=by rw[OL];simp only[List.length_append,List.length_take,List.length_drop,Array.length_toList,EC,kT];omega
 have CK:=fun ty dc=>kj (P:=Tryz.prog) W2 56 56 ty 106 g (p*2) (n+1-p) dc ⟨vb,0,none⟩ 1 1 1 R2.toArray 106 (au [x]) Tryz.underlying56 sV hb2 (by simp only[Nat.min_def];split<;>omega) rfl
  (fun j u hu=>by rw[Addr.add_lit];exact bU.cells (lD hX2) j u hu) (by simp only[List.size_toArray,Wf];show p*2+2<=_;omega) (dw [x])
 obtain ⟨R3,Sq⟩:∃R3:List Value,R3=R2.take (p*2)++au [x]++R2.drop (p*2+(au [x]).length):=⟨_,rfl⟩;obtain⟨W3,du⟩:=ar (W2.setRow g R3.toArray);simp only[<-Sq,<-du]at CK;have oh:Has W3 g (.cells R3.toArray 106):=by rw[du];exact setRow_heap W2 g R2.toArray R3.toArray 106 (0,0) hb2
 have E3:Below B w W3:=by rw[du];exact km E2 Wb _
 obtain ⟨k1,k2,k3⟩:=FW g_ (show (au [x]).length=2 from rfl) kT (by omega) hRp (by rw[Array.length_toList,EC];omega) R2 R3 OL Sq;have oT:Hid (dY W3 B (.slice (some ⟨g,0,none⟩) (n+1) c) (qF l p x)):=by
  show dY _ _ _ _;unfold dY;rw [pG l p x (by omega),<-hn];refine ⟨by rw[cD,pG l p x (by omega),<-hn],.inr ⟨g,c,R3.toArray,rfl,Wb,oh,hroom,hcm,?_,?_⟩⟩
  ·simp only[List.size_toArray,k2,Array.length_toList,EC]
  ·rw[pF];exact k3
 have Jn:=zH E3;have HCA:=zH CJ;have HCB:=zH CK;have aaf:=fun lb cb=>Jo w rfl lb cb
 have g1:IntKind.i64.wrap ((p:Int)+1)=(p:Int)+1:=bV (by omega) (by omega);have g2:(0:Int)<=(p:Int)+1:=by omega
 have g3:((p:Int)+1).toNat=p+1:=by omega
 have Sr:¬(c=p):=by omega
 have ab0:¬(c=p+1):=by omega
 have Vk:(p:Int)<=(n:Int)+1:=by omega
 have ab1:p<=n:=by omega
 have ab2:p<=n+1:=by omega
 have hne:¬((p:Int)=(n:Int)):=by omega
 have Sn:c<=9223372036854775807:=by unfold maxLen at hcm;omega
 clear ho hn We EC Vm hx Jo CJ OL dF hb2 E2 hX2 Wf CK Sq du oh E3 k1 k2 k3 pH kT g_ hRp he hn' hcm;go_enter Tryz.func153,Tryz.ntmps153;go_wp2_with (simp only[aaf]);go_region_law (refine mQ rfl _ _ 56 56 rfl (.slice (some ⟨g,(p+1)*2,none⟩) (n-p) (c-(p+1))) (.slice (some ⟨g,p*2,none⟩) (n+1-p) (c-p)) (by simp[Act.eval,Act.put]) (by simp[Act.eval,Act.put]) (HCA.out _ _ _) ?_);go_wp2_with (with_reducible refine lE _ rfl (.tmp 80) (.tmp 81) 56 56 rfl _ _ rfl rfl (HCB.out _ _) ?_);go_ret;exact ⟨_,rfl,oT.out,Jn.out⟩
theorem Ext.trans' {a b c:World} (h:Ext a b) (k:Below a.heap.size b c):Ext a c:=Below.trans h k
theorem dY.keep {w w':World} {B:Nat} {v:Value} {l:List ax} (h:dY w B v l) (k:Ext w w'):dY w' B v l:=
 World.ownsRow.kept (row:=none) h ⟨k.os,k.tape,k.output,k.size,fun j hj _=>Below.block k j hj⟩ (by cases v.ownBlock<;>simp)
theorem CL (B vb p:Nat) (v:Value) (l:List ax) (x:ax) (w:World) (ho:dY w B v l) (hB:B<=w.heap.size) (hx:Has w vb (.cells #[bs x.1,.int .i64 x.2] 106)) (hvb:v.ownBlock≠some vb) (hp:p<=l.length) (hlen:l.length<=999999):Calls Tryz.prog 153 #[v,.int .i64 p,.slice (some ⟨vb,0,none⟩) 1 1] w (OK B w (qF l p x)):=by
 by_cases he:p=l.length
 ·subst he
  have:qF l l.length x=l++[x]:=by unfold qF;rw[List.take_length,List.drop_length]
  rw [this];exact CH B vb v l x w ho hB hx hlen
 ·obtain ⟨g,c,rfl⟩:∃g c,v=.slice (some ⟨g,0,none⟩) l.length c:=by
   rcases ho.2 with⟨_,h0⟩|⟨g,cap,_,h,_⟩
   ·omega
   ·exact⟨g,cap,h⟩
  have ZU:vb≠g:=fun e=>hvb (by rw[e];rfl)
  by_cases hr:c<l.length+1
  ·exact zU B vb g c p l x w ho hB hx (by omega) hlen hr
  ·exact zW B vb g c p l x w ho hB hx ZU (by omega) hlen (by omega)
theorem Ss (A:Option Addr) (l:List ax) (cap:Nat) (nm:List UInt8) (no:Int) (w:World) (h:bU w A l) (hnone:A=none->cap=0) (hr:iR l) (hlen:l.length<=999999) (hh:has l nm=false):Calls Tryz.prog 127 #[.slice A l.length cap,bs nm,.int .i64 no] w (Jl w (od l nm no)):=by
 have hcut:Hid (od l nm no=qF l (pos l nm) (nm,no)):=by show _=_;unfold od qF;rw[hh];rfl
 have hpl:=Jf l nm;have HH:=zH hh;clear hh;go_enter Tryz.func127,Tryz.ntmps127;go_wp2_with fail;refine (l9 _ l cap nm _ h hr (by omega)).mono ?_;rintro e w1 ⟨rfl,b1⟩;rw [HH.out];go_wp2_with fail;refine (FU A l cap _ (h.ext b1) hnone (by omega)).mono ?_;rintro e w2 ⟨v,rfl,ho,b2⟩;have aag:v.ownBlock≠some w2.heap.size:=by
  intro hv;have:=(ho.lt _ hv).2;omega
 have hB:w.heap.size<=w2.heap.size:=by have:=b1.size;have:=b2.size;omega
 have mL:dY (w2.alloc (.cells #[bs nm,.int .i64 no] 106)) w.heap.size v l:=dY.base (dY.keep ho ((Ext.refl _).alloc _)) b1.size;go_wp2_with fail;refine (CL w.heap.size w2.heap.size (pos l nm) v l (nm,no) _ mL (by simp;omega) (Has.new w2 _) aag hpl hlen).mono ?_;rintro e w3 ⟨v',rfl,ho3,b3⟩;go_wp2_with fail;go_ret;exact ⟨v',rfl,by rw[hcut.out];exact ho3,(((b1.trans b2).alloc _).trans' b3)⟩
theorem EE (A:Option Addr) (l:List ax) (cap:Nat) (nm:List UInt8) (no:Int) (w:World) (h:bU w A l) (hnone:A=none->cap=0) (hr:iR l) (hcap:l.length<=cap) (tD:cap<=maxLen) (hlen:l.length<=999999):Calls Tryz.prog 127 #[.slice A l.length cap,bs nm,.int .i64 no] w (Jl w (od l nm no)):=by
 cases hh:has l nm
 ·exact Ss A l cap nm no w h hnone hr hlen hh
 ·exact OJ A l cap nm no w h hr hcap tD hlen hh
theorem OM {α:Type} (n:Nat) (P:Nat->α->Prop) (h:∀i,i<n->∃x,P i x):∃l:List α,l.length=n/\∀i,(hi:i<l.length)->P i l[i]:=by
 induction n with
 | zero=>exact⟨[],rfl,fun i hi=>by cases hi⟩
 | succ n ih =>
  obtain ⟨l,hl,hp⟩:=ih (fun i hi=>h i (by omega));obtain ⟨x,hx⟩:=h n (by omega);refine ⟨l++[x],by simp[hl],fun i hi=>?_⟩
  by_cases sw:i<l.length
  ·rw[List.getElem_append_left sw];exact hp i sw
  ·have:i=l.length:=by simp at hi;omega
   subst this;rw [List.getElem_append_right (Nat.le_refl _)];simpa [hl]using hx
section
variable {H:Type} {enc:TypeId×Value->H} {w:World} {base:Nat} {spare:Nat->Bool} {held:Bool}
end
end
section
open Go.ChangeShapes Go.WideShapes Go.ChangeAt Go.RowKit
def iu (l:List ax) (nm:List UInt8):List ax:=l.filter fun x=>!(x.1 == nm)
def iw (l:List ax) (nm:List UInt8):List ax:=l.filter fun x=>bl x.1 nm
def i6 (l:List ax) (nm:List UInt8):List ax:=l.filter fun x=>bl nm x.1
def dk (l:List ax) (x:ax):List ax:=iw l x.1++[x]++i6 l x.1
theorem rQ {l:List ax} {k:Nat} (hk:k<l.length) (f:ax->Bool):(l.take (k+1)).filter f=(l.take k).filter f++(if f l[k]=true then [l[k]] else []):=by
 rw [List.take_succ_eq_append_getElem hk,List.filter_append]
 congr 1
 by_cases h:f l[k]=true<;>simp[h]
theorem oU (l:List ax) (k:Nat) (f:ax->Bool):((l.take k).filter f).length<=k:=by
 have h1:=List.length_filter_le f (l.take k);have h2:(l.take k).length<=k:=List.length_take_le _ _;omega
theorem pI (wr:World) (x:ax):∀j u,(au [x])[j]?=some u->(wr.alloc (.cells #[bs x.1,.int .i64 x.2] 106)).cell? ((⟨wr.heap.size,0,none⟩:Addr).add j)=some u:=by
 intro j u hu;rw [Addr.add_lit];exact bU.cells (lD (Has.new wr _)) j u hu
theorem ye {w wr w2:World} {v v':Value} {P:List ax} {x:ax} {o:Obj} (h:wr.ownsRow w.heap.size 106 2 v P.length (au P)) (hE:Ext w wr) (h2:w2.ownsRow w.heap.size 106 2 v' (P.length+1) (au P++au [x])) (hg:(wr.alloc o).grownBy w2 v.ownBlock):dY w2 w.heap.size v' (P++[x])/\Ext w w2:=by
 refine ⟨?_,(hE.alloc o).grown hg (fun g hv=>(h.lt g hv).1)⟩;unfold dY;rw [ef,List.length_append];exact h2
open Go.ChangeShapes Go.WideShapes Go.ChangeAt Go.RowKit Go.Shelf
attribute [local go_sem] Oper.semAt_some
def oB (n₀:Nat) (w:World) (A:Option Addr) (l:List ax):Prop:=
 l = []\/∃b o,A=some ⟨b,o,none⟩/\b<n₀/\∀k,(h:k<l.length)->w.cell? ⟨b,o+k*2,none⟩=some (.string (bs l[k].1))/\w.cell? ⟨b,o+k*2+1,none⟩=some (.int .i64 l[k].2)
theorem oB.below {n₀:Nat} {w w':World} {A:Option Addr} {l:List ax} (h:oB n₀ w A l) (k:Below n₀ w w'):oB n₀ w' A l:=by
 rcases h with h|⟨b,o,hA,hb,hc⟩
 ·exact .inl h
 ·exact .inr ⟨b,o,hA,hb,fun i hi=>⟨(k.cell (p:=⟨b,o+i*2,none⟩) hb).trans (hc i hi).1,(k.cell (p:=⟨b,o+i*2+1,none⟩) hb).trans (hc i hi).2⟩⟩
abbrev Jp (x:ax):Array Value:=#[bs x.1,.int .i64 x.2]
theorem OO (F:Fence) (n:Nat) (hf:F.fn 75) (hro:F.round=none) (hn:1<=n) (lb Bs n₀ cap:Nat) (A:Option Addr) (es:List ax) (hlen:es.length<=1000000) (J Jx:List ax->World->Prop)
  (W:World) (tE:n₀<=W.heap.size) (hJa:AbidesFrom W.heap.size J)
  (hY : ∀pre x W,J pre W->pre.length<es.length->YieldAt F (n-1) Tryz.prog lb (Jp x) W fun e W' =>
   (e=.returned (.bool true)/\J (pre++[x]) W'/\Below n₀ W W')\/(e=.returned (.bool false)/\Jx (pre++[x]) W'))
  (zw:W.cell? ⟨Bs,0,none⟩=some (.slice A es.length cap)) (hc:oB n₀ W A es) (h0:J [] W) :
  CallsIn F n Tryz.prog 75 #[.func (.yield lb) #[] #[],.pointer (some ⟨Bs,0,none⟩)] W fun e W'=>(∃v,e=.returned v) /\
   ((∃ys,ys=es/\J ys W')\/(∃pre,pre <+: es/\Jx pre W')):=by
 obtain⟨m,hm⟩:=ar es.length;rw [<-hm]at zw hlen;have HM:=zH hm;clear hm;refine callsIn_of_wp Tryz.func75 rfl hf ?_ hro;simp only[Tryz.ntmps75,List.size_toArray,List.length_cons,List.length_nil,Nat.reduceAdd,Nat.reduceSub,Array.replicate_succ,Array.replicate_zero,List.push_toArray,List.append_toArray,List.nil_append,List.cons_append];gi_wp2;gi_loopw [7] (fun i wr=>∃k:Nat,k<=m/\i=.int .i64 k/\J (es.take k) wr/\Below n₀ W wr/\W.heap.size<=wr.heap.size) (fun i _=>m-(intOf i).toNat)
 case atStart=>exact⟨0,Nat.zero_le _,rfl,h0,Below.refl _ _,Nat.le_refl _⟩
 case round =>
  obtain ⟨k,hk,rfl,Wg,NG,hsz⟩:=hrel
  by_cases hlt:k<m
  ·have dq:k<es.length:=by have:=HM.out;omega
   obtain ⟨b,o,rfl,hb,hcs⟩:∃b o,A=some ⟨b,o,none⟩/\b<n₀/\∀k,(h:k<es.length)->wr.cell? ⟨b,o+k*2,none⟩=some (.string (bs es[k].1))/\wr.cell? ⟨b,o+k*2+1,none⟩=some (.int .i64 es[k].2):=by
    rcases hc.below NG with h|h
    ·rw[h]at dq;simp at dq
    ·exact h
   obtain ⟨ca,cb⟩:=hcs k dq;have lk:Hid (es.take (k+1)=es.take k++[es[k]]):=List.take_succ_eq_append_getElem dq;have hpl:(es.take k).length<es.length:=by rw[List.length_take];omega
   generalize es[k]=x at ca cb lk
   have OP:J (es.take k) (wr.alloc (.cells #[bs x.1,.int .i64 x.2] 106)):=hJa (es.take k) wr _ none Wg (World.grownBy_alloc wr _ none) (fun r e=>by cases e);obtain ⟨fn,tmps,assign,body,hy,hR⟩:=hY _ x _ OP hpl
   try dsimp only[Jp]at hy
   clear hcs hpl;gi_wp2;refine hR.mono ?_;rintro e W3 (⟨rfl,Jq,lF⟩|⟨rfl,tF⟩)
   ·gi_wp2
    go_roundw
    case rel=>exact⟨k+1,by omega,by simp,by rw[lk.out];exact Jq,(NG.alloc (by omega) _).trans lF,by have:=lF.size;simp at this;omega⟩
    case measure=>simp[intOf];omega
   ·gi_wp2
    refine bodyPost_ret (results_none rfl _ _ _) rfl ?_;exact ⟨⟨_,rfl⟩,.inr ⟨_,by rw[<-lk.out];exact List.take_prefix _ _,tF⟩⟩
  ·obtain rfl:k=m:=by omega
   have ht:Hid (es.take k=es):=by show _=_;rw[HM.out,List.take_length]
   gi_wp2;go_end0;exact ⟨⟨_,rfl⟩,.inl ⟨_,ht.out,Wg⟩⟩
theorem Jr (F:Fence) (n:Nat) (hf:F.fn 39) (hro:F.round=none) (a:Option Addr) (len cap:Nat) (w:World) :
  CallsIn F n Tryz.prog 39 #[.slice a len cap] w fun e w'=>e=.returned (.func (.func 75) #[] #[.pointer (some ⟨w.heap.size,0,none⟩)])/\w'=w.alloc (.cells #[.slice a len cap] 56):=by
 refine callsIn_of_wp Tryz.func39 rfl hf ?_ hro;simp only[Tryz.ntmps39,List.size_toArray,List.length_cons,List.length_nil,Nat.reduceAdd,Nat.reduceSub,Array.replicate_succ,Array.replicate_zero,List.push_toArray,List.append_toArray,List.nil_append,List.cons_append];gi_wp2;go_ret;exact ⟨rfl,rfl⟩
theorem FX (F:Fence) (n:Nat) (hf:F.fn 75) (hro:F.round=none) (hn:1<=n) (Bs n₀ cap:Nat) (A:Option Addr) (es:List ax) (hlen:es.length<=1000000) (w:World) (zw:Bs<w.heap.size) (tE:n₀<=w.heap.size)
  (hc:w.cell? ⟨Bs,0,none⟩=some (.slice A es.length cap)) (he:oB n₀ w A es) :
  SeqStopsK F n Tryz.prog 75 #[.pointer (some ⟨Bs,0,none⟩)] Jp (Below n₀) (fun ys=>ys=es) (fun pre=>pre <+: es) es.length w:=fun l J Jx W hW hJ _ hY h0 =>
 OO F n hf hro hn l Bs n₀ cap A es hlen J Jx W (by have:=hW.size;omega) hJ hY ((hW.cell (p:=⟨Bs,0,none⟩) zw).trans hc) (he.below (hW.mono tE)) h0
end
section
open Go
section
variable {F:Fence} {n:Nat} {P:Program} {ops:Array Oper} {md:Region.Mode} {C:World->Prop}
def yg (o:Oper):Bool:=match o.op with | .defer _=>false|_=>true
theorem yh {o:Oper} (h:yg o=true):∀c,o.op≠.defer c:=fun c hc=>by simp[yg,hc]at h
end
end
section
open Go.ChangeShapes Go.WideShapes Go.ChangeAt Go.RowKit Go.Shelf
attribute [local go_sem] Oper.semAt_some
end
theorem wM {x:ax} {l:List ax}:iR (x::l)↔(∀y∈l,bl x.1 y.1=true)/\iR l:=List.pairwise_cons
theorem wN {a b:List UInt8} (h:bl a b=true):a≠b:=by
 rintro rfl;rw [cH]at h;cases h
theorem filter_all {l:List ax} {f:ax->Bool} (h:∀x∈l,f x=true):l.filter f=l:=List.filter_eq_self.2 h
theorem filter_none {l:List ax} {f:ax->Bool} (h:∀x∈l,f x=false):l.filter f=[]:=List.filter_eq_nil_iff.2 fun x hx=>by rw[h x hx];simp
theorem qG:∀(l:List ax) (nm:List UInt8) (no:Int),iR l->od l nm no=dk l (nm,no)
 | [],nm,no,_=>by simp[od,dk,pos,has,iw,i6]
 | x :: l,nm,no,hr=>by
  have hx:=(wM.1 hr).1;have ih:=qG l nm no (wM.1 hr).2;rcases l8 x.1 nm with h|h|h
  ·have e1:pos (x::l) nm=pos l nm+1:=by rw[lC,if_pos (show lt x nm=true from h)]
   have e2:has (x::l) nm=has l nm:=by simp[has,wN h]
   have e3:od (x::l) nm no=x::od l nm no:=by
    unfold od;rw [e1,e2,List.take_succ_cons,show pos l nm+1+(if has l nm=true then 1 else 0)=(pos l nm+if has l nm=true then 1 else 0)+1 by omega,List.drop_succ_cons];rfl
   rw [e3,ih];simp [dk,iw,i6,h,fA h]
  ·subst h
   have e1:pos (x::l) x.1=0:=by rw[lC,if_neg (by show ¬bl x.1 x.1=true;rw[cH];simp)]
   have e2:has (x::l) x.1=true:=by simp[has]
   have e3:od (x::l) x.1 no=(x.1,no)::l:=by unfold od;rw[e1,e2];simp
   rw [e3];have f1:iw l x.1=[]:=filter_none fun y hy=>fA (hx y hy)
   have f2:i6 l x.1=l:=filter_all fun y hy=>hx y hy
   have g1:iw (x::l) x.1=[]:=by unfold iw at f1|-;rw[List.filter_cons,if_neg (by rw[cH];simp),f1]
   have g2:i6 (x::l) x.1=l:=by unfold i6 at f2|-;rw[List.filter_cons,if_neg (by rw[cH];simp),f2]
   unfold dk;rw [g1,g2];rfl
  ·have hall:∀y∈x::l,bl nm y.1=true:=by
    intro y hy;rcases List.mem_cons.1 hy with rfl|hy
    ·exact h
    ·exact lB h (hx y hy)
   have e1:pos (x::l) nm=0:=by rw[lC,if_neg (by show ¬bl x.1 nm=true;rw[fA h];simp)]
   have e2:has (x::l) nm=false:=by
    unfold has;rw [List.any_eq_false];intro y hy;have:=wN (hall y hy);simpa using fun e=>this e.symm
   have e3:od (x::l) nm no=(nm,no)::x::l:=by unfold od;rw[e1,e2];simp
   rw [e3];have g1:iw (x::l) nm=[]:=filter_none fun y hy=>fA (hall y hy)
   have g2:i6 (x::l) nm=x::l:=filter_all hall;unfold dk;rw [show (nm,no).1=nm from rfl,g1,g2];rfl
theorem rR {l:List ax} (f:ax->Bool) (h:iR l):iR (l.filter f):=List.Pairwise.sublist List.filter_sublist h
theorem wO {l:List ax} (x:ax) (h:iR l):iR (dk l x):=by
 unfold dk iR;rw [List.append_assoc,List.pairwise_append];refine ⟨rR _ h,?_,?_⟩
 ·rw [List.singleton_append,List.pairwise_cons]
  exact ⟨fun y hy=>(List.mem_filter.1 hy).2,rR _ h⟩
 ·intro a ha b hb
  have h1:bl a.1 x.1=true:=(List.mem_filter.1 ha).2;rcases List.mem_cons.1 hb with rfl|hb
  ·exact h1
  ·exact lB h1 (List.mem_filter.1 hb).2
theorem pJ (l:List ax) (x:ax):(dk l x).length<=l.length+1:=by
 have : ∀l:List ax,(iw l x.1).length+(i6 l x.1).length<=l.length:=by
  intro l
  induction l with
  | nil=>simp[iw,i6]
  | cons y l ih =>
   unfold iw i6 at ih|-;simp only[List.filter_cons]
   by_cases h:bl y.1 x.1=true
   ·rw[if_pos h,if_neg (by rw[fA h];simp)];simp only[List.length_cons];omega
   ·rw[if_neg h];split<;>simp only[List.length_cons]<;>omega
 have:=this l;unfold dk;simp only[List.length_append,List.length_singleton];omega
end Go.Proofs.YtblbohcaphcobaaGreatDoor
