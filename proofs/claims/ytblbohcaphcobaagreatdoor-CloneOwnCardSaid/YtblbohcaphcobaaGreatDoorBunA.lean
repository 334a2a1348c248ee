import Derived.Test.YtblbohcaphcobaaGreatDoorRows
import Derived.WalkKit
import Derived.ProofKit
import Derived.OpenShut
import Derived.Handy
import Derived.Lib.Hide
import Derived.BigQuiet
import Derived.Deep.QuietTactic
import Derived.Lib.SlBytesConst
import Derived.Lib.UnsafeStr
import Derived.WalkLawsBesides
import Derived.Below
import Derived.Laws.OwnMore
import Derived.Deep.AppendLies
import Derived.Deep.Draws
import Derived.Deep.RegionHeld3
import Derived.Outline
import Derived.Lib.AppendZeros
import Derived.Laws.AppendOwnNone
import Derived.WalkSpells
import Derived.Lib.Overlaps
import Derived.Lib.AppendZerosOnto
import Derived.Laws.CopyRow
import Derived.Laws.Externs
import Derived.Deep.RegionLaw
import Derived.Deep.Slices
import Derived.Deep.Fields
import Derived.ChangeSame
import Derived.Lib.SmallJoins
import Derived.RangeFuncNested
import Derived.RangeFuncBound
import Derived.RangeFuncCalls
import Derived.RangeFuncLeaves
import Derived.RangeFuncBox
import Derived.Shelf.Abstract
import Derived.OwnWalkIn
import Derived.TacticsInMore
import Derived.LoopNIn
import Derived.LoopIn
import Derived.Sort.QuietTacIn
import Derived.AtR
set_option maxHeartbeats 2000000
set_option maxRecDepth 100000
namespace Go.Proofs.YtblbohcaphcobaaGreatDoor
theorem aq {α:Sort _} (a:α):∃x,x=a:=⟨a,rfl⟩
instance:Coe Int Value:=⟨fun x=>.int .i64 x⟩
instance:Coe ByteArray Value:=⟨fun x=>.string x⟩
section
theorem gA {α:Type _} {l:List α} {i:Nat}:l.toArray[i]?=l[i]?:=List.getElem?_toArray
theorem gB {α:Type _} {a:α} {l:List α}:(a::l)[0]?=some a:=List.getElem?_cons_zero
theorem gC {α:Type _} {a:α} {l:List α} {i:Nat}:(a::l)[i+1]?=l[i]?:=List.getElem?_cons_succ
theorem zH {p:Prop} (h:p):RowKit.Hid p:=Lib.hid h
open Go.ChangeShapes Go.WideShapes Go.ChangeAt Go.RowKit
def Ext (w w':World):Prop:=Below w.heap.size w w'
theorem Ext.refl (w:World):Ext w w:=Below.refl _ _
theorem Ext.trans {a b c:World} (h:Ext a b) (k:Ext b c):Ext a c:=Below.trans h (Below.mono k h.size)
theorem Ext.alloc {a w:World} (h:Ext a w) (o:Obj):Ext a (w.alloc o):=Below.alloc h h.size o
theorem Ext.drew {a w:World} (h:Ext a w):Ext a w.drew:=Below.drew h
theorem Ext.drewN {a w:World} (h:Ext a w) (n:Nat):Ext a (w.drewN n):=⟨h.os,h.tape,h.output,h.size,h.block⟩
theorem Ext.setCell {a w:World} (h:Ext a w) {p:Addr} (hp:a.heap.size<=p.block) (u:Value):Ext a (w.setCell p u):=Below.setCell h hp u
theorem Ext.size {a w:World} (h:Ext a w):a.heap.size<=w.heap.size:=Below.size h
theorem Ext.grown {a w w':World} {row:Option Nat} (h:Ext a w) (hg:w.grownBy w' row) (hr:∀k,row=some k->a.heap.size<=k):Ext a w':=Below.grown h hg h.size hr
theorem Ext.cell {w w':World} (h:Ext w w') {b o:Nat} (hp:b<w.heap.size):w'.cell? ⟨b,o,none⟩=w.cell? ⟨b,o,none⟩:=Below.cell (p:=⟨b,o,none⟩) h hp
theorem Ext.frozen {w w':World} (h:Ext w w') {b o:Nat} (hp:b<w.heap.size):w'.frozen? ⟨b,o,none⟩=w.frozen? ⟨b,o,none⟩:=Below.frozen (p:=⟨b,o,none⟩) h hp
theorem Ext.block {w w':World} (h:Ext w w') {b:Nat} {o:Obj} (hp:w.heap[b]?=some o):w'.heap[b]?=some o:=by
 have hb:b<w.heap.size:=by
  rcases Nat.lt_or_ge b w.heap.size with h'|h'
  ·exact h'
  ·simp[Array.getElem?_eq_none h']at hp
 rw [Below.block h b hb];exact hp
def aH (w:World) (v:Value) (e:Ending) (w':World):Prop:=e=.returned v/\Ext w w'
theorem aH.mk {w:World} {v:Value} {e:Ending} {w':World} (h:e=.returned v) (k:Ext w w'):aH w v e w':=⟨h,k⟩
theorem bQ {n:Int} (h:-9223372036854775808<=n) (h':n<9223372036854775808):IntKind.i64.wrap n=n:=by rw[IntKind.wrap_i64];omega
theorem jw (x:Int):(BitVec.ofInt 64 x).toNat=(x % 18446744073709551616).toNat:=by
 rw [BitVec.toNat_ofInt];rfl
theorem zb (x:Int) (i:Nat) (hi:i<63):(x % 18446744073709551616).toNat % 2 ^ i=(x % 2 ^ i).toNat:=by
 have h1:(0:Int)<=x % 18446744073709551616:=Int.emod_nonneg _ (by decide);have h2:(0:Int)<2 ^ i:=Int.pow_pos (by decide);have h3:(0:Int)<=x % 2 ^ i:=Int.emod_nonneg _ (by omega);have hd:(2:Int) ^ i ∣ 18446744073709551616:=by
  have:(18446744073709551616:Int)=2 ^ 64:=by decide
  rw [this];exact⟨2 ^ (64-i),by rw[<-Int.pow_add];congr 1;omega⟩
 have h4:x % 18446744073709551616 % 2 ^ i=x % 2 ^ i:=Int.emod_emod_of_dvd x hd;apply Int.ofNat.inj;show ((((x % 18446744073709551616).toNat % 2 ^ i:Nat)):Int)=(((x % 2 ^ i).toNat:Nat):Int);rw [Int.natCast_emod,Int.toNat_of_nonneg h1,Int.toNat_of_nonneg h3,Int.natCast_pow,<-h4];rfl
theorem ze (x:Int) (i:Nat) (hi:i<63):bits .and .i64 x (2 ^ i-1)=x % 2 ^ i:=by
 have h2:(0:Int)<2 ^ i:=Int.pow_pos (by decide);have h3:(0:Int)<=x % 2 ^ i:=Int.emod_nonneg _ (by omega);have h4:x % 2 ^ i<2 ^ i:=Int.emod_lt_of_pos _ h2;have hp:(2:Int) ^ i<=2 ^ 62:=by
  have:(2:Nat) ^ i<=2 ^ 62:=Nat.pow_le_pow_right (by decide) (by omega)
  exact_mod_cast this
 have hc:((2:Int) ^ i-1)=((2 ^ i-1:Nat):Int):=by
  rw [Int.natCast_sub (Nat.two_pow_pos i)];simp
 show IntKind.i64.wrap ((BitVec.ofInt 64 x &&& BitVec.ofInt 64 ((2:Int) ^ i-1)).toNat:Int)=_;have hb:(BitVec.ofInt 64 ((2:Int) ^ i-1)).toNat=2 ^ i-1:=by
  rw [hc,BitVec.ofInt_natCast,BitVec.toNat_ofNat];have:(2:Nat) ^ i<=2 ^ 62:=Nat.pow_le_pow_right (by decide) (by omega);exact Nat.mod_eq_of_lt (by omega)
 rw [BitVec.toNat_and,hb,jw,Nat.and_two_pow_sub_one_eq_mod,zb x i hi,Int.toNat_of_nonneg h3];exact bQ (by omega) (by omega)
theorem Uk (x:Int):bits .and .i64 x 1=x % 2:=ze x 1 (by decide)
theorem PB (x:Int):bits .and .i64 x 7=x % 8:=ze x 3 (by decide)
def Has (w:World) (b:Nat) (o:Obj):Prop:=w.heap[b]?=some o
theorem Has.ext {w w':World} {b:Nat} {o:Obj} (h:Has w b o) (k:Ext w w'):Has w' b o:=k.block h
theorem Has.lt {w:World} {b:Nat} {o:Obj} (h:Has w b o):b<w.heap.size:=by
 rcases Nat.lt_or_ge b w.heap.size with h'|h'
 ·exact h'
 ·unfold Has at h;simp[Array.getElem?_eq_none h']at h
theorem Has.new (w:World) (o:Obj):Has (w.alloc o) w.heap.size o:=heap_alloc_new w o
theorem Has.alloc {w:World} {b:Nat} {o:Obj} (h:Has w b o) (x:Obj):Has (w.alloc x) b o:=h.ext ((Ext.refl _).alloc x)
theorem Has.cell {w:World} {b:Nat} {C:Array Value} {t:TypeId} {fr:Nat×Nat} (h:Has w b (.cells C t fr)) (i:Nat):w.cell? ⟨b,i,none⟩=C[i]?:=by
 unfold Has at h;simp[World.cell?,h]
theorem Has.free {w:World} {b:Nat} {C:Array Value} {t:TypeId} {lo hi:Nat} (h:Has w b (.cells C t (lo,hi))) (i:Nat):w.frozen? ⟨b,i,none⟩=(decide (lo<=i)&&decide (i<hi)):=by
 unfold Has at h;simp[World.frozen?,h]
theorem qg {P:Program} {t:TypeId} (ht:P.underlying t=some .string) (s:ByteArray) (i j:Int) (a b:Nat) (hi:i=a) (hj:j=b) (hab:a<=b) (hb:b<=s.size) (r:ByteArray) (hr:s.extract a b=r) (w:World) :
  (Instr.slice t (.string s) (some (.int .i64 i)) (some (.int .i64 j)) none).run P w=.ok (.string r) w:=by
 subst hi;subst hj;subst hr;have:=run_slice_string (P:=P) w t s .i64 .i64 (a:Int) (b:Int) ht (by omega) (by omega) (by omega);simpa using this
open Go.RowKit
def bs (l:List UInt8):ByteArray:=⟨l.toArray⟩
theorem aR (l:List UInt8):(bs l).size=l.length:=by simp[bs,ByteArray.size]
theorem xv (s:ByteArray):bs s.data.toList=s:=by cases s;simp[bs]
theorem kP (l:List UInt8):(bs l).data.toList=l:=by simp[bs]
theorem bh (l:List UInt8):(bs l).toList=l:=by rw[ByteArray.toList_eq,kP]
theorem lk (a b:List UInt8):bs a++bs b=bs (a++b):=ByteArray.mk_append_mk a b
theorem Fa (s:ByteArray) (k:Nat) (h:k<s.size):s.data.toList.take (k+1)=s.data.toList.take k++[s[k]]:=by
 rw [List.take_succ_eq_append_getElem (by simpa using h)];rfl
theorem drop_at (s:ByteArray) (k:Nat) (h:k<s.size):s.data.toList.drop k=s[k]::s.data.toList.drop (k+1):=by
 rw [List.drop_eq_getElem_cons (by simpa using h)];rfl
theorem BU (l:List UInt8) (k:Nat) (h:k<(bs l).size) (h':k<l.length):(bs l)[k]'h=l[k]'h':=rfl
theorem M2 (s:ByteArray) (k:Nat) (h:k<s.size):s.extract k (k+1)=bs [s[k]]:=by
 apply ByteArray.ext;have hd:k<s.data.size:=h;simp only[ByteArray.data_extract,bs];apply Array.ext
 ·simp;omega
 ·intro i h1 h2
  simp at h2;subst h2;simp;rfl
theorem lJ (l:List UInt8) (a b:Nat):(bs l).extract a b=bs ((l.drop a).take (b-a)):=ByteArray.extract_mk l a b
theorem kw {a b:Bool} (h:a=b):Ending.returned (.bool a)=.returned (.bool b):=by rw[h]
theorem aA {k:IntKind} {a b:Int} (h:a=b):Ending.returned (.int k a)=.returned (.int k b):=by rw[h]
theorem si {a b:ByteArray} (h:a=b):Ending.returned (.string a)=.returned (.string b):=by rw[h]
abbrev bl:=Go.Op.bytesLess
theorem cD:∀a,bl a a=false
 | []=>rfl
 | c::a=>by simp[bl,Go.Op.bytesLess,show ¬c<c from fun h=>by exact absurd (UInt8.lt_iff_toNat_lt.1 h) (Nat.lt_irrefl _)];exact cD a
theorem xw (c d:UInt8) (a b:List UInt8):bl (c::a) (d::b)=(decide (c<d) || (c == d&&bl a b)):=rfl
theorem ll:∀{a b c:List UInt8},bl a b=true->bl b c=true->bl a c=true
 | [],[],c,h,_=>absurd h (by decide)
 | [],b::bs,[],_,h=>absurd h (by simp[bl,Go.Op.bytesLess])
 | [],b::bs,c::cs,_,_=>rfl
 | a::al,[],c,h,_=>absurd h (by simp[bl,Go.Op.bytesLess])
 | a::al,b::bs,[],_,h=>absurd h (by simp[bl,Go.Op.bytesLess])
 | a :: al,b::bs,c::cs,h,k=>by
  rw [xw]at h k|-;simp only[Bool.or_eq_true,decide_eq_true_eq,Bool.and_eq_true,beq_iff_eq]at h k|-;rcases h with h|⟨rfl,h⟩
  ·rcases k with k|⟨rfl,k⟩
   ·exact .inl (UInt8.lt_trans h k)
   ·exact .inl h
  ·rcases k with k|⟨rfl,k⟩
   ·exact .inl k
   ·exact .inr ⟨rfl,ll h k⟩
theorem lK:∀(a b:List UInt8),bl a b=true\/a=b\/bl b a=true
 | [],[]=>.inr (.inl rfl)
 | [],b::bs=>.inl rfl
 | a::al,[]=>.inr (.inr rfl)
 | a :: al,b::bs=>by
  rw [xw,xw];simp only[Bool.or_eq_true,decide_eq_true_eq,Bool.and_eq_true,beq_iff_eq]
  by_cases h:a<b
  ·exact .inl (.inl h)
  ·by_cases h2:b<a
   ·exact .inr (.inr (.inl h2))
   ·have:a=b:=UInt8.le_antisymm (UInt8.not_lt.1 h2) (UInt8.not_lt.1 h)
    subst this;rcases lK al bs with g|g|g
    ·exact .inl (.inr ⟨rfl,g⟩)
    ·exact .inr (.inl (by rw[g]))
    ·exact .inr (.inr (.inr ⟨rfl,g⟩))
theorem fD {a b:List UInt8} (h:bl a b=true):bl b a=false:=by
 cases k:bl b a
 ·rfl
 ·have:=ll h k;rw[cD]at this;cases this
abbrev aw:=List UInt8×Int
def lt (x:aw) (n:List UInt8):Bool:=bl x.1 n
def iH (l:List aw):Prop:=l.Pairwise fun x y=>bl x.1 y.1=true
def pos (l:List aw) (n:List UInt8):Nat:=(l.takeWhile (lt · n)).length
def has (l:List aw) (n:List UInt8):Bool:=l.any (·.1 == n)
theorem Hw (l:List aw) (n:List UInt8):pos l n<=l.length:=by
 unfold pos
 induction l with
 | nil=>simp
 | cons x l ih=>rw[List.takeWhile_cons];split<;>simp<;>omega
theorem lm (x:aw) (l:List aw) (n:List UInt8):pos (x::l) n=if lt x n=true then pos l n+1 else 0:=by
 unfold pos;rw[List.takeWhile_cons];split<;>simp
theorem zf (l:List aw) (n:List UInt8):∀k,k<pos l n->(h:k<l.length)->lt l[k] n=true:=by
 induction l with
 | nil=>intro k _ h;cases h
 | cons x l ih =>
  intro k hk h;rw [lm]at hk;split at hk
  ·rename_i hx
   cases k with
   | zero=>exact hx
   | succ k=>exact ih k (by omega) (by simpa using h)
  ·omega
theorem M8 (l:List aw) (n:List UInt8) (hr:iH l):∀k,(h:k<l.length)->pos l n<=k->lt l[k] n=false:=by
 induction l with
 | nil=>intro k h;cases h
 | cons x l ih =>
  intro k h hk;rw [lm]at hk;have hr':=List.pairwise_cons.1 hr;split at hk
  ·cases k with
   | zero=>omega
   | succ k=>exact ih hr'.2 k (by simpa using h) (by omega)
  ·rename_i hx
   have hx':lt x n=false:=by simpa using hx
   cases k with
   | zero=>exact hx'
   | succ k =>
    have hm:l[k]'(by simpa using h)∈l:=List.getElem_mem _;have h1:=hr'.1 _ hm
    cases h2:lt ((x::l)[k+1]'h) n
    ·rfl
    ·have:lt x n=true:=ll h1 h2
     rw [hx']at this;cases this
theorem BV (l:List aw) (n:List UInt8) (hr:iH l) (p:Nat) (hp:p<=l.length) (h1:∀k,(h:k<l.length)->k<p->lt l[k] n=true) (h2:∀k,(h:k<l.length)->p<=k->lt l[k] n=false):p=pos l n:=by
 rcases Nat.lt_trichotomy p (pos l n) with g|g|g
 ·have hl:=Hw l n
  have a:=zf l n p g (by omega);have b:=h2 p (by omega) (Nat.le_refl _);rw [a]at b;cases b
 ·exact g
 ·have a:=h1 (pos l n) (by omega) g
  have b:=M8 l n hr (pos l n) (by omega) (Nat.le_refl _);rw [a]at b;cases b
theorem DT (l:List aw) (n:List UInt8) (hr:iH l):has l n=(if h:pos l n<l.length then (l[pos l n]'h).1 == n else false):=by
 induction l with
 | nil=>rfl
 | cons x l ih =>
  have hr':=List.pairwise_cons.1 hr;have hp:=lm x l n
  by_cases hx:lt x n=true
  ·rw [if_pos hx]at hp
   have hne:(x.1 == n)=false:=by
    rw [beq_eq_false_iff_ne];intro e;unfold lt at hx;rw[e,cD]at hx;cases hx
   have:has (x::l) n=has l n:=by unfold has;rw[List.any_cons,hne,Bool.false_or]
   rw [this,ih hr'.2];have hlen:(x::l).length=l.length+1:=rfl
   by_cases h:pos l n<l.length
   ·rw [dif_pos h,dif_pos (by omega)]
    have:∀(i j:Nat) (hi:i<(x::l).length) (hj:j<l.length),i=j+1->(x::l)[i]=l[j]:=by
     intro i j hi hj e;subst e;rfl
    rw [this _ _ (by omega) h hp]
   ·rw[dif_neg h,dif_neg (by omega)]
  ·rw [if_neg hx]at hp
   have h0:0<(x::l).length:=by simp
   have e0:∀(i:Nat) (hi:i<(x::l).length),i=0->(x::l)[i]=x:=by intro i hi e;subst e;rfl
   rw [dif_pos (by omega),e0 _ _ hp];unfold has;rw [List.any_cons]
   cases hq:(x.1 == n)
   ·rw [Bool.false_or,List.any_eq_false]
    intro y hy;have h1:=hr'.1 y hy;intro h2;rw [beq_iff_eq]at h2;rw [h2]at h1;exact hx h1
   ·rfl
def cmpL (a b:List UInt8):Int:=if bl a b=true then -1 else if bl b a=true then 1 else 0
theorem vT (s:ByteArray) (w:World):Calls Tryz.prog 181 #[.string s] w (aH w (.bool false)):=by
 go_enter Tryz.func181,Tryz.ntmps181;go_wp2_with fail;go_ret;exact aH.mk rfl (Ext.refl _)
theorem xx {a b:List UInt8} (h:bl a b=true):cmpL a b=-1:=by unfold cmpL;rw[if_pos h]
theorem xy {a b:List UInt8} (h:bl b a=true):cmpL a b=1:=by unfold cmpL;rw[if_neg (by rw[fD h];decide),if_pos h]
theorem cmpL_eq (a:List UInt8):cmpL a a=0:=by unfold cmpL;rw[cD];rfl
theorem zg (a b:List UInt8) (w:World):Calls Tryz.prog 168 #[bs a,bs b] w (aH w (.int .i64 (cmpL a b))):=by
 obtain ⟨x,y,c,hx,hy,hc,hf⟩:∃(x y:Bool) (c:Int),bl a b=x/\(a == b)=y/\cmpL a b=c/\((x=true/\y=false/\c=-1)\/(x=false/\y=true/\c=0)\/(x=false/\y=false/\c=1)):=by
  refine ⟨_,_,_,rfl,rfl,rfl,?_⟩;rcases lK a b with h|h|h
  ·refine .inl ⟨h,?_,xx h⟩
   rw [beq_eq_false_iff_ne];intro e;rw[e,cD]at h;cases h
  ·subst h;exact .inr (.inl ⟨cD a,beq_self_eq_true a,cmpL_eq a⟩)
  ·refine .inr (.inr ⟨fD h,?_,xy h⟩)
   rw [beq_eq_false_iff_ne];intro e;rw[e,cD]at h;cases h
 have e1:Go.Op.bytesLess (bs a).toList (bs b).toList=x:=by rw[bh,bh];exact hx
 have e2:((bs a).toList == (bs b).toList)=y:=by rw[bh,bh];exact hy
 have HC:=zH hc;clear hx hy hc;rcases hf with⟨rfl,rfl,rfl⟩|⟨rfl,rfl,rfl⟩|⟨rfl,rfl,rfl⟩
 all_goals
  go_enter Tryz.func168,Tryz.ntmps168;go_wp2_with fail;refine (vT _ _).mono ?_;rintro e w1 ⟨rfl,b1⟩;go_wp2_with fail;refine (vT _ _).mono ?_;rintro e w2 ⟨rfl,b2⟩;go_wp2_with fail;go_ret;exact aH.mk (aA (by rw[HC.out])) (b1.trans b2)
theorem Hx (a n:List UInt8) (no:Int) (w:World):Calls Tryz.prog 151 #[.agg #[bs a,.int .i64 no],bs n] w (aH w (.int .i64 (cmpL a n))):=by
 go_enter Tryz.func151,Tryz.ntmps151;go_wp2_with fail;refine (zg a n _).mono ?_;rintro e w1 ⟨rfl,b1⟩;go_wp2_with fail;go_ret;exact aH.mk rfl (((Ext.refl _).alloc _).trans b1)
def bP (w:World) (A:Option Addr) (l:List aw):Prop:=
 l = []\/∃b o,A=some ⟨b,o,none⟩/\b<w.heap.size/\∀k,(h:k<l.length)->w.cell? ⟨b,o+k*2,none⟩=some (.string (bs l[k].1))/\w.cell? ⟨b,o+k*2+1,none⟩=some (.int .i64 l[k].2)
theorem bP.ext {w w':World} {A:Option Addr} {l:List aw} (h:bP w A l) (k:Ext w w'):bP w' A l:=by
 rcases h with h|⟨b,o,hA,hb,hc⟩
 ·exact .inl h
 ·refine .inr ⟨b,o,hA,by have:=k.size;omega,fun i hi=>?_⟩
  rw [k.cell hb,k.cell hb];exact hc i hi
theorem bP.at_ {w wr:World} {A:Option Addr} {l:List aw} (h:bP w A l) (hE:Ext w wr) (k:Nat) (hk:k<l.length) :
  ∃ b o,A=some ⟨b,o,none⟩/\b<wr.heap.size/\wr.cell? ⟨b,o+k*2,none⟩=some (.string (bs l[k].1))/\wr.cell? ⟨b,o+k*2+1,none⟩=some (.int .i64 l[k].2):=by
 rcases h.ext hE with h0|⟨b,o,hA,hb,hc⟩
 ·rw[h0]at hk;simp at hk
 ·exact⟨b,o,hA,hb,hc k hk⟩
theorem nQ {l:List aw} {nm:List UInt8} (hr:iH l) {i k:Nat} (hik:i<k) (hk:k<l.length) (h:lt l[k] nm=true):lt (l[i]'(by omega)) nm=true:=
 ll (List.pairwise_iff_getElem.1 hr i k (by omega) hk hik) h
theorem lL (A:Option Addr) (l:List aw) (cap:Nat) (nm:List UInt8) (w:World) (h:bP w A l) (hr:iH l) (hlen:l.length<=1000000):Calls Tryz.prog 150 #[.slice A l.length cap,bs nm,.func (Fn.func 151) #[] #[]] w (aH w (.tuple #[.int .i64 (pos l nm),.bool (has l nm)])):=by
 obtain⟨n,hn⟩:=aq l.length;rw [<-hn]at hlen|-;have HN:=zH hn;clear hn;go_enter Tryz.func150,Tryz.ntmps150;go_wp2_with fail;go_loopw [9,10] (fun iv jv wr=>∃i j:Nat,iv=.int .i64 i/\jv=.int .i64 j/\i<=j/\j<=n/\Hid (∀k,(h:k<l.length)->k<i->lt l[k] nm=true)/\Hid (∀k,(h:k<l.length)->j<=k->lt l[k] nm=false)/\Ext w wr) (fun iv jv _=>(intOf jv).toNat-(intOf iv).toNat)
 case atStart=>exact⟨0,n,rfl,rfl,by omega,Nat.le_refl _,fun k _ h=>absurd h (by omega),fun k h h2=>absurd h2 (by have:=HN.out;omega),Ext.refl _⟩
 case round =>
  obtain ⟨i,j,rfl,rfl,hij,hjn,ha,hb,hE⟩:=hrel
  by_cases hlt:(i:Int)<j
  ·obtain⟨m,hm⟩:=aq ((i+j) / 2)
   have i6:i<=m:=by omega
   have cF:m<j:=by omega
   have M9:m<l.length:=by have:=HN.out;omega
   have e1:((i:Int)+(j:Int)) / 2=(m:Int):=by omega
   have M_:(m:Int)<(n:Int):=by omega
   have hm0:(0:Int)<=(m:Int):=by omega
   clear hm;obtain ⟨b,o,rfl,uY,hc⟩:=h.at_ hE m M9;obtain ⟨ca,cb⟩:=hc
   generalize hx1:l[m]=x at ca cb
   have h1:=zH hx1;clear hx1;go_wp2_with fail;refine (Hx _ _ _ _).mono ?_;rintro e w1 ⟨rfl,b1⟩
   by_cases hl:lt x nm=true
   ·have e:cmpL x.1 nm=-1:=xx hl
    rw [e];have Hy:Hid (∀k,(h:k<l.length)->k<m+1->lt l[k] nm=true):=fun k h3 h4=>by
     by_cases hk:k=m
     ·subst hk
      have q:=h1.out;rw [q];exact hl
     ·exact nQ hr (show k<m by omega) M9 (by have q:=h1.out;rw[q];exact hl)
    clear e hl;go_wp2_with fail;go_roundw
    case rel=>exact⟨m+1,j,by go_num,rfl,by omega,hjn,Hy,hb,hE.trans b1⟩
    case measure=>simp[intOf];omega
   ·have qd:lt x nm=false:=by simpa using hl
    have e:decide (cmpL x.1 nm<0)=false:=by
     rcases lK x.1 nm with g|g|g
     ·exact absurd g hl
     ·rw[g,cmpL_eq];rfl
     ·rw[xy g];rfl
    have hb2:Hid (∀k,(h:k<l.length)->m<=k->lt l[k] nm=false):=fun k h3 h4=>by
     cases hv:lt l[k] nm
     ·rfl
     ·by_cases hk:m=k
      ·subst hk
       have q:=h1.out;rw [q,qd]at hv;cases hv
      ·have:=nQ hr (show m<k by omega) h3 hv
       rw [h1.out,qd]at this;cases this
    clear hl qd;go_wp2_with fail;go_roundw
    case rel=>exact⟨i,m,rfl,rfl,by omega,by omega,ha,hb2,hE.trans b1⟩
    case measure=>simp[intOf];omega
  ·have Y9:i=j:=by omega
   subst Y9;have hp:i=pos l nm:=BV l nm hr i (by have:=HN.out;omega) ha.out hb.out;have hh:=DT l nm hr;rw [<-hp]at hh;have HP:=zH hp;clear hp hlt
   by_cases oF:(i:Int)<n
   ·have hil:i<l.length:=by have:=HN.out;omega
    rw [dif_pos hil]at hh;obtain ⟨b,o,rfl,uY,hc⟩:=h.at_ hE i hil;obtain ⟨ca,cb⟩:=hc
    generalize hx1:l[i]=x at ca cb hh
    have hq:(cmpL x.1 nm == 0)=has l nm:=by
     rw [hh];rcases lK x.1 nm with g|g|g
     ·rw [xx g];symm;rw[beq_eq_false_iff_ne.2];· rfl
      intro e;rw[e,cD]at g;cases g
     ·rw[g,cmpL_eq];simp
     ·rw [xy g];symm;rw[beq_eq_false_iff_ne.2];· rfl
      intro e;rw[e,cD]at g;cases g
    have HQ:=zH hq;clear hx1 hh hq;go_wp2_with fail;refine (Hx _ _ _ _).mono ?_;rintro e w1 ⟨rfl,b1⟩;go_wp2_with fail;go_ret2;exact aH.mk (by rw[HQ.out,<-HP.out];rfl) (hE.trans b1)
   ·rw [dif_neg (by have:=HN.out;omega)]at hh
    have HH:=zH hh;clear hh;go_wp2_with fail;go_ret2;exact aH.mk (by rw[HH.out,<-HP.out];rfl) hE
def ap (l:List aw):List Value:=l.flatMap fun x=>[.string (bs x.1),.int .i64 x.2]
theorem cv (l:List aw):(ap l).length=l.length*2:=by
 unfold ap
 induction l with
 | nil=>rfl
 | cons x l ih=>rw[List.flatMap_cons,List.length_append,ih];simp;omega
theorem dO (a b:List aw):ap (a++b)=ap a++ap b:=by unfold ap;rw[List.flatMap_append]
theorem dk (l:List aw):∀u∈ap l,u.oneCell'=true:=by
 intro u hu;unfold ap at hu;rw [List.mem_flatMap]at hu;obtain ⟨x,_,hx⟩:=hu;rcases List.mem_cons.1 hx with rfl|hx
 ·rfl
 ·rw[List.mem_singleton.1 hx];rfl
theorem pj (l:List aw):∀k,(h:k<l.length)->(ap l)[k*2]?=some (.string (bs l[k].1))/\(ap l)[k*2+1]?=some (.int .i64 l[k].2):=by
 induction l with
 | nil=>intro k h;cases h
 | cons x l ih =>
  intro k h;have e:ap (x::l)=.string (bs x.1)::.int .i64 x.2::ap l:=rfl;rw [e]
  cases k with
  | zero=>exact⟨rfl,rfl⟩
  | succ k =>
   have:=ih k (by simpa using h);rw [show (k+1)*2=k*2+1+1 by omega];simpa using this
theorem bP.cells {w:World} {b o:Nat} {l:List aw} (h:bP w (some ⟨b,o,none⟩) l):∀j u,(ap l)[j]?=some u->w.cell? ⟨b,o+j,none⟩=some u:=by
 intro j u hu;have hj:j<l.length*2:=by
  rw [<-cv];rcases Nat.lt_or_ge j (ap l).length with h'|h'
  ·exact h'
  ·rw[List.getElem?_eq_none h']at hu;cases hu
 rcases h with h|⟨b',o',hA,_,hc⟩
 ·subst h;simp at hj
 ·injection hA with hA
  injection hA with h1 h2;subst h1 h2;have hk:=hc (j / 2) (by omega);have hg:=pj l (j / 2) (by omega);rcases Nat.mod_two_eq_zero_or_one j with hm|hm
  ·have e:j / 2*2=j:=by omega
   rw [e]at hk hg;rw [hk.1,<-hg.1,hu]
  ·have e:j / 2*2+1=j:=by omega
   have e2:o+j / 2*2+1=o+j:=by omega
   rw [e]at hg;rw [e2]at hk;rw [hk.2,<-hg.2,hu]
def dL (w:World) (base:Nat) (v:Value) (l:List aw):Prop:=w.ownsRow base 106 2 v l.length (ap l)
theorem dL.at_ {w:World} {base:Nat} {v:Value} {l:List aw} (h:dL w base v l):∃A cap,v=.slice A l.length cap/\l.length<=cap/\cap<=maxLen/\bP w A l:=by
 unfold dL at h;rcases h.2 with⟨rfl,h0⟩|⟨g,cap,cur,rfl,_,hg,hn,hm,hsz,htake⟩
 ·have:l=[]:=List.eq_nil_of_length_eq_zero h0
  subst this;exact ⟨none,0,rfl,Nat.le_refl _,by decide,.inl rfl⟩
 ·refine ⟨_,cap,rfl,hn,hm,.inr ⟨g,0,rfl,?_,fun k hk=>?_⟩⟩
  ·rcases Nat.lt_or_ge g w.heap.size with h'|h'
   ·exact h'
   ·simp[Array.getElem?_eq_none h']at hg
  ·have hc:=h.cells (g:=g) rfl
   have hg:=pj l k hk;have h1:=hc _ _ hg.1;have h2:=hc _ _ hg.2;simp only[Addr.add_lit]at h1 h2;rw [Nat.add_assoc];exact ⟨h1,h2⟩
theorem jX:(Tryz.prog.info? 106).map (fun i=>(i.zero,i.size,i.bytes))=some (some (.agg #[.string ⟨#[]⟩,.int .i64 0]),2,24):=by kernel_rfl
theorem iM (z:Array Value) (n:Nat):(Builtin.zeroCells z n).size=n*z.size:=by
 unfold Builtin.zeroCells;simp
theorem Na (w:World) (G n:Nat) (hge:n<=G) (hle:G<=maxLen):dL ((w.alloc (.cells (Builtin.zeroCells #[.string ⟨#[]⟩,.int .i64 0] n++Builtin.zeroCells #[.string ⟨#[]⟩,.int .i64 0] (G-n)) 106)).drew) w.heap.size (.slice (some ⟨w.heap.size,0,none⟩) 0 G) []:=by
 refine ⟨rfl,.inr ⟨w.heap.size,G,Builtin.zeroCells #[.string ⟨#[]⟩,.int .i64 0] n++Builtin.zeroCells #[.string ⟨#[]⟩,.int .i64 0] (G-n),rfl,Nat.le_refl _,Has.new w _,Nat.zero_le _,hle,?_,rfl⟩⟩;rw [Array.size_append,iM,iM];show n*2+(G-n)*2=G*2;omega
theorem Hz (n:Nat) (w:World) (hn:n<=1000000):Calls Tryz.prog 169 #[.slice none 0 0,.int .i64 n] w fun e w'=>∃v,e=.returned v/\dL w' w.heap.size v []/\Ext w w':=by
 by_cases h0:n=0
 ·subst h0
  go_enter Tryz.func169,Tryz.ntmps169;go_wp2_with fail;go_ret;exact ⟨_,rfl,⟨rfl,.inl ⟨rfl,rfl⟩⟩,Ext.refl _⟩
 ·obtain ⟨i0,hi,hz0,hz1,hz2⟩:=info_parts jX
  have hrun:=fun ty=>Lib.run_append_nil_zeros (P:=Tryz.prog) w 56 3 ty 106 i0 _ .i64 .i64 Tryz.underlying56 Tryz.underlying3 hi hz0 n (by omega) (by rw[hz1];decide) (by omega) (by rw[hz2];omega)
  have hge:=grownCap_ge w n 0 106;have hle:=grownCap_le_maxLen w n 0 106 (by unfold maxLen;omega)
  generalize grownCap w n 0 106=G at hrun hge hle
  have hG:(G:Int)<=9223372036854775807:=by unfold maxLen at hle;omega
  have hpos:0<(n:Int):=by omega
  have HR:=zH hrun;clear hrun h0;go_enter Tryz.func169,Tryz.ntmps169;go_wp2_with (at_builtin;refine Lib.wpList_append_run _ rfl _ _ 56 3 rfl _ _ rfl rfl _ _ (HR.out _) ?_);go_ret;refine ⟨.slice (some ⟨w.heap.size,0,none⟩) 0 G,rfl,?_,((Ext.refl _).alloc _).drew⟩;exact Na w G n hge hle
abbrev Part:=Option Addr×Nat×List aw
def zh (w:World) (b:Nat) (ps:List Part):Prop:=
 b<w.heap.size/\∀i,(h:i<ps.length)->w.cell? ⟨b,i,none⟩=some (.slice ps[i].1 ps[i].2.2.length ps[i].2.1)/\bP w ps[i].1 ps[i].2.2/\(ps[i].1=none->ps[i].2.1=0)
theorem zh.ext {w w':World} {b:Nat} {ps:List Part} (h:zh w b ps) (k:Ext w w'):zh w' b ps:=
 ⟨by have:=k.size;have:=h.1;omega,fun i hi=>⟨by rw[k.cell h.1];exact (h.2 i hi).1,(h.2 i hi).2.1.ext k,(h.2 i hi).2.2⟩⟩
def fp (ps:List Part):List aw:=ps.flatMap (·.2.2)
theorem sG (ps:List Part) (i:Nat) (h:i<ps.length):fp (ps.take (i+1))=fp (ps.take i)++ps[i].2.2:=by
 unfold fp;rw [List.take_succ_eq_append_getElem h,List.flatMap_append];simp
theorem nU (ps:List Part) (i:Nat):(fp (ps.take i)).length<=(fp ps).length:=by
 have:fp ps=fp (ps.take i)++fp (ps.drop i):=by unfold fp;rw[<-List.flatMap_append,List.take_append_drop]
 rw [this,List.length_append];omega
theorem sH (b cap:Nat) (ps:List Part) (w:World) (hp:zh w b ps) (hlen:(fp ps).length<=1000000) (hk:ps.length<=1000000):Calls Tryz.prog 152 #[.slice (some ⟨b,0,none⟩) ps.length cap] w fun e w'=>∃v,e=.returned v/\dL w' w.heap.size v (fp ps)/\Ext w w':=by
 obtain⟨q,hq⟩:=aq ps.length;rw [<-hq]at hk|-;have HQ:=zH hq;clear hq;go_enter Tryz.func152,Tryz.ntmps152;go_wp2_with fail;go_loop [3,11] (fun s i=>∃k n:Nat,k<=q/\i=.int .i64 k/\s=.int .i64 n/\n<=1000000/\Hid (n=(fp (ps.take k)).length)) (fun _ i=>q-(intOf i).toNat)
 case atStart=>exact⟨0,0,Nat.zero_le _,rfl,rfl,by omega,rfl⟩
 case round =>
  obtain ⟨k,n,hkq,rfl,rfl,hn,Hn⟩:=hrel
  by_cases hlt:(k:Int)<q
  ·have dh:k<ps.length:=by have:=HQ.out;omega
   obtain ⟨hc,he,-⟩:=hp.2 k dh;have hs:=sG ps k dh;have hle:=nU ps (k+1);rw [hs,List.length_append]at hle
   generalize hx:ps[k]=x at hc he hs hle
   obtain ⟨A,c,l⟩:=x;obtain⟨m,hm⟩:=aq l.length;have hn':n+m<=1000000:=by have:=Hn.out;simp at hle;omega
   have Hn2:Hid (n+m=(fp (ps.take (k+1))).length):=by show _=_;rw[hs,List.length_append];have:=Hn.out;simp;omega
   simp only[]at hc;rw [<-hm]at hc;clear hs hle hx he hm;go_wp2_with fail;go_round
   case rel=>exact⟨k+1,n+m,by omega,by go_num,by go_num,hn',Hn2⟩
   case measure=>simp[intOf];omega
  ·have Y_ : k=q:=by omega
   subst Y_;clear hlt;go_wp2_with fail;refine (Hz n _ hn).mono ?_;rintro e w1 ⟨v,rfl,ho,b1⟩;have B1:=zH b1;have HQ':=trivial;go_wp2_with fail;obtain ⟨i0,hi,hz0,hz1,hz2⟩:=info_parts jX;clear b1 HQ' hkq;go_loopw [6,27] (fun u i wr=>∃j:Nat,j<=k/\i=.int .i64 j/\dL wr w.heap.size u (fp (ps.take j))/\Ext w wr) (fun _ i _=>k-(intOf i).toNat)
   case atStart=>exact⟨0,Nat.zero_le _,rfl,ho,B1.out⟩
   case round =>
    obtain ⟨j,PC,rfl,hown,hE⟩:=hrel
    by_cases hlt:(j:Int)<k
    ·have hjl:j<ps.length:=by have:=HQ.out;omega
     obtain ⟨hc,he,hnone⟩:=(hp.ext hE).2 j hjl;have hs:=sG ps j hjl;have hle:=nU ps (j+1);rw [hs,List.length_append]at hle
     generalize hx:ps[j]=x at hc he hs hle hnone
     obtain ⟨A,c,l⟩:=x;simp only[]at hc he hs hle hnone
     cases A with
     | none =>
      have jF:l=[]:=by
       rcases he with h|⟨b',o',h,_⟩
       ·exact h
       ·cases h
      subst jF;obtain rfl:c=0:=hnone rfl;have gG:Hid (dL wr w.heap.size u6 (fp (ps.take (j+1)))):=by show dL _ _ _ _;rw[hs,List.append_nil];exact hown
      clear hs hle he hnone hx;go_wp2_with (at_builtin;refine wpList_append_own_none rfl _ _ 56 rfl _ 106 i0 2 Tryz.underlying56 hi _ _ _ rfl hown rfl ?_);go_roundw
      case rel=>exact⟨j+1,by omega,by go_num,gG.out,hE⟩
      case measure=>simp[intOf];omega
     | some ad =>
      have hnews:∀j u,(ap l)[j]?=some u->wr.cell? (ad.add j)=some u:=by
       intro j' u' hu;rcases he with h|⟨b',o',h,hb,h2⟩
       ·subst h;simp[ap]at hu
       ·injection h with h
        subst h;rw [Addr.add_lit];exact bP.cells (.inr ⟨b',o',rfl,hb,h2⟩) j' u' hu
      have i_:(fp (ps.take j)).length+l.length<=1000000:=by omega
      have HJ:=zH hnews;have HS:=zH hs;obtain⟨P,hP⟩:=aq (fp (ps.take j));rw [<-hP]at i_ hown HS;obtain⟨m,hm⟩:=aq l.length;rw [<-hm]at hc i_;have HM:=zH hm;unfold dL at hown;clear hnews hs hle he hnone hx hP hm;go_wp2_with (at_builtin;refine wpList_append_own _ rfl _ _ 56 rfl w.heap.size 106 i0 (.agg #[.string ⟨#[]⟩,.int .i64 0]) 2 24 Tryz.underlying56 hi hz0 hz1 hz2 rfl (by decide) _ _ _ rfl hown ad m c (ap l) rfl (by rw[cv,HM.out]) HJ.out (dk l) (by unfold maxLen;omega) (by omega) hE.size ?_);intro v' w2 gG hgrow _;have mA:Hid (dL w2 w.heap.size v' (fp (ps.take (j+1)))):=by
       show dL _ _ _ _;unfold dL;rw [HS.out,dO,List.length_append,<-HM.out];exact gG
      have kZ:Ext w w2:=hE.grown hgrow (fun g hg=>(hown.lt g hg).1);clear gG hgrow;go_wp2_with fail;go_roundw
      case rel=>exact⟨j+1,by omega,by go_num,mA.out,kZ⟩
      case measure=>simp[intOf];omega
    ·have Za:j=k:=by omega
     subst Za;have ht:Hid (fp (ps.take j)=fp ps):=by show _=_;rw[HQ.out,List.take_length]
     clear hlt;go_wp2_with fail;go_ret;exact ⟨_,rfl,by rw[<-ht.out];exact hown,hE⟩
def numOf (l:List aw) (nm:List UInt8):Int:=if has l nm=true then (l.getD (pos l nm) ([],0)).2 else 0
theorem BW {l:List aw} {nm:List UInt8} (hr:iH l) (h:has l nm=true):∃hp:pos l nm<l.length,(l[pos l nm]'hp).1=nm:=by
 rw [DT l nm hr]at h;split at h
 ·rename_i hp;exact⟨hp,by simpa using h⟩
 ·cases h
theorem pk (A:Option Addr) (l:List aw) (cap:Nat) (nm:List UInt8) (w:World) (h:bP w A l) (hr:iH l) (hlen:l.length<=1000000):Calls Tryz.prog 125 #[.slice A l.length cap,bs nm] w (aH w (.int .i64 (numOf l nm))):=by
 have hf:Hid (numOf l nm=if has l nm=true then (l.getD (pos l nm) ([],0)).2 else 0):=rfl
 cases hh:has l nm
 ·rw [hh]at hf
  have HH:=zH hh;clear hh;go_enter Tryz.func125,Tryz.ntmps125;go_wp2_with fail;refine (lL A l cap nm _ h hr hlen).mono ?_;rintro e w1 ⟨rfl,b1⟩;rw [HH.out];go_wp2_with fail;go_ret;exact aH.mk (aA (by rw[hf.out];rfl)) b1
 ·rw [hh]at hf
  obtain ⟨hp,-⟩:=BW hr hh;obtain⟨p,sj⟩:=aq (pos l nm);have HH:=zH hh;rw [<-sj]at hf;have hpl:p<l.length:=by rw[sj];exact hp
  have HP:=zH sj;clear hh hp sj;obtain⟨n,hn⟩:=aq l.length;have Ty:(p:Int)<(n:Int):=by omega
  have HN:=zH hn;clear hn;go_enter Tryz.func125,Tryz.ntmps125;rw [<-HN.out];go_wp2_with fail;rw [HN.out];refine (lL A l cap nm _ h hr hlen).mono ?_;rintro e w1 ⟨rfl,b1⟩;rw [HH.out,<-HP.out,<-HN.out];obtain ⟨b,o,rfl,uY,ca,cb⟩:=h.at_ b1 p hpl;have hx:Hid ((l.getD p ([],0)).2=(l[p]).2):=by show _=_;rw[List.getD_eq_getElem?_getD,List.getElem?_eq_getElem hpl];rfl
  generalize l[p]=x at ca cb hx
  go_wp2_with fail;go_ret;exact aH.mk (aA (by rw[hf.out,if_pos trivial,hx.out])) b1
theorem bP.take {w:World} {A:Option Addr} {l:List aw} (h:bP w A l) (k:Nat):bP w A (l.take k):=by
 rcases h with h|⟨b,o,hA,hb,hc⟩
 ·subst h;exact .inl (by simp)
 ·refine .inr ⟨b,o,hA,hb,fun i hi=>?_⟩
  rw [List.length_take]at hi;rw [List.getElem_take];exact hc i (by omega)
theorem bP.drop {w:World} {b o:Nat} {l:List aw} (h:bP w (some ⟨b,o,none⟩) l) (k:Nat):bP w (some ⟨b,o+k*2,none⟩) (l.drop k):=by
 rcases h with h|⟨b',o',hA,hb,hc⟩
 ·subst h;exact .inl (by simp)
 ·injection hA with hA
  injection hA with h1 h2;subst h1 h2;refine .inr ⟨b,o+k*2,rfl,hb,fun i hi=>?_⟩;rw [List.length_drop]at hi;rw [List.getElem_drop];have:=hc (k+i) (by omega);rw [show o+k*2+i*2=o+(k+i)*2 by omega];exact this
theorem dL.base {w:World} {B B':Nat} {v:Value} {l:List aw} (h:dL w B v l) (hB:B'<=B):dL w B' v l:=by
 refine ⟨h.1,?_⟩;rcases h.2 with h|⟨g,cap,cur,h1,h2,h3⟩
 ·exact .inl h
 ·exact .inr ⟨g,cap,cur,h1,Nat.le_trans hB h2,h3⟩
theorem H2 {W:World} {B:Nat} {A1 A2 A3:Option Addr} {c1 c2 c3:Nat} {l1 l2 l3:List aw} (h0:W.cell? ⟨B,0,none⟩=some (.slice A1 l1.length c1)) (h1:W.cell? ⟨B,1,none⟩=some (.slice A2 l2.length c2)) (h2:W.cell? ⟨B,2,none⟩=some (.slice A3 l3.length c3)) (e1:bP W A1 l1) (e2:bP W A2 l2) (e3:bP W A3 l3) (hB:B<W.heap.size) (z1:A1=none->c1=0) (z2:A2=none->c2=0) (z3:A3=none->c3=0) :
  zh W B [(A1,c1,l1),(A2,c2,l2),(A3,c3,l3)]:=by
 refine ⟨hB,fun i hi=>?_⟩
 match i,hi with
 | 0,_=>exact⟨h0,e1,z1⟩
 | 1,_=>exact⟨h1,e2,z2⟩
 | 2,_=>exact⟨h2,e3,z3⟩
theorem ln {W:World} {B:Nat} {nm:List UInt8} {no:Int} (h:Has W B (.cells #[bs nm,.int .i64 no] 106)):bP W (some ⟨B,0,none⟩) [(nm,no)]:=by
 refine .inr ⟨B,0,rfl,h.lt,fun k hk=>?_⟩;obtain rfl:k=0:=by simp at hk;omega
 exact ⟨h.cell 0,h.cell 1⟩
def nJ (l:List aw) (nm:List UInt8) (no:Int):List aw:=l.take (pos l nm)++(nm,no)::l.drop (pos l nm+if has l nm=true then 1 else 0)
def H7 (w:World) (l:List aw) (e:Ending) (w':World):Prop:=∃v,e=.returned v/\dL w' w.heap.size v l/\Ext w w'
theorem Nb (A:Option Addr) (l:List aw) (cap:Nat) (nm:List UInt8) (no:Int) (w:World) (h:bP w A l) (hr:iH l) (hcap:l.length<=cap) (sI:cap<=maxLen) (hlen:l.length<=999999) (hh:has l nm=true):Calls Tryz.prog 127 #[.slice A l.length cap,bs nm,.int .i64 no] w (H7 w (nJ l nm no)):=by
 obtain ⟨hp,-⟩:=BW hr hh;obtain⟨p,sj⟩:=aq (pos l nm);have HH:=zH hh;have hpl:p<l.length:=by rw[sj];exact hp
 have hcut:Hid (nJ l nm no=l.take p++(nm,no)::l.drop (p+1)):=by show _=_;unfold nJ;rw[hh,if_pos rfl,sj]
 have HP:=zH sj;clear hh hp sj;obtain⟨n,hn⟩:=aq l.length;have Ty:(p:Int)<(n:Int):=by omega
 have hnc:n<=cap:=by omega
 have hcm:cap<=9223372036854775807:=by unfold maxLen at sI;omega
 have HN:=zH hn;obtain ⟨b,o,rfl,-⟩:=h.at_ (Ext.refl w) p hpl;clear hn hcap sI;go_enter Tryz.func127,Tryz.ntmps127;rw [<-HN.out];go_wp2_with fail;rw [HN.out];refine (lL _ l cap nm _ h hr (by omega)).mono ?_;rintro e w1 ⟨rfl,b1⟩;rw [HH.out,<-HP.out,<-HN.out];have g1:IntKind.i64.wrap ((p:Int)+1)=(p:Int)+1:=bQ (by omega) (by omega);have g2:(0:Int)<=(p:Int)+1:=by omega
 have g3:((p:Int)+1).toNat=p+1:=by omega
 go_wp2_with fail;have Zb:p<=cap:=by omega
 have abR:(p:Int)+1<=(n:Int):=by omega
 have lt:(l.take p).length=p:=by rw[List.length_take];omega
 have LT:=zH lt;clear lt
 by_cases hc1:cap=p+1
 ·have Ul:l.drop (p+1)=[]:=by rw[List.drop_eq_nil_iff,<-HN.out];omega
  obtain rfl:n=p+1:=by omega
  subst hc1;have HD:=zH Ul;clear Ul;have sj:(p:Int)<=(p:Int)+1:=by omega
  have H_:Hid (fp [((some ⟨b,o,none⟩:Option Addr),p+1,l.take p),(some ⟨w1.heap.size,0,none⟩,1,[(nm,no)]),(some ⟨b,o,none⟩,0,[])]=l.take p++(nm,no)::l.drop (p+1)):=by show _=_;rw[HD.out];unfold fp;simp
  have qd:Hid ((fp [((some ⟨b,o,none⟩:Option Addr),p+1,l.take p),(some ⟨w1.heap.size,0,none⟩,1,[(nm,no)]),(some ⟨b,o,none⟩,0,[])]).length<=1000000):=by show _<=_;rw[H_.out,List.length_append,LT.out,List.length_cons,List.length_drop];have:=HN.out;omega
  obtain⟨W1,bV⟩:=aq (w1.alloc (.cells #[bs nm,.int .i64 no] 106));have zi:Has W1 w1.heap.size (.cells #[bs nm,.int .i64 no] 106):=by rw[bV];exact Has.new _ _
  have X1:Ext w W1:=by rw[bV];exact b1.alloc _
  have z1:W1.heap.size=w1.heap.size+1:=by rw[bV];simp
  have HW:=zH bV;have HZ:=zH z1;clear bV z1;go_region_held3 (fun w'=>Ext w w') ((first|exact b1.drew|exact (b1.alloc _).drew|exact ((b1.alloc _).alloc _).drew|exact PD))
   ((go_at_call 152;rw[<-HW.out,<-HZ.out];refine (sH _ _ [((some ⟨b,o,none⟩:Option Addr),p+1,l.take p),(some ⟨w1.heap.size,0,none⟩,1,[(nm,no)]),(some ⟨b,o,none⟩,0,[])] _ (H2 (by rw[LT.out];exact (Has.new W1 _).cell 0) ((Has.new W1 _).cell 1) (by exact (Has.new W1 _).cell 2) ((h.ext (X1.alloc _).drew).take p) (ln (zi.ext ((Ext.refl _).alloc _).drew)) (.inl rfl) (Has.new W1 _).lt (by intro h;cases h) (by intro h;cases h) (by intro h;cases h)) qd.out (by show 3<=1000000;omega)).mono ?_;rintro e w2 ⟨v,rfl,ho,b2⟩;have PD:=(X1.alloc _).drew.trans b2))
  go_wp2_with fail;go_ret;exact ⟨v,rfl,by rw[hcut.out,<-H_.out];exact ho.base (by have:=X1.size;simp;omega),PD⟩
 ·have DU:decide (cap=p+1)=false:=decide_eq_false hc1
  have ld:(l.drop (p+1)).length=n-(p+1):=by rw[List.length_drop,<-HN.out]
  have LD:=zH ld;clear ld;have H_:Hid (fp [((some ⟨b,o,none⟩:Option Addr),cap,l.take p),(some ⟨w1.heap.size,0,none⟩,1,[(nm,no)]),(some ⟨b,o+(p+1)*2,none⟩,cap-(p+1),l.drop (p+1))]=l.take p++(nm,no)::l.drop (p+1)):=by show _=_;unfold fp;simp
  have qd:Hid ((fp [((some ⟨b,o,none⟩:Option Addr),cap,l.take p),(some ⟨w1.heap.size,0,none⟩,1,[(nm,no)]),(some ⟨b,o+(p+1)*2,none⟩,cap-(p+1),l.drop (p+1))]).length<=1000000):=by show _<=_;rw[H_.out,List.length_append,LT.out,List.length_cons,List.length_drop];have:=HN.out;omega
  obtain⟨W1,bV⟩:=aq (w1.alloc (.cells #[bs nm,.int .i64 no] 106));have zi:Has W1 w1.heap.size (.cells #[bs nm,.int .i64 no] 106):=by rw[bV];exact Has.new _ _
  have X1:Ext w W1:=by rw[bV];exact b1.alloc _
  have z1:W1.heap.size=w1.heap.size+1:=by rw[bV];simp
  have HW:=zH bV;have HZ:=zH z1;clear bV z1;go_region_held3 (fun w'=>Ext w w') ((first|exact b1.drew|exact (b1.alloc _).drew|exact ((b1.alloc _).alloc _).drew|exact PD))
   ((go_at_call 152;rw[<-HW.out,<-HZ.out];refine (sH _ _ [((some ⟨b,o,none⟩:Option Addr),cap,l.take p),(some ⟨w1.heap.size,0,none⟩,1,[(nm,no)]),(some ⟨b,o+(p+1)*2,none⟩,cap-(p+1),l.drop (p+1))] _ (H2 (by rw[LT.out];exact (Has.new W1 _).cell 0) ((Has.new W1 _).cell 1) (by rw[LD.out];exact (Has.new W1 _).cell 2) ((h.ext (X1.alloc _).drew).take p) (ln (zi.ext ((Ext.refl _).alloc _).drew)) ((h.ext (X1.alloc _).drew).drop (p+1)) (Has.new W1 _).lt (by intro h;cases h) (by intro h;cases h) (by intro h;cases h)) qd.out (by show 3<=1000000;omega)).mono ?_;rintro e w2 ⟨v,rfl,ho,b2⟩;have PD:=(X1.alloc _).drew.trans b2))
  go_wp2_with fail;go_ret;exact ⟨v,rfl,by rw[hcut.out,<-H_.out];exact ho.base (by have:=X1.size;simp;omega),PD⟩
theorem Fb (A:Option Addr) (l:List aw) (cap:Nat) (w:World) (h:bP w A l) (hnone:A=none->cap=0) (hlen:l.length<=1000000):Calls Tryz.prog 154 #[.slice A l.length cap] w (H7 w l):=by
 obtain⟨n,hn⟩:=aq l.length;have HN:=zH hn
 cases A with
 | none =>
  have jF:l=[]:=by
   rcases h with h|⟨b',o',h,_⟩
   ·exact h
   ·cases h
  subst jF;obtain rfl:cap=0:=hnone rfl;clear hnone hn HN;have e0:∀w,(binOp .eql 56 (.slice none 0 0) (.slice none 0 0)).run Tryz.prog w=.ok (.bool true) w:=fun w=>Lib.run_eql_slice_nil w _ _ none 0 0 0 0 Tryz.underlying56
  show Calls _ _ #[.slice none 0 0] _ _;go_enter Tryz.func154,Tryz.ntmps154;go_wp2_with fail;go_ret;exact ⟨_,rfl,⟨rfl,.inl ⟨rfl,rfl⟩⟩,Ext.refl _⟩
 | some ad =>
  rw [<-hn]at hlen|-;clear hnone hn;obtain ⟨i0,hi,hz0,hz1,hz2⟩:=info_parts jX;have e0:∀w,(binOp .eql 56 (.slice (some ad) n cap) (.slice none 0 0)).run Tryz.prog w=.ok (.bool false) w:=fun w=>Lib.run_eql_slice_nil w _ _ (some ad) n cap 0 0 Tryz.underlying56
  go_enter Tryz.func154,Tryz.ntmps154;have hown:(w.alloc (.cells #[] 106)).ownsRow w.heap.size 106 2 (.slice (some ⟨w.heap.size,0,none⟩) 0 0) 0 []:=⟨rfl,.inr ⟨w.heap.size,0,#[],rfl,Nat.le_refl _,Has.new w _,Nat.le_refl _,by decide,rfl,rfl⟩⟩;have oG:∀j u,(ap l)[j]?=some u->(w.alloc (.cells #[] 106)).cell? (ad.add j)=some u:=by
   intro j u hu;rcases h.ext ((Ext.refl w).alloc (.cells #[] 106)) with h|⟨b',o',h,hb,h2⟩
   ·subst h;simp[ap]at hu
   ·injection h with h
    subst h;rw [Addr.add_lit];exact bP.cells (.inr ⟨b',o',rfl,hb,h2⟩) j u hu
  have HO:=zH hown;have HE:=zH oG;clear hown oG;go_wp2_with (at_builtin;refine wpList_append_own _ rfl _ _ 56 rfl w.heap.size 106 i0 (.agg #[.string ⟨#[]⟩,.int .i64 0]) 2 24 Tryz.underlying56 hi hz0 hz1 hz2 rfl (by decide) _ _ _ rfl HO.out ad n cap (ap l) rfl (by rw[cv,HN.out]) HE.out (dk l) (by unfold maxLen;omega) (by omega) (by simp) ?_);intro v' w2 gG hgrow _;have mA:Hid (dL w2 w.heap.size v' l):=by
   show dL _ _ _ _;unfold dL;have h3:w2.ownsRow w.heap.size 106 2 v' n (ap l):=gG;rw [HN.out]at h3;exact h3
  have kZ:Ext w w2:=((Ext.refl w).alloc _).grown hgrow (fun g hg=>(HO.out.lt g hg).1);clear gG hgrow;go_wp2_with fail;go_ret;exact ⟨_,rfl,mA.out,kZ⟩
theorem jY {P:Program} (w:World) (dT sT ty elem:TypeId) (g o Um Zc:Nat) (a:Addr) (sLen sCap n:Nat) (cur:Array Value) (t:TypeId) (cs:List Value)
  (hu:P.underlying dT=some (.slice elem)) (hs:(P.info? elem).map (·.size)=some 2)
  (hg:w.heap[g]?=some (.cells cur t (0,0))) (hn:n=Nat.min sLen Um) (hl:cs.length=n*2)
  (Zd:∀j v,cs[j]?=some v->w.cell? (a.add j)=some v) (hfit:o+cs.length<=cur.size) (h1:∀v∈cs,v.oneCell'=true) :
  (Builtin.copy_ #[dT,sT] ty #[.slice (some ⟨g,o,none⟩) Um Zc,.slice (some a) sLen sCap]).run P w =
   .ok (goInt n) (w.setRow g (cur.toList.take o++cs++cur.toList.drop (o+cs.length)).toArray):=by
 have qd:=run_loadCells_list (P:=P) w a cs Zd;have hst:=run_storeCells_at P g o t cs 0 cur w hg (by simpa using hfit) h1;rw [hl]at qd
 cases hq:P.info? elem with
 | none=>simp[hq]at hs
 | some i =>
  have hi:i.size=2:=by simpa [hq]using hs
  simp [Builtin.copy_,run_underlying hu,Builtin.lenOf,Builtin.firstCells,sizeOf,typeInfo,hq,hi,<-hn,qd,hst]
theorem rl {P:Program} (w:World) {o:Oper} {a:Act} {K:Act->World->Prop} {Q:Exit->Act->World->Prop} (d s:Operand) (t t':TypeId)
  (ho:o.op=.call {callee:=.builtin .copy,args:=#[d,s],argTypes:=#[t,t']}) (v u:Value) (hd:a.eval d=v) (hs:a.eval s=u) {v':Value} {w':World}
  (hr:(Builtin.copy_ #[t,t'] o.type #[v,u]).run P w=.ok v' w') (h:K (a.put o.dst v') w'):o.wp P a w K Q:=by
 unfold Oper.wp execOp;simp only[ho,resolve,invoke,builtin,Sem.run_bind,Sem.run_pure,Result.andThen_ok,List.map_toArray,List.map_cons,List.map_nil,hd,hs,hr];exact h
theorem lq {P:Program} (w:World) {ops:Array Oper} {rest:List Oper} {o:Oper} {a:Act} {Q:Exit->Act->World->Prop} (hgd:o.guard=none) (d s:Operand) (t t':TypeId)
  (ho:o.op=.call {callee:=.builtin .copy,args:=#[d,s],argTypes:=#[t,t']}) (v u:Value) (hd:a.eval d=v) (hs:a.eval s=u) {v':Value} {w':World}
  (hr:(Builtin.copy_ #[t,t'] o.type #[v,u]).run P w=.ok v' w') (h:wpList P ops Q rest (a.put o.dst v') w'):wpList P ops Q (o::rest) a w:=
 wpList_plain hgd fun _ hK=>rl w d s t t' ho v u hd hs hr (hK _ _ h)
theorem mG {P:Program} {ops:Array Oper} {o:Oper} {a:Act} {w:World} {K:Act->World->Prop} {Q:Exit->Act->World->Prop} {E:Prop}
  (hg:o.guard=none) (d x:Operand) (dT sT:TypeId) (hop:o.op=Op.call {callee:=Callee.builtin Builtin.copy,args:=#[d,x],argTypes:=#[dT,sT]})
  (v u:Value) (hd:a.eval d=v) (hx:a.eval x=u) {v':Value} {w':World} (hr:(Builtin.copy_ #[dT,sT] o.type #[v,u]).run P w=.ok v' w') (hK:K (a.put o.dst v') w') :
  if Region.wanted o (yielded ops a.tmps)=true then Oper.wp P o a w K Q else E:=by
 have hw:Region.wanted o (yielded ops a.tmps)=true:=by simp[Region.wanted,hg]
 rw [if_pos hw];exact rl w d x dT sT hop v u hd hx hr hK
def qh (l:List aw) (p:Nat) (x:aw):List aw:=l.take p++x::l.drop p
def Nc (B:Nat) (w:World) (l:List aw) (e:Ending) (w':World):Prop:=∃v,e=.returned v/\dL w' B v l/\Below B w w'
theorem BX (B vb:Nat) (v:Value) (l:List aw) (x:aw) (w:World) (ho:dL w B v l) (hB:B<=w.heap.size) (hx:Has w vb (.cells #[bs x.1,.int .i64 x.2] 106)) (hlen:l.length<=999999):Calls Tryz.prog 153 #[v,.int .i64 l.length,.slice (some ⟨vb,0,none⟩) 1 1] w (Nc B w (l++[x])):=by
 obtain ⟨A,c,rfl,hc,hcm,he⟩:=ho.at_;obtain⟨n,hn⟩:=aq l.length;have HO:Hid (w.ownsRow B 106 2 (.slice A n c) n (ap l)):=by rw[hn];exact ho
 rw [<-hn]at hc hlen|-;have HN:=zH hn;have hcm2:c<=9223372036854775807:=by unfold maxLen at hcm;omega
 obtain ⟨i0,hi,hz0,hz1,hz2⟩:=info_parts jX;have hnews:∀j u,(ap [x])[j]?=some u->w.cell? ((⟨vb,0,none⟩:Addr).add j)=some u:=by
  intro j u hu;rw [Addr.add_lit];exact bP.cells (ln hx) j u hu
 have HJ:=zH hnews;clear hn hcm ho he hnews;go_enter Tryz.func153,Tryz.ntmps153;go_wp2_with (at_builtin;refine wpList_append_own _ rfl _ _ 56 rfl B 106 i0 (.agg #[.string ⟨#[]⟩,.int .i64 0]) 2 24 Tryz.underlying56 hi hz0 hz1 hz2 rfl (by decide) _ _ _ rfl HO.out ⟨vb,0,none⟩ 1 1 (ap [x]) rfl rfl HJ.out (dk [x]) (by unfold maxLen;omega) (by omega) hB ?_)
 all_goals
  intro v' w2 gG hgrow _;have mA:Hid (dL w2 B v' (l++[x])):=by
   show w2.ownsRow B 106 2 v' (l++[x]).length (ap (l++[x]));rw [dO,List.length_append,<-HN.out];exact gG
  have kZ:Below B w w2:=(Below.refl B w).grown hgrow hB (fun g hg=>(HO.out.lt g (by first|exact hg|(rw[‹c=n›];exact hg))).1);clear gG hgrow;go_wp2_with fail;go_ret;exact ⟨_,rfl,mA.out,kZ⟩
theorem Fc {R C1 X C2:List Value} {p n:Nat} (h1:C1.length=p*2) (hx:X.length=2) (h2:C2.length=(n-p)*2) (hp:p<=n) (hR:R.take (p*2)=C1) (hl:(n+1)*2<=R.length) :
  ∀ R2 R3,R2=R.take (p*2)++X++R.drop (p*2+X.length)->R3=R2.take ((p+1)*2)++C2++R2.drop ((p+1)*2+C2.length)->R2.length=R.length/\R3.length=R.length/\R3.take ((n+1)*2)=C1++X++C2:=by
 rintro R2 R3 e2 e3;have l2:R2.length=R.length:=by rw[e2];simp;omega
 have t2:R2.take ((p+1)*2)=C1++X:=by
  rw [e2,hR,List.take_append_of_le_length (by simp;omega),List.take_of_length_le (by simp;omega)]
 refine ⟨l2,by rw[e3];simp;omega,?_⟩;rw [e3,t2,List.take_append_of_le_length (by simp;omega),List.take_of_length_le (by simp;omega)]
theorem Fe {R C1 X C2:List Value} {p n:Nat} (h1:C1.length=p*2) (hx:X.length=2) (h2:C2.length=(n-p)*2) (hp:p<=n) (hR:R.take (p*2)=C1) (hl:(n+1)*2<=R.length) :
  ∀ R2 R3,R2=R.take ((p+1)*2)++C2++R.drop ((p+1)*2+C2.length)->R3=R2.take (p*2)++X++R2.drop (p*2+X.length)->R2.length=R.length/\R3.length=R.length/\R3.take ((n+1)*2)=C1++X++C2:=by
 rintro R2 R3 e2 e3;have l2:R2.length=R.length:=by rw[e2];simp;omega
 have lt:(R.take ((p+1)*2)).length=(p+1)*2:=by rw[List.length_take];omega
 have t2:R2.take (p*2)=C1:=by
  rw [e2,List.append_assoc,List.take_append_of_le_length (by omega),List.take_take,Nat.min_eq_left (by omega),hR]
 have d2:R2.drop (p*2+X.length)=C2++R.drop ((p+1)*2+C2.length):=by
  rw [e2,List.append_assoc,hx,List.drop_append_of_le_length (by omega),List.drop_of_length_le (by omega),List.nil_append]
 refine ⟨l2,by rw[e3];simp;omega,?_⟩;rw [e3,t2,d2,<-List.append_assoc,List.take_append_of_le_length (by simp;omega),List.take_of_length_le (by simp;omega)]
theorem pn (l:List aw) (p:Nat) (x:aw):ap (qh l p x)=ap (l.take p)++ap [x]++ap (l.drop p):=by
 unfold qh;rw [show x::l.drop p=[x]++l.drop p from rfl,dO,dO,List.append_assoc]
theorem po (l:List aw) (p:Nat) (x:aw) (h:p<=l.length):(qh l p x).length=l.length+1:=by
 unfold qh;simp;omega
theorem nV (l:List aw) (p:Nat):(ap l).take (p*2)=ap (l.take p):=by
 conv=>lhs;rw[<-List.take_append_drop p l,dO]
 have:(ap (l.take p)).length<=p*2:=by rw[cv,List.length_take];omega
 rcases Nat.lt_or_ge l.length p with h|h
 ·rw [List.drop_of_length_le (by omega)]
  show List.take (p*2) (_++[])=_;rw [List.append_nil,List.take_of_length_le this]
 ·rw[List.take_append_of_le_length (by rw[cv,List.length_take];omega),List.take_of_length_le this]
theorem jZ {B g:Nat} {w0 w:World} (hb:Below B w0 w) (Un:B<=g) (cs:Array Value):Below B w0 (w.setRow g cs):=
 hb.trans ⟨rfl,rfl,rfl,by simp[World.setRow],fun k hk=>setRow_other w g k cs (by omega)⟩
theorem sk:(Tryz.prog.info? 106).map (·.size)=some 2:=by kernel_rfl
theorem zj (B vb g c p:Nat) (l:List aw) (x:aw) (w:World) (ho:dL w B (.slice (some ⟨g,0,none⟩) l.length c) l) (hB:B<=w.heap.size) (hx:Has w vb (.cells #[bs x.1,.int .i64 x.2] 106)) (hp:p<l.length) (hlen:l.length<=999999) (hroom:c<l.length+1):Calls Tryz.prog 153 #[.slice (some ⟨g,0,none⟩) l.length c,.int .i64 p,.slice (some ⟨vb,0,none⟩) 1 1] w (Nc B w (qh l p x)):=by
 obtain ⟨A',c',hv,hc,hcm,he⟩:=ho.at_;injection hv with hA hn' Nd;subst hA Nd;obtain⟨n,hn⟩:=aq l.length;obtain ⟨i0,hi,hz0,hz1,hz2⟩:=info_parts jX;have hgw:g<w.heap.size:=by
  rcases he with h|⟨b',o',h,hb,_⟩
  ·rw[h]at hp;simp at hp
  ·injection h with h;injection h with h1 h2;omega
 have Un:B<=g:=(ho.lt g rfl).1;have hcl:=he.cells;have pp:=he.drop p;rw [<-hn]at hc hlen hroom hp|-;obtain rfl:c=n:=by omega
 have HN:=zH hn;have hold:(Builtin.firstCells i0.size p (.slice (some ⟨g,0,none⟩) p c)).run Tryz.prog w.drew=.ok (ap (l.take p)).toArray w.drew:=by
  rw [hz1];refine run_firstCells_some w.drew 2 p ⟨g,0,none⟩ p c (ap (l.take p)) (by rw[cv,List.length_take];omega) (fun j v hj=>?_);rw [Addr.add_lit];refine hcl j v ?_;rw [<-nV,List.getElem?_take]at hj;split at hj
  ·exact hj
  ·cases hj
 have TA:=fun ty=>Lib.run_append_grow_zeros w 56 3 ty 106 i0 _ .i64 .i64 Tryz.underlying56 Tryz.underlying3 hi hz0 (some ⟨g,0,none⟩) p c (ap (l.take p)) hold (c+1-p) (by omega) (by omega) (by omega) (by omega) (by rw[hz2];omega) (by rw[hz2,show p+(c+1-p)=c+1 by omega];exact growslice_fits (by omega) (by omega))
 have hik:p+(c+1-p)=c+1:=by omega
 rw [hik]at TA;have hge:=grownCap_ge w (c+1) c 106;have hle:=grownCap_le_maxLen w (c+1) c 106 (by unfold maxLen;omega)
 generalize grownCap w (c+1) c 106=G at TA hge hle
 have abS:G<=9223372036854775807:=by unfold maxLen at hle;omega
 obtain ⟨R,hR⟩:∃R:Array Value,R=(ap (l.take p)).toArray++Builtin.zeroCells (Value.agg #[.string ⟨#[]⟩,.int .i64 0]).cells (c+1-p)++Builtin.zeroCells (Value.agg #[.string ⟨#[]⟩,.int .i64 0]).cells (G-(c+1)):=⟨_,rfl⟩;obtain⟨W1,bV⟩:=aq (w.drew.alloc (.cells R 106));rw [<-hR,<-bV]at TA;have u_:(c:Int)+1-(p:Int)=((c+1-p:Nat):Int):=by omega
 have E1:Ext w W1:=by rw[bV];exact ((Ext.refl _).drew).alloc _
 have jO:Has W1 w.heap.size (.cells R 106):=by rw[bV];exact Has.new w.drew _
 have DV:R.size=G*2:=by
  rw [hR,Array.size_append,Array.size_append,iM,iM];simp only[List.size_toArray,cv,List.length_take];show _+(c+1-p)*2+(G-(c+1))*2=_;omega
 have TB:R.toList.take (p*2)=ap (l.take p):=by
  rw [hR];have hl:(ap (l.take p)).length=p*2:=by rw[cv,List.length_take];omega
  rw [Array.toList_append,Array.toList_append,List.append_assoc,List.take_append_of_le_length (by simp;omega),List.take_of_length_le (by simp;omega)]
 have TC:=hx.ext E1;have BZ:=fun ty dc=>jY (P:=Tryz.prog) W1 56 56 ty 106 w.heap.size (p*2) (c+1-p) dc ⟨vb,0,none⟩ 1 1 1 R 106 (ap [x]) Tryz.underlying56 sk jO (by simp only[Nat.min_def];split<;>omega) rfl
  (fun j u hu=>by rw[Addr.add_lit];exact bP.cells (ln TC) j u hu) (by show p*2+2<=R.size;rw[DV];omega) (dk [x])
 obtain ⟨R2,Nf⟩:∃R2:List Value,R2=R.toList.take (p*2)++ap [x]++R.toList.drop (p*2+(ap [x]).length):=⟨_,rfl⟩;obtain⟨W2,du⟩:=aq (W1.setRow w.heap.size R2.toArray);simp only[<-Nf,<-du]at BZ;have hb2:Has W2 w.heap.size (.cells R2.toArray 106):=by rw[du];exact setRow_heap W1 w.heap.size R R2.toArray 106 (0,0) jO
 have E2:Below B w W2:=by rw[du];exact jZ (Below.mono E1 hB) hB _
 have Uo:bP W2.drew (some ⟨g,0+p*2,none⟩) (l.drop p):=by
  rw [du];rcases pp.ext E1 with h|⟨b',o',h,hb,h2⟩
  ·exact .inl h
  ·injection h with h;injection h with q1 q2
   subst q1 q2;refine .inr ⟨_,_,rfl,by simpa using hb,fun k hk=>?_⟩;have:=h2 k hk;rw [<-cell_setRow_other W1 w.heap.size R2.toArray ⟨g,0+p*2+k*2,none⟩ (by show g≠_;omega),<-cell_setRow_other W1 w.heap.size R2.toArray ⟨g,0+p*2+k*2+1,none⟩ (by show g≠_;omega)]at this;exact this
 have kM:(ap (l.drop p)).length=(c-p)*2:=by rw[cv,List.length_drop,<-hn]
 have i_:(ap (l.take p)).length=p*2:=by rw[cv,List.length_take];omega
 have B_:=fun ty dc sc=>jY (P:=Tryz.prog) W2.drew 56 56 ty 106 w.heap.size ((p+1)*2) (c+1-(p+1)) dc ⟨g,p*2,none⟩ (c-p) sc (c-p) R2.toArray 106 (ap (l.drop p)) Tryz.underlying56 sk hb2 (by simp only[Nat.min_def];split<;>omega) kM
  (fun j u hu=>by rw[Addr.add_lit];have:=bP.cells Uo j u hu;rwa [Nat.zero_add]at this) (by
   rw [kM];have:R2.length=R.toList.length:=by rw[Nf];simp;rw[DV];show _+(2+(_-(_+2)))=_;omega
   simp only[List.size_toArray,this,Array.length_toList,DV];omega) (dk _)
 obtain ⟨R3,QK⟩:∃R3:List Value,R3=R2.take ((p+1)*2)++ap (l.drop p)++R2.drop ((p+1)*2+(ap (l.drop p)).length):=⟨_,rfl⟩;obtain⟨W3,dg⟩:=aq (W2.drew.setRow w.heap.size R3.toArray);simp only[<-QK,<-dg]at B_;have nK:Has W3 w.heap.size (.cells R3.toArray 106):=by rw[dg];exact setRow_heap W2.drew w.heap.size R2.toArray R3.toArray 106 (0,0) hb2
 have E3:Below B w W3:=by rw[dg];exact jZ (Below.drew E2) hB _
 obtain ⟨k1,k2,k3⟩:=Fc i_ (show (ap [x]).length=2 from rfl) kM (by omega) TB (by rw[Array.length_toList,DV];omega) R2 R3 Nf QK;have oH:Hid (dL W3 B (.slice (some ⟨w.heap.size,0,none⟩) (c+1) G) (qh l p x)):=by
  show dL _ _ _ _;unfold dL;rw [po l p x (by omega),<-hn];refine ⟨by rw[cv,po l p x (by omega),<-hn],.inr ⟨w.heap.size,G,R3.toArray,rfl,hB,nK,hge,hle,?_,?_⟩⟩
  ·simp only[List.size_toArray,k2,Array.length_toList,DV]
  ·rw[pn];exact k3
 have Ia:=zH E3;simp only[<-u_]at TA;have HRZ:=zH TA;have Ze:=zH BZ;have Zf:=zH B_;have g1:IntKind.i64.wrap ((p:Int)+1)=(p:Int)+1:=bQ (by omega) (by omega);have g2:(0:Int)<=(p:Int)+1:=by omega
 have g3:((p:Int)+1).toNat=p+1:=by omega
 have hGi:¬(G=p):=by omega
 have abT:¬(G=p+1):=by omega
 have Zg:¬(c=p):=by omega
 have Zb:(p:Int)<=(c:Int):=by omega
 have hne:¬((p:Int)=(c:Int)):=by omega
 clear ho hn hR DV TB bV jO TC BZ Nf du hb2 E2 Uo kM i_ B_ QK dg nK E3 k1 k2 k3 TA hold hik pp hcl he E1 hx hn' u_ hle;go_enter Tryz.func153,Tryz.ntmps153;go_wp2_with (first
  | (at_builtin;refine Lib.wpList_append_run _ rfl _ _ 56 3 rfl _ _ rfl rfl _ _ (HRZ.out _) ?_)
  | (with_reducible refine lq _ rfl (.tmp 43) (.tmp 44) 56 56 rfl _ _ rfl rfl (Ze.out _ _) ?_))
 go_region_law (refine mG rfl _ _ 56 56 rfl (.slice (some ⟨w.heap.size,(p+1)*2,none⟩) (c+1-(p+1)) (G-(p+1))) (.slice (some ⟨g,p*2,none⟩) (c-p) (c-p)) (by simp[Act.eval,Act.put]) (by simp[Act.eval,Act.put]) (Zf.out _ _ _) ?_);go_wp2_with fail;go_ret;exact ⟨_,rfl,oH.out,Ia.out⟩
theorem vU {w:World} {b:Nat} {C:Array Value} {t:TypeId} {fr:Nat×Nat} (h:Has w b (.cells C t fr)):w.shape? b=some (t,C.size):=by
 unfold Has at h;simp [World.shape?,h]
theorem zk (B vb g c p:Nat) (l:List aw) (x:aw) (w:World) (ho:dL w B (.slice (some ⟨g,0,none⟩) l.length c) l) (hB:B<=w.heap.size) (hx:Has w vb (.cells #[bs x.1,.int .i64 x.2] 106)) (X_:vb≠g) (hp:p<l.length) (hlen:l.length<=999999) (hroom:l.length+1<=c):Calls Tryz.prog 153 #[.slice (some ⟨g,0,none⟩) l.length c,.int .i64 p,.slice (some ⟨vb,0,none⟩) 1 1] w (Nc B w (qh l p x)):=by
 obtain ⟨A',c',hv,hc,hcm,he⟩:=ho.at_;injection hv with hA hn' Nd;subst hA Nd;obtain⟨n,hn⟩:=aq l.length;have Un:B<=g:=(ho.lt g rfl).1;obtain ⟨R,Uq,DV,TB⟩:∃R:Array Value,Has w g (.cells R 106)/\R.size=c*2/\R.toList.take (l.length*2)=ap l:=by
  rcases ho.2 with⟨h,_⟩|⟨g',cap,cur,h,_,hg,_,_,hs,ht⟩
  ·cases h
  ·injection h with h1 h2 h3
   injection h1 with h1;injection h1 with h1;subst h1 h3;exact ⟨cur,hg,hs,ht⟩
 have pp:=he.drop p;rw [<-hn]at hc hlen hroom hp TB|-;have HN:=zH hn;have hRp:R.toList.take (p*2)=ap (l.take p):=by
  rw [<-nV,<-TB,List.take_take,Nat.min_eq_left (by omega)]
 have kM:(ap (l.drop p)).length=(n-p)*2:=by rw[cv,List.length_drop,<-hn]
 have i_:(ap (l.take p)).length=p*2:=by rw[cv,List.length_take];omega
 have hgw:=Uq.lt;have Ib:∀W,W=w->∀lb cb,(callFunc 170 #[.slice (some ⟨vb,0,none⟩) 1 1,.slice (some ⟨g,(p+1)*2,none⟩) lb cb]).run Tryz.prog W=.ok (.value (.bool false)) W:=fun W hW lb cb=>by
  subst hW;rw [run_callFunc_extern Tryz.func170 (by kernel_rfl) (by kernel_rfl) (by kernel_rfl) (e:=Extern.SlicesOverlaps.overlaps #[56,56] #[4]) (by kernel_rfl),
   Lib.run_overlaps_apart _ 56 4 106 Tryz.underlying56 2 Tryz.sizeOf106 ⟨vb,0,none⟩ ⟨g,(p+1)*2,none⟩ 1 1 lb cb X_ _ _ _ _ (vU hx) (vU Uq) (by rw[DV];omega) (hx.free 0) (hx.free 2)]
  rfl
 have BZ:=fun ty dc sc=>jY (P:=Tryz.prog) w.drew 56 56 ty 106 g ((p+1)*2) (n-p) dc ⟨g,p*2,none⟩ (n+1-p) sc (n-p) R 106 (ap (l.drop p)) Tryz.underlying56 sk Uq (by simp only[Nat.min_def];split<;>omega) kM
  (fun j u hu=>by rw[Addr.add_lit];have:=bP.cells pp j u hu;rwa [Nat.zero_add]at this) (by rw[kM,DV];omega) (dk _)
 obtain ⟨R2,Nf⟩:∃R2:List Value,R2=R.toList.take ((p+1)*2)++ap (l.drop p)++R.toList.drop ((p+1)*2+(ap (l.drop p)).length):=⟨_,rfl⟩;obtain⟨W2,du⟩:=aq (w.drew.setRow g R2.toArray);simp only[<-Nf,<-du]at BZ;have hb2:Has W2 g (.cells R2.toArray 106):=by rw[du];exact setRow_heap w.drew g R R2.toArray 106 (0,0) Uq
 have E2:Below B w W2:=by rw[du];exact jZ (Below.drew (Below.refl B w)) Un _
 have hX2:Has W2 vb (.cells #[bs x.1,.int .i64 x.2] 106):=by
  rw [du];unfold Has;rw[setRow_other w.drew g vb R2.toArray X_];exact hx
 have Ur:R2.length=c*2:=by rw[Nf];simp only[List.length_append,List.length_take,List.length_drop,Array.length_toList,DV,kM];omega
 have B_:=fun ty dc=>jY (P:=Tryz.prog) W2 56 56 ty 106 g (p*2) (n+1-p) dc ⟨vb,0,none⟩ 1 1 1 R2.toArray 106 (ap [x]) Tryz.underlying56 sk hb2 (by simp only[Nat.min_def];split<;>omega) rfl
  (fun j u hu=>by rw[Addr.add_lit];exact bP.cells (ln hX2) j u hu) (by simp only[List.size_toArray,Ur];show p*2+2<=_;omega) (dk [x])
 obtain ⟨R3,QK⟩:∃R3:List Value,R3=R2.take (p*2)++ap [x]++R2.drop (p*2+(ap [x]).length):=⟨_,rfl⟩;obtain⟨W3,dg⟩:=aq (W2.setRow g R3.toArray);simp only[<-QK,<-dg]at B_;have nK:Has W3 g (.cells R3.toArray 106):=by rw[dg];exact setRow_heap W2 g R2.toArray R3.toArray 106 (0,0) hb2
 have E3:Below B w W3:=by rw[dg];exact jZ E2 Un _
 obtain ⟨k1,k2,k3⟩:=Fe i_ (show (ap [x]).length=2 from rfl) kM (by omega) hRp (by rw[Array.length_toList,DV];omega) R2 R3 Nf QK;have oH:Hid (dL W3 B (.slice (some ⟨g,0,none⟩) (n+1) c) (qh l p x)):=by
  show dL _ _ _ _;unfold dL;rw [po l p x (by omega),<-hn];refine ⟨by rw[cv,po l p x (by omega),<-hn],.inr ⟨g,c,R3.toArray,rfl,Un,nK,hroom,hcm,?_,?_⟩⟩
  ·simp only[List.size_toArray,k2,Array.length_toList,DV]
  ·rw[pn];exact k3
 have Ia:=zH E3;have Ze:=zH BZ;have Zf:=zH B_;have Zh:=fun lb cb=>Ib w rfl lb cb
 have g1:IntKind.i64.wrap ((p:Int)+1)=(p:Int)+1:=bQ (by omega) (by omega);have g2:(0:Int)<=(p:Int)+1:=by omega
 have g3:((p:Int)+1).toNat=p+1:=by omega
 have QL:¬(c=p):=by omega
 have abU:¬(c=p+1):=by omega
 have Ty:(p:Int)<=(n:Int)+1:=by omega
 have abV:p<=n:=by omega
 have abW:p<=n+1:=by omega
 have hne:¬((p:Int)=(n:Int)):=by omega
 have Nd:c<=9223372036854775807:=by unfold maxLen at hcm;omega
 clear ho hn Uq DV TB hx Ib BZ Nf du hb2 E2 hX2 Ur B_ QK dg nK E3 k1 k2 k3 pp kM i_ hRp he hn' hcm;go_enter Tryz.func153,Tryz.ntmps153;go_wp2_with (simp only[Zh]);go_region_law (refine mG rfl _ _ 56 56 rfl (.slice (some ⟨g,(p+1)*2,none⟩) (n-p) (c-(p+1))) (.slice (some ⟨g,p*2,none⟩) (n+1-p) (c-p)) (by simp[Act.eval,Act.put]) (by simp[Act.eval,Act.put]) (Ze.out _ _ _) ?_);go_wp2_with (with_reducible refine lq _ rfl (.tmp 80) (.tmp 81) 56 56 rfl _ _ rfl rfl (Zf.out _ _) ?_);go_ret;exact ⟨_,rfl,oH.out,Ia.out⟩
theorem Ext.trans' {a b c:World} (h:Ext a b) (k:Below a.heap.size b c):Ext a c:=Below.trans h k
theorem dL.keep {w w':World} {B:Nat} {v:Value} {l:List aw} (h:dL w B v l) (k:Ext w w'):dL w' B v l:=
 World.ownsRow.kept (row:=none) h ⟨k.os,k.tape,k.output,k.size,fun j hj _=>Below.block k j hj⟩ (by cases v.ownBlock<;>simp)
theorem Ca (B vb p:Nat) (v:Value) (l:List aw) (x:aw) (w:World) (ho:dL w B v l) (hB:B<=w.heap.size) (hx:Has w vb (.cells #[bs x.1,.int .i64 x.2] 106)) (hvb:v.ownBlock≠some vb) (hp:p<=l.length) (hlen:l.length<=999999):Calls Tryz.prog 153 #[v,.int .i64 p,.slice (some ⟨vb,0,none⟩) 1 1] w (Nc B w (qh l p x)):=by
 by_cases he:p=l.length
 ·subst he
  have:qh l l.length x=l++[x]:=by unfold qh;rw[List.take_length,List.drop_length]
  rw [this];exact BX B vb v l x w ho hB hx hlen
 ·obtain ⟨g,c,rfl⟩:∃g c,v=.slice (some ⟨g,0,none⟩) l.length c:=by
   rcases ho.2 with⟨_,h0⟩|⟨g,cap,_,h,_⟩
   ·omega
   ·exact⟨g,cap,h⟩
  have X_:vb≠g:=fun e=>hvb (by rw[e];rfl)
  by_cases hr:c<l.length+1
  ·exact zj B vb g c p l x w ho hB hx (by omega) hlen hr
  ·exact zk B vb g c p l x w ho hB hx X_ (by omega) hlen (by omega)
theorem QM (A:Option Addr) (l:List aw) (cap:Nat) (nm:List UInt8) (no:Int) (w:World) (h:bP w A l) (hnone:A=none->cap=0) (hr:iH l) (hlen:l.length<=999999) (hh:has l nm=false):Calls Tryz.prog 127 #[.slice A l.length cap,bs nm,.int .i64 no] w (H7 w (nJ l nm no)):=by
 have hcut:Hid (nJ l nm no=qh l (pos l nm) (nm,no)):=by show _=_;unfold nJ qh;rw[hh];rfl
 have hpl:=Hw l nm;have HH:=zH hh;clear hh;go_enter Tryz.func127,Tryz.ntmps127;go_wp2_with fail;refine (lL _ l cap nm _ h hr (by omega)).mono ?_;rintro e w1 ⟨rfl,b1⟩;rw [HH.out];go_wp2_with fail;refine (Fb A l cap _ (h.ext b1) hnone (by omega)).mono ?_;rintro e w2 ⟨v,rfl,ho,b2⟩;have Zi:v.ownBlock≠some w2.heap.size:=by
  intro hv;have:=(ho.lt _ hv).2;omega
 have hB:w.heap.size<=w2.heap.size:=by have:=b1.size;have:=b2.size;omega
 have mA:dL (w2.alloc (.cells #[bs nm,.int .i64 no] 106)) w.heap.size v l:=dL.base (dL.keep ho ((Ext.refl _).alloc _)) b1.size;go_wp2_with fail;refine (Ca w.heap.size w2.heap.size (pos l nm) v l (nm,no) _ mA (by simp;omega) (Has.new w2 _) Zi hpl hlen).mono ?_;rintro e w3 ⟨v',rfl,ho3,b3⟩;go_wp2_with fail;go_ret;exact ⟨v',rfl,by rw[hcut.out];exact ho3,(((b1.trans b2).alloc _).trans' b3)⟩
theorem DW (A:Option Addr) (l:List aw) (cap:Nat) (nm:List UInt8) (no:Int) (w:World) (h:bP w A l) (hnone:A=none->cap=0) (hr:iH l) (hcap:l.length<=cap) (sI:cap<=maxLen) (hlen:l.length<=999999):Calls Tryz.prog 127 #[.slice A l.length cap,bs nm,.int .i64 no] w (H7 w (nJ l nm no)):=by
 cases hh:has l nm
 ·exact QM A l cap nm no w h hnone hr hlen hh
 ·exact Nb A l cap nm no w h hr hcap sI hlen hh
theorem Ng {α:Type} (n:Nat) (P:Nat->α->Prop) (h:∀i,i<n->∃x,P i x):∃l:List α,l.length=n/\∀i,(hi:i<l.length)->P i l[i]:=by
 induction n with
 | zero=>exact⟨[],rfl,fun i hi=>by cases hi⟩
 | succ n ih =>
  obtain ⟨l,hl,hp⟩:=ih (fun i hi=>h i (by omega));obtain ⟨x,hx⟩:=h n (by omega);refine ⟨l++[x],by simp[hl],fun i hi=>?_⟩
  by_cases oF:i<l.length
  ·rw[List.getElem_append_left oF];exact hp i oF
  ·have:i=l.length:=by simp at hi;omega
   subst this;rw [List.getElem_append_right (Nat.le_refl _)];simpa [hl]using hx
section
variable {H:Type} {enc:TypeId×Value->H} {w:World} {base:Nat} {spare:Nat->Bool} {held:Bool}
end
end
section
open Go.ChangeShapes Go.WideShapes Go.ChangeAt Go.RowKit
def ij (l:List aw) (nm:List UInt8):List aw:=l.filter fun x=>!(x.1 == nm)
def iN (l:List aw) (nm:List UInt8):List aw:=l.filter fun x=>bl x.1 nm
def je (l:List aw) (nm:List UInt8):List aw:=l.filter fun x=>bl nm x.1
def dq (l:List aw) (x:aw):List aw:=iN l x.1++[x]++je l x.1
theorem rp {l:List aw} {k:Nat} (hk:k<l.length) (f:aw->Bool):(l.take (k+1)).filter f=(l.take k).filter f++(if f l[k]=true then [l[k]] else []):=by
 rw [List.take_succ_eq_append_getElem hk,List.filter_append]
 congr 1
 by_cases h:f l[k]=true<;>simp[h]
theorem oI (l:List aw) (k:Nat) (f:aw->Bool):((l.take k).filter f).length<=k:=by
 have h1:=List.length_filter_le f (l.take k);have h2:(l.take k).length<=k:=List.length_take_le _ _;omega
theorem pq (wr:World) (x:aw):∀j u,(ap [x])[j]?=some u->(wr.alloc (.cells #[bs x.1,.int .i64 x.2] 106)).cell? ((⟨wr.heap.size,0,none⟩:Addr).add j)=some u:=by
 intro j u hu;rw [Addr.add_lit];exact bP.cells (ln (Has.new wr _)) j u hu
theorem xA {w wr w2:World} {v v':Value} {P:List aw} {x:aw} {o:Obj} (h:wr.ownsRow w.heap.size 106 2 v P.length (ap P)) (hE:Ext w wr) (h2:w2.ownsRow w.heap.size 106 2 v' (P.length+1) (ap P++ap [x])) (hg:(wr.alloc o).grownBy w2 v.ownBlock):dL w2 w.heap.size v' (P++[x])/\Ext w w2:=by
 refine ⟨?_,(hE.alloc o).grown hg (fun g hv=>(h.lt g hv).1)⟩;unfold dL;rw [dO,List.length_append];exact h2
open Go.ChangeShapes Go.WideShapes Go.ChangeAt Go.RowKit Go.Shelf
attribute [local go_sem] Oper.semAt_some
def nY (n₀:Nat) (w:World) (A:Option Addr) (l:List aw):Prop:=
 l = []\/∃b o,A=some ⟨b,o,none⟩/\b<n₀/\∀k,(h:k<l.length)->w.cell? ⟨b,o+k*2,none⟩=some (.string (bs l[k].1))/\w.cell? ⟨b,o+k*2+1,none⟩=some (.int .i64 l[k].2)
theorem nY.below {n₀:Nat} {w w':World} {A:Option Addr} {l:List aw} (h:nY n₀ w A l) (k:Below n₀ w w'):nY n₀ w' A l:=by
 rcases h with h|⟨b,o,hA,hb,hc⟩
 ·exact .inl h
 ·exact .inr ⟨b,o,hA,hb,fun i hi=>⟨(k.cell (p:=⟨b,o+i*2,none⟩) hb).trans (hc i hi).1,(k.cell (p:=⟨b,o+i*2+1,none⟩) hb).trans (hc i hi).2⟩⟩
abbrev Ic (x:aw):Array Value:=#[bs x.1,.int .i64 x.2]
theorem Nh (F:Fence) (n:Nat) (hf:F.fn 75) (hro:F.round=none) (hn:1<=n) (lb Bs n₀ cap:Nat) (A:Option Addr) (es:List aw) (hlen:es.length<=1000000) (J Jx:List aw->World->Prop)
  (W:World) (sJ:n₀<=W.heap.size) (Zj:AbidesFrom W.heap.size J)
  (hY : ∀pre x W,J pre W->pre.length<es.length->YieldAt F (n-1) Tryz.prog lb (Ic x) W fun e W' =>
   (e=.returned (.bool true)/\J (pre++[x]) W'/\Below n₀ W W')\/(e=.returned (.bool false)/\Jx (pre++[x]) W'))
  (yS:W.cell? ⟨Bs,0,none⟩=some (.slice A es.length cap)) (hc:nY n₀ W A es) (h0:J [] W) :
  CallsIn F n Tryz.prog 75 #[.func (.yield lb) #[] #[],.pointer (some ⟨Bs,0,none⟩)] W fun e W'=>(∃v,e=.returned v) /\
   ((∃ys,ys=es/\J ys W')\/(∃pre,pre <+: es/\Jx pre W')):=by
 obtain⟨m,hm⟩:=aq es.length;rw [<-hm]at yS hlen;have HM:=zH hm;clear hm;refine callsIn_of_wp Tryz.func75 rfl hf ?_ hro;simp only[Tryz.ntmps75,List.size_toArray,List.length_cons,List.length_nil,Nat.reduceAdd,Nat.reduceSub,Array.replicate_succ,Array.replicate_zero,List.push_toArray,List.append_toArray,List.nil_append,List.cons_append];gi_wp2;gi_loopw [7] (fun i wr=>∃k:Nat,k<=m/\i=.int .i64 k/\J (es.take k) wr/\Below n₀ W wr/\W.heap.size<=wr.heap.size) (fun i _=>m-(intOf i).toNat)
 case atStart=>exact⟨0,Nat.zero_le _,rfl,h0,Below.refl _ _,Nat.le_refl _⟩
 case round =>
  obtain ⟨k,hk,rfl,Us,Mo,hsz⟩:=hrel
  by_cases hlt:k<m
  ·have dh:k<es.length:=by have:=HM.out;omega
   obtain ⟨b,o,rfl,hb,hcs⟩:∃b o,A=some ⟨b,o,none⟩/\b<n₀/\∀k,(h:k<es.length)->wr.cell? ⟨b,o+k*2,none⟩=some (.string (bs es[k].1))/\wr.cell? ⟨b,o+k*2+1,none⟩=some (.int .i64 es[k].2):=by
    rcases hc.below Mo with h|h
    ·rw[h]at dh;simp at dh
    ·exact h
   obtain ⟨ca,cb⟩:=hcs k dh;have lM:Hid (es.take (k+1)=es.take k++[es[k]]):=List.take_succ_eq_append_getElem dh;have hpl:(es.take k).length<es.length:=by rw[List.length_take];omega
   generalize es[k]=x at ca cb lM
   have Ni:J (es.take k) (wr.alloc (.cells #[bs x.1,.int .i64 x.2] 106)):=Zj (es.take k) wr _ none Us (World.grownBy_alloc wr _ none) (fun r e=>by cases e);obtain ⟨fn,tmps,assign,body,hy,hR⟩:=hY _ x _ Ni hpl
   try dsimp only[Ic]at hy
   clear hcs hpl;gi_wp2;refine hR.mono ?_;rintro e W3 (⟨rfl,Ie,lr⟩|⟨rfl,sK⟩)
   ·gi_wp2
    go_roundw
    case rel=>exact⟨k+1,by omega,by simp,by rw[lM.out];exact Ie,(Mo.alloc (by omega) _).trans lr,by have:=lr.size;simp at this;omega⟩
    case measure=>simp[intOf];omega
   ·gi_wp2
    refine bodyPost_ret (results_none rfl _ _ _) rfl ?_;exact ⟨⟨_,rfl⟩,.inr ⟨_,by rw[<-lM.out];exact List.take_prefix _ _,sK⟩⟩
  ·obtain rfl:k=m:=by omega
   have ht:Hid (es.take k=es):=by show _=_;rw[HM.out,List.take_length]
   gi_wp2;go_end0;exact ⟨⟨_,rfl⟩,.inl ⟨_,ht.out,Us⟩⟩
theorem Ig (F:Fence) (n:Nat) (hf:F.fn 39) (hro:F.round=none) (a:Option Addr) (len cap:Nat) (w:World) :
  CallsIn F n Tryz.prog 39 #[.slice a len cap] w fun e w'=>e=.returned (.func (.func 75) #[] #[.pointer (some ⟨w.heap.size,0,none⟩)])/\w'=w.alloc (.cells #[.slice a len cap] 56):=by
 refine callsIn_of_wp Tryz.func39 rfl hf ?_ hro;simp only[Tryz.ntmps39,List.size_toArray,List.length_cons,List.length_nil,Nat.reduceAdd,Nat.reduceSub,Array.replicate_succ,Array.replicate_zero,List.push_toArray,List.append_toArray,List.nil_append,List.cons_append];gi_wp2;go_ret;exact ⟨rfl,rfl⟩
theorem Ff (F:Fence) (n:Nat) (hf:F.fn 75) (hro:F.round=none) (hn:1<=n) (Bs n₀ cap:Nat) (A:Option Addr) (es:List aw) (hlen:es.length<=1000000) (w:World) (yS:Bs<w.heap.size) (sJ:n₀<=w.heap.size)
  (hc:w.cell? ⟨Bs,0,none⟩=some (.slice A es.length cap)) (he:nY n₀ w A es) :
  SeqStopsK F n Tryz.prog 75 #[.pointer (some ⟨Bs,0,none⟩)] Ic (Below n₀) (fun ys=>ys=es) (fun pre=>pre <+: es) es.length w:=fun l J Jx W hW hJ _ hY h0 =>
 Nh F n hf hro hn l Bs n₀ cap A es hlen J Jx W (by have:=hW.size;omega) hJ hY ((hW.cell (p:=⟨Bs,0,none⟩) yS).trans hc) (he.below (hW.mono sJ)) h0
end
section
open Go
section
variable {F:Fence} {n:Nat} {P:Program} {ops:Array Oper} {md:Region.Mode} {C:World->Prop}
def xB (o:Oper):Bool:=match o.op with | .defer _=>false|_=>true
theorem xC {o:Oper} (h:xB o=true):∀c,o.op≠.defer c:=fun c hc=>by simp[xB,hc]at h
end
end
section
open Go.ChangeShapes Go.WideShapes Go.ChangeAt Go.RowKit Go.Shelf
attribute [local go_sem] Oper.semAt_some
end
theorem vV {x:aw} {l:List aw}:iH (x::l)↔(∀y∈l,bl x.1 y.1=true)/\iH l:=List.pairwise_cons
theorem vW {a b:List UInt8} (h:bl a b=true):a≠b:=by
 rintro rfl;rw [cD]at h;cases h
theorem filter_all {l:List aw} {f:aw->Bool} (h:∀x∈l,f x=true):l.filter f=l:=List.filter_eq_self.2 h
theorem filter_none {l:List aw} {f:aw->Bool} (h:∀x∈l,f x=false):l.filter f=[]:=List.filter_eq_nil_iff.2 fun x hx=>by rw[h x hx];simp
theorem qi:∀(l:List aw) (nm:List UInt8) (no:Int),iH l->nJ l nm no=dq l (nm,no)
 | [],nm,no,_=>by simp[nJ,dq,pos,has,iN,je]
 | x :: l,nm,no,hr=>by
  have hx:=(vV.1 hr).1;have ih:=qi l nm no (vV.1 hr).2;rcases lK x.1 nm with h|h|h
  ·have e1:pos (x::l) nm=pos l nm+1:=by rw[lm,if_pos (show lt x nm=true from h)]
   have e2:has (x::l) nm=has l nm:=by simp[has,vW h]
   have e3:nJ (x::l) nm no=x::nJ l nm no:=by
    unfold nJ;rw [e1,e2,List.take_succ_cons,show pos l nm+1+(if has l nm=true then 1 else 0)=(pos l nm+if has l nm=true then 1 else 0)+1 by omega,List.drop_succ_cons];rfl
   rw [e3,ih];simp [dq,iN,je,h,fD h]
  ·subst h
   have e1:pos (x::l) x.1=0:=by rw[lm,if_neg (by show ¬bl x.1 x.1=true;rw[cD];simp)]
   have e2:has (x::l) x.1=true:=by simp[has]
   have e3:nJ (x::l) x.1 no=(x.1,no)::l:=by unfold nJ;rw[e1,e2];simp
   rw [e3];have f1:iN l x.1=[]:=filter_none fun y hy=>fD (hx y hy)
   have f2:je l x.1=l:=filter_all fun y hy=>hx y hy
   have g1:iN (x::l) x.1=[]:=by unfold iN at f1|-;rw[List.filter_cons,if_neg (by rw[cD];simp),f1]
   have g2:je (x::l) x.1=l:=by unfold je at f2|-;rw[List.filter_cons,if_neg (by rw[cD];simp),f2]
   unfold dq;rw [g1,g2];rfl
  ·have hall:∀y∈x::l,bl nm y.1=true:=by
    intro y hy;rcases List.mem_cons.1 hy with rfl|hy
    ·exact h
    ·exact ll h (hx y hy)
   have e1:pos (x::l) nm=0:=by rw[lm,if_neg (by show ¬bl x.1 nm=true;rw[fD h];simp)]
   have e2:has (x::l) nm=false:=by
    unfold has;rw [List.any_eq_false];intro y hy;have:=vW (hall y hy);simpa using fun e=>this e.symm
   have e3:nJ (x::l) nm no=(nm,no)::x::l:=by unfold nJ;rw[e1,e2];simp
   rw [e3];have g1:iN (x::l) nm=[]:=filter_none fun y hy=>fD (hall y hy)
   have g2:je (x::l) nm=x::l:=filter_all hall;unfold dq;rw [show (nm,no).1=nm from rfl,g1,g2];rfl
theorem rr {l:List aw} (f:aw->Bool) (h:iH l):iH (l.filter f):=List.Pairwise.sublist List.filter_sublist h
theorem vX {l:List aw} (x:aw) (h:iH l):iH (dq l x):=by
 unfold dq iH;rw [List.append_assoc,List.pairwise_append];refine ⟨rr _ h,?_,?_⟩
 ·rw [List.singleton_append,List.pairwise_cons]
  exact ⟨fun y hy=>(List.mem_filter.1 hy).2,rr _ h⟩
 ·intro a ha b hb
  have h1:bl a.1 x.1=true:=(List.mem_filter.1 ha).2;rcases List.mem_cons.1 hb with rfl|hb
  ·exact h1
  ·exact ll h1 (List.mem_filter.1 hb).2
theorem pu (l:List aw) (x:aw):(dq l x).length<=l.length+1:=by
 have : ∀l:List aw,(iN l x.1).length+(je l x.1).length<=l.length:=by
  intro l
  induction l with
  | nil=>simp[iN,je]
  | cons y l ih =>
   unfold iN je at ih|-;simp only[List.filter_cons]
   by_cases h:bl y.1 x.1=true
   ·rw[if_pos h,if_neg (by rw[fD h];simp)];simp only[List.length_cons];omega
   ·rw[if_neg h];split<;>simp only[List.length_cons]<;>omega
 have:=this l;unfold dq;simp only[List.length_append,List.length_singleton];omega
end Go.Proofs.YtblbohcaphcobaaGreatDoor
