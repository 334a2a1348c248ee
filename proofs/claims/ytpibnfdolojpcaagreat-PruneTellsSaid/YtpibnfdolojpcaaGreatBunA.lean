import Derived.Test.YtpibnfdolojpcaaGreatRows
import Derived.WalkKit
import Derived.ProofKit
import Derived.OpenShut
import Derived.Handy
import Derived.Lib.Hide
import Derived.BigQuiet
import Derived.Deep.QuietTactic
import Derived.Lib.SlBytesConst
import Derived.Lib.UnsafeStr
import Derived.WalkLawsBesides
import Derived.Below
import Derived.Laws.OwnMore
import Derived.Deep.AppendLies
import Derived.Deep.Draws
import Derived.Deep.RegionHeld3
import Derived.Outline
import Derived.Lib.AppendZeros
import Derived.Laws.AppendOwnNone
import Derived.WalkSpells
import Derived.Lib.Overlaps
import Derived.Lib.AppendZerosOnto
import Derived.Laws.CopyRow
import Derived.Laws.Externs
import Derived.Deep.RegionLaw
import Derived.Deep.Slices
import Derived.Deep.Fields
import Derived.ChangeSame
import Derived.Lib.SmallJoins
import Derived.RangeFuncNested
import Derived.RangeFuncBound
import Derived.RangeFuncCalls
import Derived.RangeFuncLeaves
import Derived.RangeFuncBox
import Derived.Shelf.Abstract
import Derived.OwnWalkIn
import Derived.TacticsInMore
import Derived.LoopNIn
import Derived.LoopIn
import Derived.Sort.QuietTacIn
import Derived.AtR
set_option maxHeartbeats 2000000
set_option maxRecDepth 100000
namespace Go.Proofs.YtpibnfdolojpcaaGreat
theorem ai {α:Sort _} (a:α):∃x,x=a:=⟨a,rfl⟩
instance:Coe Nat Value:=⟨fun x=>.int .i64 x⟩
instance:Coe Unit Value:=⟨fun _=>.int .i64 0⟩
instance:Coe Unit (Array Value):=⟨fun _=>#[.int .i64 0,.int .i64 0,.int .i64 0,.int .i64 0,.int .i64 0,.int .i64 0,.int .i64 0,.int .i64 0,.int .i64 0,.int .i64 0,.string ⟨#[]⟩,.slice none 0 0]⟩
instance (b i:Nat):CoeDep (Nat×Nat) (b,i) Addr:=⟨⟨b,i,none⟩⟩
instance:Coe Nat Addr:=⟨fun b=>⟨b,0,none⟩⟩
instance (b:Nat):CoeDep (Unit×Nat) ((),b) Value:=⟨.pointer (some ⟨b,0,none⟩)⟩
instance:Coe Int Value:=⟨fun x=>.int .i64 x⟩
instance:Coe ByteArray Value:=⟨fun x=>.string x⟩
theorem _root_.Go.RowKit.Hid.o {p:Prop} (h:Go.RowKit.Hid p):p:=h
abbrev DP:=@Go.RowKit.Below.refl
abbrev Jq:=@Go.RowKit.Below.trans
abbrev lq:=@Nat.lt_or_ge
abbrev rf:=@Array.getElem?_eq_none
abbrev yX:=@Go.RowKit.Below.block
abbrev RC:=@Int.emod_nonneg
abbrev WD:=@Int.pow_pos
abbrev WE:=@Int.toNat_of_nonneg
abbrev WG:=@Nat.pow_le_pow_right
abbrev Z8:=@BitVec.toNat_and
abbrev Y1:=@Nat.testBit_eq_decide_div_mod_eq
abbrev RD:=@Nat.testBit_and
abbrev FW:=@Go.heap_alloc_new
abbrev oZ:=@Go.ByteArray.toList_eq
abbrev mC:=@List.take_succ_eq_append_getElem
abbrev jg:=@List.drop_eq_getElem_cons
abbrev xF:=@Bool.or_eq_true
abbrev lZ:=@decide_eq_true_eq
abbrev fl:=@Bool.and_eq_true
abbrev il:=@beq_iff_eq
abbrev Mi:=@List.takeWhile_cons
abbrev oc:=@List.pairwise_cons
abbrev jh:=@List.getElem_mem
abbrev RE:=@Nat.lt_trichotomy
abbrev aE:=@Nat.le_refl
abbrev af:=@if_pos
abbrev ji:=@beq_eq_false_iff_ne
abbrev yY:=@dif_pos
abbrev ac:=@if_neg
abbrev Mj:=@List.any_eq_false
abbrev Mk:=@beq_self_eq_true
abbrev Cu:=@List.pairwise_iff_getElem
abbrev yZ:=@List.flatMap_cons
abbrev aZ:=@List.length_append
abbrev y_:=@List.flatMap_append
abbrev FX:=@List.mem_flatMap
abbrev aR:=@List.mem_cons
abbrev ax:=@List.mem_singleton
abbrev ze:=@List.getElem?_eq_none
abbrev Y2:=@Nat.mod_two_eq_zero_or_one
abbrev qD:=@List.eq_nil_of_length_eq_zero
abbrev kU:=@Go.Addr.add_lit
abbrev un:=@Nat.add_assoc
abbrev bC:=@Nat.zero_le
abbrev RF:=@Array.size_append
abbrev jj:=@Go.info_parts
abbrev nj:=@Go.Lib.wpList_append_run
abbrev qE:=@List.take_append_drop
abbrev iR:=@List.append_nil
abbrev rh:=@Go.wpList_append_own
abbrev od:=@List.take_length
abbrev rl:=@List.getD_eq_getElem?_getD
abbrev iq:=@List.getElem?_eq_getElem
abbrev dn:=@List.mem_append
abbrev sW:=@List.find?_eq_none
abbrev iG:=@List.length_take
abbrev oh:=@List.length_drop
abbrev RG:=@List.getElem_drop
abbrev nk:=@Nat.le_trans
abbrev cG:=@decide_eq_false
abbrev bk:=@List.length_cons
abbrev mD:=@Go.run_underlying
abbrev nr:=@Go.Sem.run_bind
abbrev o7:=@Go.Sem.run_pure
abbrev rn:=@Go.Result.andThen_ok
abbrev RH:=@List.map_toArray
abbrev dM:=@List.map_cons
abbrev Ml:=@List.map_nil
abbrev Cv:=@List.take_append_of_le_length
abbrev lw:=@List.take_of_length_le
abbrev l6:=@List.append_assoc
abbrev FY:=@List.take_take
abbrev RI:=@List.drop_append_of_le_length
abbrev jG:=@List.nil_append
abbrev lA:=@List.size_toArray
abbrev Mm:=@Nat.min_def
abbrev eY:=@Nat.zero_add
abbrev xG:=@Array.length_toList
abbrev qF:=@Go.World.ownsRow.kept
abbrev uo:=@List.drop_length
abbrev Mn:=@List.getElem_append_left
abbrev Cw:=@List.getElem_append_right
abbrev zf:=@List.filter_append
abbrev sX:=@List.length_filter_le
abbrev ol:=@Go.Oper.semAt_some
abbrev uq:=@Go.callsIn_of_wp
abbrev gj:=@List.length_nil
abbrev o_:=@Array.replicate_succ
abbrev pd:=@Array.replicate_zero
abbrev pg:=@List.push_toArray
abbrev ph:=@List.append_toArray
abbrev oo:=@List.cons_append
abbrev aT:=@Go.bodyPost_ret
abbrev FZ:=@Go.results_none
abbrev RJ:=@List.filter_eq_self
abbrev qG:=@List.take_succ_cons
abbrev qH:=@List.drop_succ_cons
abbrev jH:=@List.filter_cons
abbrev zg:=@List.any_eq_true
abbrev Mo:=@List.filter_sublist
abbrev zh:=@List.pairwise_append
abbrev gz:=@List.mem_filter
abbrev lF:=@List.length_singleton
abbrev tD:=@List.find?_some
abbrev p5:=@List.mem_of_find?_eq_some
abbrev DQ:=@List.find?_eq_some_iff_getElem
abbrev mj:=@List.getElem_of_mem
abbrev RL:=@Option.isSome_eq_false_iff
abbrev RM:=@Option.isNone_iff_eq_none
abbrev DR:=@List.getElem_map
abbrev tE:=@List.length_set
abbrev DS:=@List.map_id
abbrev Jr:=@List.map_congr_left
abbrev vW:=@List.map_map
abbrev zi:=@List.pairwise_map
abbrev vX:=@List.mem_map_of_mem
abbrev fH:=@List.mem_map
abbrev DT:=@List.pairwise_singleton
abbrev gD:=@List.find?_cons
abbrev rp:=@Go.MapKept.run_getObj_map
abbrev zj:=@Array.getElem?_toList
abbrev zk:=@Nat.sub_self
abbrev Js:=@Go.MapKept.run_setObj_map
abbrev bi:=@Go.World.size_alloc
abbrev zl:=@Nat.zero_mul
abbrev zm:=@List.getElem_cons_zero
abbrev vY:=@List.getElem?_append_left
abbrev vZ:=@List.getElem?_append_right
abbrev zn:=@List.getElem_cons_succ
abbrev DU:=@Go.World.ownsRow.cellAt
abbrev bg:=@List.not_mem_nil
abbrev bh:=@or_false
abbrev v_:=@List.find?_append
abbrev lG:=@List.map_append
abbrev we:=@List.set_append_right
abbrev DV:=@Go.World.news_of_block
abbrev dA:=@Ne.symm
abbrev cf:=@List.mem_cons_of_mem
abbrev cO:=@Int.natCast_nonneg
abbrev oG:=@Go.World.ownsRow_nil
abbrev jL:=@Go.World.ownsRow.stored
abbrev zo:=@Nat.add_zero
abbrev p6:=@List.getElem?_eq_some_iff
abbrev cj:=@decide_eq_true
abbrev zq:=@Go.execOp_put
abbrev zr:=@Go.wanted_put
abbrev DW:=@Go.Act.put_comm
abbrev p7:=@Go.ready_mono
abbrev jt:=@Go.mem_ready
abbrev ez:=@Go.getD_set_ne
abbrev Jt:=@Array.setIfInBounds_comm
abbrev wg:=@Go.Region.noSelect_spec
abbrev DX:=@Go.Region.free_spec
abbrev DY:=@Nat.add_comm
abbrev nt:=@Option.some.inj
abbrev rr:=@List.all_eq_true
abbrev wh:=@Array.any_eq_true'
abbrev zt:=@Go.wp_region_any
abbrev Ju:=@List.getElem?_drop
abbrev ru:=@List.mem_range
abbrev RN:=@Array.getElem?_eq_getElem
abbrev rv:=@Go.all_oneCell_toArray
abbrev tF:=@Go.run_storeAt_mid
abbrev jM:=@Array.getElem?_eq_some_iff
abbrev oH:=@List.take_zero
abbrev jN:=@List.drop_zero
abbrev p9:=@List.drop_nil
abbrev bY:=@List.mem_cons_self
abbrev DZ:=@UInt8.toNat_inj
abbrev D_:=@List.isEmpty_eq_false_iff
abbrev zu:=@Bool.eq_iff_iff
abbrev Ea:=@Go.run_loadVar_row
abbrev zw:=@Go.wpList_store_mid
abbrev RO:=@List.mem_drop_iff_getElem
abbrev wi:=@List.reverse_append
abbrev Jv:=@Option.map_eq_some_iff
abbrev Eb:=@Go.Lib.cell_of_heap
abbrev lH:=@Go.wpQuiet_nil
abbrev Ec:=@Int.toNat_natCast
abbrev nu:=@congrArg
abbrev jO:=@List.mem_append_right
abbrev gE:=@Int.le_refl
abbrev zA:=@Nat.mul_le_mul_right
abbrev kj:=@List.mem_append_left
abbrev bR:=@Decidable.not_not
abbrev zB:=@List.length_eraseIdx
abbrev Ed:=@List.mem_of_getElem?
abbrev ml:=@eq_false
abbrev wj:=@Go.DataW.trod_struct
abbrev lI:=@Go.DataW.trod_int
abbrev jP:=@List.length_map
abbrev Jw:=@Go.Oper.semAt_plain
abbrev km:=@Go.callsIn_wide
abbrev Ee:=@Go.callsIn_of_wp_marks
abbrev zC:=@Go.wpAnyIn_take
abbrev i_:=@Go.wpAnyIn_ready
abbrev gV:=@Go.AllReadyIn.cons
abbrev zG:=@Go.ownsRow_succ
abbrev Ef:=@Go.wpAnyIn_done
abbrev ja:=@Go.AllReadyIn.nil
abbrev wl:=@Go.run_takeDeferred
abbrev cB:=@Go.IntWalk.i64_in
abbrev ry:=@Go.World.ownsRow.lt
abbrev p_:=@List.reverse_cons
abbrev Eg:=@List.takeWhile_append
abbrev wm:=@List.mem_reverse
abbrev Jy:=@List.reverse_reverse
abbrev kV:=@List.length_reverse
abbrev Jz:=@List.length_pos_iff
abbrev zI:=@Nat.pow_pos
abbrev dV:=@List.sum_cons
abbrev wo:=@Nat.mul_comm
abbrev JA:=@Nat.lt_of_le_of_lt
abbrev zJ:=@List.sum_append
abbrev oI:=@Go.World.putObj_heap_other
abbrev JB:=@List.take_left'
abbrev JC:=@Go.run_append_own_at
abbrev JD:=@List.nodup_cons
abbrev wu:=@List.prefix_refl
abbrev cR:=@Option.mem_toList
abbrev JE:=@List.prefix_append
abbrev JF:=@List.prefix_concat_iff
abbrev JG:=@List.append_inj'
abbrev JH:=@List.nil_prefix
abbrev tG:=@Nat.succ_pos
abbrev Eh:=@Nat.succ_mul
abbrev nv:=@List.foldl_cons
abbrev JI:=@List.length_zip
abbrev Ei:=@List.drop_eq_nil_of_le
abbrev Ej:=@Go.DataW.trod_string
abbrev Ek:=@List.filter_filter
abbrev JJ:=@Decidable.byContradiction
open Go.Proofs.Tryz
variable {w w' W:World} {b B i:Nat} {v v':Value} {t:TypeId} {P:Program} {C:Array Value} {a nm:List UInt8} {o:Obj} {fr:Nat×Nat} {A:Option Addr}
section
theorem gA {α:Type _} {l:List α}:l.toArray[i]?=l[i]?:=List.getElem?_toArray
theorem gB {α:Type _} {a:α} {l:List α}:(a::l)[0]?=some a:=List.getElem?_cons_zero
theorem gC {α:Type _} {a:α} {l:List α}:(a::l)[i+1]?=l[i]?:=List.getElem?_cons_succ
theorem zH {p:Prop} (h:p):RowKit.Hid p:=Lib.hid h
open Go.ChangeShapes Go.WideShapes Go.ChangeAt Go.RowKit
def Ext (w w':World):Prop:=Below w.heap.size w w'
theorem Ext.refl (w:World):Ext w w:=DP _ _
theorem Ext.trans {a b c:World} (h:Ext a b) (k:Ext b c):Ext a c:=Jq h (Below.mono k h.size)
theorem Ext.alloc {a w:World} (h:Ext a w) (o:Obj):Ext a (w.alloc o):=Below.alloc h h.size o
theorem Ext.drew {a w:World} (h:Ext a w):Ext a w.drew:=Below.drew h
theorem Ext.drewN {a w:World} (h:Ext a w) (n:Nat):Ext a (w.drewN n):=⟨h.os,h.tape,h.output,h.size,h.block⟩
theorem Ext.setCell {a w:World} (h:Ext a w) {p:Addr} (hp:a.heap.size<=p.block) (u:Value):Ext a (w.setCell p u):=Below.setCell h hp u
theorem Ext.size {a w:World} (h:Ext a w):a.heap.size<=w.heap.size:=Below.size h
theorem Ext.grown {a w w':World} {row:Option Nat} (h:Ext a w) (hg:w.grownBy w' row) (hr:∀k,row=some k->a.heap.size<=k):Ext a w':=Below.grown h hg h.size hr
theorem Ext.cell {w w':World} (h:Ext w w') {b o:Nat} (hp:b<w.heap.size):w'.cell? (b,o)=w.cell? (b,o):=Below.cell (p:=⟨b,o,none⟩) h hp
theorem Ext.frozen {w w':World} (h:Ext w w') {b o:Nat} (hp:b<w.heap.size):w'.frozen? (b,o)=w.frozen? (b,o):=Below.frozen (p:=⟨b,o,none⟩) h hp
theorem Ext.block {w w':World} (h:Ext w w') {b:Nat} {o:Obj} (hp:w.heap[b]?=some o):w'.heap[b]?=some o:=by
 have hb:b<w.heap.size:=by
  rcases lq b w.heap.size with h'|h'
  ·exact h'
  ·simp[rf h']at hp
 rw[yX h b hb];exact hp
def aO (w:World) (v:Value) (e:Ending) (w':World):Prop:=e=.returned v/\Ext w w'
theorem aO.mk {e:Ending} (h:e=.returned v) (k:Ext w w'):aO w v e w':=⟨h,k⟩
theorem aU {n:Int} (h:-9223372036854775808<=n) (h':n<9223372036854775808):IntKind.i64.wrap n=n:=by rw[IntKind.wrap_i64];omega
theorem kA (x:Int):(BitVec.ofInt 64 x).toNat=(x % 18446744073709551616).toNat:=by
 rw[BitVec.toNat_ofInt];rfl
theorem F9 (x:Int) (i:Nat) (hi:i<63):(x % 18446744073709551616).toNat % 2 ^ i=(x % 2 ^ i).toNat:=by
 have h1:(0:Int)<=x % 18446744073709551616:=RC _ (by decide);have h2:(0:Int)<2 ^ i:=WD (by decide);have h3:(0:Int)<=x % 2 ^ i:=RC _ (by omega);have hd:(2:Int) ^ i ∣ 18446744073709551616:=by
  have:(18446744073709551616:Int)=2 ^ 64:=by decide
  rw[this];exact⟨2 ^ (64-i),by rw[<-Int.pow_add];congr 1;omega⟩
 have h4:x % 18446744073709551616 % 2 ^ i=x % 2 ^ i:=Int.emod_emod_of_dvd x hd;apply Int.ofNat.inj;show ((((x % 18446744073709551616).toNat % 2 ^ i:Nat)):Int)=(((x % 2 ^ i).toNat:Nat):Int);rw[Int.natCast_emod,WE h1,WE h3,Int.natCast_pow,<-h4];rfl
theorem F_ (x:Int) (i:Nat) (hi:i<63):bits .and .i64 x (2 ^ i-1)=x % 2 ^ i:=by
 have h2:(0:Int)<2 ^ i:=WD (by decide);have h3:(0:Int)<=x % 2 ^ i:=RC _ (by omega);have h4:x % 2 ^ i<2 ^ i:=Int.emod_lt_of_pos _ h2;have hp:(2:Int) ^ i<=2 ^ 62:=by
  have:(2:Nat) ^ i<=2 ^ 62:=WG (by decide) (by omega)
  exact_mod_cast this
 have hc:((2:Int) ^ i-1)=((2 ^ i-1:Nat):Int):=by
  rw[Int.natCast_sub (Nat.two_pow_pos i)];simp
 show IntKind.i64.wrap ((BitVec.ofInt 64 x &&& BitVec.ofInt 64 ((2:Int) ^ i-1)).toNat:Int)=_;have hb:(BitVec.ofInt 64 ((2:Int) ^ i-1)).toNat=2 ^ i-1:=by
  rw[hc,BitVec.ofInt_natCast,BitVec.toNat_ofNat];have:(2:Nat) ^ i<=2 ^ 62:=WG (by decide) (by omega);exact Nat.mod_eq_of_lt (by omega)
 rw[Z8,hb,kA,Nat.and_two_pow_sub_one_eq_mod,F9 x i hi,WE h3];exact aU (by omega) (by omega)
theorem abN (x:Int):bits .and .i64 x 1=x % 2:=F_ x 1 (by decide)
theorem Y3 (x:Int):bits .and .i64 x 7=x % 8:=F_ x 3 (by decide)
theorem Ga (n:Nat):n &&& 512=(n / 512 % 2)*512:=by
 apply Nat.eq_of_testBit_eq;intro j;have h1:n.testBit 9=decide (n / 512 % 2=1):=by rw[Y1]
 have e:(512:Nat)=2 ^ 9:=rfl;have h2:n / 512 % 2=0\/n / 512 % 2=1:=by omega
 by_cases hj:j=9
 ·subst hj
  rw[RD,h1];rcases h2 with h|h<;>simp[h]<;>decide
 ·have:(512:Nat).testBit j=false:=by rw[e,Nat.testBit_two_pow];simp;omega
  rw[RD,this,Bool.and_false];rcases h2 with h|h<;>simp[h,this]
theorem WH (x:Int):bits .and .i64 x 512=(x / 512 % 2)*512:=by
 show IntKind.i64.wrap ((BitVec.ofInt 64 x &&& BitVec.ofInt 64 512).toNat:Int)=_;have hb:(BitVec.ofInt 64 512).toNat=512:=by decide
 rw[Z8,hb,kA,Ga,aU (by omega) (by omega)];omega
def Has (w:World) (b:Nat) (o:Obj):Prop:=w.heap[b]?=some o
theorem Has.ext (h:Has w b o) (k:Ext w w'):Has w' b o:=k.block h
theorem Has.lt (h:Has w b o):b<w.heap.size:=by
 rcases lq b w.heap.size with h'|h'
 ·exact h'
 ·unfold Has at h;simp[rf h']at h
theorem Has.new (w:World) (o:Obj):Has (w.alloc o) w.heap.size o:=FW w o
theorem Has.alloc {w:World} {b:Nat} {o:Obj} (h:Has w b o) (x:Obj):Has (w.alloc x) b o:=h.ext ((Ext.refl _).alloc x)
theorem Has.cell (h:Has w b (.cells C t fr)) (i:Nat):w.cell? (b,i)=C[i]?:=by
 unfold Has at h;simp[World.cell?,h]
theorem aA (h:Has w b (.cells C t fr)) (i:Nat) {x:Value} (e:C[i]?=some x):w.cell? ⟨b,i,none⟩=some x:=(h.cell i).trans e
theorem Has.free {lo hi:Nat} (h:Has w b (.cells C t (lo,hi))) (i:Nat):w.frozen? (b,i)=(decide (lo<=i)&&decide (i<hi)):=by
 unfold Has at h;simp[World.frozen?,h]
theorem wv (ht:P.underlying t=some .string) (s:ByteArray) (i j:Int) (a b:Nat) (hi:i=a) (hj:j=b) (hab:a<=b) (hb:b<=s.size) (r:ByteArray) (hr:s.extract a b=r) (w:World) :
  (Instr.slice t (.string s) (some (.int .i64 i)) (some (.int .i64 j)) none).run P w=.ok (.string r) w:=by
 subst hi;subst hj;subst hr;have:=run_slice_string (P:=P) w t s .i64 .i64 (a:Int) (b:Int) ht (by omega) (by omega) (by omega);simpa using this
open Go.RowKit
def bs (l:List UInt8):ByteArray:=⟨l.toArray⟩
theorem bo (l:List UInt8):(bs l).size=l.length:=by simp[bs,ByteArray.size]
theorem El (s:ByteArray):bs s.data.toList=s:=by cases s;simp[bs]
theorem qa (l:List UInt8):(bs l).data.toList=l:=by simp[bs]
theorem bA (l:List UInt8):(bs l).toList=l:=by rw[oZ,qa]
theorem mW (a b:List UInt8):bs a++bs b=bs (a++b):=ByteArray.mk_append_mk a b
theorem NC (s:ByteArray) (k:Nat) (h:k<s.size):s.data.toList.take (k+1)=s.data.toList.take k++[s[k]]:=by
 rw[mC (by simpa using h)];rfl
theorem drop_at (s:ByteArray) (k:Nat) (h:k<s.size):s.data.toList.drop k=s[k]::s.data.toList.drop (k+1):=by
 rw[jg (by simpa using h)];rfl
theorem JK (l:List UInt8) (k:Nat) (h:k<(bs l).size) (h':k<l.length):(bs l)[k]'h=l[k]'h':=rfl
theorem WI (s:ByteArray) (k:Nat) (h:k<s.size):s.extract k (k+1)=bs [s[k]]:=by
 apply ByteArray.ext;have hd:k<s.data.size:=h;simp only[ByteArray.data_extract,bs];apply Array.ext
 ·simp;omega
 ·intro i h1 h2
  simp at h2;subst h2;simp;rfl
theorem qb (l:List UInt8) (a b:Nat):(bs l).extract a b=bs ((l.drop a).take (b-a)):=ByteArray.extract_mk l a b
theorem eo {a b:Bool} (h:a=b):Ending.returned (.bool a)=.returned (.bool b):=by rw[h]
theorem aS {k:IntKind} {a b:Int} (h:a=b):Ending.returned (.int k a)=.returned (.int k b):=by rw[h]
theorem Em {a b:ByteArray} (h:a=b):Ending.returned (.string a)=.returned (.string b):=by rw[h]
abbrev bl:=Go.Op.bytesLess
theorem dD:∀a,bl a a=false
 | []=>rfl
 | c::a=>by simp[bl,Go.Op.bytesLess,show ¬c<c from fun h=>by exact absurd (UInt8.lt_iff_toNat_lt.1 h) (Nat.lt_irrefl _)];exact dD a
theorem En (c d:UInt8) (a b:List UInt8):bl (c::a) (d::b)=(decide (c<d) || (c == d&&bl a b)):=rfl
theorem ny:∀{a b c:List UInt8},bl a b=true->bl b c=true->bl a c=true
 | [],[],c,h,_=>absurd h (by decide)
 | [],b::bs,[],_,h=>absurd h (by simp[bl,Go.Op.bytesLess])
 | [],b::bs,c::cs,_,_=>rfl
 | a::al,[],c,h,_=>absurd h (by simp[bl,Go.Op.bytesLess])
 | a::al,b::bs,[],_,h=>absurd h (by simp[bl,Go.Op.bytesLess])
 | a :: al,b::bs,c::cs,h,k=>by
  rw[En]at h k|-;simp only[xF,lZ,fl,il]at h k|-;rcases h with h|⟨rfl,h⟩
  ·rcases k with k|⟨rfl,k⟩
   ·exact .inl (UInt8.lt_trans h k)
   ·exact .inl h
  ·rcases k with k|⟨rfl,k⟩
   ·exact .inl k
   ·exact .inr ⟨rfl,ny h k⟩
theorem oJ:∀(a b:List UInt8),bl a b=true\/a=b\/bl b a=true
 | [],[]=>.inr (.inl rfl)
 | [],b::bs=>.inl rfl
 | a::al,[]=>.inr (.inr rfl)
 | a :: al,b::bs=>by
  rw[En,En];simp only[xF,lZ,fl,il]
  by_cases h:a<b
  ·exact .inl (.inl h)
  ·by_cases h2:b<a
   ·exact .inr (.inr (.inl h2))
   ·have:a=b:=UInt8.le_antisymm (UInt8.not_lt.1 h2) (UInt8.not_lt.1 h)
    subst this;rcases oJ al bs with g|g|g
    ·exact .inl (.inr ⟨rfl,g⟩)
    ·exact .inr (.inl (by rw[g]))
    ·exact .inr (.inr (.inr ⟨rfl,g⟩))
theorem iS {b:List UInt8} (h:bl a b=true):bl b a=false:=by
 cases k:bl b a
 ·rfl
 ·have:=ny h k;rw[dD]at this;cases this
abbrev aK:=List UInt8×Int
def lt (x:aK) (n:List UInt8):Bool:=bl x.1 n
def jQ (l:List aK):Prop:=l.Pairwise fun x y=>bl x.1 y.1=true
def pos (l:List aK) (n:List UInt8):Nat:=(l.takeWhile (lt · n)).length
def has (l:List aK) (n:List UInt8):Bool:=l.any (·.1 == n)
theorem RP (l:List aK) (n:List UInt8):pos l n<=l.length:=by
 unfold pos
 induction l with
 | nil=>simp
 | cons x l ih=>rw[Mi];split<;>simp<;>omega
theorem l7 (x:aK) (l:List aK) (n:List UInt8):pos (x::l) n=if lt x n=true then pos l n+1 else 0:=by
 unfold pos;rw[Mi];split<;>simp
theorem Gb (l:List aK) (n:List UInt8):∀k,k<pos l n->(h:k<l.length)->lt l[k] n=true:=by
 induction l with
 | nil=>intro k _ h;cases h
 | cons x l ih =>
  intro k hk h;rw[l7]at hk;split at hk
  ·rename_i hx
   cases k with
   | zero=>exact hx
   | succ k=>exact ih k (by omega) (by simpa using h)
  ·omega
theorem WJ (l:List aK) (n:List UInt8) (hr:jQ l):∀k,(h:k<l.length)->pos l n<=k->lt l[k] n=false:=by
 induction l with
 | nil=>intro k h;cases h
 | cons x l ih =>
  intro k h hk;rw[l7]at hk;have hr':=oc.1 hr;split at hk
  ·cases k with
   | zero=>omega
   | succ k=>exact ih hr'.2 k (by simpa using h) (by omega)
  ·rename_i hx
   have hx':lt x n=false:=by simpa using hx
   cases k with
   | zero=>exact hx'
   | succ k =>
    have hm:l[k]'(by simpa using h)∈l:=jh _;have h1:=hr'.1 _ hm
    cases h2:lt ((x::l)[k+1]'h) n
    ·rfl
    ·have:lt x n=true:=ny h1 h2
     rw[hx']at this;cases this
theorem JL (l:List aK) (n:List UInt8) (hr:jQ l) (p:Nat) (hp:p<=l.length) (h1:∀k,(h:k<l.length)->k<p->lt l[k] n=true) (h2:∀k,(h:k<l.length)->p<=k->lt l[k] n=false):p=pos l n:=by
 rcases RE p (pos l n) with g|g|g
 ·have hl:=RP l n
  have a:=Gb l n p g (by omega);have b:=h2 p (by omega) (aE _);rw[a]at b;cases b
 ·exact g
 ·have a:=h1 (pos l n) (by omega) g
  have b:=WJ l n hr (pos l n) (by omega) (aE _);rw[a]at b;cases b
theorem Mp (l:List aK) (n:List UInt8) (hr:jQ l):has l n=(if h:pos l n<l.length then (l[pos l n]'h).1 == n else false):=by
 induction l with
 | nil=>rfl
 | cons x l ih =>
  have hr':=oc.1 hr;have hp:=l7 x l n
  by_cases hx:lt x n=true
  ·rw [af hx]at hp
   have hne:(x.1 == n)=false:=by
    rw[ji];intro e;unfold lt at hx;rw[e,dD]at hx;cases hx
   have:has (x::l) n=has l n:=by unfold has;rw[List.any_cons,hne,Bool.false_or]
   rw[this,ih hr'.2];have hlen:(x::l).length=l.length+1:=rfl
   by_cases h:pos l n<l.length
   ·rw [yY h,yY (by omega)]
    have:∀(i j:Nat) (hi:i<(x::l).length) (hj:j<l.length),i=j+1->(x::l)[i]=l[j]:=by
     intro i j hi hj e;subst e;rfl
    rw[this _ _ (by omega) h hp]
   ·rw[dif_neg h,dif_neg (by omega)]
  ·rw [ac hx]at hp
   have h0:0<(x::l).length:=by simp
   have e0:∀(i:Nat) (hi:i<(x::l).length),i=0->(x::l)[i]=x:=by intro i hi e;subst e;rfl
   rw[yY (by omega),e0 _ _ hp];unfold has;rw[List.any_cons]
   cases hq:(x.1 == n)
   ·rw [Bool.false_or,Mj]
    intro y hy;have h1:=hr'.1 y hy;intro h2;rw[il]at h2;rw[h2]at h1;exact hx h1
   ·rfl
def cmpL (a b:List UInt8):Int:=if bl a b=true then -1 else if bl b a=true then 1 else 0
theorem Cx (s:ByteArray) (w:World):Calls prog 201 #[.string s] w (aO w (.bool false)):=by
 go_in;go_wp2;go_ret;exact aO.mk rfl (Ext.refl _)
theorem Eo {b:List UInt8} (h:bl a b=true):cmpL a b=-1:=by unfold cmpL;rw[af h]
theorem Ep {b:List UInt8} (h:bl b a=true):cmpL a b=1:=by unfold cmpL;rw[ac (by rw[iS h];decide),af h]
theorem cmpL_eq (a:List UInt8):cmpL a a=0:=by unfold cmpL;rw[dD];rfl
theorem Gc (a b:List UInt8) (w:World):Calls prog 177 #[bs a,bs b] w (aO w (.int .i64 (cmpL a b))):=by
 obtain ⟨x,y,c,hx,hy,hc,hf⟩:∃(x y:Bool) (c:Int),bl a b=x/\(a == b)=y/\cmpL a b=c/\((x=true/\y=false/\c=-1)\/(x=false/\y=true/\c=0)\/(x=false/\y=false/\c=1)):=by
  refine⟨_,_,_,rfl,rfl,rfl,?_⟩;rcases oJ a b with h|h|h
  ·refine .inl ⟨h,?_,Eo h⟩
   rw[ji];intro e;rw[e,dD]at h;cases h
  ·subst h;exact .inr (.inl ⟨dD a,Mk a,cmpL_eq a⟩)
  ·refine .inr (.inr ⟨iS h,?_,Ep h⟩)
   rw[ji];intro e;rw[e,dD]at h;cases h
 have e1:Go.Op.bytesLess (bs a).toList (bs b).toList=x:=by rw[bA,bA];exact hx
 have e2:((bs a).toList == (bs b).toList)=y:=by rw[bA,bA];exact hy
 have HC:=zH hc;clear hx hy hc;rcases hf with⟨rfl,rfl,rfl⟩|⟨rfl,rfl,rfl⟩|⟨rfl,rfl,rfl⟩
 all_goals
  go_in;go_wp2_with fail;refine (Cx _ _).mono ?_;rintro e w1 ⟨rfl,b1⟩;go_wp2_with fail;refine (Cx _ _).mono ?_;rintro e w2 ⟨rfl,b2⟩;go_wp2;go_ret;exact aO.mk (aS (by rw[HC.o])) (b1.trans b2)
theorem RQ (a n:List UInt8) (no:Int) (w:World):Calls prog 148 #[.agg #[bs a,no],bs n] w (aO w (.int .i64 (cmpL a n))):=by
 go_in;go_wp2_with fail;refine (Gc a n _).mono ?_;rintro e w1 ⟨rfl,b1⟩;go_wp2;go_ret;exact aO.mk rfl (((Ext.refl _).alloc _).trans b1)
def bU (w:World) (A:Option Addr) (l:List aK):Prop:=
 l = []\/∃b o,A=some ⟨b,o,none⟩/\b<w.heap.size/\∀k,(h:k<l.length)->w.cell? ⟨b,o+k*2,none⟩=some (.string (bs l[k].1))/\w.cell? ⟨b,o+k*2+1,none⟩=some (.int .i64 l[k].2)
theorem bU.ext {l:List aK} (h:bU w A l) (k:Ext w w'):bU w' A l:=by
 rcases h with h|⟨b,o,hA,hb,hc⟩
 ·exact .inl h
 ·refine .inr ⟨b,o,hA,by have:=k.size;omega,fun i hi=>?_⟩
  rw[k.cell hb,k.cell hb];exact hc i hi
theorem bU.at_ {wr:World} {l:List aK} (h:bU w A l) (hE:Ext w wr) (k:Nat) (hk:k<l.length) :
  ∃ b o,A=some ⟨b,o,none⟩/\b<wr.heap.size/\wr.cell? ⟨b,o+k*2,none⟩=some (.string (bs l[k].1))/\wr.cell? ⟨b,o+k*2+1,none⟩=some (.int .i64 l[k].2):=by
 rcases h.ext hE with h0|⟨b,o,hA,hb,hc⟩
 ·rw[h0]at hk;simp at hk
 ·exact⟨b,o,hA,hb,hc k hk⟩
theorem sY {l:List aK} (hr:jQ l) {k:Nat} (hik:i<k) (hk:k<l.length) (h:lt l[k] nm=true):lt (l[i]'(by omega)) nm=true:=
 ny (Cu.1 hr i k (by omega) hk hik) h
theorem nA (A:Option Addr) (l:List aK) (cap:Nat) (nm:List UInt8) (w:World) (h:bU w A l) (hr:jQ l) (hlen:l.length<=1000000):Calls prog 147 #[.slice A l.length cap,bs nm,.func (Fn.func 148) #[] #[]] w (aO w (.tuple #[.int .i64 (pos l nm),.bool (has l nm)])):=by
 obtain⟨n,hn⟩:=ai l.length;rw[<-hn]at hlen|-;have HN:=zH hn;clear hn;go_in;go_wp2_with fail;go_loopw [9,10] (fun iv jv wr=>∃i j:Nat,iv=.int .i64 i/\jv=.int .i64 j/\i<=j/\j<=n/\Hid (∀k,(h:k<l.length)->k<i->lt l[k] nm=true)/\Hid (∀k,(h:k<l.length)->j<=k->lt l[k] nm=false)/\Ext w wr) (fun iv jv _=>(intOf jv).toNat-(intOf iv).toNat)
 case atStart=>exact⟨0,n,rfl,rfl,by omega,aE _,fun k _ h=>absurd h (by omega),fun k h h2=>absurd h2 (by have:=HN.o;omega),Ext.refl _⟩
 case round =>
  obtain⟨i,j,rfl,rfl,hij,Y5,ha,hb,hE⟩:=hrel
  by_cases hlt:(i:Int)<j
  ·obtain⟨m,hm⟩:=ai ((i+j) / 2)
   have ig:i<=m:=by omega
   have cq:m<j:=by omega
   have Mq:m<l.length:=by have:=HN.o;omega
   have e1:((i:Int)+(j:Int)) / 2=(m:Int):=by omega
   have WK:(m:Int)<(n:Int):=by omega
   have hm0:(0:Int)<=(m:Int):=by omega
   clear hm;obtain⟨b,o,rfl,qY,hc⟩:=h.at_ hE m Mq;obtain⟨ca,cb⟩:=hc
   generalize ue:l[m]=x at ca cb
   have h1:=zH ue;clear ue;go_wp2_with fail;refine (RQ _ _ _ _).mono ?_;rintro e w1 ⟨rfl,b1⟩
   by_cases hl:lt x nm=true
   ·have e:cmpL x.1 nm=-1:=Eo hl
    rw [e];have Gd:Hid (∀k,(h:k<l.length)->k<m+1->lt l[k] nm=true):=fun k h3 h4=>by
     by_cases hk:k=m
     ·subst hk
      have q:=h1.o;rw[q];exact hl
     ·exact sY hr (show k<m by omega) Mq (by have q:=h1.o;rw[q];exact hl)
    clear e hl;go_wp2_with fail;go_roundw
    case rel=>exact⟨m+1,j,by go_num,rfl,by omega,Y5,Gd,hb,hE.trans b1⟩
    case measure=>simp[intOf];omega
   ·have xH:lt x nm=false:=by simpa using hl
    have e:decide (cmpL x.1 nm<0)=false:=by
     rcases oJ x.1 nm with g|g|g
     ·exact absurd g hl
     ·rw[g,cmpL_eq];rfl
     ·rw[Ep g];rfl
    have hb2:Hid (∀k,(h:k<l.length)->m<=k->lt l[k] nm=false):=fun k h3 h4=>by
     cases hv:lt l[k] nm
     ·rfl
     ·by_cases hk:m=k
      ·subst hk
       have q:=h1.o;rw[q,xH]at hv;cases hv
      ·have:=sY hr (show m<k by omega) h3 hv
       rw[h1.o,xH]at this;cases this
    clear hl xH;go_wp2_with fail;go_roundw
    case rel=>exact⟨i,m,rfl,rfl,by omega,by omega,ha,hb2,hE.trans b1⟩
    case measure=>simp[intOf];omega
  ·have adN:i=j:=by omega
   subst adN;have hp:i=pos l nm:=JL l nm hr i (by have:=HN.o;omega) ha.o hb.o;have hh:=Mp l nm hr;rw[<-hp]at hh;have HP:=zH hp;clear hp hlt
   by_cases lm:(i:Int)<n
   ·have hil:i<l.length:=by have:=HN.o;omega
    rw[yY hil]at hh;obtain⟨b,o,rfl,qY,hc⟩:=h.at_ hE i hil;obtain⟨ca,cb⟩:=hc
    generalize ue:l[i]=x at ca cb hh
    have hq:(cmpL x.1 nm == 0)=has l nm:=by
     rw[hh];rcases oJ x.1 nm with g|g|g
     ·rw [Eo g];symm;rw[ji.2];· rfl
      intro e;rw[e,dD]at g;cases g
     ·rw[g,cmpL_eq];simp
     ·rw [Ep g];symm;rw[ji.2];· rfl
      intro e;rw[e,dD]at g;cases g
    have HQ:=zH hq;clear ue hh hq;go_wp2_with fail;refine (RQ _ _ _ _).mono ?_;rintro e w1 ⟨rfl,b1⟩;go_wp2;go_ret2;exact aO.mk (by rw[HQ.o,<-HP.o];rfl) (hE.trans b1)
   ·rw [dif_neg (by have:=HN.o;omega)]at hh
    have HH:=zH hh;clear hh;go_wp2;go_ret2;exact aO.mk (by rw[HH.o,<-HP.o];rfl) hE
def ay (l:List aK):List Value:=l.flatMap fun x=>[.string (bs x.1),.int .i64 x.2]
theorem dx (l:List aK):(ay l).length=l.length*2:=by
 unfold ay
 induction l with
 | nil=>rfl
 | cons x l ih=>rw[yZ,aZ,ih];simp;omega
theorem ft (a b:List aK):ay (a++b)=ay a++ay b:=by unfold ay;rw[y_]
theorem dZ (l:List aK):∀u∈ay l,u.oneCell'=true:=by
 intro u hu;unfold ay at hu;rw[FX]at hu;obtain⟨x,_,hx⟩:=hu;rcases aR.1 hx with rfl|hx
 ·rfl
 ·rw[ax.1 hx];rfl
theorem ur (l:List aK):∀k,(h:k<l.length)->(ay l)[k*2]?=some (.string (bs l[k].1))/\(ay l)[k*2+1]?=some (.int .i64 l[k].2):=by
 induction l with
 | nil=>intro k h;cases h
 | cons x l ih =>
  intro k h;have e:ay (x::l)=.string (bs x.1)::.int .i64 x.2::ay l:=rfl;rw[e]
  cases k with
  | zero=>exact⟨rfl,rfl⟩
  | succ k =>
   have:=ih k (by simpa using h);rw[show (k+1)*2=k*2+1+1 by omega];simpa using this
theorem bU.cells {o:Nat} {l:List aK} (h:bU w (some ⟨b,o,none⟩) l):∀j u,(ay l)[j]?=some u->w.cell? ⟨b,o+j,none⟩=some u:=by
 intro j u hu;have hj:j<l.length*2:=by
  rw[<-dx];rcases lq j (ay l).length with h'|h'
  ·exact h'
  ·rw[ze h']at hu;cases hu
 rcases h with h|⟨b',o',hA,_,hc⟩
 ·subst h;simp at hj
 ·injection hA with hA
  injection hA with h1 h2;subst h1 h2;have hk:=hc (j / 2) (by omega);have hg:=ur l (j / 2) (by omega);rcases Y2 j with hm|hm
  ·have e:j / 2*2=j:=by omega
   rw[e]at hk hg;rw[hk.1,<-hg.1,hu]
  ·have e:j / 2*2+1=j:=by omega
   have e2:o+j / 2*2+1=o+j:=by omega
   rw[e]at hg;rw[e2]at hk;rw[hk.2,<-hg.2,hu]
def eD (w:World) (base:Nat) (v:Value) (l:List aK):Prop:=w.ownsRow base 153 2 v l.length (ay l)
theorem eD.at_ {base:Nat} {l:List aK} (h:eD w base v l):∃A cap,v=.slice A l.length cap/\l.length<=cap/\cap<=maxLen/\bU w A l:=by
 unfold eD at h;rcases h.2 with⟨rfl,h0⟩|⟨g,cap,cur,rfl,_,hg,hn,hm,hsz,htake⟩
 ·have:l=[]:=qD h0
  subst this;exact⟨none,0,rfl,aE _,by decide,.inl rfl⟩
 ·refine ⟨_,cap,rfl,hn,hm,.inr ⟨g,0,rfl,?_,fun k hk=>?_⟩⟩
  ·rcases lq g w.heap.size with h'|h'
   ·exact h'
   ·simp[rf h']at hg
  ·have hc:=h.cells (g:=g) rfl
   have hg:=ur l k hk;have h1:=hc _ _ hg.1;have h2:=hc _ _ hg.2;simp only[kU]at h1 h2;rw[un];exact⟨h1,h2⟩
theorem kX:(prog.info? 153).map (fun i=>(i.zero,i.size,i.bytes))=some (some (.agg #[.string ⟨#[]⟩,()]),2,24):=by kernel_rfl
theorem kY (z:Array Value) (n:Nat):(Builtin.zeroCells z n).size=n*z.size:=by
 unfold Builtin.zeroCells;simp
theorem WL (w:World) (G n:Nat) (hge:n<=G) (hle:G<=maxLen):eD ((w.alloc (.cells (Builtin.zeroCells #[.string ⟨#[]⟩,()] n++Builtin.zeroCells #[.string ⟨#[]⟩,()] (G-n)) 153)).drew) w.heap.size (.slice (some w.heap.size) 0 G) []:=by
 refine⟨rfl,.inr ⟨w.heap.size,G,Builtin.zeroCells #[.string ⟨#[]⟩,()] n++Builtin.zeroCells #[.string ⟨#[]⟩,()] (G-n),rfl,aE _,Has.new w _,bC _,hle,?_,rfl⟩⟩;rw[RF,kY,kY];show n*2+(G-n)*2=G*2;omega
theorem RR (n:Nat) (w:World) (hn:n<=1000000):Calls prog 222 #[.slice none 0 0,n] w fun e w'=>∃v,e=.returned v/\eD w' w.heap.size v []/\Ext w w':=by
 by_cases h0:n=0
 ·subst h0
  go_in;go_wp2;go_ret;exact⟨_,rfl,⟨rfl,.inl ⟨rfl,rfl⟩⟩,Ext.refl _⟩
 ·obtain ⟨i0,hi,hz0,hz1,hz2⟩:=jj kX
  have hrun:=fun ty=>Lib.run_append_nil_zeros (P:=prog) w 64 3 ty 153 i0 _ .i64 .i64 underlying64 underlying3 hi hz0 n (by omega) (by rw[hz1];decide) (by omega) (by rw[hz2];omega)
  have hge:=grownCap_ge w n 0 153;have hle:=grownCap_le_maxLen w n 0 153 (by unfold maxLen;omega)
  generalize grownCap w n 0 153=G at hrun hge hle
  have hG:(G:Int)<=9223372036854775807:=by unfold maxLen at hle;omega
  have hpos:0<(n:Int):=by omega
  have HR:=zH hrun;clear hrun h0;go_in;go_wp2_with (at_builtin;refine nj _ rfl _ _ 64 3 rfl _ _ rfl rfl _ _ (HR.o _) ?_);go_ret;refine⟨.slice (some w.heap.size) 0 G,rfl,?_,((Ext.refl _).alloc _).drew⟩;exact WL w G n hge hle
abbrev Part:=Option Addr×Nat×List aK
def Cy (w:World) (b:Nat) (ps:List Part):Prop:=
 b<w.heap.size/\∀i,(h:i<ps.length)->w.cell? ⟨b,i,none⟩=some (.slice ps[i].1 ps[i].2.2.length ps[i].2.1)/\bU w ps[i].1 ps[i].2.2/\(ps[i].1=none->ps[i].2.1=0)
theorem Cy.ext {w w':World} {b:Nat} {ps:List Part} (h:Cy w b ps) (k:Ext w w'):Cy w' b ps:=
 ⟨by have:=k.size;have:=h.1;omega,fun i hi=>⟨by rw[k.cell h.1];exact (h.2 i hi).1,(h.2 i hi).2.1.ext k,(h.2 i hi).2.2⟩⟩
def fB (ps:List Part):List aK:=ps.flatMap (·.2.2)
theorem zK (ps:List Part) (i:Nat) (h:i<ps.length):fB (ps.take (i+1))=fB (ps.take i)++ps[i].2.2:=by
 unfold fB;rw[mC h,y_];simp
theorem sZ (ps:List Part) (i:Nat):(fB (ps.take i)).length<=(fB ps).length:=by
 have:fB ps=fB (ps.take i)++fB (ps.drop i):=by unfold fB;rw[<-y_,qE]
 rw[this,aZ];omega
theorem qc (b cap:Nat) (ps:List Part) (w:World) (hp:Cy w b ps) (hlen:(fB ps).length<=1000000) (hk:ps.length<=1000000):Calls prog 211 #[.slice (some b) ps.length cap] w fun e w'=>∃v,e=.returned v/\eD w' w.heap.size v (fB ps)/\Ext w w':=by
 obtain⟨q,hq⟩:=ai ps.length;rw[<-hq]at hk|-;have HQ:=zH hq;clear hq;go_in;go_wp2_with fail;go_loop [3,11] (fun s i=>∃k n:Nat,k<=q/\i=.int .i64 k/\s=.int .i64 n/\n<=1000000/\Hid (n=(fB (ps.take k)).length)) (fun _ i=>q-(intOf i).toNat)
 case atStart=>exact⟨0,0,bC _,rfl,rfl,by omega,rfl⟩
 case round =>
  obtain⟨k,n,hkq,rfl,rfl,hn,Hn⟩:=hrel
  by_cases hlt:(k:Int)<q
  ·have dN:k<ps.length:=by have:=HQ.o;omega
   obtain⟨hc,he,-⟩:=hp.2 k dN;have hs:=zK ps k dN;have hle:=sZ ps (k+1);rw[hs,aZ]at hle
   generalize hx:ps[k]=x at hc he hs hle
   obtain⟨A,c,l⟩:=x;obtain⟨m,hm⟩:=ai l.length;have hn':n+m<=1000000:=by have:=Hn.o;simp at hle;omega
   have Hn2:Hid (n+m=(fB (ps.take (k+1))).length):=by show _=_;rw[hs,aZ];have:=Hn.o;simp;omega
   simp only[]at hc;rw[<-hm]at hc;clear hs hle hx he hm;go_wp2_with fail;go_round
   case rel=>exact⟨k+1,n+m,by omega,by go_num,by go_num,hn',Hn2⟩
   case measure=>simp[intOf];omega
  ·have adO : k=q:=by omega
   subst adO;clear hlt;go_wp2_with fail;refine (RR n _ hn).mono ?_;rintro e w1 ⟨v,rfl,ho,b1⟩;have B1:=zH b1;have HQ':=trivial;go_wp2_with fail;obtain⟨i0,hi,hz0,hz1,hz2⟩:=jj kX;clear b1 HQ' hkq;go_loopw [6,27] (fun u i wr=>∃j:Nat,j<=k/\i=.int .i64 j/\eD wr w.heap.size u (fB (ps.take j))/\Ext w wr) (fun _ i _=>k-(intOf i).toNat)
   case atStart=>exact⟨0,bC _,rfl,ho,B1.o⟩
   case round =>
    obtain⟨j,JM,rfl,hown,hE⟩:=hrel
    by_cases hlt:(j:Int)<k
    ·have hjl:j<ps.length:=by have:=HQ.o;omega
     obtain⟨hc,he,hnone⟩:=(hp.ext hE).2 j hjl;have hs:=zK ps j hjl;have hle:=sZ ps (j+1);rw[hs,aZ]at hle
     generalize hx:ps[j]=x at hc he hs hle hnone
     obtain⟨A,c,l⟩:=x;simp only[]at hc he hs hle hnone
     cases A with
     | none =>
      have l8:l=[]:=by
       rcases he with h|⟨b',o',h,_⟩
       ·exact h
       ·cases h
      subst l8;obtain rfl:c=0:=hnone rfl;have gP:Hid (eD wr w.heap.size u6 (fB (ps.take (j+1)))):=by show eD _ _ _ _;rw[hs,iR];exact hown
      clear hs hle he hnone hx;go_wp2_with (at_builtin;refine wpList_append_own_none rfl _ _ 64 rfl _ 153 i0 2 underlying64 hi _ _ _ rfl hown rfl ?_);go_roundw
      case rel=>exact⟨j+1,by omega,by go_num,gP.o,hE⟩
      case measure=>simp[intOf];omega
     | some ad =>
      have hnews:∀j u,(ay l)[j]?=some u->wr.cell? (ad.add j)=some u:=by
       intro j' u' hu;rcases he with h|⟨b',o',h,hb,h2⟩
       ·subst h;simp[ay]at hu
       ·injection h with h
        subst h;rw[kU];exact bU.cells (.inr ⟨b',o',rfl,hb,h2⟩) j' u' hu
      have jZ:(fB (ps.take j)).length+l.length<=1000000:=by omega
      have RT:=zH hnews;have HS:=zH hs;obtain⟨P,hP⟩:=ai (fB (ps.take j));rw[<-hP]at jZ hown HS;obtain⟨m,hm⟩:=ai l.length;rw[<-hm]at hc jZ;have HM:=zH hm;unfold eD at hown;clear hnews hs hle he hnone hx hP hm;go_wp2_with (at_builtin;refine rh _ rfl _ _ 64 rfl w.heap.size 153 i0 (.agg #[.string ⟨#[]⟩,()]) 2 24 underlying64 hi hz0 hz1 hz2 rfl (by decide) _ _ _ rfl hown ad m c (ay l) rfl (by rw[dx,HM.o]) RT.o (dZ l) (by unfold maxLen;omega) (by omega) hE.size ?_);intro v' w2 gP hgrow _;have pj:Hid (eD w2 w.heap.size v' (fB (ps.take (j+1)))):=by
       show eD _ _ _ _;unfold eD;rw[HS.o,ft,aZ,<-HM.o];exact gP
      have j0:Ext w w2:=hE.grown hgrow (fun g hg=>(hown.lt g hg).1);clear gP hgrow;go_wp2_with fail;go_roundw
      case rel=>exact⟨j+1,by omega,by go_num,pj.o,j0⟩
      case measure=>simp[intOf];omega
    ·have adP:j=k:=by omega
     subst adP;have ht:Hid (fB (ps.take j)=fB ps):=by show _=_;rw[HQ.o,od]
     clear hlt;go_wp2;go_ret;exact⟨_,rfl,by rw[<-ht.o];exact hown,hE⟩
def numOf (l:List aK) (nm:List UInt8):Int:=if has l nm=true then (l.getD (pos l nm) ([],0)).2 else 0
theorem Es {l:List aK} (hr:jQ l) (h:has l nm=true):∃hp:pos l nm<l.length,(l[pos l nm]'hp).1=nm:=by
 rw[Mp l nm hr]at h;split at h
 ·rename_i hp;exact⟨hp,by simpa using h⟩
 ·cases h
theorem rA (A:Option Addr) (l:List aK) (cap:Nat) (nm:List UInt8) (w:World) (h:bU w A l) (hr:jQ l) (hlen:l.length<=1000000):Calls prog 100 #[.slice A l.length cap,bs nm] w (aO w (.int .i64 (numOf l nm))):=by
 have hf:Hid (numOf l nm=if has l nm=true then (l.getD (pos l nm) ([],0)).2 else 0):=rfl
 cases hh:has l nm
 ·rw [hh]at hf
  have HH:=zH hh;clear hh;go_in;go_wp2_with fail;refine (nA A l cap nm _ h hr hlen).mono ?_;rintro e w1 ⟨rfl,b1⟩;rw[HH.o];go_wp2;go_ret;exact aO.mk (aS (by rw[hf.o];rfl)) b1
 ·rw [hh]at hf
  obtain⟨hp,-⟩:=Es hr hh;obtain⟨p,uf⟩:=ai (pos l nm);have HH:=zH hh;rw[<-uf]at hf;have hpl:p<l.length:=by rw[uf];exact hp
  have HP:=zH uf;clear hh hp uf;obtain⟨n,hn⟩:=ai l.length;have Z9:(p:Int)<(n:Int):=by omega
  have HN:=zH hn;clear hn;go_in;rw[<-HN.o];go_wp2_with fail;rw[HN.o];refine (nA A l cap nm _ h hr hlen).mono ?_;rintro e w1 ⟨rfl,b1⟩;rw[HH.o,<-HP.o,<-HN.o];obtain⟨b,o,rfl,qY,ca,cb⟩:=h.at_ b1 p hpl;have hx:Hid ((l.getD p ([],0)).2=(l[p]).2):=by show _=_;rw[rl,iq hpl];rfl
  generalize l[p]=x at ca cb hx
  go_wp2;go_ret;exact aO.mk (aS (by rw[hf.o,af trivial,hx.o])) b1
def nameOf (l:List aK) (no:Int):Option aK:=l.find? (·.2 == no)
theorem ND (l:List aK) (no:Int) (k:Nat) (hk:k<l.length) (h:∀x∈l.take k,(x.2 == no)=false) (hx:(l[k].2 == no)=true):nameOf l no=some l[k]:=by
 unfold nameOf;have e:l=l.take k++l[k]::l.drop (k+1):=by
  conv=>lhs;rw[<-qE k l,jg hk]
 rw[List.find?_eq_some_iff_append];refine⟨hx,l.take k,l.drop (k+1),e,fun a ha=>by rw[h a ha];rfl⟩
theorem RU (A:Option Addr) (l:List aK) (cap:Nat) (no:Int) (w:World) (h:bU w A l) (hlen:l.length<=1000000):Calls prog 169 #[.slice A l.length cap,no] w (aO w (match nameOf l no with|some x=>.tuple #[bs x.1,.bool true] | none=>.tuple #[.string (bs []),.bool false])):=by
 obtain⟨R,hR⟩:=ai (match nameOf l no with|some x=>Value.tuple #[bs x.1,.bool true] | none=>.tuple #[.string (bs []),.bool false]);rw[<-hR];have HR:=zH hR;clear hR;obtain⟨n,hn⟩:=ai l.length;rw[<-hn]at hlen|-;have HN:=zH hn;clear hn;go_in;go_wp2_with fail;go_loopw [10] (fun i wr=>∃k:Nat,k<=n/\i=.int .i64 k/\Hid (∀x∈l.take k,(x.2 == no)=false)/\Ext w wr) (fun i _=>n-(intOf i).toNat)
 case atStart=>exact⟨0,bC _,rfl,fun x hx=>by simp at hx,Ext.refl _⟩
 case round =>
  obtain⟨k,hk,rfl,ha,hE⟩:=hrel
  by_cases hlt:(k:Int)<n
  ·have dN:k<l.length:=by have:=HN.o;omega
   obtain⟨b,o,rfl,qY,ca,cb⟩:=h.at_ hE k dN
   generalize hx:l[k]=x at ca cb
   have HX:=zH hx
   by_cases he:(x.2 == no)=true
   ·have qd:Hid (R=.tuple #[bs x.1,.bool true]):=by
     show _=_;rw[HR.o,ND l no k dN ha.o (by rw[hx];exact he),hx]
    clear hx;go_wp2;go_ret2;exact aO.mk (by rw[qd.o];rfl) (hE.alloc _)
   ·have oU:(x.2 == no)=false:=by simpa using he
    have Gd:Hid (∀y∈l.take (k+1),(y.2 == no)=false):=by
     show ∀y∈l.take (k+1),(y.2 == no)=false;intro y hy;rw[mC dN,dn]at hy;rcases hy with hy|hy
     ·exact ha.o y hy
     ·rw[ax.1 hy,hx];exact oU
    clear hx he;go_wp2_with fail;go_roundw
    case rel=>exact⟨k+1,by omega,by go_num,Gd,hE.alloc _⟩
    case measure=>simp[intOf];omega
  ·have ut:k=n:=by omega
   have qd:Hid (R=.tuple #[.string (bs []),.bool false]):=by
    show _=_;have bB:nameOf l no=none:=by
     unfold nameOf;rw[sW];intro x hx;have:=ha.o x (by rw[ut,HN.o,od];exact hx);rw[this];decide
    rw[HR.o,bB]
   clear ut;go_wp2;go_ret2;exact aO.mk (by rw[qd.o];rfl) hE
theorem bU.take {w:World} {A:Option Addr} {l:List aK} (h:bU w A l) (k:Nat):bU w A (l.take k):=by
 rcases h with h|⟨b,o,hA,hb,hc⟩
 ·subst h;exact .inl (by simp)
 ·refine .inr ⟨b,o,hA,hb,fun i hi=>?_⟩
  rw[iG]at hi;rw[List.getElem_take];exact hc i (by omega)
theorem bU.drop {w:World} {b o:Nat} {l:List aK} (h:bU w (some ⟨b,o,none⟩) l) (k:Nat):bU w (some ⟨b,o+k*2,none⟩) (l.drop k):=by
 rcases h with h|⟨b',o',hA,hb,hc⟩
 ·subst h;exact .inl (by simp)
 ·injection hA with hA
  injection hA with h1 h2;subst h1 h2;refine .inr ⟨b,o+k*2,rfl,hb,fun i hi=>?_⟩;rw[oh]at hi;rw[RG];have:=hc (k+i) (by omega);rw[show o+k*2+i*2=o+(k+i)*2 by omega];exact this
theorem RV {A1 A2:Option Addr} {c1 c2:Nat} {l1 l2:List aK} (h0:W.cell? (B,0)=some (.slice A1 l1.length c1)) (h1:W.cell? (B,1)=some (.slice A2 l2.length c2)) (e1:bU W A1 l1) (e2:bU W A2 l2) (hB:B<W.heap.size) (z1:A1=none->c1=0) (z2:A2=none->c2=0) :
  Cy W B [(A1,c1,l1),(A2,c2,l2)]:=by
 refine⟨hB,fun i hi=>?_⟩
 match i,hi with
 | 0,_=>exact⟨h0,e1,z1⟩
 | 1,_=>exact⟨h1,e2,z2⟩
theorem eD.base {B':Nat} {l:List aK} (h:eD w B v l) (hB:B'<=B):eD w B' v l:=by
 refine⟨h.1,?_⟩;rcases h.2 with h|⟨g,cap,cur,h1,h2,h3⟩
 ·exact .inl h
 ·exact .inr ⟨g,cap,cur,h1,nk hB h2,h3⟩
def Ge (l:List aK) (nm:List UInt8):List aK:=l.take (pos l nm)++l.drop (pos l nm+1)
def adQ (w:World) (l:List aK) (e:Ending) (w':World):Prop:=∃v,e=.returned (.tuple #[v,.bool true])/\eD w' w.heap.size v l/\Ext w w'
theorem RW (A:Option Addr) (l:List aK) (cap:Nat) (nm:List UInt8) (w:World) (h:bU w A l) (hr:jQ l) (hcap:l.length<=cap) (s3:cap<=maxLen) (hlen:l.length<=1000000) (hh:has l nm=true):Calls prog 199 #[.slice A l.length cap,bs nm] w (adQ w (Ge l nm)):=by
 obtain⟨hp,-⟩:=Es hr hh;obtain⟨p,uf⟩:=ai (pos l nm);have HH:=zH hh;have hpl:p<l.length:=by rw[uf];exact hp
 have hcut:Hid (Ge l nm=l.take p++l.drop (p+1)):=by show _=_;rw[uf];rfl
 have HP:=zH uf;clear hh hp uf;obtain⟨n,hn⟩:=ai l.length;have Z9:(p:Int)<(n:Int):=by omega
 have hnc:n<=cap:=by omega
 have hcm:cap<=9223372036854775807:=by unfold maxLen at s3;omega
 have HN:=zH hn;obtain⟨b,o,rfl,-⟩:=h.at_ (Ext.refl w) p hpl;clear hn hcap s3;go_in;rw[<-HN.o];go_wp2_with fail;rw[HN.o];refine (nA _ l cap nm _ h hr hlen).mono ?_;rintro e w1 ⟨rfl,b1⟩;rw[HH.o,<-HP.o,<-HN.o];have g1:IntKind.i64.wrap ((p:Int)+1)=(p:Int)+1:=aU (by omega) (by omega);have g2:(0:Int)<=(p:Int)+1:=by omega
 have g3:((p:Int)+1).toNat=p+1:=by omega
 go_wp2_with fail;have Et:=b1;have hpc:p<=cap:=by omega
 have adR:(p:Int)+1<=(n:Int):=by omega
 have lt:(l.take p).length=p:=by rw[iG];omega
 have ld:(l.drop (p+1)).length=n-(p+1):=by rw[oh,<-HN.o]
 have RX:(fB [((some ⟨b,o,none⟩:Option Addr),cap,l.take p),(some ⟨b,o+(p+1)*2,none⟩,cap-(p+1),l.drop (p+1))]).length<=1000000:=by
  unfold fB;simp only[yZ,List.flatMap_nil,iR,aZ,lt,ld];have:=HN.o;omega
 have Y6:fB [((some ⟨b,o,none⟩:Option Addr),cap,l.take p),(some ⟨b,o+(p+1)*2,none⟩,cap-(p+1),l.drop (p+1))]=l.take p++l.drop (p+1):=by unfold fB;simp
 have LT:=zH lt;have LD:=zH ld;have HL:=zH RX;have HF:=zH Y6;clear lt ld RX Y6
 by_cases hc1:cap=p+1
 ·have Mr:l.drop (p+1)=[]:=by rw[List.drop_eq_nil_iff,<-HN.o];omega
  obtain rfl:n=p+1:=by omega
  subst hc1;have HD:=zH Mr;clear Mr;have uf:(p:Int)<=(p:Int)+1:=by omega
  have BU:Hid (fB [((some ⟨b,o,none⟩:Option Addr),p+1,l.take p),(some ⟨b,o,none⟩,0,[])]=l.take p++l.drop (p+1)):=by show _=_;rw[HD.o];unfold fB;simp
  have xH:Hid ((fB [((some ⟨b,o,none⟩:Option Addr),p+1,l.take p),(some ⟨b,o,none⟩,0,[])]).length<=1000000):=by show _<=_;rw[BU.o,HD.o,iR,LT.o];have:=HN.o;omega
  clear HL HF LD;go_region_held3 (fun w'=>Ext w w') ((first|exact b1.drew|exact (b1.alloc _).drew|exact b1.drew.alloc _|exact NF))
   ((go_at_call 211;refine (qc _ _ [((some ⟨b,o,none⟩:Option Addr),p+1,l.take p),(some ⟨b,o,none⟩,0,[])] _ (RV (by rw[LT.o];exact (Has.new w1 _).cell 0) ((Has.new w1 _).cell 1) ((h.ext (b1.alloc _).drew).take p) (.inl rfl) (Has.new w1 _).lt (by intro h;cases h) (by intro h;cases h)) xH.o (by show 2<=1000000;omega)).mono ?_;rintro e w2 ⟨v,rfl,ho,b2⟩;have NF:=(b1.alloc _).drew.trans b2))
  go_wp2;go_ret2;exact⟨v,rfl,by rw[hcut.o,<-BU.o];exact ho.base (by have:=b1.size;simp;omega),NF⟩
 ·have yD:decide (cap=p+1)=false:=cG hc1
  go_region_held3 (fun w'=>Ext w w') ((first|exact b1.drew|exact (b1.alloc _).drew|exact b1.drew.alloc _|exact NF))
   ((go_at_call 211;refine (qc _ _ [((some ⟨b,o,none⟩:Option Addr),cap,l.take p),(some ⟨b,o+(p+1)*2,none⟩,cap-(p+1),l.drop (p+1))] _ (RV (by rw[LT.o];exact (Has.new w1 _).cell 0) (by rw[LD.o];exact (Has.new w1 _).cell 1) ((h.ext (b1.alloc _).drew).take p) ((h.ext (b1.alloc _).drew).drop (p+1)) (Has.new w1 _).lt (by intro h;cases h) (by intro h;cases h)) HL.o (by show 2<=1000000;omega)).mono ?_;rintro e w2 ⟨v,rfl,ho,b2⟩;have NF:=(b1.alloc _).drew.trans b2))
  go_wp2;go_ret2;exact⟨v,rfl,by rw[hcut.o,<-HF.o];exact ho.base (by have:=b1.size;simp;omega),NF⟩
theorem RY {A1 A2 A3:Option Addr} {c1 c2 c3:Nat} {l1 l2 l3:List aK} (h0:W.cell? (B,0)=some (.slice A1 l1.length c1)) (h1:W.cell? (B,1)=some (.slice A2 l2.length c2)) (h2:W.cell? (B,2)=some (.slice A3 l3.length c3)) (e1:bU W A1 l1) (e2:bU W A2 l2) (e3:bU W A3 l3) (hB:B<W.heap.size) (z1:A1=none->c1=0) (z2:A2=none->c2=0) (z3:A3=none->c3=0) :
  Cy W B [(A1,c1,l1),(A2,c2,l2),(A3,c3,l3)]:=by
 refine⟨hB,fun i hi=>?_⟩
 match i,hi with
 | 0,_=>exact⟨h0,e1,z1⟩
 | 1,_=>exact⟨h1,e2,z2⟩
 | 2,_=>exact⟨h2,e3,z3⟩
theorem pk {no:Int} (h:Has W B (.cells #[bs nm,no] 153)):bU W (some ⟨B,0,none⟩) [(nm,no)]:=by
 refine .inr ⟨B,0,rfl,h.lt,fun k hk=>?_⟩;obtain rfl:k=0:=by simp at hk;omega
 exact⟨h.cell 0,h.cell 1⟩
def sL (l:List aK) (nm:List UInt8) (no:Int):List aK:=l.take (pos l nm)++(nm,no)::l.drop (pos l nm+if has l nm=true then 1 else 0)
def NG (w:World) (l:List aK) (e:Ending) (w':World):Prop:=∃v,e=.returned v/\eD w' w.heap.size v l/\Ext w w'
theorem WM (A:Option Addr) (l:List aK) (cap:Nat) (nm:List UInt8) (no:Int) (w:World) (h:bU w A l) (hr:jQ l) (hcap:l.length<=cap) (s3:cap<=maxLen) (hlen:l.length<=999999) (hh:has l nm=true):Calls prog 195 #[.slice A l.length cap,bs nm,no] w (NG w (sL l nm no)):=by
 obtain⟨hp,-⟩:=Es hr hh;obtain⟨p,uf⟩:=ai (pos l nm);have HH:=zH hh;have hpl:p<l.length:=by rw[uf];exact hp
 have hcut:Hid (sL l nm no=l.take p++(nm,no)::l.drop (p+1)):=by show _=_;unfold sL;rw[hh,af rfl,uf]
 have HP:=zH uf;clear hh hp uf;obtain⟨n,hn⟩:=ai l.length;have Z9:(p:Int)<(n:Int):=by omega
 have hnc:n<=cap:=by omega
 have hcm:cap<=9223372036854775807:=by unfold maxLen at s3;omega
 have HN:=zH hn;obtain⟨b,o,rfl,-⟩:=h.at_ (Ext.refl w) p hpl;clear hn hcap s3;go_in;rw[<-HN.o];go_wp2_with fail;rw[HN.o];refine (nA _ l cap nm _ h hr (by omega)).mono ?_;rintro e w1 ⟨rfl,b1⟩;rw[HH.o,<-HP.o,<-HN.o];have g1:IntKind.i64.wrap ((p:Int)+1)=(p:Int)+1:=aU (by omega) (by omega);have g2:(0:Int)<=(p:Int)+1:=by omega
 have g3:((p:Int)+1).toNat=p+1:=by omega
 go_wp2_with fail;have hpc:p<=cap:=by omega
 have adR:(p:Int)+1<=(n:Int):=by omega
 have lt:(l.take p).length=p:=by rw[iG];omega
 have LT:=zH lt;clear lt
 by_cases hc1:cap=p+1
 ·have Mr:l.drop (p+1)=[]:=by rw[List.drop_eq_nil_iff,<-HN.o];omega
  obtain rfl:n=p+1:=by omega
  subst hc1;have HD:=zH Mr;clear Mr;have uf:(p:Int)<=(p:Int)+1:=by omega
  have BU:Hid (fB [((some ⟨b,o,none⟩:Option Addr),p+1,l.take p),(some ⟨w1.heap.size,0,none⟩,1,[(nm,no)]),(some ⟨b,o,none⟩,0,[])]=l.take p++(nm,no)::l.drop (p+1)):=by show _=_;rw[HD.o];unfold fB;simp
  have xH:Hid ((fB [((some ⟨b,o,none⟩:Option Addr),p+1,l.take p),(some ⟨w1.heap.size,0,none⟩,1,[(nm,no)]),(some ⟨b,o,none⟩,0,[])]).length<=1000000):=by show _<=_;rw[BU.o,aZ,LT.o,bk,oh];have:=HN.o;omega
  obtain⟨W1,cA⟩:=ai (w1.alloc (.cells #[bs nm,no] 153));have zL:Has W1 w1.heap.size (.cells #[bs nm,no] 153):=by rw[cA];exact Has.new _ _
  have X1:Ext w W1:=by rw[cA];exact b1.alloc _
  have z1:W1.heap.size=w1.heap.size+1:=by rw[cA];simp
  have HW:=zH cA;have HZ:=zH z1;clear cA z1;go_region_held3 (fun w'=>Ext w w') ((first|exact b1.drew|exact (b1.alloc _).drew|exact ((b1.alloc _).alloc _).drew|exact NF))
   ((go_at_call 211;rw[<-HW.o,<-HZ.o];refine (qc _ _ [((some ⟨b,o,none⟩:Option Addr),p+1,l.take p),(some ⟨w1.heap.size,0,none⟩,1,[(nm,no)]),(some ⟨b,o,none⟩,0,[])] _ (RY (by rw[LT.o];exact (Has.new W1 _).cell 0) ((Has.new W1 _).cell 1) (by exact (Has.new W1 _).cell 2) ((h.ext (X1.alloc _).drew).take p) (pk (zL.ext ((Ext.refl _).alloc _).drew)) (.inl rfl) (Has.new W1 _).lt (by intro h;cases h) (by intro h;cases h) (by intro h;cases h)) xH.o (by show 3<=1000000;omega)).mono ?_;rintro e w2 ⟨v,rfl,ho,b2⟩;have NF:=(X1.alloc _).drew.trans b2))
  go_wp2;go_ret;exact⟨v,rfl,by rw[hcut.o,<-BU.o];exact ho.base (by have:=X1.size;simp;omega),NF⟩
 ·have yD:decide (cap=p+1)=false:=cG hc1
  have ld:(l.drop (p+1)).length=n-(p+1):=by rw[oh,<-HN.o]
  have LD:=zH ld;clear ld;have BU:Hid (fB [((some ⟨b,o,none⟩:Option Addr),cap,l.take p),(some ⟨w1.heap.size,0,none⟩,1,[(nm,no)]),(some ⟨b,o+(p+1)*2,none⟩,cap-(p+1),l.drop (p+1))]=l.take p++(nm,no)::l.drop (p+1)):=by show _=_;unfold fB;simp
  have xH:Hid ((fB [((some ⟨b,o,none⟩:Option Addr),cap,l.take p),(some ⟨w1.heap.size,0,none⟩,1,[(nm,no)]),(some ⟨b,o+(p+1)*2,none⟩,cap-(p+1),l.drop (p+1))]).length<=1000000):=by show _<=_;rw[BU.o,aZ,LT.o,bk,oh];have:=HN.o;omega
  obtain⟨W1,cA⟩:=ai (w1.alloc (.cells #[bs nm,no] 153));have zL:Has W1 w1.heap.size (.cells #[bs nm,no] 153):=by rw[cA];exact Has.new _ _
  have X1:Ext w W1:=by rw[cA];exact b1.alloc _
  have z1:W1.heap.size=w1.heap.size+1:=by rw[cA];simp
  have HW:=zH cA;have HZ:=zH z1;clear cA z1;go_region_held3 (fun w'=>Ext w w') ((first|exact b1.drew|exact (b1.alloc _).drew|exact ((b1.alloc _).alloc _).drew|exact NF))
   ((go_at_call 211;rw[<-HW.o,<-HZ.o];refine (qc _ _ [((some ⟨b,o,none⟩:Option Addr),cap,l.take p),(some ⟨w1.heap.size,0,none⟩,1,[(nm,no)]),(some ⟨b,o+(p+1)*2,none⟩,cap-(p+1),l.drop (p+1))] _ (RY (by rw[LT.o];exact (Has.new W1 _).cell 0) ((Has.new W1 _).cell 1) (by rw[LD.o];exact (Has.new W1 _).cell 2) ((h.ext (X1.alloc _).drew).take p) (pk (zL.ext ((Ext.refl _).alloc _).drew)) ((h.ext (X1.alloc _).drew).drop (p+1)) (Has.new W1 _).lt (by intro h;cases h) (by intro h;cases h) (by intro h;cases h)) xH.o (by show 3<=1000000;omega)).mono ?_;rintro e w2 ⟨v,rfl,ho,b2⟩;have NF:=(X1.alloc _).drew.trans b2))
  go_wp2;go_ret;exact⟨v,rfl,by rw[hcut.o,<-BU.o];exact ho.base (by have:=X1.size;simp;omega),NF⟩
theorem NH (A:Option Addr) (l:List aK) (cap:Nat) (w:World) (h:bU w A l) (hnone:A=none->cap=0) (hlen:l.length<=1000000):Calls prog 213 #[.slice A l.length cap] w (NG w l):=by
 obtain⟨n,hn⟩:=ai l.length;have HN:=zH hn
 cases A with
 | none =>
  have l8:l=[]:=by
   rcases h with h|⟨b',o',h,_⟩
   ·exact h
   ·cases h
  subst l8;obtain rfl:cap=0:=hnone rfl;clear hnone hn HN;have e0:∀w,(binOp .eql 64 (.slice none 0 0) (.slice none 0 0)).run prog w=.ok (.bool true) w:=fun w=>Lib.run_eql_slice_nil w _ _ none 0 0 0 0 underlying64
  show Calls _ _ #[.slice none 0 0] _ _;go_in;go_wp2;go_ret;exact⟨_,rfl,⟨rfl,.inl ⟨rfl,rfl⟩⟩,Ext.refl _⟩
 | some ad =>
  rw[<-hn]at hlen|-;clear hnone hn;obtain⟨i0,hi,hz0,hz1,hz2⟩:=jj kX;have e0:∀w,(binOp .eql 64 (.slice (some ad) n cap) (.slice none 0 0)).run prog w=.ok (.bool false) w:=fun w=>Lib.run_eql_slice_nil w _ _ (some ad) n cap 0 0 underlying64
  go_in;have hown:(w.alloc (.cells #[] 153)).ownsRow w.heap.size 153 2 (.slice (some w.heap.size) 0 0) 0 []:=⟨rfl,.inr ⟨w.heap.size,0,#[],rfl,aE _,Has.new w _,aE _,by decide,rfl,rfl⟩⟩;have ww:∀j u,(ay l)[j]?=some u->(w.alloc (.cells #[] 153)).cell? (ad.add j)=some u:=by
   intro j u hu;rcases h.ext ((Ext.refl w).alloc (.cells #[] 153)) with h|⟨b',o',h,hb,h2⟩
   ·subst h;simp[ay]at hu
   ·injection h with h
    subst h;rw[kU];exact bU.cells (.inr ⟨b',o',rfl,hb,h2⟩) j u hu
  have HO:=zH hown;have HE:=zH ww;clear hown ww;go_wp2_with (at_builtin;refine rh _ rfl _ _ 64 rfl w.heap.size 153 i0 (.agg #[.string ⟨#[]⟩,()]) 2 24 underlying64 hi hz0 hz1 hz2 rfl (by decide) _ _ _ rfl HO.o ad n cap (ay l) rfl (by rw[dx,HN.o]) HE.o (dZ l) (by unfold maxLen;omega) (by omega) (by simp) ?_);intro v' w2 gP hgrow _;have pj:Hid (eD w2 w.heap.size v' l):=by
   show eD _ _ _ _;unfold eD;have h3:w2.ownsRow w.heap.size 153 2 v' n (ay l):=gP;rw[HN.o]at h3;exact h3
  have j0:Ext w w2:=((Ext.refl w).alloc _).grown hgrow (fun g hg=>(HO.o.lt g hg).1);clear gP hgrow;go_wp2;go_ret;exact⟨_,rfl,pj.o,j0⟩
theorem mN (w:World) (dT sT ty elem:TypeId) (g o abO adS:Nat) (a:Addr) (sLen sCap n:Nat) (cur:Array Value) (t:TypeId) (cs:List Value)
  (hu:P.underlying dT=some (.slice elem)) (hs:(P.info? elem).map (·.size)=some 2)
  (hg:w.heap[g]?=some (.cells cur t (0,0))) (hn:n=Nat.min sLen abO) (hl:cs.length=n*2)
  (adT:∀j v,cs[j]?=some v->w.cell? (a.add j)=some v) (hfit:o+cs.length<=cur.size) (h1:∀v∈cs,v.oneCell'=true) :
  (Builtin.copy_ #[dT,sT] ty #[.slice (some ⟨g,o,none⟩) abO adS,.slice (some a) sLen sCap]).run P w =
   .ok (goInt n) (w.setRow g (cur.toList.take o++cs++cur.toList.drop (o+cs.length)).toArray):=by
 have xH:=run_loadCells_list (P:=P) w a cs adT;have hst:=run_storeCells_at P g o t cs 0 cur w hg (by simpa using hfit) h1;rw[hl]at xH
 cases hq:P.info? elem with
 | none=>simp[hq]at hs
 | some i =>
  have hi:i.size=2:=by simpa [hq]using hs
  simp[Builtin.copy_,mD hu,Builtin.lenOf,Builtin.firstCells,sizeOf,typeInfo,hq,hi,<-hn,xH,hst]
theorem xI (w:World) {o:Oper} {a:Act} {K:Act->World->Prop} {Q:Exit->Act->World->Prop} (d s:Operand) (t t':TypeId)
  (ho:o.op=.call {callee:=.builtin .copy,args:=#[d,s],argTypes:=#[t,t']}) (v u:Value) (hd:a.eval d=v) (hs:a.eval s=u)  
  (hr:(Builtin.copy_ #[t,t'] o.type #[v,u]).run P w=.ok v' w') (h:K (a.put o.dst v') w'):o.wp P a w K Q:=by
 unfold Oper.wp execOp;simp only[ho,resolve,invoke,builtin,nr,o7,rn,RH,dM,Ml,hd,hs,hr];exact h
theorem pn (w:World) {ops:Array Oper} {rest:List Oper} {o:Oper} {a:Act} {Q:Exit->Act->World->Prop} (hgd:o.guard=none) (d s:Operand) (t t':TypeId)
  (ho:o.op=.call {callee:=.builtin .copy,args:=#[d,s],argTypes:=#[t,t']}) (v u:Value) (hd:a.eval d=v) (hs:a.eval s=u)  
  (hr:(Builtin.copy_ #[t,t'] o.type #[v,u]).run P w=.ok v' w') (h:wpList P ops Q rest (a.put o.dst v') w'):wpList P ops Q (o::rest) a w:=
 wpList_plain hgd fun _ hK=>xI w d s t t' ho v u hd hs hr (hK _ _ h)
theorem rB {ops:Array Oper} {o:Oper} {a:Act} {K:Act->World->Prop} {Q:Exit->Act->World->Prop} {E:Prop}
  (hg:o.guard=none) (d x:Operand) (dT sT:TypeId) (hop:o.op=Op.call {callee:=Callee.builtin Builtin.copy,args:=#[d,x],argTypes:=#[dT,sT]})
  (v u:Value) (hd:a.eval d=v) (hx:a.eval x=u) (hr:(Builtin.copy_ #[dT,sT] o.type #[v,u]).run P w=.ok v' w') (hK:K (a.put o.dst v') w') :
  if Region.wanted o (yielded ops a.tmps)=true then Oper.wp P o a w K Q else E:=by
 have hw:Region.wanted o (yielded ops a.tmps)=true:=by simp[Region.wanted,hg]
 rw[af hw];exact xI w d x dT sT hop v u hd hx hr hK
def wy (l:List aK) (p:Nat) (x:aK):List aK:=l.take p++x::l.drop p
def WN (B:Nat) (w:World) (l:List aK) (e:Ending) (w':World):Prop:=∃v,e=.returned v/\eD w' B v l/\Below B w w'
theorem JN (B vb:Nat) (v:Value) (l:List aK) (x:aK) (w:World) (ho:eD w B v l) (hB:B<=w.heap.size) (hx:Has w vb (.cells #[bs x.1,x.2] 153)) (hlen:l.length<=999999):Calls prog 212 #[v,l.length,.slice (some vb) 1 1] w (WN B w (l++[x])):=by
 obtain⟨A,c,rfl,hc,hcm,he⟩:=ho.at_;obtain⟨n,hn⟩:=ai l.length;have HO:Hid (w.ownsRow B 153 2 (.slice A n c) n (ay l)):=by rw[hn];exact ho
 rw[<-hn]at hc hlen|-;have HN:=zH hn;have hcm2:c<=9223372036854775807:=by unfold maxLen at hcm;omega
 obtain ⟨i0,hi,hz0,hz1,hz2⟩:=jj kX;have hnews:∀j u,(ay [x])[j]?=some u->w.cell? ((⟨vb,0,none⟩:Addr).add j)=some u:=by
  intro j u hu;rw[kU];exact bU.cells (pk hx) j u hu
 have RT:=zH hnews;clear hn hcm ho he hnews;go_in;go_wp2_with (at_builtin;refine rh _ rfl _ _ 64 rfl B 153 i0 (.agg #[.string ⟨#[]⟩,()]) 2 24 underlying64 hi hz0 hz1 hz2 rfl (by decide) _ _ _ rfl HO.o ⟨vb,0,none⟩ 1 1 (ay [x]) rfl rfl RT.o (dZ [x]) (by unfold maxLen;omega) (by omega) hB ?_)
 all_goals
  intro v' w2 gP hgrow _;have pj:Hid (eD w2 B v' (l++[x])):=by
   show w2.ownsRow B 153 2 v' (l++[x]).length (ay (l++[x]));rw[ft,aZ,<-HN.o];exact gP
  have j0:Below B w w2:=(DP B w).grown hgrow hB (fun g hg=>(HO.o.lt g (by first|exact hg|(rw[‹c=n›];exact hg))).1);clear gP hgrow;go_wp2;go_ret;exact⟨_,rfl,pj.o,j0⟩
theorem NI {R C1 X C2:List Value} {p n:Nat} (h1:C1.length=p*2) (hx:X.length=2) (h2:C2.length=(n-p)*2) (hp:p<=n) (hR:R.take (p*2)=C1) (hl:(n+1)*2<=R.length) :
  ∀ R2 R3,R2=R.take (p*2)++X++R.drop (p*2+X.length)->R3=R2.take ((p+1)*2)++C2++R2.drop ((p+1)*2+C2.length)->R2.length=R.length/\R3.length=R.length/\R3.take ((n+1)*2)=C1++X++C2:=by
 rintro R2 R3 e2 e3;have l2:R2.length=R.length:=by rw[e2];simp;omega
 have t2:R2.take ((p+1)*2)=C1++X:=by
  rw[e2,hR,Cv (by simp;omega),lw (by simp;omega)]
 refine⟨l2,by rw[e3];simp;omega,?_⟩;rw[e3,t2,Cv (by simp;omega),lw (by simp;omega)]
theorem NJ {R C1 X C2:List Value} {p n:Nat} (h1:C1.length=p*2) (hx:X.length=2) (h2:C2.length=(n-p)*2) (hp:p<=n) (hR:R.take (p*2)=C1) (hl:(n+1)*2<=R.length) :
  ∀ R2 R3,R2=R.take ((p+1)*2)++C2++R.drop ((p+1)*2+C2.length)->R3=R2.take (p*2)++X++R2.drop (p*2+X.length)->R2.length=R.length/\R3.length=R.length/\R3.take ((n+1)*2)=C1++X++C2:=by
 rintro R2 R3 e2 e3;have l2:R2.length=R.length:=by rw[e2];simp;omega
 have lt:(R.take ((p+1)*2)).length=(p+1)*2:=by rw[iG];omega
 have t2:R2.take (p*2)=C1:=by
  rw[e2,l6,Cv (by omega),FY,Nat.min_eq_left (by omega),hR]
 have d2:R2.drop (p*2+X.length)=C2++R.drop ((p+1)*2+C2.length):=by
  rw[e2,l6,hx,RI (by omega),List.drop_of_length_le (by omega),jG]
 refine⟨l2,by rw[e3];simp;omega,?_⟩;rw[e3,t2,d2,<-l6,Cv (by simp;omega),lw (by simp;omega)]
theorem uu (l:List aK) (p:Nat) (x:aK):ay (wy l p x)=ay (l.take p)++ay [x]++ay (l.drop p):=by
 unfold wy;rw[show x::l.drop p=[x]++l.drop p from rfl,ft,ft,l6]
theorem uv (l:List aK) (p:Nat) (x:aK) (h:p<=l.length):(wy l p x).length=l.length+1:=by
 unfold wy;simp;omega
theorem s8 (l:List aK) (p:Nat):(ay l).take (p*2)=ay (l.take p):=by
 conv=>lhs;rw[<-qE p l,ft]
 have:(ay (l.take p)).length<=p*2:=by rw[dx,iG];omega
 rcases lq l.length p with h|h
 ·rw [List.drop_of_length_le (by omega)]
  show List.take (p*2) (_++[])=_;rw[iR,lw this]
 ·rw[Cv (by rw[dx,iG];omega),lw this]
theorem mO {g:Nat} {w0:World} (hb:Below B w0 w) (hBg:B<=g) (cs:Array Value):Below B w0 (w.setRow g cs):=
 hb.trans ⟨rfl,rfl,rfl,by simp[World.setRow],fun k hk=>setRow_other w g k cs (by omega)⟩
theorem yE:(prog.info? 153).map (·.size)=some 2:=by kernel_rfl
theorem Gf (B vb g c p:Nat) (l:List aK) (x:aK) (w:World) (ho:eD w B (.slice (some g) l.length c) l) (hB:B<=w.heap.size) (hx:Has w vb (.cells #[bs x.1,x.2] 153)) (hp:p<l.length) (hlen:l.length<=999999) (hroom:c<l.length+1):Calls prog 212 #[.slice (some g) l.length c,p,.slice (some vb) 1 1] w (WN B w (wy l p x)):=by
 obtain ⟨A',c',hv,hc,hcm,he⟩:=ho.at_;injection hv with hA hn' NK;subst hA NK;obtain⟨n,hn⟩:=ai l.length;obtain⟨i0,hi,hz0,hz1,hz2⟩:=jj kX;have hgw:g<w.heap.size:=by
  rcases he with h|⟨b',o',h,hb,_⟩
  ·rw[h]at hp;simp at hp
  ·injection h with h;injection h with h1 h2;omega
 have hBg:B<=g:=(ho.lt g rfl).1;have hcl:=he.cells;have po:=he.drop p;rw[<-hn]at hc hlen hroom hp|-;obtain rfl:c=n:=by omega
 have HN:=zH hn;have hold:(Builtin.firstCells i0.size p (.slice (some g) p c)).run prog w.drew=.ok (ay (l.take p)).toArray w.drew:=by
  rw[hz1];refine run_firstCells_some w.drew 2 p ⟨g,0,none⟩ p c (ay (l.take p)) (by rw[dx,iG];omega) (fun j v hj=>?_);rw[kU];refine hcl j v ?_;rw[<-s8,List.getElem?_take]at hj;split at hj
  ·exact hj
  ·cases hj
 have hrz:=fun ty=>Lib.run_append_grow_zeros w 64 3 ty 153 i0 _ .i64 .i64 underlying64 underlying3 hi hz0 (some ⟨g,0,none⟩) p c (ay (l.take p)) hold (c+1-p) (by omega) (by omega) (by omega) (by omega) (by rw[hz2];omega) (by rw[hz2,show p+(c+1-p)=c+1 by omega];exact growslice_fits (by omega) (by omega))
 have hik:p+(c+1-p)=c+1:=by omega
 rw[hik]at hrz;have hge:=grownCap_ge w (c+1) c 153;have hle:=grownCap_le_maxLen w (c+1) c 153 (by unfold maxLen;omega)
 generalize grownCap w (c+1) c 153=G at hrz hge hle
 have afD:G<=9223372036854775807:=by unfold maxLen at hle;omega
 obtain⟨R,hR⟩:∃R:Array Value,R=(ay (l.take p)).toArray++Builtin.zeroCells (Value.agg #[.string ⟨#[]⟩,()]).cells (c+1-p)++Builtin.zeroCells (Value.agg #[.string ⟨#[]⟩,()]).cells (G-(c+1)):=⟨_,rfl⟩;obtain⟨W1,cA⟩:=ai (w.drew.alloc (.cells R 153));rw[<-hR,<-cA]at hrz;have rC:(c:Int)+1-(p:Int)=((c+1-p:Nat):Int):=by omega
 have E1:Ext w W1:=by rw[cA];exact ((Ext.refl _).drew).alloc _
 have j_:Has W1 w.heap.size (.cells R 153):=by rw[cA];exact Has.new w.drew _
 have Ms:R.size=G*2:=by
  rw[hR,RF,RF,kY,kY];simp only[lA,dx,iG];show _+(c+1-p)*2+(G-(c+1))*2=_;omega
 have hRt:R.toList.take (p*2)=ay (l.take p):=by
  rw[hR];have hl:(ay (l.take p)).length=p*2:=by rw[dx,iG];omega
  rw[Array.toList_append,Array.toList_append,l6,Cv (by simp;omega),lw (by simp;omega)]
 have Z_:=hx.ext E1;have JO:=fun ty dc=>mN (P:=prog) W1 64 64 ty 153 w.heap.size (p*2) (c+1-p) dc ⟨vb,0,none⟩ 1 1 1 R 153 (ay [x]) underlying64 yE j_ (by simp only[Mm];split<;>omega) rfl
  (fun j u hu=>by rw[kU];exact bU.cells (pk Z_) j u hu) (by show p*2+2<=R.size;rw[Ms];omega) (dZ [x])
 obtain⟨R2,WO⟩:∃R2:List Value,R2=R.toList.take (p*2)++ay [x]++R.toList.drop (p*2+(ay [x]).length):=⟨_,rfl⟩;obtain⟨W2,dp⟩:=ai (W1.setRow w.heap.size R2.toArray);simp only[<-WO,<-dp]at JO;have hb2:Has W2 w.heap.size (.cells R2.toArray 153):=by rw[dp];exact setRow_heap W1 w.heap.size R R2.toArray 153 (0,0) j_
 have E2:Below B w W2:=by rw[dp];exact mO (Below.mono E1 hB) hB _
 have abP:bU W2.drew (some ⟨g,0+p*2,none⟩) (l.drop p):=by
  rw[dp];rcases po.ext E1 with h|⟨b',o',h,hb,h2⟩
  ·exact .inl h
  ·injection h with h;injection h with q1 q2
   subst q1 q2;refine .inr ⟨_,_,rfl,by simpa using hb,fun k hk=>?_⟩;have:=h2 k hk;rw[<-cell_setRow_other W1 w.heap.size R2.toArray ⟨g,0+p*2+k*2,none⟩ (by show g≠_;omega),<-cell_setRow_other W1 w.heap.size R2.toArray ⟨g,0+p*2+k*2+1,none⟩ (by show g≠_;omega)]at this;exact this
 have mP:(ay (l.drop p)).length=(c-p)*2:=by rw[dx,oh,<-hn]
 have jZ:(ay (l.take p)).length=p*2:=by rw[dx,iG];omega
 have JP:=fun ty dc sc=>mN (P:=prog) W2.drew 64 64 ty 153 w.heap.size ((p+1)*2) (c+1-(p+1)) dc ⟨g,p*2,none⟩ (c-p) sc (c-p) R2.toArray 153 (ay (l.drop p)) underlying64 yE hb2 (by simp only[Mm];split<;>omega) mP
  (fun j u hu=>by rw[kU];have:=bU.cells abP j u hu;rwa [eY]at this) (by
   rw[mP];have:R2.length=R.toList.length:=by rw[WO];simp;rw[Ms];show _+(2+(_-(_+2)))=_;omega
   simp only[lA,this,xG,Ms];omega) (dZ _)
 obtain⟨R3,hR3⟩:∃R3:List Value,R3=R2.take ((p+1)*2)++ay (l.drop p)++R2.drop ((p+1)*2+(ay (l.drop p)).length):=⟨_,rfl⟩;obtain⟨W3,cJ⟩:=ai (W2.drew.setRow w.heap.size R3.toArray);simp only[<-hR3,<-cJ]at JP;have qZ:Has W3 w.heap.size (.cells R3.toArray 153):=by rw[cJ];exact setRow_heap W2.drew w.heap.size R2.toArray R3.toArray 153 (0,0) hb2
 have E3:Below B w W3:=by rw[cJ];exact mO (Below.drew E2) hB _
 obtain ⟨k1,k2,k3⟩:=NI jZ (show (ay [x]).length=2 from rfl) mP (by omega) hRt (by rw[xG,Ms];omega) R2 R3 WO hR3;have oK:Hid (eD W3 B (.slice (some w.heap.size) (c+1) G) (wy l p x)):=by
  show eD _ _ _ _;unfold eD;rw[uv l p x (by omega),<-hn];refine⟨by rw[dx,uv l p x (by omega),<-hn],.inr ⟨w.heap.size,G,R3.toArray,rfl,hB,qZ,hge,hle,?_,?_⟩⟩
  ·simp only[lA,k2,xG,Ms]
  ·rw[uu];exact k3
 have RZ:=zH E3;simp only[<-rC]at hrz;have HRZ:=zH hrz;have HCA:=zH JO;have HCB:=zH JP;have g1:IntKind.i64.wrap ((p:Int)+1)=(p:Int)+1:=aU (by omega) (by omega);have g2:(0:Int)<=(p:Int)+1:=by omega
 have g3:((p:Int)+1).toNat=p+1:=by omega
 have hGi:¬(G=p):=by omega
 have afE:¬(G=p+1):=by omega
 have hci:¬(c=p):=by omega
 have hpc:(p:Int)<=(c:Int):=by omega
 have hne:¬((p:Int)=(c:Int)):=by omega
 clear ho hn hR Ms hRt cA j_ Z_ JO WO dp hb2 E2 abP mP jZ JP hR3 cJ qZ E3 k1 k2 k3 hrz hold hik po hcl he E1 hx hn' rC hle;go_in;go_wp2_with (first
  | (at_builtin;refine nj _ rfl _ _ 64 3 rfl _ _ rfl rfl _ _ (HRZ.o _) ?_)
  | (with_reducible refine pn _ rfl (.tmp 43) (.tmp 44) 64 64 rfl _ _ rfl rfl (HCA.o _ _) ?_))
 go_region_law (refine rB rfl _ _ 64 64 rfl (.slice (some ⟨w.heap.size,(p+1)*2,none⟩) (c+1-(p+1)) (G-(p+1))) (.slice (some ⟨g,p*2,none⟩) (c-p) (c-p)) (by simp[Act.eval,Act.put]) (by simp[Act.eval,Act.put]) (HCB.o _ _ _) ?_);go_wp2;go_ret;exact⟨_,rfl,oK.o,RZ.o⟩
theorem Cz (h:Has w b (.cells C t fr)):w.shape? b=some (t,C.size):=by
 unfold Has at h;simp[World.shape?,h]
theorem Gg (B vb g c p:Nat) (l:List aK) (x:aK) (w:World) (ho:eD w B (.slice (some g) l.length c) l) (hB:B<=w.heap.size) (hx:Has w vb (.cells #[bs x.1,x.2] 153)) (hvg:vb≠g) (hp:p<l.length) (hlen:l.length<=999999) (hroom:l.length+1<=c):Calls prog 212 #[.slice (some g) l.length c,p,.slice (some vb) 1 1] w (WN B w (wy l p x)):=by
 obtain ⟨A',c',hv,hc,hcm,he⟩:=ho.at_;injection hv with hA hn' NK;subst hA NK;obtain⟨n,hn⟩:=ai l.length;have hBg:B<=g:=(ho.lt g rfl).1;obtain⟨R,hbR,Ms,hRt⟩:∃R:Array Value,Has w g (.cells R 153)/\R.size=c*2/\R.toList.take (l.length*2)=ay l:=by
  rcases ho.2 with⟨h,_⟩|⟨g',cap,cur,h,_,hg,_,_,hs,ht⟩
  ·cases h
  ·injection h with h1 h2 h3
   injection h1 with h1;injection h1 with h1;subst h1 h3;exact⟨cur,hg,hs,ht⟩
 have po:=he.drop p;rw[<-hn]at hc hlen hroom hp hRt|-;have HN:=zH hn;have hRp:R.toList.take (p*2)=ay (l.take p):=by
  rw[<-s8,<-hRt,FY,Nat.min_eq_left (by omega)]
 have mP:(ay (l.drop p)).length=(n-p)*2:=by rw[dx,oh,<-hn]
 have jZ:(ay (l.take p)).length=p*2:=by rw[dx,iG];omega
 have hgw:=hbR.lt;have zM:∀W,W=w->∀lb cb,(callFunc 223 #[.slice (some vb) 1 1,.slice (some ⟨g,(p+1)*2,none⟩) lb cb]).run prog W=.ok (.value (.bool false)) W:=fun W hW lb cb=>by
  subst hW;rw[run_callFunc_extern func223 (by kernel_rfl) (by kernel_rfl) (by kernel_rfl) (e:=Extern.SlicesOverlaps.overlaps #[64,64] #[4]) (by kernel_rfl),
   Lib.run_overlaps_apart _ 64 4 153 underlying64 2 sizeOf153 ⟨vb,0,none⟩ ⟨g,(p+1)*2,none⟩ 1 1 lb cb hvg _ _ _ _ (Cz hx) (Cz hbR) (by rw[Ms];omega) (hx.free 0) (hx.free 2)]
  rfl
 have JO:=fun ty dc sc=>mN (P:=prog) w.drew 64 64 ty 153 g ((p+1)*2) (n-p) dc ⟨g,p*2,none⟩ (n+1-p) sc (n-p) R 153 (ay (l.drop p)) underlying64 yE hbR (by simp only[Mm];split<;>omega) mP
  (fun j u hu=>by rw[kU];have:=bU.cells po j u hu;rwa [eY]at this) (by rw[mP,Ms];omega) (dZ _)
 obtain⟨R2,WO⟩:∃R2:List Value,R2=R.toList.take ((p+1)*2)++ay (l.drop p)++R.toList.drop ((p+1)*2+(ay (l.drop p)).length):=⟨_,rfl⟩;obtain⟨W2,dp⟩:=ai (w.drew.setRow g R2.toArray);simp only[<-WO,<-dp]at JO;have hb2:Has W2 g (.cells R2.toArray 153):=by rw[dp];exact setRow_heap w.drew g R R2.toArray 153 (0,0) hbR
 have E2:Below B w W2:=by rw[dp];exact mO (Below.drew (DP B w)) hBg _
 have hX2:Has W2 vb (.cells #[bs x.1,x.2] 153):=by
  rw[dp];unfold Has;rw[setRow_other w.drew g vb R2.toArray hvg];exact hx
 have abQ:R2.length=c*2:=by rw[WO];simp only[aZ,iG,oh,xG,Ms,mP];omega
 have JP:=fun ty dc=>mN (P:=prog) W2 64 64 ty 153 g (p*2) (n+1-p) dc ⟨vb,0,none⟩ 1 1 1 R2.toArray 153 (ay [x]) underlying64 yE hb2 (by simp only[Mm];split<;>omega) rfl
  (fun j u hu=>by rw[kU];exact bU.cells (pk hX2) j u hu) (by simp only[lA,abQ];show p*2+2<=_;omega) (dZ [x])
 obtain⟨R3,hR3⟩:∃R3:List Value,R3=R2.take (p*2)++ay [x]++R2.drop (p*2+(ay [x]).length):=⟨_,rfl⟩;obtain⟨W3,cJ⟩:=ai (W2.setRow g R3.toArray);simp only[<-hR3,<-cJ]at JP;have qZ:Has W3 g (.cells R3.toArray 153):=by rw[cJ];exact setRow_heap W2 g R2.toArray R3.toArray 153 (0,0) hb2
 have E3:Below B w W3:=by rw[cJ];exact mO E2 hBg _
 obtain ⟨k1,k2,k3⟩:=NJ jZ (show (ay [x]).length=2 from rfl) mP (by omega) hRp (by rw[xG,Ms];omega) R2 R3 WO hR3;have oK:Hid (eD W3 B (.slice (some g) (n+1) c) (wy l p x)):=by
  show eD _ _ _ _;unfold eD;rw[uv l p x (by omega),<-hn];refine⟨by rw[dx,uv l p x (by omega),<-hn],.inr ⟨g,c,R3.toArray,rfl,hBg,qZ,hroom,hcm,?_,?_⟩⟩
  ·simp only[lA,k2,xG,Ms]
  ·rw[uu];exact k3
 have RZ:=zH E3;have HCA:=zH JO;have HCB:=zH JP;have adU:=fun lb cb=>zM w rfl lb cb
 have g1:IntKind.i64.wrap ((p:Int)+1)=(p:Int)+1:=aU (by omega) (by omega);have g2:(0:Int)<=(p:Int)+1:=by omega
 have g3:((p:Int)+1).toNat=p+1:=by omega
 have V6:¬(c=p):=by omega
 have afF:¬(c=p+1):=by omega
 have Z9:(p:Int)<=(n:Int)+1:=by omega
 have afG:p<=n:=by omega
 have afH:p<=n+1:=by omega
 have hne:¬((p:Int)=(n:Int)):=by omega
 have NK:c<=9223372036854775807:=by unfold maxLen at hcm;omega
 clear ho hn hbR Ms hRt hx zM JO WO dp hb2 E2 hX2 abQ JP hR3 cJ qZ E3 k1 k2 k3 po mP jZ hRp he hn' hcm;go_in;go_wp2_with (simp only[adU]);go_region_law (refine rB rfl _ _ 64 64 rfl (.slice (some ⟨g,(p+1)*2,none⟩) (n-p) (c-(p+1))) (.slice (some ⟨g,p*2,none⟩) (n+1-p) (c-p)) (by simp[Act.eval,Act.put]) (by simp[Act.eval,Act.put]) (HCA.o _ _ _) ?_);go_wp2_with (with_reducible refine pn _ rfl (.tmp 80) (.tmp 81) 64 64 rfl _ _ rfl rfl (HCB.o _ _) ?_);go_ret;exact⟨_,rfl,oK.o,RZ.o⟩
theorem Ext.trans' {a b c:World} (h:Ext a b) (k:Below a.heap.size b c):Ext a c:=Jq h k
theorem eD.keep {l:List aK} (h:eD w B v l) (k:Ext w w'):eD w' B v l:=
 qF (row:=none) h ⟨k.os,k.tape,k.output,k.size,fun j hj _=>yX k j hj⟩ (by cases v.ownBlock<;>simp)
theorem JQ (B vb p:Nat) (v:Value) (l:List aK) (x:aK) (w:World) (ho:eD w B v l) (hB:B<=w.heap.size) (hx:Has w vb (.cells #[bs x.1,x.2] 153)) (hvb:v.ownBlock≠some vb) (hp:p<=l.length) (hlen:l.length<=999999):Calls prog 212 #[v,p,.slice (some vb) 1 1] w (WN B w (wy l p x)):=by
 by_cases he:p=l.length
 ·subst he
  have:wy l l.length x=l++[x]:=by unfold wy;rw[od,uo]
  rw[this];exact JN B vb v l x w ho hB hx hlen
 ·obtain ⟨g,c,rfl⟩:∃g c,v=.slice (some ⟨g,0,none⟩) l.length c:=by
   rcases ho.2 with⟨_,h0⟩|⟨g,cap,_,h,_⟩
   ·omega
   ·exact⟨g,cap,h⟩
  have hvg:vb≠g:=fun e=>hvb (by rw[e];rfl)
  by_cases hr:c<l.length+1
  ·exact Gf B vb g c p l x w ho hB hx (by omega) hlen hr
  ·exact Gg B vb g c p l x w ho hB hx hvg (by omega) hlen (by omega)
theorem aaa (A:Option Addr) (l:List aK) (cap:Nat) (nm:List UInt8) (no:Int) (w:World) (h:bU w A l) (hnone:A=none->cap=0) (hr:jQ l) (hlen:l.length<=999999) (hh:has l nm=false):Calls prog 195 #[.slice A l.length cap,bs nm,no] w (NG w (sL l nm no)):=by
 have hcut:Hid (sL l nm no=wy l (pos l nm) (nm,no)):=by show _=_;unfold sL wy;rw[hh];rfl
 have hpl:=RP l nm;have HH:=zH hh;clear hh;go_in;go_wp2_with fail;refine (nA _ l cap nm _ h hr (by omega)).mono ?_;rintro e w1 ⟨rfl,b1⟩;rw[HH.o];go_wp2_with fail;refine (NH A l cap _ (h.ext b1) hnone (by omega)).mono ?_;rintro e w2 ⟨v,rfl,ho,b2⟩;have adV:v.ownBlock≠some w2.heap.size:=by
  intro hv;have:=(ho.lt _ hv).2;omega
 have hB:w.heap.size<=w2.heap.size:=by have:=b1.size;have:=b2.size;omega
 have pj:eD (w2.alloc (.cells #[bs nm,no] 153)) w.heap.size v l:=eD.base (eD.keep ho ((Ext.refl _).alloc _)) b1.size;go_wp2_with fail;refine (JQ w.heap.size w2.heap.size (pos l nm) v l (nm,no) _ pj (by simp;omega) (Has.new w2 _) adV hpl hlen).mono ?_;rintro e w3 ⟨v',rfl,ho3,b3⟩;go_wp2;go_ret;exact⟨v',rfl,by rw[hcut.o];exact ho3,(((b1.trans b2).alloc _).trans' b3)⟩
theorem Mt (A:Option Addr) (l:List aK) (cap:Nat) (nm:List UInt8) (no:Int) (w:World) (h:bU w A l) (hnone:A=none->cap=0) (hr:jQ l) (hcap:l.length<=cap) (s3:cap<=maxLen) (hlen:l.length<=999999):Calls prog 195 #[.slice A l.length cap,bs nm,no] w (NG w (sL l nm no)):=by
 cases hh:has l nm
 ·exact aaa A l cap nm no w h hnone hr hlen hh
 ·exact WM A l cap nm no w h hr hcap s3 hlen hh
theorem WP {α:Type} (n:Nat) (P:Nat->α->Prop) (h:∀i,i<n->∃x,P i x):∃l:List α,l.length=n/\∀i,(hi:i<l.length)->P i l[i]:=by
 induction n with
 | zero=>exact⟨[],rfl,fun i hi=>by cases hi⟩
 | succ n ih =>
  obtain⟨l,hl,hp⟩:=ih (fun i hi=>h i (by omega));obtain⟨x,hx⟩:=h n (by omega);refine⟨l++[x],by simp[hl],fun i hi=>?_⟩
  by_cases lm:i<l.length
  ·rw[Mn lm];exact hp i lm
  ·have:i=l.length:=by simp at hi;omega
   subst this;rw[Cw (aE _)];simpa [hl]using hx
section
variable {H:Type} {enc:TypeId×Value->H} {w:World} {base:Nat} {spare:Nat->Bool} {held:Bool}
end
end
section
open Go.ChangeShapes Go.WideShapes Go.ChangeAt Go.RowKit
def eU (l:List aK) (nm:List UInt8):List aK:=l.filter fun x=>!(x.1 == nm)
def kZ (l:List aK) (nm:List UInt8):List aK:=l.filter fun x=>bl x.1 nm
def lB (l:List aK) (nm:List UInt8):List aK:=l.filter fun x=>bl nm x.1
def fC (l:List aK) (x:aK):List aK:=kZ l x.1++[x]++lB l x.1
theorem rD {l:List aK} {k:Nat} (hk:k<l.length) (f:aK->Bool):(l.take (k+1)).filter f=(l.take k).filter f++(if f l[k]=true then [l[k]] else []):=by
 rw[mC hk,zf]
 congr 1
 by_cases h:f l[k]=true<;>simp[h]
theorem qf (l:List aK) (k:Nat) (f:aK->Bool):((l.take k).filter f).length<=k:=by
 have h1:=sX f (l.take k);have h2:(l.take k).length<=k:=List.length_take_le _ _;omega
theorem rE (wr:World) (x:aK):∀j u,(ay [x])[j]?=some u->(wr.alloc (.cells #[bs x.1,x.2] 153)).cell? ((⟨wr.heap.size,0,none⟩:Addr).add j)=some u:=by
 intro j u hu;rw[kU];exact bU.cells (pk (Has.new wr _)) j u hu
theorem yF {wr w2:World} {P:List aK} {x:aK} (h:wr.ownsRow w.heap.size 153 2 v P.length (ay P)) (hE:Ext w wr) (h2:w2.ownsRow w.heap.size 153 2 v' (P.length+1) (ay P++ay [x])) (hg:(wr.alloc o).grownBy w2 v.ownBlock):eD w2 w.heap.size v' (P++[x])/\Ext w w2:=by
 refine⟨?_,(hE.alloc o).grown hg (fun g hv=>(h.lt g hv).1)⟩;unfold eD;rw[ft,aZ];exact h2
open Go.ChangeShapes Go.WideShapes Go.ChangeAt Go.RowKit Go.Shelf
attribute [local go_sem] ol
def CA (n₀:Nat) (w:World) (A:Option Addr) (l:List aK):Prop:=
 l = []\/∃b o,A=some ⟨b,o,none⟩/\b<n₀/\∀k,(h:k<l.length)->w.cell? ⟨b,o+k*2,none⟩=some (.string (bs l[k].1))/\w.cell? ⟨b,o+k*2+1,none⟩=some (.int .i64 l[k].2)
theorem CA.below {n₀:Nat} {l:List aK} (h:CA n₀ w A l) (k:Below n₀ w w'):CA n₀ w' A l:=by
 rcases h with h|⟨b,o,hA,hb,hc⟩
 ·exact .inl h
 ·exact .inr ⟨b,o,hA,hb,fun i hi=>⟨(k.cell (p:=⟨b,o+i*2,none⟩) hb).trans (hc i hi).1,(k.cell (p:=⟨b,o+i*2+1,none⟩) hb).trans (hc i hi).2⟩⟩
abbrev aab (x:aK):Array Value:=#[bs x.1,x.2]
theorem WQ (F:Fence) (n:Nat) (hf:F.fn 202) (hro:F.round=none) (hn:1<=n) (lb Bs n₀ cap:Nat) (A:Option Addr) (es:List aK) (hlen:es.length<=1000000) (J Jx:List aK->World->Prop)
  (W:World) (Mu:n₀<=W.heap.size) (hJa:AbidesFrom W.heap.size J)
  (hY : ∀pre x W,J pre W->pre.length<es.length->YieldAt F (n-1) prog lb (aab x) W fun e W' =>
   (e=.returned (.bool true)/\J (pre++[x]) W'/\Below n₀ W W')\/(e=.returned (.bool false)/\Jx (pre++[x]) W'))
  (Mv:W.cell? (Bs,0)=some (.slice A es.length cap)) (hc:CA n₀ W A es) (h0:J [] W) :
  CallsIn F n prog 202 #[.func (.yield lb) #[] #[],((),Bs)] W fun e W'=>(∃v,e=.returned v) /\
   ((∃ys,ys=es/\J ys W')\/(∃pre,pre <+: es/\Jx pre W')):=by
 obtain⟨m,hm⟩:=ai es.length;rw[<-hm]at Mv hlen;have HM:=zH hm;clear hm;refine uq func202 rfl hf ?_ hro;simp only[ntmps202,lA,bk,gj,Nat.reduceAdd,Nat.reduceSub,o_,pd,pg,ph,jG,oo];gi_wp2;gi_loopw [7] (fun i wr=>∃k:Nat,k<=m/\i=.int .i64 k/\J (es.take k) wr/\Below n₀ W wr/\W.heap.size<=wr.heap.size) (fun i _=>m-(intOf i).toNat)
 case atStart=>exact⟨0,bC _,rfl,h0,DP _ _,aE _⟩
 case round =>
  obtain⟨k,hk,rfl,hJs,Jb,hsz⟩:=hrel
  by_cases hlt:k<m
  ·have dN:k<es.length:=by have:=HM.o;omega
   obtain ⟨b,o,rfl,hb,hcs⟩:∃b o,A=some ⟨b,o,none⟩/\b<n₀/\∀k,(h:k<es.length)->wr.cell? ⟨b,o+k*2,none⟩=some (.string (bs es[k].1))/\wr.cell? ⟨b,o+k*2+1,none⟩=some (.int .i64 es[k].2):=by
    rcases hc.below Jb with h|h
    ·rw[h]at dN;simp at dN
    ·exact h
   obtain⟨ca,cb⟩:=hcs k dN;have q7:Hid (es.take (k+1)=es.take k++[es[k]]):=mC dN;have hpl:(es.take k).length<es.length:=by rw[iG];omega
   generalize es[k]=x at ca cb q7
   have Jc:J (es.take k) (wr.alloc (.cells #[bs x.1,x.2] 153)):=hJa (es.take k) wr _ none hJs (World.grownBy_alloc wr _ none) (fun r e=>by cases e);obtain⟨fn,tmps,assign,body,hy,hR⟩:=hY _ x _ Jc hpl
   try dsimp only[aab]at hy
   clear hcs hpl;gi_wp2;refine hR.mono ?_;rintro e W3 (⟨rfl,Jd,qg⟩|⟨rfl,zO⟩)
   ·gi_wp2
    go_roundw
    case rel=>exact⟨k+1,by omega,by simp,by rw[q7.o];exact Jd,(Jb.alloc (by omega) _).trans qg,by have:=qg.size;simp at this;omega⟩
    case measure=>simp[intOf];omega
   ·gi_wp2
    refine aT (FZ rfl _ _ _) rfl ?_;exact⟨⟨_,rfl⟩,.inr ⟨_,by rw[<-q7.o];exact List.take_prefix _ _,zO⟩⟩
  ·obtain rfl:k=m:=by omega
   have ht:Hid (es.take k=es):=by show _=_;rw[HM.o,od]
   gi_wp2;go_end0;exact⟨⟨_,rfl⟩,.inl ⟨_,ht.o,hJs⟩⟩
theorem aac (F:Fence) (n:Nat) (hf:F.fn 178) (hro:F.round=none) (a:Option Addr) (len cap:Nat) (w:World) :
  CallsIn F n prog 178 #[.slice a len cap] w fun e w'=>e=.returned (.func (.func 202) #[] #[((),w.heap.size)])/\w'=w.alloc (.cells #[.slice a len cap] 64):=by
 refine uq func178 rfl hf ?_ hro;simp only[ntmps178,lA,bk,gj,Nat.reduceAdd,Nat.reduceSub,o_,pd,pg,ph,jG,oo];gi_wp2;go_ret;exact⟨rfl,rfl⟩
theorem NM (F:Fence) (n:Nat) (hf:F.fn 202) (hro:F.round=none) (hn:1<=n) (Bs n₀ cap:Nat) (A:Option Addr) (es:List aK) (hlen:es.length<=1000000) (w:World) (Mv:Bs<w.heap.size) (Mu:n₀<=w.heap.size)
  (hc:w.cell? (Bs,0)=some (.slice A es.length cap)) (he:CA n₀ w A es) :
  SeqStopsK F n prog 202 #[((),Bs)] aab (Below n₀) (fun ys=>ys=es) (fun pre=>pre <+: es) es.length w:=fun l J Jx W hW hJ _ hY h0 =>
 WQ F n hf hro hn l Bs n₀ cap A es hlen J Jx W (by have:=hW.size;omega) hJ hY ((hW.cell (p:=⟨Bs,0,none⟩) Mv).trans hc) (he.below (hW.mono Mu)) h0
end
section
open Go
section
variable {F:Fence} {n:Nat} {P:Program} {ops:Array Oper} {md:Region.Mode} {C:World->Prop}
def uy (o:Oper):Bool:=match o.op with | .defer _=>false|_=>true
theorem Eu {o:Oper} (h:uy o=true):∀c,o.op≠.defer c:=fun c hc=>by simp[uy,hc]at h
end
end
section
open Go.ChangeShapes Go.WideShapes Go.ChangeAt Go.RowKit Go.Shelf
attribute [local go_sem] ol
end
theorem sj {x:aK} {l:List aK}:jQ (x::l)↔(∀y∈l,bl x.1 y.1=true)/\jQ l:=oc
theorem rF {b:List UInt8} (h:bl a b=true):a≠b:=by
 rintro rfl;rw[dD]at h;cases h
theorem filter_all {l:List aK} {f:aK->Bool} (h:∀x∈l,f x=true):l.filter f=l:=RJ.2 h
theorem filter_none {l:List aK} {f:aK->Bool} (h:∀x∈l,f x=false):l.filter f=[]:=List.filter_eq_nil_iff.2 fun x hx=>by rw[h x hx];simp
theorem wA:∀(l:List aK) (nm:List UInt8) (no:Int),jQ l->sL l nm no=fC l (nm,no)
 | [],nm,no,_=>by simp[sL,fC,pos,has,kZ,lB]
 | x :: l,nm,no,hr=>by
  have hx:=(sj.1 hr).1;have ih:=wA l nm no (sj.1 hr).2;rcases oJ x.1 nm with h|h|h
  ·have e1:pos (x::l) nm=pos l nm+1:=by rw[l7,af (show lt x nm=true from h)]
   have e2:has (x::l) nm=has l nm:=by simp[has,rF h]
   have e3:sL (x::l) nm no=x::sL l nm no:=by
    unfold sL;rw[e1,e2,qG,show pos l nm+1+(if has l nm=true then 1 else 0)=(pos l nm+if has l nm=true then 1 else 0)+1 by omega,qH];rfl
   rw[e3,ih];simp[fC,kZ,lB,h,iS h]
  ·subst h
   have e1:pos (x::l) x.1=0:=by rw[l7,ac (by show ¬bl x.1 x.1=true;rw[dD];simp)]
   have e2:has (x::l) x.1=true:=by simp[has]
   have e3:sL (x::l) x.1 no=(x.1,no)::l:=by unfold sL;rw[e1,e2];simp
   rw[e3];have f1:kZ l x.1=[]:=filter_none fun y hy=>iS (hx y hy)
   have f2:lB l x.1=l:=filter_all fun y hy=>hx y hy
   have g1:kZ (x::l) x.1=[]:=by unfold kZ at f1|-;rw[jH,ac (by rw[dD];simp),f1]
   have g2:lB (x::l) x.1=l:=by unfold lB at f2|-;rw[jH,ac (by rw[dD];simp),f2]
   unfold fC;rw[g1,g2];rfl
  ·have hall:∀y∈x::l,bl nm y.1=true:=by
    intro y hy;rcases aR.1 hy with rfl|hy
    ·exact h
    ·exact ny h (hx y hy)
   have e1:pos (x::l) nm=0:=by rw[l7,ac (by show ¬bl x.1 nm=true;rw[iS h];simp)]
   have e2:has (x::l) nm=false:=by
    unfold has;rw[Mj];intro y hy;have:=rF (hall y hy);simpa using fun e=>this e.symm
   have e3:sL (x::l) nm no=(nm,no)::x::l:=by unfold sL;rw[e1,e2];simp
   rw[e3];have g1:kZ (x::l) nm=[]:=filter_none fun y hy=>iS (hall y hy)
   have g2:lB (x::l) nm=x::l:=filter_all hall;unfold fC;rw[show (nm,no).1=nm from rfl,g1,g2];rfl
theorem zP:∀(l:List aK) (nm:List UInt8),jQ l->has l nm=true->Ge l nm=eU l nm
 | [],nm,_,h=>by simp[has]at h
 | x :: l,nm,hr,hh=>by
  have hx:=(sj.1 hr).1;rcases oJ x.1 nm with h|h|h
  ·have e2:has l nm=true:=by simpa [has,rF h]using hh
   have ih:=zP l nm (sj.1 hr).2 e2;have e1:pos (x::l) nm=pos l nm+1:=by rw[l7,af (show lt x nm=true from h)]
   have e3:Ge (x::l) nm=x::Ge l nm:=by unfold Ge;rw[e1,qG,qH];rfl
   rw[e3,ih];simp[eU,rF h]
  ·subst h
   have e1:pos (x::l) x.1=0:=by rw[l7,ac (by show ¬bl x.1 x.1=true;rw[dD];simp)]
   have e3:Ge (x::l) x.1=l:=by unfold Ge;rw[e1];simp
   rw[e3];have f1:eU l x.1=l:=filter_all fun y hy=>by simpa using fun e=>rF (hx y hy) e.symm
   unfold eU at f1|-;rw[jH,ac (by simp),f1]
  ·exfalso
   have:∀y∈x::l,y.1≠nm:=by
    intro y hy;rcases aR.1 hy with rfl|hy
    ·exact (rF h).symm
    ·exact (rF (ny h (hx y hy))).symm
   unfold has at hh;obtain⟨y,hy,he⟩:=zg.1 hh;exact this y hy (by simpa using he)
theorem xJ {l:List aK} (f:aK->Bool) (h:jQ l):jQ (l.filter f):=List.Pairwise.sublist Mo h
theorem CB {l:List aK} (x:aK) (h:jQ l):jQ (fC l x):=by
 unfold fC jQ;rw[l6,zh];refine⟨xJ _ h,?_,?_⟩
 ·rw [List.singleton_append,oc]
  exact⟨fun y hy=>(gz.1 hy).2,xJ _ h⟩
 ·intro a ha b hb
  have h1:bl a.1 x.1=true:=(gz.1 ha).2;rcases aR.1 hb with rfl|hb
  ·exact h1
  ·exact ny h1 (gz.1 hb).2
theorem Ev {l:List aK} (h:has l nm=true):(eU l nm).length<l.length:=by
 obtain⟨y,hy,he⟩:=zg.1 h;rcases lq (eU l nm).length l.length with h'|h'
 ·exact h'
 ·have e:eU l nm=l:=List.Sublist.eq_of_length_le Mo h'
  rw[<-e]at hy;have:=(gz.1 hy).2;simp at this he;exact absurd he this
theorem uA (l:List aK) (x:aK):(fC l x).length<=l.length+1:=by
 have : ∀l:List aK,(kZ l x.1).length+(lB l x.1).length<=l.length:=by
  intro l
  induction l with
  | nil=>simp[kZ,lB]
  | cons y l ih =>
   unfold kZ lB at ih|-;simp only[jH]
   by_cases h:bl y.1 x.1=true
   ·rw[af h,ac (by rw[iS h];simp)];simp only[bk];omega
   ·rw[ac h];split<;>simp only[bk]<;>omega
 have:=this l;unfold fC;simp only[aZ,lF];omega
end Go.Proofs.YtpibnfdolojpcaaGreat
