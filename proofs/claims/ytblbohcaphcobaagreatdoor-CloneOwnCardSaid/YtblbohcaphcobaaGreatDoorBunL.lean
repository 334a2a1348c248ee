import Derived.Test.YtblbohcaphcobaaGreatDoorBunA
import Derived.Test.YtblbohcaphcobaaGreatDoorBunB
import Derived.Test.YtblbohcaphcobaaGreatDoorBunC
import Derived.Test.YtblbohcaphcobaaGreatDoorBunD
import Derived.Test.YtblbohcaphcobaaGreatDoorBunE
import Derived.Test.YtblbohcaphcobaaGreatDoorBunH
import Derived.Test.YtblbohcaphcobaaGreatDoorBunI
import Derived.BigQuiet
import Derived.StillTailTactics
import Derived.RangeFuncBox
import Derived.Lib.LastIndexByte
import Derived.ControlIn
import Derived.Scope
import Derived.AtR
import Derived.RangeFuncNested
import Derived.RangeFuncBound
import Derived.RangeFuncCalls
import Derived.RangeFuncLeaves
import Derived.Shelf.Abstract
import Derived.OwnWalkIn
import Derived.TacticsInMore
import Derived.LoopNIn
import Derived.LoopIn
set_option maxHeartbeats 16000000
set_option maxRecDepth 100000
namespace Go.Proofs.YtblbohcaphcobaaGreatDoor
section
def pc (cur:List UInt8):List UInt8->List (List UInt8)
 | []=>[cur]
 | c::l=>if c=47 then cur::pc [] l else pc (cur++[c]) l
def fh (p:List UInt8):Bool:=!(p == [])&&!(p == [46])
def aX (l:List UInt8):List (List UInt8):=(pc [] l).filter fh
theorem P6 (l:List UInt8):∀cur,pc cur l≠[]:=by
 induction l with
 | nil=>intro cur h;cases h
 | cons c l ih=>intro cur;unfold pc;split<;>simp[ih]
theorem JZ (l:List UInt8):∀cur,(pc cur l).length<=l.length+1:=by
 induction l with
 | nil=>intro cur;simp[pc]
 | cons c l ih =>
  intro cur;unfold pc;split
  ·have:=ih [];simp;omega
  ·have:=ih (cur++[c]);simp;omega
def total:List (List UInt8)->Nat
 | []=>0
 | p::l=>p.length+total l
theorem J0 (l:List UInt8):∀cur,total (pc cur l)<=cur.length+l.length:=by
 induction l with
 | nil=>intro cur;simp[pc,total]
 | cons c l ih =>
  intro cur;unfold pc;split
  ·have:=ih [];simp[total]at *;omega
  ·have:=ih (cur++[c]);simp at *;omega
theorem yj (f:List UInt8->Bool) (l:List (List UInt8)):total (l.filter f)<=total l:=by
 induction l with
 | nil=>simp
 | cons x l ih=>rw[List.filter_cons];split<;>simp[total]<;>omega
theorem Av (l:List UInt8):total (aX l)<=l.length:=by
 have h1:=yj fh (pc [] l);have h2:=J0 l [];unfold aX;simp at h2;omega
theorem kr (l:List UInt8):(aX l).length<=l.length+1:=by
 have h1:=List.length_filter_le fh (pc [] l);have h2:=JZ l [];unfold aX;omega
def dd (l:List UInt8):List UInt8:=(pc [] l).getLastD []
def gz (l:List UInt8):List UInt8:=(l.reverse.takeWhile (·≠47)).reverse
theorem qL {α:Type} {p:α->Bool} {l:List α}:l.takeWhile p=l↔∀x∈l,p x=true:=by
 induction l with
 | nil=>simp
 | cons a l ih =>
  rw [List.takeWhile_cons]
  by_cases h:p a=true
  ·rw[if_pos h];simp[h,ih]
  ·rw[if_neg h];simp[h]
theorem qM {α:Type} (a d:α) (l:List α) (h:l≠[]):(a::l).getLastD d=l.getLastD d:=by
 cases l with
 | nil=>exact absurd rfl h
 | cons b l=>rfl
theorem N_ (l:List UInt8):∀cur,(pc cur l).getLastD []=if 47∈l then gz l else cur++l:=by
 induction l with
 | nil=>intro cur;simp[pc]
 | cons c l ih =>
  intro cur;unfold pc
  by_cases hc:c=47
  ·rw [if_pos hc,qM _ _ _ (P6 _ _),ih []]
   rw [if_pos (show 47∈c::l by rw[hc];exact List.mem_cons_self ..)];unfold gz
   by_cases hl:47∈l
   ·rw [if_pos hl,List.reverse_cons,List.takeWhile_append]
    rw [if_neg];intro h;have h2:=List.takeWhile_prefix (p:=fun x:UInt8=>decide (x≠47)) (l:=l.reverse);have h3:List.takeWhile (fun x:UInt8=>decide (x≠47)) l.reverse=l.reverse:=h2.eq_of_length h;have h4:=qL.1 h3 47 (List.mem_reverse.2 hl);simp at h4
   ·rw [if_neg hl,List.reverse_cons,List.takeWhile_append,if_pos]
    ·rw [hc]
     have:List.takeWhile (fun x:UInt8=>decide (x≠47)) [47]=[]:=by decide
     rw [this,List.append_nil,List.reverse_reverse];rfl
    ·congr 1
     rw [qL];intro x hx;have:x≠47:=by rintro rfl;exact hl (List.mem_reverse.1 hx)
     simpa using this
  ·rw [if_neg hc,ih (cur++[c])]
   by_cases hl:47∈l
   ·rw [if_pos hl,if_pos (List.mem_cons_of_mem _ hl)]
    unfold gz;rw [List.reverse_cons,List.takeWhile_append,if_neg];intro h;have h2:=List.takeWhile_prefix (p:=fun x:UInt8=>decide (x≠47)) (l:=l.reverse);have h3:List.takeWhile (fun x:UInt8=>decide (x≠47)) l.reverse=l.reverse:=h2.eq_of_length h;have h4:=qL.1 h3 47 (List.mem_reverse.2 hl);simp at h4
   ·have:¬47∈c::l:=by
     intro h;rcases List.mem_cons.1 h with h|h
     ·exact hc h.symm
     ·exact hl h
    rw [if_neg hl,if_neg this];simp
theorem J1 (l:List UInt8):dd l=gz l:=by
 unfold dd;rw [N_];split
 ·rfl
 ·rename_i h
  unfold gz;have:l.reverse.takeWhile (fun x:UInt8=>decide (x≠47))=l.reverse:=by
   rw [qL];intro x hx;have:x≠47:=by rintro rfl;exact h (List.mem_reverse.1 hx)
   simpa using this
  rw [this,List.reverse_reverse];rfl
def iA (l:List UInt8) (fr k:Nat):List (List UInt8):=if k<=l.length then pc ((l.drop fr).take (k-fr)) (l.drop k) else []
theorem Aw (l:List UInt8):iA l 0 0=pc [] l:=by simp[iA]
theorem Gj {l:List UInt8} {fr k:Nat} (h:fr<=k) (hk:k<l.length):(l.drop fr).take (k+1-fr)=(l.drop fr).take (k-fr)++[l[k]]:=by
 rw [show k+1-fr=(k-fr)+1 by omega,List.take_succ_eq_append_getElem (by rw[List.length_drop];omega)]
 congr 2
 rw [List.getElem_drop]
 congr 1
 omega
theorem J2 {l:List UInt8} {fr k:Nat} (h:fr<=k) (hk:k<l.length) (hc:l[k]≠47):iA l fr (k+1)=iA l fr k:=by
 unfold iA;rw [if_pos (by omega),if_pos (by omega),Gj h hk,List.drop_eq_getElem_cons hk,pc,if_neg hc]
theorem Gk {l:List UInt8} {fr k:Nat} (hk:k<l.length) (hc:l[k]=47):iA l fr k=(l.drop fr).take (k-fr)::iA l (k+1) (k+1):=by
 unfold iA;rw [if_pos (by omega),if_pos (by omega),List.drop_eq_getElem_cons hk,pc,if_pos hc];simp
theorem Gl {l:List UInt8} {fr:Nat}:iA l fr l.length=(l.drop fr).take (l.length-fr)::iA l (l.length+1) (l.length+1):=by
 unfold iA;rw [if_pos (Nat.le_refl _),if_neg (by omega),List.drop_length,pc]
def eJ (l:List UInt8):Bool:=dd l == [] || dd l == [46] || dd l == [46,46]
def l6 (l:List UInt8):List UInt8:=(l.reverse.dropWhile (· == 47)).reverse
open Go.RowKit
theorem J3 {P:Program} {t:TypeId} (ht:P.underlying t=some .string) (s:ByteArray) (j:Int) (b:Nat) (hj:j=b) (hb:b<=s.size) (r:ByteArray) (hr:s.extract 0 b=r) (w:World) :
  (Instr.slice t (.string s) none (some (.int .i64 j)) none).run P w=.ok (.string r) w:=by
 subst hj;subst hr;rw [run_slice_string_to_if (P:=P) w t s .i64 (b:Int) ht,if_pos (by omega)];simp
theorem CT {P:Program} {t:TypeId} (ht:P.underlying t=some .string) (s:ByteArray) (i:Int) (a:Nat) (hi:i=a) (ha:a<=s.size) (r:ByteArray) (hr:s.extract a s.size=r) (w:World) :
  (Instr.slice t (.string s) (some (.int .i64 i)) none none).run P w=.ok (.string r) w:=by
 subst hi;subst hr;rw [run_slice_string_from_if (P:=P) w t s .i64 (a:Int) ht,if_pos (by omega)];simp
theorem Vk (l:List UInt8) (b:Nat):(bs l).extract 0 b=bs (l.take b):=by rw[lJ];simp
theorem Oa (l:List UInt8) (a:Nat):(bs l).extract a (bs l).size=bs (l.drop a):=by
 rw [lJ,aR,List.take_of_length_le (by rw[List.length_drop];omega)]
theorem wO {c d:UInt8}:((c.toNat:Int) == (d.toNat:Int))=(c == d):=by
 rw [Bool.eq_iff_iff,beq_iff_eq,beq_iff_eq];exact ⟨fun h=>UInt8.toNat_inj.1 (by omega),fun h=>by rw[h]⟩
open Go.ChangeShapes Go.WideShapes Go.ChangeAt Go.RowKit
theorem jH.base {w:World} {b b':Nat} {v:Value} {l:List uZ} (h:jH w b v l) (hb:b'<=b):jH w b' v l:=by
 obtain ⟨h1,h2⟩:=h;refine ⟨h1,?_⟩;rcases h2 with h2|⟨g,cap,cur,hv,hg,hr⟩
 ·exact .inl h2
 ·exact .inr ⟨g,cap,cur,hv,Nat.le_trans hb hg,hr⟩
def J4 (w:World) (l:List uZ) (e:Ending) (w':World):Prop:=∃v,e=.returned v/\jH w' w.heap.size v l/\Ext w w'
theorem tS (l:List UInt8) (w:World) (hlen:l.length<=2000000):Calls Tryz.prog 96 #[bs l] w (J4 w (pc [] l)):=by
 have hsz:((bs l).size:Int)=l.length:=by rw[aR]
 obtain ⟨i0,hi,hz0,hz1,hz2⟩:=info_parts sm;go_enter Tryz.func96,Tryz.ntmps96;go_wp2_with fail;go_loopw [3,4] (fun u i wr=>∃k:Nat,k<=l.length/\i=.int .i64 k/\(∃D cur,pc [] l=D++pc cur (l.drop k)/\D.length<=k/\cur.length<=k/\jH wr w.heap.size u (D++[cur]))/\Ext w wr) (fun _ i _=>l.length-(intOf i).toNat)
 case atStart =>
  refine ⟨0,Nat.zero_le _,rfl,⟨[],[],by simp,by simp,by simp,?_⟩,(Ext.refl _).alloc _⟩;exact World.ownsRow_lit w #[.string (bs [])] 1 (Nat.le_refl _) (by decide) rfl
 case round =>
  obtain ⟨k,hk,rfl,⟨D,cur,hd,hD,ab3,hown⟩,hE⟩:=hrel
  by_cases hlt:(k:Int)<l.length
  ·have dh:k<l.length:=by omega
   have hks:k<(bs l).size:=by rw[aR];exact dh
   have hg:(bs l)[k]=l[k]:=BU l k hks dh;obtain⟨c,hc⟩:=aq (l[k]);have TI:l.drop k=c::l.drop (k+1):=by rw[hc];exact List.drop_eq_getElem_cons dh
   rw [TI,pc]at hd;rw [<-hc]at hg;have hx1:(bs l).extract k (k+1)=bs [c]:=by rw[M2 (bs l) k hks,hg]
   have hcb:(c.toNat:Int)<256:=by have:=c.toNat_lt;omega
   have HG:=zH hg;have HC:=zH hc
   by_cases hs:c=47
   ·rw [if_pos hs]at hd
    have hs2:(((bs l)[k].toNat:Int) == 47)=true:=by rw[hg,hs];rfl
    have HD:=zH hd;clear hs hd TI hg hc hx1;obtain⟨M,hM⟩:=aq (D++[cur]);rw [<-hM]at hown;have HM:=zH hM;have P_:M.length<=k+1:=by rw[hM];simp;omega
    clear hM;unfold jH at hown;go_wp2_with (at_builtin;refine wpList_append_own _ rfl _ _ 140 rfl w.heap.size 9 i0 (.string ⟨#[]⟩) 1 16 Tryz.underlying140 hi hz0 hz1 hz2 rfl (by decide) _ _ _ rfl (hown.alloc _) ⟨wr.heap.size,0,none⟩ 1 1 (bA [[]]) rfl rfl (sM wr []) (j5 [[]]) (by unfold maxLen;omega) (by omega) (by have:=hE.size;simp;omega) ?_);intro v' w2 gG hgrow _;obtain ⟨mA,kZ⟩:=DZ hown hE gG hgrow;clear gG hgrow;have vq:=zH mA;clear mA;go_wp2_with fail;go_roundw
    case rel=>exact⟨k+1,by omega,by go_num,⟨M,[],by rw[HD.out,HM.out];simp,by omega,by simp,vq.out⟩,kZ⟩
    case measure=>simp[intOf];omega
   ·rw [if_neg hs]at hd
    have hs2:(((bs l)[k].toNat:Int) == 47)=false:=by
     rw [hg,beq_eq_false_iff_ne];intro h;exact hs (UInt8.toNat_inj.1 (by have:(47:UInt8).toNat=47:=rfl;omega))
    have HD:=zH hd;clear hs hd TI hg hc;unfold jH at hown;obtain⟨n,hn⟩:=aq D.length;have i_:(D++[cur]).length=n+1:=by rw[hn];simp
    rw [i_]at hown;obtain ⟨g,cap,rfl⟩:=ownsRow_succ hown;have hcl:wr.cell? ⟨g,n,none⟩=some (.string (bs cur)):=by
     rw [hown.cellAt n (by omega),j6 (D++[cur]) n (by rw[i_];omega)];simp [hn]
    have I7:=hown.frozenAt n;have hst:=hown.stored n (.string (bs (cur++[c])));have Gm:=(hown.lt g rfl).1;have Ay:Hid (jH (wr.setCell ⟨g,n,none⟩ (.string (bs (cur++[c])))) w.heap.size (.slice (some ⟨g,0,none⟩) (n+1) cap) (D++[cur++[c]])/\Ext w (wr.setCell ⟨g,n,none⟩ (.string (bs (cur++[c]))))):=by
     refine ⟨?_,hE.setCell Gm _⟩;have h:=hst.1;have e1:(bA (D++[cur])).set n (.string (bs (cur++[c])))=bA (D++[cur++[c]]):=by
      rw [hn];simp[bA]
     rw [e1]at h;unfold jH;have e2:(D++[cur++[c]]).length=n+1:=by rw[hn];simp
     rw [e2];exact h
    have z1:(bs cur).size=cur.length:=aR _;have z2:(bs [c]).size=1:=aR _;have ab4:¬9223372036854775807<cur.length+1:=by omega
    have z3:(bs (cur++[c])).size=cur.length+1:=by rw[aR];simp
    have ab5:bs cur++bs [c]=bs (cur++[c]):=lk _ _;have Vl:IntKind.i64.wrap (n:Int)=n:=bQ (by omega) (by omega);have hw2:IntKind.i64.wrap ((k:Int)+1)=k+1:=bQ (by omega) (by omega);have hn0:(0:Int)<=(n:Int):=Int.natCast_nonneg _;have Ep:(0:Int)<=(k:Int):=Int.natCast_nonneg _;have jI:((k:Int)+1).toNat=k+1:=by omega
    have hk2:k+1<=(bs l).size:=hks;have wH:=qg (P:=Tryz.prog) Tryz.underlying9 (bs l) (k:Int) ((k:Int)+1) k (k+1) rfl (by omega) (by omega) hk2 (bs [c]) hx1;have mB:(n:Int)<(n:Int)+1:=by omega
    have hneg:decide ((n:Int)<0)=false:=decide_eq_false (by omega);have hge:decide ((0:Int)<=(n:Int))=true:=decide_eq_true (by omega);have HN:=zH hn;clear hst hown i_ hn;go_wp2_with fail;go_still_tail 16,(by kernel_rfl);change wpList _ _ _ _ _ wr.drew;go_wp2_with fail;go_roundw
    case rel=>exact⟨k+1,by omega,by go_num,⟨D,cur++[c],HD.out,by omega,by simp;omega,Ay.out.1⟩,Ay.out.2.drew⟩
    case measure=>simp[intOf];omega
  ·obtain rfl:k=l.length:=by omega
   rw [List.drop_length,pc]at hd;rw [<-hd]at hown;have HO:=zH hown;clear hown hd;go_wp2_with fail;go_ret;exact ⟨_,rfl,HO.out,hE⟩
theorem rF (l:List UInt8):(pc [] l).length<=l.length+1:=JZ l []
theorem gD {p:List UInt8}:((bs p).toList == ([]:List UInt8))=(p == [])/\((bs p).toList == [46])=(p == [46])/\((bs p).toList == [46,46])=(p == [46,46])/\(bs p).toList.isEmpty=(p == []):=by
 rw [bh];refine ⟨rfl,rfl,rfl,?_⟩
 cases p<;>rfl
theorem tT (l:List UInt8) (w:World) (hlen:l.length<=2000000):Calls Tryz.prog 60 #[bs l] w (J4 w (aX l)):=by
 obtain ⟨i0,hi,hz0,hz1,hz2⟩:=info_parts sm;obtain⟨M,hM⟩:=aq (pc [] l);have P_:=rF l;have hP:Hid (aX l=M.filter fh):=by show _=_;rw[hM];rfl
 rw [<-hM]at P_;have HM:=zH hM;clear hM;go_enter Tryz.func60,Tryz.ntmps60;go_wp2_with fail;refine (tS l _ hlen).mono ?_;rintro e w1 ⟨v,rfl,hv,D_⟩;rw [<-HM.out]at hv;obtain ⟨A,cap,rfl,hle,hcm,hat,hAn⟩:=hv.at_;clear hv;go_wp2_with fail;go_loopw [3,5] (fun u i wr=>∃k:Nat,k<=M.length/\i=.int .i64 k/\jH wr w1.heap.size u ((M.take k).filter fh)/\Ext w1 wr) (fun _ i _=>M.length-(intOf i).toNat)
 case atStart =>
  refine ⟨0,Nat.zero_le _,rfl,?_,Ext.refl _⟩;exact World.ownsRow_nil _ _ _ _
 case round =>
  obtain ⟨k,hk,rfl,hown,hE⟩:=hrel
  by_cases hlt:(k:Int)<M.length
  ·have dh:k<M.length:=by omega
   obtain ⟨b,o,rfl,hb,hcl⟩:=hat.at_ hE k dh;have lM:Hid (M.take (k+1)=M.take k++[M[k]]):=List.take_succ_eq_append_getElem dh;obtain⟨p,hp⟩:=aq (M[k]);rw [<-hp]at hcl lM;obtain ⟨t0,t1,_,t3⟩:=gD (p:=p);obtain⟨X,hX⟩:=aq (bs p);rw [<-hX]at hcl t0 t1 t3;have HX:=zH hX;have Gm:Hid (fh p=(!(p == [])&&!(p == [46]))):=rfl;clear hp hX
   cases h0:(p == []) with
   | true =>
    rw [h0]at t0 t3;have hn:Hid ((M.take (k+1)).filter fh=(M.take k).filter fh):=by
     show _=_;rw [lM.out,List.filter_append,List.filter_cons,if_neg (by rw[Gm.out,h0];simp)];simp
    clear h0 t1;have HO:=zH hown;clear hown;go_wp2_with fail;go_roundw
    case rel=>exact⟨k+1,by omega,by go_num,by rw[hn.out];exact HO.out,hE⟩
    case measure=>simp[intOf];omega
   | false =>
    cases h1:(p == [46]) with
    | true =>
     rw [h0]at t0 t3;rw [h1]at t1;have hn:Hid ((M.take (k+1)).filter fh=(M.take k).filter fh):=by
      show _=_;rw [lM.out,List.filter_append,List.filter_cons,if_neg (by rw[Gm.out,h0,h1];simp)];simp
     clear h0 h1;have HO:=zH hown;clear hown;go_wp2_with fail;go_roundw
     case rel=>exact⟨k+1,by omega,by go_num,by rw[hn.out];exact HO.out,hE⟩
     case measure=>simp[intOf];omega
    | false =>
     rw [h0]at t0 t3;rw [h1]at t1;have hn:Hid ((M.take (k+1)).filter fh=(M.take k).filter fh++[p]):=by
      show _=_;rw [lM.out,List.filter_append,List.filter_cons,if_pos (by rw[Gm.out,h0,h1];rfl)];simp
     have H_:((M.take k).filter fh).length<=k:=Nat.le_trans (List.length_filter_le _ _) (by rw[List.length_take];omega);obtain⟨Q,hQ⟩:=aq ((M.take k).filter fh);rw [<-hQ]at hown H_ hn;clear h0 h1 hQ;unfold jH at hown;have rW:∀j u,(bA [p])[j]?=some u->(wr.alloc (.cells #[.string X] 9)).cell? ((⟨wr.heap.size,0,none⟩:Addr).add j)=some u:=by rw[HX.out];exact sM wr p
     go_wp2_with (at_builtin;refine wpList_append_own _ rfl _ _ 140 rfl w1.heap.size 9 i0 (.string ⟨#[]⟩) 1 16 Tryz.underlying140 hi hz0 hz1 hz2 rfl (by decide) _ _ _ rfl (hown.alloc _) ⟨wr.heap.size,0,none⟩ 1 1 (bA [p]) rfl rfl rW (j5 [p]) (by unfold maxLen;omega) (by omega) (by have:=hE.size;simp;omega) ?_);intro v' w2 gG hgrow _;obtain ⟨mA,kZ⟩:=DZ hown hE gG hgrow;clear gG hgrow rW;have vq:=zH mA;clear mA hown;go_wp2_with fail;go_roundw
     case rel=>exact⟨k+1,by omega,by go_num,by rw[hn.out];exact vq.out,kZ⟩
     case measure=>simp[intOf];omega
  ·obtain rfl:k=M.length:=by omega
   rw [List.take_length,<-hP.out]at hown;have HO:=zH hown;clear hown;go_wp2_with fail;go_ret;exact ⟨_,rfl,jH.base HO.out D_.size,D_.trans hE⟩
theorem Ob {l:List UInt8} {w:World} {A:Option Addr} (h:ik w A (pc [] l)):∃n b o,(pc [] l).length=n+1/\A=some ⟨b,o,none⟩/\w.cell? ⟨b,o+n,none⟩=some (.string (bs (dd l))):=by
 obtain ⟨n,hn⟩:∃n,(pc [] l).length=n+1:=Nat.exists_eq_succ_of_ne_zero (fun e=>P6 l [] (List.eq_nil_of_length_eq_zero e));obtain ⟨b,o,hA,_,hc⟩:=h.at_ (Ext.refl _) n (by omega);refine ⟨n,b,o,hn,hA,?_⟩;rw [hc]
 congr 3
 unfold dd;have e:(pc [] l).length-1=n:=by omega
 rw [List.getLastD_eq_getLast?,List.getLast?_eq_getElem?,e,List.getElem?_eq_getElem (by omega)];rfl
theorem tU (l:List UInt8) (w:World) (hlen:l.length<=2000000):Calls Tryz.prog 61 #[bs l] w (aH w (.bool (eJ l))):=by
 have P_:=rF l;have hS:Hid (eJ l=(dd l == [] || dd l == [46] || dd l == [46,46])):=rfl;obtain ⟨t0,t1,t2,t3⟩:=gD (p:=dd l);obtain⟨X,hX⟩:=aq (bs (dd l));rw [<-hX]at t0 t1 t2 t3;have HX:=zH hX;clear hX;obtain⟨B0,RG⟩:=aq (dd l == []);obtain⟨B1,zi⟩:=aq (dd l == [46]);obtain⟨B2,oP⟩:=aq (dd l == [46,46]);rw [<-RG,<-zi,<-oP]at hS;rw [<-RG]at t0 t3;rw [<-zi]at t1;rw [<-oP]at t2;clear RG zi oP;go_enter Tryz.func61,Tryz.ntmps61;go_wp2_with fail;refine (tS l _ hlen).mono ?_;rintro e w1 ⟨v,rfl,hv,D_⟩;obtain ⟨A,cap,rfl,hle,hcm,hat,hAn⟩:=hv.at_;obtain ⟨n,b,o,hn,rfl,hcl⟩:=Ob hat;rw [<-HX.out]at hcl;rw [hn]at hle P_|-;clear hv hat hAn hn;have Vl:IntKind.i64.wrap (n:Int)=n:=bQ (by omega) (by omega);have hn0:(0:Int)<=(n:Int):=Int.natCast_nonneg _;have mB:(n:Int)<(n:Int)+1:=by omega
 cases B0<;>cases B1<;>cases B2
 all_goals
  go_wp2_with fail;go_ret;exact aH.mk (kw (by rw[hS.out];rfl)) D_
def strOf:Value->ByteArray
 | .string s=>s
 | _=>⟨#[]⟩
theorem Gn (l:List UInt8):l6 (l++[47])=l6 l:=by
 unfold l6;rw [List.reverse_append];simp
theorem Gp {l:List UInt8} {c:UInt8} (h:c≠47):l6 (l++[c])=l++[c]:=by
 unfold l6;rw [List.reverse_append];have:(c == 47)=false:=beq_eq_false_iff_ne.2 h;simp [this]
theorem CU (l:List UInt8):l=[]\/∃a c,l=a++[c]:=by
 rcases List.eq_nil_or_concat l with h|⟨a,c,h⟩
 ·exact .inl h
 ·exact .inr ⟨a,c,by rw[h,List.concat_eq_append]⟩
def jR (l:List UInt8):Int:=if l=[] then 5 else if l.head?≠some 47\/hasB l 0=true then 1 else if 4096<l.length then 13 else 0
theorem Az {l:List UInt8} (h0:¬l=[]):jR l=if l.head?≠some 47\/hasB l 0=true then 1 else if 4096<l.length then 13 else 0:=by
 unfold jR;rw[if_neg h0]
theorem Gq (l:List UInt8) (w:World) (hlen:l.length<=1000000):Calls Tryz.prog 59 #[bs l] w (aH w (.int .i64 (jR l))):=by
 have z0:(bs l).size=l.length:=aR l;have hb:Hid ((bs l).data.toList=l):=kP l;have hs:(bs l).size<=1000000:=by omega
 cases l with
 | nil =>
  have e:(bs []).toList=[]:=bh [];go_enter Tryz.func59,Tryz.ntmps59;go_wp2_with fail;go_ret;exact aH.mk rfl (Ext.refl _)
 | cons c t =>
  have hp:=Az (l:=c::t) (by simp);have e0:(bs (c::t)).toList.isEmpty=false:=by rw[bh];rfl
  have hks:0<(bs (c::t)).size:=by rw[aR];simp
  have hg:(bs (c::t))[0]=c:=rfl
  by_cases hc:c=47
  ·have hs2:(((bs (c::t))[0].toNat:Int) != 47)=false:=by rw[hg,hc];rfl
   cases hz:hasB (c::t) 0 with
   | true =>
    have hf:Hid (jR (c::t)=1):=by show _=_;rw[hp,if_pos (.inr hz)]
    have HZ:=zH hz;obtain⟨X,hX⟩:=aq (bs (c::t));clear hp hg hc hz;go_enter Tryz.func59,Tryz.ntmps59;go_wp2_with fail;refine (fV _ 0 _ (by rfl) hs _).mono ?_;rintro e w1 ⟨rfl,b1⟩;rw [hb.out,HZ.out];go_wp2_with fail;go_ret;exact aH.mk (aA (by rw[hf.out])) b1
   | false =>
    have HZ:=zH hz;have hf:Hid (jR (c::t)=if 4096<t.length+1 then 13 else 0):=by
     show _=_;rw [hp,if_neg (by rw[hz,hc];simp)];rfl
    by_cases h:4096<t.length+1
    ·rw [if_pos h]at hf
     clear hp hg hc hz;go_enter Tryz.func59,Tryz.ntmps59;go_wp2_with fail;refine (fV _ 0 _ (by rfl) hs _).mono ?_;rintro e w1 ⟨rfl,b1⟩;rw [hb.out,HZ.out];go_wp2_with fail;go_ret;exact aH.mk (aA (by rw[hf.out])) b1
    ·rw [if_neg h]at hf
     clear hp hg hc hz;go_enter Tryz.func59,Tryz.ntmps59;go_wp2_with fail;refine (fV _ 0 _ (by rfl) hs _).mono ?_;rintro e w1 ⟨rfl,b1⟩;rw [hb.out,HZ.out];go_wp2_with fail;go_ret;exact aH.mk (aA (by rw[hf.out])) b1
  ·have hs2:(((bs (c::t))[0].toNat:Int) != 47)=true:=by
    have:=(wO (c:=c) (d:=47)).trans (beq_eq_false_iff_ne.2 hc);rw [hg,bne,show ((c.toNat:Int) == 47)=false from this];rfl
   have hf:Hid (jR (c::t)=1):=by show _=_;rw[hp,if_pos (.inl (by simpa using hc))]
   clear hp hg hc;go_enter Tryz.func59,Tryz.ntmps59;go_wp2_with fail;go_ret;exact aH.mk (aA (by rw[hf.out])) (Ext.refl _)
noncomputable def J5 (l:List UInt8):Int:=Lib.lastIndexByte (bs l) 47
theorem yl (l:List UInt8) (j:Nat) (h:j<l.length):(bs l).data[j]! = l[j]:=by
 simp [bs,h]
theorem AA (l:List UInt8):(J5 l=-1/\47∉l)\/∃i:Nat,i<l.length/\J5 l=i/\l[i]?=some 47/\47∉l.drop (i+1):=by
 rcases Lib.lastIndexByte_spec (bs l) 47 with⟨h1,h2⟩|⟨i,hi,h1,h2,h3⟩
 ·refine .inl ⟨h1,fun hm=>?_⟩
  obtain ⟨j,hj,hx⟩:=List.mem_iff_getElem.1 hm;have:=h2 j (by rw[aR];exact hj);rw [yl l j hj,hx]at this;exact this rfl
 ·rw [aR]at hi
  refine .inr ⟨i,hi,h1,?_,fun hm=>?_⟩
  ·rw [yl l i hi]at h2
   rw [List.getElem?_eq_getElem hi,Option.some.injEq];exact UInt8.toNat_inj.1 (by have:(47:UInt8).toNat=47:=rfl;omega)
  ·obtain ⟨j,hj,hx⟩:=List.mem_iff_getElem.1 hm
   rw [List.length_drop]at hj;have:=h3 (i+1+j) (by omega) (by rw[aR];omega);rw [yl l _ (by omega)]at this;rw [List.getElem_drop]at hx;rw [hx]at this;exact this rfl
theorem vF (a b:List UInt8) (h:47∉b):gz (a++47::b)=b:=by
 unfold gz;have h1:b.reverse.takeWhile (fun x:UInt8=>decide (x≠47))=b.reverse:=by
  rw [qL];intro x hx;have:x≠47:=by rintro rfl;exact h (List.mem_reverse.1 hx)
  simpa using this
 rw [List.reverse_append,List.reverse_cons,List.append_assoc,List.takeWhile_append,h1,if_pos rfl,List.singleton_append,List.takeWhile_cons,if_neg (by decide)];simp
theorem vG (b:List UInt8) (h:47∉b):gz b=b:=by
 unfold gz;have h1:b.reverse.takeWhile (fun x:UInt8=>decide (x≠47))=b.reverse:=by
  rw [qL];intro x hx;have:x≠47:=by rintro rfl;exact h (List.mem_reverse.1 hx)
  simpa using this
 rw [h1,List.reverse_reverse]
theorem CV {l:List UInt8} {k:Nat} (hk:l[k]?=some 47):l=l.take k++47::l.drop (k+1):=by
 have h:k<l.length:=by
  rcases Nat.lt_or_ge k l.length with h|h
  ·exact h
  ·rw[List.getElem?_eq_none h]at hk;cases hk
 have h2:l[k]=47:=by rw[List.getElem?_eq_getElem h]at hk;exact Option.some.inj hk
 have h3:=List.drop_eq_getElem_cons h;rw [h2]at h3;rw [<-h3,List.take_append_drop]
theorem CW (l:List UInt8):∃k:Nat,k<=l.length/\J5 l=(k:Int)-1/\l.drop k=dd l:=by
 rw [J1];rcases AA l with⟨h1,h2⟩|⟨i,hi,h1,h2,h3⟩
 ·exact⟨0,Nat.zero_le _,by omega,by rw[vG l h2];rfl⟩
 ·refine ⟨i+1,hi,by omega,?_⟩
  have h4:=CV h2;have h5:=vF (l.take i) (l.drop (i+1)) h3;rw [<-h4]at h5;exact h5.symm
theorem Gs (l:List UInt8) (w:World) (hlen:l.length<=2000000):Calls Tryz.prog 163 #[bs l] w (aH w (.string (bs (dd l)))):=by
 obtain ⟨k,hk,hi,hd⟩:=CW l;have z0:(bs l).size=l.length:=aR l;have wH:=CT (P:=Tryz.prog) Tryz.underlying9 (bs l) (k:Int) k rfl (by omega) (bs (dd l)) (by rw[Oa,hd]);have hw:IntKind.i64.wrap (k:Int)=k:=bQ (by omega) (by omega);obtain⟨T,hT⟩:=aq (bs (dd l));rw [<-hT]at wH|-;have HI:Hid (Lib.lastIndexByte (bs l) 47=(k:Int)-1):=hi;clear hi hd hT;go_enter Tryz.func163,Tryz.ntmps163;go_wp2_with fail;refine (Tryz.strings_LastIndexByte _ 47 (by omega) _).mono ?_;rintro e w1 ⟨rfl,rfl⟩;rw [HI.out];go_wp2_with fail;go_ret;exact aH.mk rfl (Ext.refl _)
theorem tV (l:List UInt8) (w:World) (hlen:l.length<=2000000):Calls Tryz.prog 142 #[bs l] w (aH w (.bool (eJ l))):=by
 have hS:Hid (eJ l=(dd l == [] || dd l == [46] || dd l == [46,46])):=rfl;obtain ⟨t0,t1,t2,t3⟩:=gD (p:=dd l);obtain⟨X,hX⟩:=aq (bs (dd l));rw [<-hX]at t0 t1 t2 t3;have HX:=zH hX;clear hX;obtain⟨B0,RG⟩:=aq (dd l == []);obtain⟨B1,zi⟩:=aq (dd l == [46]);obtain⟨B2,oP⟩:=aq (dd l == [46,46]);rw [<-RG,<-zi,<-oP]at hS;rw [<-RG]at t0 t3;rw [<-zi]at t1;rw [<-oP]at t2;clear RG zi oP;go_enter Tryz.func142,Tryz.ntmps142;go_wp2_with fail;refine (Gs l _ hlen).mono ?_;rintro e w1 ⟨rfl,D_⟩;rw [<-HX.out]
 cases B0<;>cases B1<;>cases B2
 all_goals
  go_wp2_with fail;go_ret;exact aH.mk (kw (by rw[hS.out];rfl)) D_
theorem tW (l:List UInt8):(l6 l).length<=l.length:=by
 unfold l6;rw [List.length_reverse];have:=(List.dropWhile_sublist (fun x:UInt8=>x == 47) (l:=l.reverse)).length_le;simpa using this
theorem Gt (l:List UInt8) (w:World) (hlen:l.length<=1000000):Calls Tryz.prog 139 #[bs l] w (aH w (.int .i64 (jR l))):=by
 have z0:(bs l).size=l.length:=aR l;have hb:Hid ((bs l).data.toList=l):=kP l;have hs:(bs l).size<=1000000:=by omega
 cases l with
 | nil =>
  have e:(bs []).toList=[]:=bh [];go_enter Tryz.func139,Tryz.ntmps139;go_wp2_with fail;go_ret;exact aH.mk rfl (Ext.refl _)
 | cons c t =>
  have hp:=Az (l:=c::t) (by simp);have e0:(bs (c::t)).toList.isEmpty=false:=by rw[bh];rfl
  have hks:0<(bs (c::t)).size:=by rw[aR];simp
  have hg:(bs (c::t))[0]=c:=rfl
  by_cases hc:c=47
  ·have hs2:(((bs (c::t))[0].toNat:Int) != 47)=false:=by rw[hg,hc];rfl
   cases hz:hasB (c::t) 0 with
   | true =>
    have hf:Hid (jR (c::t)=1):=by show _=_;rw[hp,if_pos (.inr hz)]
    have HZ:=zH hz;obtain⟨X,hX⟩:=aq (bs (c::t));clear hp hg hc hz;go_enter Tryz.func139,Tryz.ntmps139;go_wp2_with fail;refine (Tryz.strings_Contains_one _ 0 _).mono ?_;rintro e w1 ⟨rfl,rfl⟩;rw [hb.out,lR,HZ.out];go_wp2_with fail;go_ret;exact aH.mk (aA (by rw[hf.out])) (Ext.refl _)
   | false =>
    have HZ:=zH hz;have hf:Hid (jR (c::t)=if 4096<t.length+1 then 13 else 0):=by
     show _=_;rw [hp,if_neg (by rw[hz,hc];simp)];rfl
    by_cases h:4096<t.length+1
    ·rw [if_pos h]at hf
     clear hp hg hc hz;go_enter Tryz.func139,Tryz.ntmps139;go_wp2_with fail;refine (Tryz.strings_Contains_one _ 0 _).mono ?_;rintro e w1 ⟨rfl,rfl⟩;rw [hb.out,lR,HZ.out];go_wp2_with fail;go_ret;exact aH.mk (aA (by rw[hf.out])) (Ext.refl _)
    ·rw [if_neg h]at hf
     clear hp hg hc hz;go_enter Tryz.func139,Tryz.ntmps139;go_wp2_with fail;refine (Tryz.strings_Contains_one _ 0 _).mono ?_;rintro e w1 ⟨rfl,rfl⟩;rw [hb.out,lR,HZ.out];go_wp2_with fail;go_ret;exact aH.mk (aA (by rw[hf.out])) (Ext.refl _)
  ·have hs2:(((bs (c::t))[0].toNat:Int) != 47)=true:=by
    have:=(wO (c:=c) (d:=47)).trans (beq_eq_false_iff_ne.2 hc);rw [hg,bne,show ((c.toNat:Int) == 47)=false from this];rfl
   have hf:Hid (jR (c::t)=1):=by show _=_;rw[hp,if_pos (.inl (by simpa using hc))]
   clear hp hg hc;go_enter Tryz.func139,Tryz.ntmps139;go_wp2_with fail;go_ret;exact aH.mk (aA (by rw[hf.out])) (Ext.refl _)
open Go
section
variable {F:Fence} {n:Nat} {P:Program} {Q:Exit->Act->World->Prop} {a:Act} {w:World} {b:Frame} {k:List Item} {cs:List Frame}
theorem iB {c:Code}:step P (lone (b.atR a (.code (.scope c)::k)) cs w)=.next (lone (b.atR a (.code c::.inScope c::k)) cs w):=
 step_lone_go (by simp[stepG,stepG.exec,Frame.atR])
theorem vH {c:Code}:step P (lone (b.atR a (.inScope c::k)) cs w)=.next (lone (b.atR a k) cs w):=
 step_lone_go (by simp[stepG,stepG.exec,Frame.atR])
theorem nO {c:Code} (h:c.wpIn F n P (Exit.noGoto Q) a w):(Code.scope c).wpIn F n P Q a w:=by
 intro b k cs hro hb hr;have h0:(lone (b.atR a (.code (.scope c)::k)) cs w).fenced P F:=fenced_calm hb hr rfl;obtain ⟨e,a₁,w₁,hq,harr⟩:=h b (.inScope c::k) cs hro hb hr
 cases e with
 | normal=>exact⟨.normal,a₁,w₁,hq,.head h0 iB (StepsIn.trans harr (.one (fenced_calm hb hr rfl) vH))⟩
 | exit id =>
  have hx:exitTo id (.inScope c::k)=exitTo id k:=by simp[exitTo]
  exact ⟨.exit id,a₁,w₁,hq,fun k' hk=>.head h0 iB (harr.1 k' (by rw[hx];exact hk)),
   fun hr' hk=>let ⟨aaf,h1,h2⟩:=harr.2 hr' (by rw[hx];exact hk);⟨aaf,h1,.head h0 iB h2⟩⟩
 | goto l=>exact hq.elim
 | ret=>exact⟨_,a₁,w₁,hq,.of_steps (.one h0 iB) harr⟩
 | panic ch=>exact⟨_,a₁,w₁,hq,.of_steps (.one h0 iB) harr⟩
 | outgrown=>exact⟨_,a₁,w₁,hq,.of_steps (.one h0 iB) harr⟩
end
end
section
open Go.ChangeShapes Go.WideShapes Go.ChangeAt Go.RowKit Go.Shelf
attribute [local go_sem] Oper.semAt_some
abbrev Oc (x:uZ):Array Value:=#[bs x]
theorem CX (l:List UInt8) (fr k:Nat) (h:l.length<k):iA l fr k=[]:=by unfold iA;rw[if_neg (by omega)]
theorem Gu (F:Fence) (n:Nat) (hf:F.fn 162) (hro:F.round=none) (hn:1<=n) (lb Bs:Nat) (l:List UInt8) (hlen:l.length<=2000000) (J Jx:List uZ->World->Prop) (Kp:World->World->Prop) (R:World->Prop)
  (hK:∀{A B:World},Kp A B->R A->R B) (hRc:∀{A:World},R A->A.cell? ⟨Bs,0,none⟩=some (.string (bs l))) (W:World)
  (hY : ∀pre x W,J pre W->pre.length<(aX l).length->YieldAt F (n-1) Tryz.prog lb (Oc x) W fun e W' =>
   (e=.returned (.bool true)/\J (pre++[x]) W'/\Kp W W')\/(e=.returned (.bool false)/\Jx (pre++[x]) W'))
  (yS:R W) (h0:J [] W) :
  CallsIn F n Tryz.prog 162 #[.func (.yield lb) #[] #[],.pointer (some ⟨Bs,0,none⟩)] W fun e W'=>(∃v,e=.returned v) /\
   ((∃ys,ys=aX l/\J ys W')\/(∃pre,pre <+: aX l/\Jx pre W')):=by
 have hsz:((bs l).size:Int)=l.length:=by rw[aR]
 refine callsIn_of_wp Tryz.func162 rfl hf ?_ hro;simp only[Tryz.ntmps162,List.size_toArray,List.length_cons,List.length_nil,Nat.reduceAdd,Nat.reduceSub,Array.replicate_succ,Array.replicate_zero,List.push_toArray,List.append_toArray,List.nil_append,List.cons_append];gi_wp2;refine nO ?_;gi_wp2;refine wpIn_label ?_;gi_wp2;gi_loopw [3,4] (fun f a wr=>∃fr k:Nat,fr<=k/\k<=l.length+1/\f=.int .i64 fr/\a=.int .i64 k/\∃pre,pre++(iA l fr k).filter fh=aX l/\J pre wr/\R wr) (fun _ a _=>l.length+1-(intOf a).toNat)
 case atStart=>exact⟨0,0,Nat.le_refl _,Nat.zero_le _,rfl,rfl,[],by rw[Aw];rfl,h0,yS⟩
 case round =>
  obtain ⟨fr,k,Yo,hk,rfl,rfl,pre,jc,hJ,Qa⟩:=hrel;have hc:=hRc Qa
  by_cases hle:(k:Int)<=l.length
  ·have Ep : (0:Int)<=(k:Int):=Int.natCast_nonneg _
   obtain⟨p,hp⟩:=aq ((l.drop fr).take (k-fr))
   by_cases hlt:(k:Int)<l.length
   ·have dh : k<l.length:=by omega
    have hks:k<(bs l).size:=by rw[aR];exact dh
    have hg:(bs l)[k]=l[k]:=BU l k hks dh
    by_cases hs:l[k]=47
    ·have hs2:(((bs l)[k].toNat:Int) != 47)=false:=by rw[hg,hs];rfl
     have Mq:=Gk (fr:=fr) dh hs;rw [<-hp]at Mq;clear hg hs;have hr:iA l fr k=p::iA l (k+1) (k+1):=Mq;rw [hr,List.filter_cons]at jc;have jI:IntKind.i64.wrap ((k:Int)+1)=k+1:=bQ (by omega) (by omega);have wH:=qg (P:=Tryz.prog) Tryz.underlying9 (bs l) (fr:Int) (k:Int) fr k rfl rfl Yo (by omega) (bs p) (by rw[lJ,hp]);obtain ⟨t0,t1,_,t3⟩:=gD (p:=p);obtain⟨X,hX⟩:=aq (bs p);rw [<-hX]at wH t0 t1 t3;have HX:=zH hX;clear hX hp hr
     cases h0:(p == []) with
     | true =>
      rw [h0]at t0 t3;rw [if_neg (by unfold fh;rw[h0];simp)]at jc;have HP:=zH jc;clear h0 t1 jc;gi_wp2;go_roundw
      case rel=>exact⟨k+1,k+1,Nat.le_refl _,by omega,by go_num,by go_num,pre,HP.out,hJ,Qa⟩
      case measure=>simp[intOf];omega
     | false =>
      cases h1:(p == [46]) with
      | true =>
       rw [h0]at t0 t3;rw [h1]at t1;rw [if_neg (by unfold fh;rw[h0,h1];simp)]at jc;have HP:=zH jc;clear h0 h1 jc;gi_wp2;go_roundw
       case rel=>exact⟨k+1,k+1,Nat.le_refl _,by omega,by go_num,by go_num,pre,HP.out,hJ,Qa⟩
       case measure=>simp[intOf];omega
      | false =>
       rw [h0]at t0 t3;rw [h1]at t1;rw [if_pos (by unfold fh;rw[h0,h1];rfl)]at jc;have i_:pre.length<(aX l).length:=by rw[<-jc];simp
       obtain ⟨fn,tmps,assign,body,hy,hR⟩:=hY pre p wr hJ i_
       try dsimp only[Oc]at hy
       have HP:=zH jc;rw [<-HX.out]at hy;clear h0 h1 jc i_;gi_wp2;refine hR.mono ?_;rintro e W3 (⟨rfl,Ie,lr⟩|⟨rfl,sK⟩)
       ·gi_wp2
        go_roundw
        case rel=>exact⟨k+1,k+1,Nat.le_refl _,by omega,by go_num,by go_num,pre++[p],by rw[<-HP.out];simp,Ie,hK lr Qa⟩
        case measure=>simp[intOf];omega
       ·gi_wp2
        simp only[Exit.noGoto];gi_wp2;refine bodyPost_ret (results_none rfl _ _ _) rfl ?_;exact ⟨⟨_,rfl⟩,.inr ⟨_,by rw[<-HP.out];exact⟨_,by rw[List.append_assoc];rfl⟩,sK⟩⟩
    ·have hs2:(((bs l)[k].toNat:Int) != 47)=true:=by
      have:=(wO (c:=l[k]) (d:=47)).trans (beq_eq_false_iff_ne.2 hs);have JL:((bs l)[k].toNat:Int)=(l[k].toNat:Int):=congrArg (fun c:UInt8=>(c.toNat:Int)) hg;exact (congrArg (fun x:Int=>x != 47) JL).trans (by show (!((l[k].toNat:Int) == 47))=true;exact congrArg (fun b=>!b) this)
     have Mq:=J2 Yo dh hs;rw [<-Mq]at jc;have HP:=zH jc;clear hg hs Mq jc hp;gi_wp2;go_roundw
     case rel=>exact⟨fr,k+1,by omega,by omega,by go_num,by go_num,pre,HP.out,hJ,Qa⟩
     case measure=>simp[intOf];omega
   ·have Mq:iA l fr k=p::iA l (k+1) (k+1):=by
     have dh:k=l.length:=by omega
     rw [hp,dh];exact Gl
    have hr:iA l fr k=p::iA l (k+1) (k+1):=Mq;rw [hr,List.filter_cons]at jc;have jI:IntKind.i64.wrap ((k:Int)+1)=k+1:=bQ (by omega) (by omega);have wH:=qg (P:=Tryz.prog) Tryz.underlying9 (bs l) (fr:Int) (k:Int) fr k rfl rfl Yo (by omega) (bs p) (by rw[lJ,hp]);obtain ⟨t0,t1,_,t3⟩:=gD (p:=p);obtain⟨X,hX⟩:=aq (bs p);rw [<-hX]at wH t0 t1 t3;have HX:=zH hX;clear hX hp hr
    cases h0:(p == []) with
    | true =>
     rw [h0]at t0 t3;rw [if_neg (by unfold fh;rw[h0];simp)]at jc;have HP:=zH jc;clear h0 t1 jc;gi_wp2;go_roundw
     case rel=>exact⟨k+1,k+1,Nat.le_refl _,by omega,by go_num,by go_num,pre,HP.out,hJ,Qa⟩
     case measure=>simp[intOf];omega
    | false =>
     cases h1:(p == [46]) with
     | true =>
      rw [h0]at t0 t3;rw [h1]at t1;rw [if_neg (by unfold fh;rw[h0,h1];simp)]at jc;have HP:=zH jc;clear h0 h1 jc;gi_wp2;go_roundw
      case rel=>exact⟨k+1,k+1,Nat.le_refl _,by omega,by go_num,by go_num,pre,HP.out,hJ,Qa⟩
      case measure=>simp[intOf];omega
     | false =>
      rw [h0]at t0 t3;rw [h1]at t1;rw [if_pos (by unfold fh;rw[h0,h1];rfl)]at jc;have i_:pre.length<(aX l).length:=by rw[<-jc];simp
      obtain ⟨fn,tmps,assign,body,hy,hR⟩:=hY pre p wr hJ i_
      try dsimp only[Oc]at hy
      have HP:=zH jc;rw [<-HX.out]at hy;clear h0 h1 jc i_;gi_wp2;refine hR.mono ?_;rintro e W3 (⟨rfl,Ie,lr⟩|⟨rfl,sK⟩)
      ·gi_wp2
       go_roundw
       case rel=>exact⟨k+1,k+1,Nat.le_refl _,by omega,by go_num,by go_num,pre++[p],by rw[<-HP.out];simp,Ie,hK lr Qa⟩
       case measure=>simp[intOf];omega
      ·gi_wp2
       simp only[Exit.noGoto];gi_wp2;refine bodyPost_ret (results_none rfl _ _ _) rfl ?_;exact ⟨⟨_,rfl⟩,.inr ⟨_,by rw[<-HP.out];exact⟨_,by rw[List.append_assoc];rfl⟩,sK⟩⟩
  ·rw [CX l fr k (by omega)]at jc
   have HP:Hid (pre=aX l):=by show _=_;rw[<-jc];simp
   clear jc;gi_wp2;go_end0;exact ⟨⟨_,rfl⟩,.inl ⟨_,HP.out,hJ⟩⟩
theorem AB (F:Fence) (n:Nat) (hf:F.fn 162) (hro:F.round=none) (hn:1<=n) (Bs n₀:Nat) (l:List UInt8) (hlen:l.length<=2000000) (w:World) (yS:Bs<w.heap.size) (sJ:Bs<n₀)
  (hc:w.cell? ⟨Bs,0,none⟩=some (.string (bs l))) :
  SeqStopsK F n Tryz.prog 162 #[.pointer (some ⟨Bs,0,none⟩)] Oc (Below n₀) (fun ys=>ys=aX l) (fun pre=>pre <+: aX l) (aX l).length w:=fun lb J Jx W hW _ _ hY h0 =>
 Gu F n hf hro hn lb Bs l hlen J Jx (Below n₀) (fun W=>W.cell? ⟨Bs,0,none⟩=some (.string (bs l))) (fun hk h=>(hk.cell (p:=⟨Bs,0,none⟩) sJ).trans h) id W hY ((hW.cell (p:=⟨Bs,0,none⟩) yS).trans hc) h0
end
section
open Go.ChangeShapes Go.WideShapes Go.ChangeAt Go.RowKit Go.Shelf
attribute [local go_sem] Oper.semAt_some
theorem J6 (F:Fence) (n:Nat) (hf:F.fn 141) (hro:F.round=none) (s:ByteArray) (w:World) :
  CallsIn F n Tryz.prog 141 #[.string s] w fun e w'=>e=.returned (.func (.func 162) #[] #[.pointer (some ⟨w.heap.size,0,none⟩)])/\w'=w.alloc (.cells #[.string s] 9):=by
 refine callsIn_of_wp Tryz.func141 rfl hf ?_ hro;simp only[Tryz.ntmps141,List.size_toArray,List.length_cons,List.length_nil,Nat.reduceAdd,Nat.reduceSub,Array.replicate_succ,Array.replicate_zero,List.push_toArray,List.append_toArray,List.nil_append,List.cons_append];gi_wp2;go_ret;exact ⟨rfl,rfl⟩
end
section
open Go.ChangeShapes Go.WideShapes Go.ChangeAt Go.RowKit Go.Shelf
attribute [local go_sem] Oper.semAt_some
theorem ym (F:Fence) (n:Nat) (hro:F.round=none) (h83:F.fn 161) (Yp:F.fn 162) (hn:3<=n) (Bs:Nat) (l:List UInt8) (hlen:l.length<=2000000) (w:World) (yS:Bs<w.heap.size)
  (hc:w.cell? ⟨Bs,0,none⟩=some (.string (bs l))) :
  CallsIn F n Tryz.prog 161 #[.slice none 0 0,.func (.func 162) #[] #[.pointer (some ⟨Bs,0,none⟩)]] w (J4 w (aX l)):=by
 obtain ⟨i0,hi,hz0,hz1,hz2⟩:=info_parts sm;have hpl:=kr l;refine callsIn_of_wp_marks Tryz.func161 rfl h83 ?_ hro;simp only[Tryz.ntmps161,List.size_toArray,List.length_cons,List.length_nil,Nat.reduceAdd,Nat.reduceSub,Array.replicate_succ,Array.replicate_zero,List.push_toArray,List.append_toArray,List.nil_append,List.cons_append];gi_wp2;obtain⟨W0,aY⟩:=aq (w.alloc (.cells #[.slice none 0 0] 140));have bO:Boxed W0 w.heap.size 140 (.slice none 0 0):=by rw[aY];exact Boxed.new w _ _
 have E0:Ext w W0:=by rw[aY];exact (Ext.refl _).alloc _
 have hz:W0.heap.size=w.heap.size+1:=by rw[aY];simp
 have hc0:W0.cell? ⟨Bs,0,none⟩=some (.string (bs l)):=(E0.cell yS).trans hc;rw [<-aY];clear aY;refine wpIn_rangeFunc_ownG (w0:=W0) hro (by omega) (gf:=162) (lb:=#[.pointer (some ⟨Bs,0,none⟩)]) rfl Yp (enters_of Tryz.func162 (by kernel_rfl) rfl)
  (AB F (n-1) Yp hro (by omega) Bs (w.heap.size) l hlen W0 (by omega) yS hc0) belowK_t (belowK_b (by omega)) (Below.refl _ _) (fun _=>rfl)
  (fun pre W=>(∃v,Boxed W w.heap.size 140 v/\W.ownsRow w.heap.size 9 1 v pre.length (bA pre)/\True)/\Below w.heap.size w W)
  (fun c pre W=>False)
  (OwnFrom.and (Own.from (holdsRow_own w.heap.size (w.heap.size) 140 9 1 (fun pre=>pre.length) bA (fun pre _=>True)) _) (ownFrom_below (Nat.le_refl _) (by omega)))
  (fun c=>by intro s X Y row h;exact h.elim)
  ⟨⟨_,bO,World.ownsRow_nil _ _ _ _,trivial⟩,E0⟩
  (fun x=>{tmps:=#[.slice none 0 0,.func (.func 162) #[] #[.pointer (some ⟨Bs,0,none⟩)],.pointer (some ⟨w.heap.size,0,none⟩),undef,.slice none 0 0,.string (bs x),.func (.func 162) #[] #[.pointer (some ⟨Bs,0,none⟩)],.string (bs x),undef,undef,undef,undef,undef],defers:=[]}) ?assign ?body ?done ?stop
 case assign =>
  intro l x W K hK;gi_wp2;exact hK
 case body =>
  rintro l' pre x W ⟨⟨v,hv,hrow,_⟩,hB⟩ aag;have hc:=hv.cell;have hsz:=hB.size;have hf:=hv.frozen;gi_wp2_with (gi_at_builtin;refine wpListIn_append_own _ rfl _ _ 140 rfl w.heap.size 9 i0 (.string ⟨#[]⟩) 1 16 Tryz.underlying140 hi hz0 hz1 hz2 rfl (by decide) _ _ _ rfl (hrow.alloc _) ⟨W.heap.size,0,none⟩ 1 1 (bA [x]) rfl rfl (sM W x) (j5 [x]) (by unfold maxLen;omega) (by omega) (by have:=hv.lt;simp;omega) ?_;intro v' w1 hown' hgrow _;obtain⟨g',cap',rfl⟩:=ownsRow_succ hown';obtain⟨tN,ID,yT,hk2,hb2⟩:=hv.appended (by decide) hrow (by have:=hv.lt;omega) (by omega) hown' hgrow;have hc1:=tN.cell;have JN:=tN.frozen;have DU:=ID.cell);have CO:(w1.setCell ⟨w.heap.size,0,none⟩ (.slice (some ⟨g',0,none⟩) (pre.length+1) cap')).ownsRow w.heap.size 9 1 (.slice (some ⟨g',0,none⟩) (pre.length+1) cap') (pre++[x]).length (bA (pre++[x])):=by rw[jG,List.length_append];exact yT
  exact ⟨hk2.from _,hb2,⟨_,ID,CO,trivial⟩,hB.trans (hb2.mono (by omega))⟩
 case done =>
  rintro D ys W hD rfl ⟨⟨v,hv,hrow,_⟩,hB⟩ hK;have hc:=hv.cell;gi_wp2;refine ⟨by simp,.inl ⟨_,_,rfl,run_takeDeferred hK,?_⟩⟩;refine ⟨v,by simp[results,Tryz.results161,go_sem],v,rfl,?_,hB.trans (belowK_b (w:=w) (Nat.le_refl _) W D _ _ (by omega) hK rfl rfl)⟩;exact jH.base (ownsRow_putObj hrow _ hK rfl) (by omega)
 case stop =>
  rintro D c pre W hD hp h hK;exact h.elim
theorem CY (F:Fence) (n:Nat) (hro:F.round=none) (h38:F.fn 140) (h83:F.fn 161) (Yp:F.fn 162) (hn:4<=n) (Bs:Nat) (l:List UInt8) (hlen:l.length<=2000000) (w:World) (yS:Bs<w.heap.size)
  (hc:w.cell? ⟨Bs,0,none⟩=some (.string (bs l))) :
  CallsIn F n Tryz.prog 140 #[.func (.func 162) #[] #[.pointer (some ⟨Bs,0,none⟩)]] w (J4 w (aX l)):=by
 refine callsIn_of_wp Tryz.func140 rfl h38 ?_ hro;simp only[Tryz.ntmps140,List.size_toArray,List.length_cons,List.length_nil,Nat.reduceAdd,Nat.reduceSub,Array.replicate_succ,Array.replicate_zero,List.push_toArray,List.append_toArray,List.nil_append,List.cons_append];have h1:F.depth.isSome=true->1<=n:=fun _=>by omega
 gi_wp2_with (refine⟨h1,?_⟩;gi_at_call 161;refine (ym F (n-1) hro h83 Yp (by omega) Bs l hlen _ yS hc).mono ?_;rintro e w' ⟨v,rfl,hv,hb⟩);go_ret;exact ⟨v,rfl,hv,hb⟩
theorem tY (l:List UInt8) (w:World):Calls Tryz.prog 141 #[bs l] w fun e w'=>e=.returned (.func (.func 162) #[] #[.pointer (some ⟨w.heap.size,0,none⟩)])/\w'=w.alloc (.cells #[bs l] 9):=
 (callsIn_wide (n:=1)).1 (J6 Fence.wide 1 trivial rfl (bs l) w)
theorem rG (Bs:Nat) (l:List UInt8) (hlen:l.length<=2000000) (w:World) (yS:Bs<w.heap.size) (hc:w.cell? ⟨Bs,0,none⟩=some (.string (bs l))) :
  Calls Tryz.prog 140 #[.func (.func 162) #[] #[.pointer (some ⟨Bs,0,none⟩)]] w (J4 w (aX l)):=
 (callsIn_wide (n:=4)).1 (CY Fence.wide 4 rfl trivial trivial trivial (by omega) Bs l hlen w yS hc)
end
section
structure gI where
 dir:Int
 name:List UInt8
 no:Int
 eH:Bool
def bq:gI:=⟨0,[],0,false⟩
def en (S:aa) (cu cg at_:Int) (p:List UInt8):Int:=
 if (ac S.nodes at_).kind≠1 then 9
 else if fy cu cg (ac S.nodes at_).uid (ac S.nodes at_).gid (ac S.nodes at_).mode 1=false then 6
 else if p=[46,46] then 0 else if 255<p.length then 13 else 0
def bn (S:aa) (at_:Int) (p:List UInt8):Int:=ar S.ag (bk (ac S.nodes at_).af p)
def cL (S:aa) (cu cg:Int) (eE:Bool):Int->List (List UInt8)->Nat->Bool->gI×Int
 | at_,[],_,_=>(⟨0,[],at_,true⟩,0)
 | at_, p::l,h,m =>
  if en S cu cg at_ p≠0 then (bq,en S cu cg at_ p)
  else if p=[46,46] then cL S cu cg eE (a_ S at_) l h m
  else if aK S.nodes (bn S at_ p)=false then (if l=[] then (⟨at_,p,0,m⟩,0) else (bq,5))
  else if (ac S.nodes (bn S at_ p)).kind=3/\(l≠[]\/m=true\/eE=true) then
   (if _hh:8<h+1 then (bq,12) else if (ac S.nodes (bn S at_ p)).data=[] then (bq,5)
    else cL S cu cg eE (if (ac S.nodes (bn S at_ p)).data.head?=some 47 then 1 else at_) (aX (ac S.nodes (bn S at_ p)).data++l) (h+1) (m || (l.isEmpty&&eJ (ac S.nodes (bn S at_ p)).data)))
  else if (ac S.nodes (bn S at_ p)).kind≠1/\(l≠[]\/m=true) then (bq,9)
  else if l=[] then (⟨at_,p,bn S at_ p,m⟩,0)
  else cL S cu cg eE (bn S at_ p) l h m
termination_by _ l h _=>(9-h,l.length)
theorem pO (S:aa) (cu cg:Int) (eE:Bool) (at_:Int) (h:Nat) (m:Bool):cL S cu cg eE at_ [] h m=(⟨0,[],at_,true⟩,0):=by rw[cL]
section
variable {S:aa} {cu cg:Int} {eE:Bool} {at_:Int} {p:List UInt8} {l:List (List UInt8)} {h:Nat} {m:Bool}
theorem pP (h1:en S cu cg at_ p≠0):cL S cu cg eE at_ (p::l) h m=(bq,en S cu cg at_ p):=by rw[cL,if_pos h1]
theorem Ez (h1:en S cu cg at_ p=0) (h2:p=[46,46]):cL S cu cg eE at_ (p::l) h m=cL S cu cg eE (a_ S at_) l h m:=by
 rw [cL,if_neg (fun k=>k h1),if_pos h2]
theorem wP (h1:en S cu cg at_ p=0) (h2:p≠[46,46]) (h3:aK S.nodes (bn S at_ p)=false) (h4:l=[]):cL S cu cg eE at_ (p::l) h m=(⟨at_,p,0,m⟩,0):=by
 rw [cL,if_neg (fun k=>k h1),if_neg h2,if_pos h3,if_pos h4]
theorem wQ (h1:en S cu cg at_ p=0) (h2:p≠[46,46]) (h3:aK S.nodes (bn S at_ p)=false) (h4:l≠[]):cL S cu cg eE at_ (p::l) h m=(bq,5):=by
 rw [cL,if_neg (fun k=>k h1),if_neg h2,if_pos h3,if_neg h4]
theorem wR (h1:en S cu cg at_ p=0) (h2:p≠[46,46]) (h3:aK S.nodes (bn S at_ p)=true) (h4:(ac S.nodes (bn S at_ p)).kind=3) (h5:l≠[]\/m=true\/eE=true) (h6:8<h+1) :
  cL S cu cg eE at_ (p::l) h m=(bq,12):=by
 rw [cL,if_neg (fun k=>k h1),if_neg h2,if_neg (by rw[h3];decide),if_pos ⟨h4,h5⟩,dif_pos h6]
theorem tZ (h1:en S cu cg at_ p=0) (h2:p≠[46,46]) (h3:aK S.nodes (bn S at_ p)=true) (h4:(ac S.nodes (bn S at_ p)).kind=3) (h5:l≠[]\/m=true\/eE=true) (h6:¬8<h+1)
  (h7:(ac S.nodes (bn S at_ p)).data=[]):cL S cu cg eE at_ (p::l) h m=(bq,5):=by
 rw [cL,if_neg (fun k=>k h1),if_neg h2,if_neg (by rw[h3];decide),if_pos ⟨h4,h5⟩,dif_neg h6,if_pos h7]
theorem wS (h1:en S cu cg at_ p=0) (h2:p≠[46,46]) (h3:aK S.nodes (bn S at_ p)=true) (h4:(ac S.nodes (bn S at_ p)).kind=3) (h5:l≠[]\/m=true\/eE=true) (h6:¬8<h+1)
  (h7 : (ac S.nodes (bn S at_ p)).data≠[]):cL S cu cg eE at_ (p::l) h m =
   cL S cu cg eE (if (ac S.nodes (bn S at_ p)).data.head?=some 47 then 1 else at_) (aX (ac S.nodes (bn S at_ p)).data++l) (h+1) (m || (l.isEmpty&&eJ (ac S.nodes (bn S at_ p)).data)):=by
 rw [cL,if_neg (fun k=>k h1),if_neg h2,if_neg (by rw[h3];decide),if_pos ⟨h4,h5⟩,dif_neg h6,if_neg h7]
theorem wT (h1:en S cu cg at_ p=0) (h2:p≠[46,46]) (h3:aK S.nodes (bn S at_ p)=true) (h4:¬((ac S.nodes (bn S at_ p)).kind=3/\(l≠[]\/m=true\/eE=true)))
  (h5:(ac S.nodes (bn S at_ p)).kind≠1) (h6:l≠[]\/m=true):cL S cu cg eE at_ (p::l) h m=(bq,9):=by
 rw [cL,if_neg (fun k=>k h1),if_neg h2,if_neg (by rw[h3];decide),if_neg h4,if_pos ⟨h5,h6⟩]
theorem wU (h1:en S cu cg at_ p=0) (h2:p≠[46,46]) (h3:aK S.nodes (bn S at_ p)=true) (h4:¬((ac S.nodes (bn S at_ p)).kind=3/\(l≠[]\/m=true\/eE=true)))
  (h5:¬((ac S.nodes (bn S at_ p)).kind≠1/\(l≠[]\/m=true))) (h6:l=[]):cL S cu cg eE at_ (p::l) h m=(⟨at_,p,bn S at_ p,m⟩,0):=by
 rw [cL,if_neg (fun k=>k h1),if_neg h2,if_neg (by rw[h3];decide),if_neg h4,if_neg h5,if_pos h6]
theorem wV (h1:en S cu cg at_ p=0) (h2:p≠[46,46]) (h3:aK S.nodes (bn S at_ p)=true) (h4:¬((ac S.nodes (bn S at_ p)).kind=3/\(l≠[]\/m=true\/eE=true)))
  (h5:¬((ac S.nodes (bn S at_ p)).kind≠1/\(l≠[]\/m=true))) (h6:l≠[]):cL S cu cg eE at_ (p::l) h m=cL S cu cg eE (bn S at_ p) l h m:=by
 rw [cL,if_neg (fun k=>k h1),if_neg h2,if_neg (by rw[h3];decide),if_neg h4,if_neg h5,if_neg h6]
end
def dF (S:aa) (cu cg:Int) (p:List UInt8) (eE:Bool):gI×Int:=if jR p=0 then cL S cu cg eE 1 (aX p) 0 (eJ p) else (bq,jR p)
theorem J7 {P:List (List UInt8)->Nat->Prop} (step:∀l h,(∀l' h',(h<h'/\h'<=8)\/(h'=h/\l'.length<l.length)->P l' h')->P l h):∀l h,P l h:=by
 have inner:∀n,(∀l h,9-h<n->P l h)->∀k (l:List (List UInt8)) (h:Nat),9-h<=n->l.length<=k->P l h:=by
  intro n hn k
  induction k with
  | zero =>
   intro l h h1 h2;exact step l h fun l' h' hx=>by
    rcases hx with hx|hx
    ·exact hn l' h' (by omega)
    ·omega
  | succ k ih =>
   intro l h h1 h2;exact step l h fun l' h' hx=>by
    rcases hx with hx|hx
    ·exact hn l' h' (by omega)
    ·exact ih l' h' (by omega) (by omega)
 have outer:∀n l h,9-h<n->P l h:=by
  intro n
  induction n with
  | zero=>intro l h h1;omega
  | succ n ih=>intro l h h1;exact inner n ih l.length l h (by omega) (Nat.le_refl _)
 intro l h;exact outer (9-h+1) l h (by omega)
end
section
open Go.ChangeShapes Go.WideShapes Go.ChangeAt Go.RowKit
attribute [local irreducible] wpQuiet
def dp (w:World) (b bW:Nat) (cu cg at_:Int) (A:Option Addr) (len cap:Nat) (jz:Int) (must:Bool):Prop:=
 Has w b (.cells #[.pointer (some ⟨bW,0,none⟩),cu,cg,.int .i64 at_,.slice A len cap,.int .i64 jz,.bool must] 230)
theorem dp.ext {w w':World} {b bW:Nat} {cu cg at_:Int} {A:Option Addr} {len cap:Nat} {jz:Int} {must:Bool} (h:dp w b bW cu cg at_ A len cap jz must) (hE:Ext w w'):dp w' b bW cu cg at_ A len cap jz must:=Has.ext h hE
def stepG (S:aa) (at_:Int) (p:List UInt8):Int:=if p=[46,46] then a_ S at_ else bn S at_ p
theorem Gv {c:Nat} (B:Nat) (g:bJ) (S:aa) (b:Nat) (cu cg at_:Int) (A:Option Addr) (len cap:Nat) (jz:Int) (must:Bool) (p:List UInt8) (w:World) (h:ep w B g S) (T:dC c S) (hc:c<=1000000)
    (ht:dp w b g.bW cu cg at_ A len cap jz must) (hp:p.length<=2000000) :
    Calls Tryz.prog 143 #[.pointer (some ⟨b,0,none⟩),bs p] w (aH w (.tuple #[.int .i64 (if en S cu cg at_ p=0 then stepG S at_ p else 0),.int .i64 (en S cu cg at_ p)])):=by
  obtain ⟨A1,k1,CG,C1⟩:=tc B g S at_ w h
  obtain⟨n,hn⟩:=aq (ac S.nodes at_)
  obtain⟨i,hi⟩:=aq (aK S.nodes at_)
  have hE:Hid (en S cu cg at_ p=if n.kind≠1 then 9 else if fy cu cg n.uid n.gid n.mode 1=false then 6 else if p=[46,46] then 0 else if 255<p.length then 13 else 0):=by show _=_;rw[hn];rfl
  have hiz:i=false->n.kind=0:=fun e=>by rw[hn,(aZ (hi.symm.trans e)).1];rfl
  have Vm:iH n.af/\n.af.length<=c:=by rw[hn];exact T.ac at_
  rw [<-hn]at CG
  rw [<-hn,<-hi]at C1
  have Hk:=zH C1
  have HN:=zH hn
  have HIZ:=zH hiz
  have tI:=zH Vm
  obtain⟨x,hx⟩:=aq (en S cu cg at_ p)
  obtain⟨y,hy⟩:=aq (stepG S at_ p)
  rw [<-hx]at hE
  rw [<-hx,<-hy]
  obtain ⟨z,hz⟩:∃z,z=if x=0 then y else 0:=⟨_,rfl⟩
  rw [<-hz]
  have Vf:Hid (x≠0->z=0):=by show _->_;intro k;rw[hz,if_neg k]
  have Yl:Hid (x=0->z=y):=by show _->_;intro k;rw[hz,if_pos k]
  have HY:Hid (y=if p=[46,46] then a_ S at_ else bn S at_ p):=by show _=_;rw[hy];rfl
  have T0:=(Has.cell ht 0)
  have T1:=(Has.cell ht 1)
  have T2:=(Has.cell ht 2)
  have T3:=(Has.cell ht 3)
  have Tz:=Has.lt ht
  obtain ⟨_,_,cd,h3,_⟩:=id h
  have v0:∀u:Gr w,u.w.cell? ⟨b,0,none⟩=some (.pointer (some ⟨g.bW,0,none⟩)):=Gr.cell Tz T0
  have v3:∀u:Gr w,u.w.cell? ⟨b,3,none⟩=some (.int .i64 at_):=Gr.cell Tz T3
  have vw:∀u:Gr w,u.w.cell? ⟨g.bW,0,none⟩=some (.pointer (some ⟨g.bT,0,none⟩)):=Gr.cell h3.lt (h3.cell 0)
  clear C1 hn hi hiz Vm hx hy hz T0 T1 T2 T3 h3
  go_enter Tryz.func143,Tryz.ntmps143
  go_upto_region 1 with fail
  refine mR w 15 16 6 21 n A1 k1 _ _ (by kernel_rfl) (by kernel_rfl) rfl rfl rfl rfl (by simp) ((Ext.refl _).drew) ?_
  simp only[List.take_succ_cons,List.take_zero,List.drop_succ_cons,List.drop_zero,List.drop_nil]
  repeat (refine di (fun K hK=>?_)
          go_simp
          first
            | (refine hK _ ?_;clear hK K)
            | (apply Exists.intro
               refine ⟨fun u=>?_,hK _ ?_⟩
               first
                 | ((with_reducible refine (Hk.out _ u.h).mono ?_);rintro e w'' ⟨rfl,hx⟩;exact⟨rfl,hx⟩)
               clear hK K))
  refine bG ?_
  refine bG ⟨rfl,?_⟩
  refine di (fun K hK=>?_)
  go_simp
  refine hK _ ?_
  clear hK K
  refine bG ?_
  intro w4 b6 E4 Qb N4
  simp only[Act.put]
  have T4:=dp.ext ht E4
  have rY:=CG.ext E4
  have ab6:b6≠b:=by omega
  clear v0 v3 vw Hk CG
  obtain⟨j,hj⟩:=aq i
  have k2:w4.cell? ⟨b6,2,none⟩=some (.int .i64 n.kind):=N4.cell 2
  have kz:=N4.lt
  by_cases c1:n.kind=1
  case neg =>
    have t1:(n.kind == 1)=false:=by simpa using c1
    have vr:(n.kind != 1)=true:=by simpa using c1
    have e1:Hid (x=9):=by show _=_;rw[hE.out,if_pos c1]
    have e2:Hid (z=0):=Vf.out (by rw[e1.out];decide)
    clear c1 hE hj
    cases i
    · go_wp2_with fail
      go_ret2
      exact aH.mk (by rw[e1.out,e2.out];rfl) E4
    · go_wp2_with fail
      go_ret2
      exact aH.mk (by rw[e1.out,e2.out];rfl) E4
  have NF:i=true:=by
    cases i
    · have:=HIZ.out rfl;omega
    · rfl
  subst NF
  have t1:(n.kind == 1)=true:=by simpa using c1
  have vr:(n.kind != 1)=false:=by simpa using c1
  have kZ:Hid (x=if fy cu cg n.uid n.gid n.mode 1=false then 6 else if p=[46,46] then 0 else if 255<p.length then 13 else 0):=by show _=_;rw[hE.out,if_neg (fun k=>k c1)]
  obtain⟨u,hu⟩:=aq (fy cu cg n.uid n.gid n.mode 1)
  have HU:=zH hu
  rw [<-hu]at kZ
  clear hE hu c1 hj
  obtain ⟨n0,n1,n2,n3,n4,n5,n6,n7,n8,n9,CE,zT⟩:=N4.dP
  have KN:Hid (∀u':Gr w4,Calls Tryz.prog 149 #[.agg #[cu,cg],.agg #[n.no,n.dev,n.kind,n.mode,n.uid,n.gid,n.mtime,n.ctime,n.ah,n.up,bs n.data,.slice A1 n.af.length k1],.int .i64 1] u'.w (aH u'.w (.bool u))):=by
    show ∀u':Gr w4,_
    intro u'
    rw [HU.out]
    exact qy cu cg _ _ _ n.mode n.uid n.gid _ _ _ _ _ _ 1 u'.w
  go_upto_region 4 with fail
  have T1:∀u:Gr w4,u.w.cell? ⟨b,1,none⟩=some (.int .i64 cu):=Gr.cell (Has.lt T4) (Has.cell T4 1)
  have T2:∀u:Gr w4,u.w.cell? ⟨b,2,none⟩=some (.int .i64 cg):=Gr.cell (Has.lt T4) (Has.cell T4 2)
  have n0:=Gr.cell kz n0
  have n1:=Gr.cell kz n1
  have n2:=Gr.cell kz n2
  have n3:=Gr.cell kz n3
  have n4:=Gr.cell kz n4
  have n5:=Gr.cell kz n5
  have n6:=Gr.cell kz n6
  have n7:=Gr.cell kz n7
  have n8:=Gr.cell kz n8
  have n9:=Gr.cell kz n9
  have CE:=Gr.cell kz CE
  have zT:=Gr.cell kz zT
  clear k2
  refine dJ w4 (by kernel_rfl) (by kernel_rfl) (Ext.refl _).drew ?_
  repeat (quiet_step (((with_reducible refine (KN.out _).mono ?_);rintro e w'' ⟨rfl,J8⟩;exact⟨rfl,⟨w'',Ext.trans (Gr.h _) J8⟩,rfl⟩)))
  refine wpQuiet_nil ?_
  rintro w5 ⟨⟨w5',MB⟩,h5⟩
  dsimp only at h5
  subst h5
  have T5:=dp.ext T4 MB
  have N5:=N4.ext MB
  have xN:=rY.ext MB
  have E5:=E4.trans MB
  clear KN T1 T2 n0 n1 n2 n3 n4 n5 n6 n7 n8 n9 CE zT kz T4 N4 rY
  cases u
  · have e1:Hid (x=6):=by show _=_;rw[kZ.out,if_pos rfl]
    have e2:Hid (z=0):=Vf.out (by rw[e1.out];decide)
    clear kZ
    go_wp2_with fail
    go_ret2
    exact aH.mk (by rw[e1.out,e2.out];rfl) E5
  have mr:Hid (x=if p=[46,46] then 0 else if 255<p.length then 13 else 0):=by show _=_;rw[kZ.out,if_neg (by decide)]
  clear kZ
  obtain⟨X,hX⟩:=aq (bs p)
  have TN:(X.size:Int)=p.length:=by rw[hX,aR]
  have tX:(X.toList == [46,46])=(p == [46,46]):=by rw[hX];exact gD.2.2.1
  rw [<-hX]
  have HX:=zH hX
  by_cases c2:p=[46,46]
  · have e1:Hid (x=0):=by show _=_;rw[mr.out,if_pos c2]
    have e2:Hid (z=a_ S at_):=by show _=_;rw[Yl.out e1.out,HY.out,if_pos c2]
    have t2:(X.toList == [46,46])=true:=by rw[tX,c2];rfl
    have KA:Hid (∀u':Gr w5,Calls Tryz.prog 164 #[.pointer (some ⟨g.bW,0,none⟩),.int .i64 at_] u'.w (aH u'.w (.int .i64 (a_ S at_)))):=by
      show ∀u':Gr w5,_
      exact fun u'=>Cl B g S at_ _ ((h.ext E5).ext u'.h) T.ag T.eight T.roots T.aC
    clear mr c2 tX hX
    go_upto_region 7 with fail
    have T0:∀u:Gr w5,u.w.cell? ⟨b,0,none⟩=some (.pointer (some ⟨g.bW,0,none⟩)):=Gr.cell (Has.lt T5) (Has.cell T5 0)
    have T3:∀u:Gr w5,u.w.cell? ⟨b,3,none⟩=some (.int .i64 at_):=Gr.cell (Has.lt T5) (Has.cell T5 3)
    refine dJ w5 (by kernel_rfl) (by kernel_rfl) (Ext.refl _).drew ?_
    repeat (quiet_step (((with_reducible refine (KA.out _).mono ?_);rintro e w'' ⟨rfl,J8⟩;exact⟨rfl,⟨w'',Ext.trans (Gr.h _) J8⟩,rfl⟩)))
    refine wpQuiet_nil ?_
    rintro w6 ⟨⟨w6',b6'⟩,h6⟩
    dsimp only at h6
    subst h6
    clear T0 T3 KA
    go_wp2_with fail
    go_ret2
    exact aH.mk (by rw[e1.out,e2.out];rfl) (E5.trans b6')
  have t2:(X.toList == [46,46])=false:=by rw[tX];simpa using c2
  have HY2:Hid (y=bn S at_ p):=by show _=_;rw[HY.out,if_neg c2]
  have Qc:Hid (x=if 255<p.length then 13 else 0):=by show _=_;rw[mr.out,if_neg c2]
  clear mr c2 tX
  by_cases c3:255<p.length
  · have e1:Hid (x=13):=by show _=_;rw[Qc.out,if_pos c3]
    have e2:Hid (z=0):=Vf.out (by rw[e1.out];decide)
    have t3:(255:Int)<X.size:=by omega
    clear Qc c3 hX TN
    go_wp2_with fail
    go_ret2
    exact aH.mk (by rw[e1.out,e2.out];rfl) E5
  have e1:Hid (x=0):=by show _=_;rw[Qc.out,if_neg c3]
  have t3:¬(255:Int)<X.size:=by omega
  obtain⟨q,hq⟩:=aq (bk n.af p)
  have e2:Hid (z=ar S.ag q):=by show _=_;rw[Yl.out e1.out,HY2.out,hq,HN.out];rfl
  have Od:=tI.out
  have KF:Hid (∀u':Gr w5,Calls Tryz.prog 125 #[.slice A1 n.af.length k1,.string X] u'.w (aH u'.w (.int .i64 q))):=by
    show ∀u':Gr w5,_
    intro u'
    rw [hq,<-kT Od.1,HX.out]
    exact pk A1 n.af k1 p u'.w (xN.ext u'.h).af.af Od.1 (by have:=Od.2;omega)
  have KO:Hid (∀u':Gr w5,Calls Tryz.prog 38 #[.pointer (some ⟨g.bW,0,none⟩),.int .i64 q] u'.w (aH u'.w (.int .i64 (ar S.ag q)))):=by
    show ∀u':Gr w5,_
    exact fun u'=>gu B g S q _ ((h.ext E5).ext u'.h) T.ag (by have:=T.eight;omega)
  clear Qc c3 hX TN hq Od
  go_upto_region 10 with fail
  have T0:∀u:Gr w5,u.w.cell? ⟨b,0,none⟩=some (.pointer (some ⟨g.bW,0,none⟩)):=Gr.cell (Has.lt T5) (Has.cell T5 0)
  have zT:=Gr.cell N5.lt (N5.cell 11)
  refine dJ w5 (by kernel_rfl) (by kernel_rfl) (Ext.refl _).drew ?_
  repeat (quiet_step (((first|with_reducible refine (KF.out _).mono ?_|with_reducible refine (KO.out _).mono ?_);rintro e w'' ⟨rfl,J8⟩;exact⟨rfl,⟨w'',Ext.trans (Gr.h _) J8⟩,rfl⟩)))
  refine wpQuiet_nil ?_
  rintro w6 ⟨⟨w6',b6'⟩,h6⟩
  dsimp only at h6
  subst h6
  clear T0 zT KF KO
  go_wp2_with fail
  go_ret2
  exact aH.mk (by rw[e1.out,e2.out];rfl) (E5.trans b6')
end
section
open Go.ChangeShapes Go.WideShapes Go.ChangeAt Go.RowKit
attribute [local irreducible] wpQuiet
def RH (A:Option Addr) (b:Nat):Prop:=∀x,A=some x->x.block≠b
theorem ik.only {w w':World} {A:Option Addr} {l:List uZ} {b:Nat} (h:ik w A l) (o:Only [b] w w') (hL:RH A b):ik w' A l:=by
 rcases h with h|⟨b2,o',hA,hb,hc⟩
 ·exact .inl h
 ·have hn:b2∉[b]:=fun hb'=>by rw[List.mem_singleton]at hb';exact hL _ hA hb'
  have e:w'.heap[b2]?=w.heap[b2]?:=o.block b2 hb hn;have ec:∀j,w'.cell? ⟨b2,j,none⟩=w.cell? ⟨b2,j,none⟩:=fun j=>by simp[World.cell?,e]
  exact .inr ⟨b2,o',hA,by have:=o.size;omega,fun i hi=>(ec _).trans (hc i hi)⟩
theorem Gw {w w':World} {B:Nat} {o:Obj} {row:Option Nat} (h:Has w B o) (hg:w.grownBy w' row) (hr:row≠some B):Has w' B o:=
 (hg.block B h.lt (fun e=>hr e.symm)).trans h
theorem vJ {P:Program} {ops:Array Oper} {o:Oper} {a:Act} {K:Act->World->Prop} {Q:Exit->Act->World->Prop} {E:Prop} (w:World) (hgd:o.guard=none) (s x:Operand) (t:TypeId)
  (ho:o.op=.call {callee:=.builtin .append,args:=#[s,x],argTypes:=#[t,t]}) (vs vx:Value) (hs:a.eval s=vs) (hx:a.eval x=vx) {R:Value->World->Prop}
  (hr:∃v' w',(Builtin.append_ #[t,t] o.type #[vs,vx]).run P w=.ok v' w'/\R v' w') (h:∀v' w',R v' w'->K (a.put o.dst v') w') :
  if Region.wanted o (yielded ops a.tmps)=true then Oper.wp P o a w K Q else E:=by
 have hw:Region.wanted o (yielded ops a.tmps)=true:=by simp[Region.wanted,hgd]
 rw [if_pos hw];obtain ⟨v',w',h1,h2⟩:=hr;unfold Oper.wp execOp;simp only[ho,resolve,invoke,builtin,Sem.run_bind,Sem.run_pure,Result.andThen_ok,List.map_toArray,List.map_cons,List.map_nil,hs,hx,h1];exact h v' w' h2
theorem wW {base:Nat} {v:Value} {P:List uZ} (A:Option Addr) (cap:Nat) (L:List uZ) (wr:World) (h:jH wr base v P) (hat:ik wr A L) (hA:A=none->cap=0) (hb:base<=wr.heap.size) (hl:P.length<=20000000) (hL:L.length<=20000000) :
  ∃ v' w2,(Builtin.append_ #[140,140] 140 #[v,.slice A L.length cap]).run Tryz.prog wr=.ok v' w2/\jH w2 base v' (P++L)/\wr.grownBy w2 v.ownBlock:=by
 obtain ⟨i0,hi,hz0,hz1,hz2⟩:=info_parts sm
 cases A with
 | none =>
  have jF:L=[]:=by
   rcases hat with h|⟨b',o',h,_⟩
   ·exact h
   ·cases h
  subst jF;obtain rfl:cap=0:=hA rfl;obtain ⟨A',c',rfl,Zb,_,_,_⟩:=h.at_;refine ⟨_,wr,?_,by rw[List.append_nil];exact h,World.grownBy.refl _ _⟩
  cases A'<;>simp[Builtin.append_,run_underlying Tryz.underlying140,sizeOf,typeInfo,hi,Builtin.lenOf,Builtin.firstCells,storeCells,Zb]
 | some ad =>
  have oG:∀j u,(bA L)[j]?=some u->wr.cell? (ad.add j)=some u:=by
   intro j u hu;rcases hat with h|⟨b',o',hAe,hb,h2⟩
   ·subst h;simp[bA]at hu
   ·obtain rfl:ad=⟨b',o',none⟩:=Option.some.inj hAe
    rw [Addr.add_lit];have hj:j<L.length:=by
     rcases Nat.lt_or_ge j L.length with h'|h'
     ·exact h'
     ·rw[List.getElem?_eq_none (by rw[lP];exact h')]at hu;cases hu
    exact (h2 j hj).trans ((j6 L j hj).symm.trans hu)
  obtain ⟨v',w2,hr,h2,h3,_⟩:=run_append_own (P:=Tryz.prog) wr base 140 140 9 i0 (.string ⟨#[]⟩) 1 16 Tryz.underlying140 hi hz0 hz1 hz2 rfl (by decide) _ P.length _ h ad L.length cap (bA L) (by rw[lP,Nat.mul_one]) oG (j5 L) (by unfold maxLen;omega) (by omega) hb;refine ⟨v',w2,hr,?_,h3⟩;unfold jH;rw [jG,List.length_append];exact h2
def t_ (jz:Nat) (d:List UInt8):Int:=if 8<jz+1 then 12 else if d=[] then 5 else 0
def Vn (w:World) (b bW:Nat) (cu cg at_:Int) (jz:Nat) (must:Bool) (l:List uZ) (d:List UInt8) (e:Ending) (w':World):Prop:=
 Only [b] w w'/\e=.returned (.int .i64 (t_ jz d))/\(t_ jz d=0->∃A' cap',dp w' b bW cu cg (if d.head?=some 47 then 1 else at_) A' (aX d++l).length cap' ((jz+1:Nat):Int) (must || (l.isEmpty&&eJ d))/\ik w' A' (aX d++l)/\(A'=none->cap'=0)/\RH A' b/\(aX d++l).length<=cap')
theorem AE (b bW:Nat) (cu cg at_:Int) (A:Option Addr) (cap jz:Nat) (must:Bool) (l:List uZ) (d:List UInt8) (w:World) (ht:dp w b bW cu cg at_ A l.length cap jz must) (hat:ik w A l) (hA:A=none->cap=0) (hoff:RH A b)
  (hl:l.length<=10000000) (hd:d.length<=1048576) (hh:jz<=8) :
  Calls Tryz.prog 144 #[.pointer (some ⟨b,0,none⟩),bs d] w (Vn w b bW cu cg at_ jz must l d):=by
 have T5:=Has.cell ht 5;have F5:=Has.free ht 5;have Tz:=Has.lt ht;have q1:IntKind.i64.wrap ((jz:Int)+1)=((jz+1:Nat):Int):=by rw[IntWalk.i64_in _ (by omega)];omega
 obtain ⟨h1,RI⟩:∃h1:Nat,h1=jz+1:=⟨_,rfl⟩;rw [<-RI]at q1;obtain⟨W1,bV⟩:=aq (w.setCell ⟨b,5,none⟩ (.int .i64 (h1:Int)));have O1:Only [b] w W1:=by rw[bV];exact Only.setCell _ _ _ _
 have T1:dp W1 b bW cu cg at_ A l.length cap (h1:Int) must:=by rw[bV];exact Has.setCell ht 5 (.int .i64 (h1:Int))
 have yp:ik W1 A l:=hat.only O1 hoff;have Oe:Hid (t_ jz d=if 8<h1 then 12 else if d=[] then 5 else 0):=by show _=_;rw[RI];rfl
 have qN:=zH RI;have hh2:h1<=9:=by omega
 clear RI hat;go_enter Tryz.func144,Tryz.ntmps144;go_upto_region 2 with fail;rw [<-bV];clear bV T5 F5 q1;have T5:=Has.cell T1 5;have TP:=Has.lt T1;have e0:∀e,t_ jz d=e->e≠0->∀w',Only [b] w w'->Vn w b bW cu cg at_ jz must l d (.returned (.int .i64 e)) w':=fun e he h0 w' ho=>⟨ho,by rw[he],fun k=>absurd (he.symm.trans k) h0⟩
 have HS:=zH e0;clear e0
 by_cases c1:8<h1
 ·have e1:Hid (t_ jz d=12):=by show _=_;rw[Oe.out,if_pos c1]
  have t1:(8:Int)<(h1:Int):=by omega
  clear c1 Oe;go_wp2_with fail;go_ret;exact HS.out _ e1.out (by decide) _ O1
 have t1:¬(8:Int)<(h1:Int):=by omega
 have Og:Hid (t_ jz d=if d=[] then 5 else 0):=by show _=_;rw[Oe.out,if_neg c1]
 clear Oe c1
 cases d with
 | nil =>
  have e1:Hid (t_ jz []=5):=by show _=_;rw[Og.out,if_pos rfl]
  have z0:(bs []).toList=[]:=bh [];clear Og;go_wp2_with fail;go_ret;exact HS.out _ e1.out (by decide) _ O1
 | cons c t =>
  have e1:Hid (t_ jz (c::t)=0):=by show _=_;rw[Og.out,if_neg (by simp)]
  have z0:(bs (c::t)).toList.isEmpty=false:=by rw[bh];rfl
  have hks:0<(bs (c::t)).size:=by rw[aR];simp
  have hg:(bs (c::t))[0]=c:=rfl;clear Og HS;obtain ⟨at2,yq⟩:∃a:Int,a=if (c::t).head?=some 47 then 1 else at_:=⟨_,rfl⟩
  have HA2:=zH yq;obtain ⟨v,hv⟩:∃v:Bool,v=(c == 47):=⟨_,rfl⟩;have hs2:(((bs (c::t))[0].toNat:Int) == 47)=v:=by rw[hg,hv];exact wO (c:=c) (d:=47)
  have Oh:Hid (v=true->at2=1):=by show _->_;intro k;rw[hv]at k;rw[yq,if_pos (by simpa using k)]
  have JH:Hid (v=false->at2=at_):=by show _->_;intro k;rw[hv]at k;rw[yq,if_neg (by simpa using k)]
  clear hg yq hv;go_upto_if 21 with fail;clear T5 TP;go_cut [] (fun wc=>dp wc b bW cu cg at2 A l.length cap (h1:Int) must/\ik wc A l/\Only [b] w wc)
  case first =>
   cases v
   ·have e2:=zH (JH.out rfl)
    clear JH Oh;go_wp2_with fail;go_meet;exact ⟨by rw[e2.out];exact T1,yp,O1⟩
   ·have e2:=zH (Oh.out rfl)
    clear JH Oh;have F3:=Has.free T1 3;have T3:=Has.cell T1 3;have TP:=Has.lt T1;go_wp2_with fail;go_meet;have T2:dp (W1.setCell ⟨b,3,none⟩ (.int .i64 1)) b bW cu cg at2 A l.length cap (h1:Int) must:=by rw[e2.out];exact Has.setCell T1 3 (.int .i64 1)
    exact ⟨T2,yp.only (Only.setCell _ _ _ _) hoff,O1.then (Only.setCell _ _ _ _)⟩
  case rest =>
   obtain ⟨T2,Gx,O2⟩:=hcut;obtain⟨lb,hlb⟩:=aq l.isEmpty;have t2:((l.length:Int) == 0)=lb:=by rw[hlb];cases l<;>simp<;>omega
   obtain⟨sl,wH⟩:=aq (eJ (c::t));obtain⟨m2,cF⟩:=aq (must || (l.isEmpty&&eJ (c::t)));have HM:Hid (m2=(must || (lb&&sl))):=by show _=_;rw[cF,hlb,wH]
   have HM2:=zH cF;have HSL:=zH wH;have T5:=Has.cell T2 4;have TP:=Has.lt T2;clear hlb wH cF JH Oh T1 yp O1;go_upto_if 30 with fail;clear T5 TP;go_cut [] (fun wd=>dp wd b bW cu cg at2 A l.length cap (h1:Int) m2/\ik wd A l/\Only [b] w wd)
   case first =>
    cases lb
    ·have e2:Hid (m2=must):=by show _=_;rw[HM.out];simp
     go_wp2_with fail;go_meet;exact ⟨by rw[e2.out];exact T2,Gx,O2⟩
    ·have T6:=Has.cell T2 6
     have F6:=Has.free T2 6;have TP:=Has.lt T2;have h6:dp (wc.setCell ⟨b,6,none⟩ (.bool m2)) b bW cu cg at2 A l.length cap (h1:Int) m2:=Has.setCell T2 6 (.bool m2)
     cases must
     ·have e2:Hid (m2=sl):=by show _=_;rw[HM.out];rfl
      go_wp2_with fail;refine (tV (c::t) _ (by simp at hd|-;omega)).mono ?_;rw [<-HSL.out,<-e2.out];rintro e w4 ⟨rfl,b4⟩;have T3:=dp.ext T2 b4;have T6:=Has.cell T3 6;have F6:=Has.free T3 6;have TP:=Has.lt T3;have h6:dp (w4.setCell ⟨b,6,none⟩ (.bool m2)) b bW cu cg at2 A l.length cap (h1:Int) m2:=Has.setCell T3 6 (.bool m2);go_wp2_with fail;go_meet;exact ⟨h6,(Gx.ext b4).only (Only.setCell _ _ _ _) hoff,(O2.ext b4).then (Only.setCell _ _ _ _)⟩
     ·have e2:Hid (m2=true):=by show _=_;rw[HM.out];rfl
      rw [e2.out]at h6;go_wp2_with fail;go_meet;exact ⟨by rw[e2.out];exact h6,Gx.only (Only.setCell _ _ _ _) hoff,O2.then (Only.setCell _ _ _ _)⟩
   case rest =>
    clear T2 Gx O2;obtain ⟨T2,Gx,O2⟩:=hcut;go_upto_region 10 with fail;have T4:=Has.cell T2 4;have Tz:=Has.lt T2;have bV:Ext wc wc.drew:=(Ext.refl _).drew;have du:Ext wc (wc.drew.alloc (.cells #[.string (bs (c::t))] 9)):=bV.alloc _;have hpl:=kr (c::t);have KS:Hid (∀w',Ext wc w'->w'.cell? ⟨b,4,none⟩=some (.slice A l.length cap)):=fun w' h=>(h.cell Tz).trans T4
    have QL:=KS.out _ du;have Eu:=KS.out _ bV;go_region_law (first|(go_simp;go_at_call 141;refine (tY (c::t) _).mono ?_;rintro e wp ⟨rfl,rfl⟩)|(go_simp;go_at_call 140;refine (rG _ (c::t) (by simp at hd|-;omega) _ (by simp) ((Has.new _ _).cell 0)).mono ?_;rintro e wk ⟨v3,rfl,pg,Vo⟩;have lr:=du.trans Vo;have Rf:=KS.out _ lr;have hzk:=(dp.ext T2 lr);have aah:=Has.lt hzk)|(refine vJ _ (by rfl) _ _ 140 (by rfl) _ _ (by rfl) (by rfl) (wW A cap l _ pg (Gx.ext lr) hA Vo.size (by simp at hd hpl|-;omega) (by omega)) ?_;rintro v9 w9 ⟨Vp,TQ⟩;have Vq:dp w9 b bW cu cg at2 A l.length cap (h1:Int) m2:=Gw (dp.ext T2 lr) TQ (ez pg (dp.ext T2 lr) (by decide));have hc9:=Has.cell Vq 4;have hf9:=Has.free Vq 4;have hz9:=Has.lt Vq;obtain⟨A9,c9,rfl,aai,ab7,aaj,aak⟩:=jH.at_ Vp))
    all_goals
     have E9:Ext wc w9:=lr.grown TQ (fun g hv=>by have:=(World.ownsRow.lt pg g hv).1;simp at this;omega);have aal:=ez Vp Vq (by decide);have EA:RH A9 b:=fun x hx=>by
      intro e;refine aal ?_;rw [hx,<-e];rfl
     have oH:dp (w9.setCell ⟨b,4,none⟩ (.slice A9 ((aX (c::t)).length+l.length) c9)) b bW cu cg at2 A9 (aX (c::t)++l).length c9 (h1:Int) m2:=by
      rw [List.length_append];exact Has.setCell Vq 4 (.slice A9 ((aX (c::t)).length+l.length) c9)
     have O9:Only [b] w (w9.setCell ⟨b,4,none⟩ (.slice A9 ((aX (c::t)).length+l.length) c9)):=(O2.ext E9).then (Only.setCell _ _ _ _);have RJ:=aaj.only (Only.setCell w9 b 4 (.slice A9 ((aX (c::t)).length+l.length) c9)) EA;clear T4 QL Eu Rf aah hc9 hf9 hz9;go_wp2_with fail;go_ret;refine ⟨O9,by rw[e1.out];rfl,fun _=>⟨A9,c9,?_,RJ,aak,EA,aai⟩⟩;rw [<-HA2.out,<-HM2.out,<-qN.out];exact oH
end
open Go.ChangeShapes Go.WideShapes Go.ChangeAt Go.RowKit
abbrev eR (x:gI):List Value:=[.int .i64 x.dir,.string (bs x.name),.int .i64 x.no,.bool x.eH]
theorem rH:(Tryz.prog.info? 89).map (·.size)=some 4:=by kernel_rfl
theorem J9 (x:gI):∀u∈eR x,u.oneCell'=true:=by
 intro u hu;simp only[List.mem_cons,List.not_mem_nil,or_false]at hu;rcases hu with rfl|rfl|rfl|rfl<;>rfl
theorem Has.J_ {w:World} {b:Nat} {t:TypeId} {x:gI} (y:gI) (h:Has w b (.cells (eR x).toArray t)):Has (w.setCells b 0 (eR y)) b (.cells (eR y).toArray t):=by
 have h0:=Has.setCell h 0 (.int .i64 y.dir);have h1:=Has.setCell h0 1 (.string (bs y.name));have h2:=Has.setCell h1 2 (.int .i64 y.no);have h3:=Has.setCell h2 3 (.bool y.eH);exact h3
theorem eL {w:World} {b:Nat} {t:TypeId} {x:gI} (y:gI) (h:Has w b (.cells (eR x).toArray t)) :
  Has ((((w.setCell ⟨b,0,none⟩ (.int .i64 y.dir)).setCell ⟨b,1,none⟩ (.string (bs y.name))).setCell ⟨b,2,none⟩ (.int .i64 y.no)).setCell ⟨b,3,none⟩ (.bool y.eH)) b (.cells (eR y).toArray t)/\Only [b] w ((((w.setCell ⟨b,0,none⟩ (.int .i64 y.dir)).setCell ⟨b,1,none⟩ (.string (bs y.name))).setCell ⟨b,2,none⟩ (.int .i64 y.no)).setCell ⟨b,3,none⟩ (.bool y.eH)):=
 ⟨h.J_ y,cG (eR y) 0 w⟩
theorem bY {ops:Array Oper} {rest:List Oper} {op:Oper} {a:Act} {w:World} {Q:Exit->Act->World->Prop} (hgd:op.guard=none) (x y:Operand) (ho:op.op=.store 89 x y)
  (b:Nat) (d d':gI) (hx:a.eval x=.pointer (some ⟨b,0,none⟩)) (hy:a.eval y=.agg (eR d').toArray) (hb:Has w b (.cells (eR d).toArray 89))
  (h:∀w',Has w' b (.cells (eR d').toArray 89)->Only [b] w w'->wpList Tryz.prog ops Q rest (a.put op.dst undef) w'):wpList Tryz.prog ops Q (op::rest) a w:=by
 refine wpList_store_mid hgd 89 x y ho b 0 (eR d').toArray hx hy hb.there rH (all_oneCell_toArray (cs:=eR d') (J9 d')) ?_;exact h _ (hb.J_ d') (cG (eR d') 0 w)
theorem cr {fn:Func} {p t:Tmp} (h:fn.results=#[.cell p 89,.tmp t]) (tmps:Array Value) (w:World) (g:Nat) (d:gI) (v:Value)
  (hp:tmps.getD p undef=.pointer (some ⟨g,0,none⟩)) (hv:tmps.getD t undef=v) (hg:Has w g (.cells (eR d).toArray 89)) :
  (results fn tmps).run Tryz.prog w=.ok (.tuple #[.agg (eR d).toArray,v]) w:=
 j8 h tmps w g 89 _ _ v hp hv hg Tryz.underlying89 rfl rH
theorem pQ {d p:List UInt8} (h:p∈aX d):p.length<=d.length:=by
 have key:∀(L:List (List UInt8)),p∈L->p.length<=total L:=by
  intro L hp
  induction L with
  | nil=>cases hp
  | cons x L ih =>
   unfold total;rcases List.mem_cons.1 hp with rfl|hp
   ·omega
   ·have:=ih hp;omega
 have:=key _ h;have:=Av d;omega
theorem ua (bl o n m cap:Nat) (h0:n=m+1) (hc:n<=cap):∃X:Addr,(∀W,(Instr.slice 140 (.slice (some ⟨bl,o,none⟩) n cap) (some (.int .i64 1)) none none).run Tryz.prog W=.ok (.slice (some X) m (cap-1)) W)/\(0<m->X=⟨bl,o+1,none⟩)/\X.block=bl:=by
 have h4:n-1=m:=by omega
 have hu:=Tryz.underlying140;have h1:(1:Int)<=n:=by omega
 have hi:(Tryz.prog.info? 9).map (·.size)=some 1:=by kernel_rfl
 by_cases h:cap=1
 ·refine ⟨⟨bl,o,none⟩,fun W=>?_,fun h2=>by omega,rfl⟩
  subst h;go_simp;intro h;omega
 ·refine ⟨⟨bl,o+1,none⟩,fun W=>?_,fun _=>rfl,rfl⟩
  go_simp;intro h;omega
def Gy:Value->Nat
 | .slice _ n _=>n
 | _=>0
def Ka (w:World) (b:Nat):Nat:=(9-(intOf ((w.cell? ⟨b,5,none⟩).getD undef)).toNat)*20000000+Gy ((w.cell? ⟨b,4,none⟩).getD undef)
theorem pR {w:World} {b bW:Nat} {cu cg at_:Int} {A:Option Addr} {len cap h:Nat} {m:Bool} (t:dp w b bW cu cg at_ A len cap (h:Int) m):Ka w b=(9-h)*20000000+len:=by
 have h5:=Has.cell t 5;have h4:=Has.cell t 4;unfold Ka;rw [h5,h4];simp [intOf,Gy]
def gQ (w:World) (R:gI×Int):Ending->World->Prop:=aH w (.tuple #[.agg (eR R.1).toArray,.int .i64 R.2])
theorem gQ.mk {w w0 w':World} {b8:Nat} {R:gI×Int} {d:gI} {e:Int} (hE:Ext w w0) (hb:w.heap.size<=b8) (O:Only [b8] w0 w') (h:R=(d,e)):gQ w R (.returned (.tuple #[.agg (eR d).toArray,.int .i64 e])) w':=by
 subst h;exact ⟨rfl,O.after hE (fun x hx=>by rw[List.mem_singleton]at hx;omega)⟩
theorem AF {c:Nat} (B:Nat) (g:bJ) (S:aa) (cu cg:Int) (p0:List UInt8) (eE:Bool) (w:World) (h:ep w B g S) (T:dC c S) (hc:c<=1000000) (RL:p0.length<=1000000) :
  Calls Tryz.prog 112 #[.pointer (some ⟨g.bW,0,none⟩),.agg #[cu,cg],bs p0,.bool eE] w (gQ w (dF S cu cg p0 eE)):=by
 obtain ⟨W0,aY⟩:∃W,W=(w.alloc (.cells #[cu,cg] 27)).alloc (.cells #[.int .i64 0,.string ⟨#[]⟩,.int .i64 0,.bool false] 89):=⟨_,rfl⟩;obtain ⟨b5,kF⟩:∃b,b=w.heap.size:=⟨_,rfl⟩;obtain ⟨b8,fP⟩:∃b,b=w.heap.size+1:=⟨_,rfl⟩;have E0:Ext w W0:=by rw[aY];exact ((Ext.refl _).alloc _).alloc _
 have F0:Has W0 b8 (.cells (eR bq).toArray 89):=by rw[aY,fP];have:=Has.new (w.alloc (.cells #[cu,cg] 27)) (.cells #[.int .i64 0,.string ⟨#[]⟩,.int .i64 0,.bool false] 89);rw[World.size_alloc]at this;exact this
 have C0:Has W0 b5 (.cells #[cu,cg] 27):=by rw[aY,kF];exact (Has.new w _).alloc _
 have lD:w.heap.size<=b8:=by omega
 obtain⟨R,hR⟩:=aq (dF S cu cg p0 eE);rw [<-hR];have HR:=zH hR;obtain⟨q,hq⟩:=aq (jR p0);have HQ:=zH hq;have jF:((S.ag.length:Int) == 0)=false:=by have:=T.ag;simpa using (show ¬(S.ag.length:Int)=0 by omega)
 clear hR;go_enter Tryz.func112,Tryz.ntmps112;go_upto_region 1 with fail;rw [<-aY,<-kF];rw [show b5+1=b8 by omega];clear aY kF fP;refine wp_scope_straight ?_;go_wp2_with fail;refine (lw B g S _ (h.ext E0) T.ag).mono ?_;rintro e w1 ⟨rfl,b1⟩;go_wp2_with fail;refine (Gt p0 _ RL).mono ?_;rw [<-hq];rintro e w2 ⟨rfl,b2⟩;have E2:=(E0.trans b1).trans b2;have F2:=(F0.ext b1).ext b2;have C2:=(C0.ext b1).ext b2;clear hq F0 C0 E0 b1 b2 jF
 by_cases rV:q=0
 case neg =>
  have t0:(q == 0)=false:=by simpa using rV
  have oN:(q != 0)=true:=by simpa using rV
  have e1:Hid (R=(bq,q)):=by show _=_;rw[HR.out,HQ.out];unfold dF;rw[if_neg (by rw[<-HQ.out];exact rV)]
  clear rV;go_wp2_with (refine bY rfl _ _ rfl b8 bq bq rfl rfl F2 ?_;intro w9 R9 O9);refine bodyPost_ret (v:=.tuple #[.agg (eR bq).toArray,.int .i64 q]) (cr Tryz.results112 _ _ b8 bq _ rfl rfl R9) rfl ?_;exact gQ.mk E2 lD O9 e1.out
 have t0:(q == 0)=true:=by simpa using rV
 have oN:(q != 0)=false:=by simpa using rV
 have pS:Hid (R=cL S cu cg eE 1 (aX p0) 0 (eJ p0)):=by show _=_;rw[HR.out];unfold dF;rw[if_pos (by rw[<-HQ.out];exact rV)]
 have sx:Hid (∀p∈aX p0,p.length<=1100000):=by show ∀p∈_,_;intro p hp;have:=pQ hp;omega
 have hpl:=kr p0;clear HR HQ rV;go_upto_region 6 with fail;have X0:=C2.cell 0;have X1:=C2.cell 1;have Xz:=C2.lt;have bV:Ext w2 w2.drew:=(Ext.refl _).drew;have du:Ext w2 (w2.drew.alloc (.cells #[bs p0] 9)):=bV.alloc _;have KS:Hid (∀w',Ext w2 w'->w'.cell? ⟨b5,0,none⟩=some (.int .i64 cu)/\w'.cell? ⟨b5,1,none⟩=some (.int .i64 cg)):=fun w' h=>⟨(h.cell Xz).trans X0,(h.cell Xz).trans X1⟩
 go_region_held3 (fun w'=>w'.cell? ⟨b5,0,none⟩=some (.int .i64 cu)/\w'.cell? ⟨b5,1,none⟩=some (.int .i64 cg))
  ((first|exact KS.out _ bV|exact KS.out _ du|exact KS.out _ lr|exact KS.out _ MC|exact KS.out _ (MC.alloc _)))
  ((first|(go_at_call 141;refine (tY p0 _).mono ?_;rintro e wp ⟨rfl,rfl⟩)|(go_at_call 140;refine (rG _ p0 (by omega) _ (by simp) ((Has.new _ _).cell 0)).mono ?_;rintro e wk ⟨v3,rfl,pg,Vo⟩;have lr:=du.trans Vo;obtain⟨A3,c3,rfl,CZ,RM,Kb,RN⟩:=jH.at_ pg)|(go_at_call 142;refine (tV p0 _ (by omega)).mono ?_;rintro e w4 ⟨rfl,Yq⟩;have MC:=lr.trans Yq)))
 obtain ⟨W5,lj⟩:∃W,W=w4.alloc (.cells #[.pointer (some ⟨g.bW,0,none⟩),cu,cg,.int .i64 1,.slice A3 (aX p0).length c3,.int .i64 0,.bool (eJ p0)] 230):=⟨_,rfl⟩;obtain⟨b,hb⟩:=aq w4.heap.size;have T5:dp W5 b g.bW cu cg 1 A3 (aX p0).length c3 0 (eJ p0):=by rw[lj,hb];exact Has.new _ _
 have Mv:Ext w4 W5:=by rw[lj];exact (Ext.refl _).alloc _
 have E5:Ext w W5:=(E2.trans MC).trans Mv;have F5:=(F2.ext MC).ext Mv;have Vr:=(Kb.ext Yq).ext Mv;have Vs:RH A3 b:=fun x hx=>by
  have:=(World.ownsRow.lt pg x.block (by rw[hx];rfl)).2;have:=Yq.size;omega
 have uY:w.heap.size<=b:=by have:=(E2.trans MC).size;omega
 rw [<-lj,<-hb];have EB:Hid ((aX p0).length<=1050000):=by show _<=_;omega
 obtain⟨l0,jF⟩:=aq (aX p0);obtain⟨m0,hm0⟩:=aq (eJ p0);rw [<-jF]at T5 Vr pS sx EB CZ;rw [<-hm0]at T5 pS;have RO:=zH CZ;clear lj hb X0 X1 Xz bV du KS lr MC CZ RM Kb pg Vo Yq Mv E2 F2 C2 hpl jF hm0 t0 oN;go_wp2_with fail;refine wp_label ?_;go_wp2_with fail;go_loopw [] (fun wr=>∃(at_:Int) (l:List (List UInt8)) (h:Nat) (m:Bool) (A:Option Addr) (cap:Nat),dp wr b g.bW cu cg at_ A l.length cap (h:Int) m/\ik wr A l/\(A=none->cap=0)/\l.length<=cap/\RH A b/\Hid (∀p∈l,p.length<=1100000)/\l.length<=1050000*(h+1)/\h<=8/\Hid (R=cL S cu cg eE at_ l h m)/\Has wr b8 (.cells (eR bq).toArray 89)/\Ext w wr) (fun wr=>Ka wr b)
 case atStart=>exact⟨1,l0,0,m0,A3,c3,T5,Vr,RN,RO.out,Vs,sx,by have:=EB.out;omega,by decide,pS,F5,E5⟩
 case round =>
  obtain ⟨at_,l,hp,m,A,cap,Tr,hat,hA0,hlc,hoff,HL,Hm,TR,HR,Fr,Er⟩:=hrel;have T4:=Has.cell Tr 4;have Tz:=Has.lt Tr;have hMr:=zH (pR Tr);have sQ:b≠b8:=fu Tr Fr (by decide)
  cases l with
  | nil =>
   have e1:Hid (R=(⟨0,[],at_,true⟩,0)):=by show _=_;rw[HR.out,pO]
   have T3:=Has.cell Tr 3;clear HR;go_wp2_with (refine bY rfl _ _ rfl b8 bq ⟨0,[],at_,true⟩ rfl rfl Fr ?_;intro w9 R9 O9);refine bodyPost_ret (v:=.tuple #[.agg (eR ⟨0,[],at_,true⟩).toArray,.int .i64 0]) (cr Tryz.results112 _ _ b8 ⟨0,[],at_,true⟩ _ rfl rfl R9) rfl ?_;exact gQ.mk Er lD O9 e1.out
  | cons p l =>
   obtain ⟨bl,o,rfl,BI,hcl⟩:∃bl o,A=some ⟨bl,o,none⟩/\bl<wr.heap.size/\∀k,(h:k<(p::l).length)->wr.cell? ⟨bl,o+k,none⟩=some (.string (bs (p::l)[k])):=by
    rcases hat with h0|h0
    ·cases h0
    ·exact h0
   obtain⟨n,hn⟩:=aq ((p::l).length);have mB:n=l.length+1:=by rw[hn];rfl
   have hc0:wr.cell? ⟨bl,o,none⟩=some (.string (bs p)):=hcl 0 (by simp);obtain ⟨X,wH,hX,Yr⟩:=ua bl o n l.length cap mB (by omega);have hne:bl≠b:=hoff _ rfl;have hpl:p.length<=1100000:=HL.out p (List.mem_cons_self ..);obtain ⟨W1,bV⟩:∃W,W=wr.setCell ⟨b,4,none⟩ (.slice (some X) l.length (cap-1)):=⟨_,rfl⟩;have O1:Only [b] wr W1:=by rw[bV];exact Only.setCell _ _ _ _
   have T1:dp W1 b g.bW cu cg at_ (some X) l.length (cap-1) (hp:Int) m:=by rw[bV];exact Has.setCell Tr 4 (.slice (some X) l.length (cap-1))
   have yp:ik W1 (some X) l:=by
    by_cases jF:l=[]
    ·exact .inl jF
    ·have hpos:0<l.length:=List.length_pos_iff.2 jF
     rw [hX hpos];refine .inr ⟨bl,o+1,rfl,by have:=O1.size;omega,fun k hk=>?_⟩;have h1:=hcl (k+1) (by simp;omega);have e:W1.heap[bl]?=wr.heap[bl]?:=O1.block bl BI (by rw[List.mem_singleton];exact hne);rw [show o+1+k=o+(k+1) by omega];have e2:W1.cell? ⟨bl,o+(k+1),none⟩=wr.cell? ⟨bl,o+(k+1),none⟩:=by simp[World.cell?,e]
     rw [e2];exact h1
   have Qd:RH (some X) b:=fun x hx=>by cases hx;rw[Yr];exact hne
   have F1:=O1.has Fr (by rw[List.mem_singleton];exact Ne.symm sQ);have E1:Ext w W1:=O1.after Er (fun x hx=>by rw[List.mem_singleton]at hx;omega);have Vt:=zH (show l.length<=cap-1 by omega);have BL:=zH (show l.length+1<=1050000*(hp+1) by omega);have RP:Hid (∀q∈l,q.length<=1100000):=by show ∀q∈l,_;intro q hq;exact HL.out q (List.mem_cons_of_mem _ hq)
   have F4:=Has.free Tr 4;have q0:(0:Int)<(n:Int):=by omega
   rw [<-hn]at T4;obtain⟨lb,hlb⟩:=aq l.isEmpty;have tl:((l.length:Int) == 0)=lb:=by rw[hlb];cases l<;>simp<;>omega
   have C5:=zH hlb;have T4b:=Has.cell T1 4;clear hat hcl hX Yr hlc Hm HL hoff hA0 hlb mB hn;go_upto_region 11 with fail;rw [<-bV];have K1:=h.ext E1;have HW1:=zH bV;have AG:=zH Qd;clear bV T4 T4b F4 tl wH hc0 Tz Tr Fr q0 Qd hne;have tl:((l.length:Int) == 0)=lb:=by rw[C5.out];cases l<;>simp<;>omega
   go_wp2_with fail;refine (Gv B g S b cu cg at_ (some X) l.length (cap-1) hp m p _ K1 T hc T1 (by omega)).mono ?_;rintro e w2' ⟨rfl,b2⟩;obtain⟨x,hx⟩:=aq (en S cu cg at_ p);obtain ⟨z,hz⟩:∃z,z=if x=0 then stepG S at_ p else 0:=⟨_,rfl⟩
   rw [<-hx];rw [<-hz];have HX:=zH hx;have HZ:=zH hz;have K2:=K1.ext b2;obtain ⟨_,_,cd,h3,_⟩:=id K2;have v0:w2'.cell? ⟨g.bW,0,none⟩=some (.pointer (some ⟨g.bT,0,none⟩)):=h3.cell 0;have vz:=h3.lt;have T2:=dp.ext T1 b2;have F2:=F1.ext b2;have E2:=E1.trans b2;clear hx hz h3 T1 F1 E1 K1;go_wp2_with fail;refine (fU B g.bT g.bM S.nodes S.last z _ K2.2.1).mono ?_;rintro e w3 ⟨A4,c4,rfl,rY,b3⟩;obtain⟨nd,hnd⟩:=aq (ac S.nodes z);obtain⟨is,MD⟩:=aq (aK S.nodes z);rw [<-hnd]at rY;rw [<-hnd,<-MD];have ME:=zH hnd;have TS:=zH MD;obtain⟨W4,fO⟩:=aq (w3.alloc (.cells #[nd.no,nd.dev,nd.kind,nd.mode,nd.uid,nd.gid,nd.mtime,nd.ctime,nd.ah,nd.up,bs nd.data,.slice A4 nd.af.length c4] 58));obtain ⟨b16,RQ⟩:∃b,b=w3.heap.size:=⟨_,rfl⟩;have TT:Ext w3 W4:=by rw[fO];exact (Ext.refl _).alloc _
   have N4:Has W4 b16 (.cells #[nd.no,nd.dev,nd.kind,nd.mode,nd.uid,nd.gid,nd.mtime,nd.ctime,nd.ah,nd.up,bs nd.data,.slice A4 nd.af.length c4] 58):=by rw[fO,RQ];exact Has.new _ _
   have K4:=(K2.ext b3).ext TT;have T4:=dp.ext (dp.ext T2 b3) TT;have F4:=(F2.ext b3).ext TT;have E4:=(E2.trans b3).trans TT;have C_:=((yp.ext b2).ext b3).ext TT;clear hnd MD v0 vz T2 F2 E2 K2 yp rY;go_upto_region 13 with fail;rw [<-fO,<-RQ];clear fO RQ b2 b3 TT O1
   by_cases hx0:x=0
   case neg =>
    have t0:(x == 0)=false:=by simpa using hx0
    have oN:(x != 0)=true:=by simpa using hx0
    have e1:Hid (R=(bq,x)):=by show _=_;rw[HR.out,pP (by rw[<-HX.out];exact hx0),HX.out]
    clear hx0 HR;go_wp2_with (refine bY rfl _ _ rfl b8 bq bq rfl rfl F4 ?_;intro w9 R9 O9);refine bodyPost_ret (v:=.tuple #[.agg (eR bq).toArray,.int .i64 x]) (cr Tryz.results112 _ _ b8 bq _ rfl rfl R9) rfl ?_;exact gQ.mk E4 lD O9 e1.out
   have t0:(x == 0)=true:=by simpa using hx0
   have oN:(x != 0)=false:=by simpa using hx0
   have rQ:Hid (en S cu cg at_ p=0):=by show _=_;rw[<-HX.out];exact hx0
   have Rm:Hid (z=stepG S at_ p):=by show _=_;rw[HZ.out,if_pos hx0]
   obtain ⟨XP,MF⟩:∃Y,Y=bs p:=⟨_,rfl⟩;have tX:(XP.toList == [46,46])=(p == [46,46]):=by rw[MF];exact gD.2.2.1
   have Kc:=zH MF;rw [<-MF];clear hx0 HZ HX MF
   by_cases c2:p=[46,46]
   ·have t2:(XP.toList == [46,46])=true:=by rw[tX,c2];rfl
    have hz2:z=a_ S at_:=by rw[Rm.out];unfold stepG;rw[if_pos c2]
    have pS:Hid (R=cL S cu cg eE z l hp m):=by show _=_;rw[HR.out,Ez rQ.out c2,hz2]
    have c3:=Has.cell T4 3;have f3:=Has.free T4 3;have cz:=Has.lt T4;clear tX c2 hz2 HR;go_wp2_with fail;have O9:Only [b] W4 (W4.setCell ⟨b,3,none⟩ (.int .i64 z)):=Only.setCell _ _ _ _;have T9:dp (W4.setCell ⟨b,3,none⟩ (.int .i64 z)) b g.bW cu cg z (some X) l.length (cap-1) (hp:Int) m:=Has.setCell T4 3 (.int .i64 z);go_roundw
    case rel=>exact⟨z,l,hp,m,some X,cap-1,T9,C_.only O9 AG.out,by simp,Vt.out,AG.out,RP,by have:=BL.out;omega,TR,pS,O9.has F4 (by rw[List.mem_singleton];exact Ne.symm sQ),O9.after E4 (fun x hx=>by rw[List.mem_singleton]at hx;omega)⟩
    case measure=>rw[pR T9,hMr.out];simp
   have t2:(XP.toList == [46,46])=false:=by rw[tX];simpa using c2
   have qE:=zH c2;have AH:Hid (z=bn S at_ p):=by show _=_;rw[Rm.out];unfold stepG;rw[if_neg c2]
   clear tX c2 Rm;have c3:=Has.cell T4 3;have c6:=Has.cell T4 6;have cz:=Has.lt T4
   cases is with
   | false =>
    have HI:Hid (aK S.nodes (bn S at_ p)=false):=by show _=_;rw[<-AH.out];exact TS.out.symm
    cases lb with
    | true =>
     have e1:Hid (R=(⟨at_,p,0,m⟩,0)):=by
      show _=_;rw [HR.out,wP rQ.out qE.out HI.out];have:=C5.out
      cases l with
      | nil=>rfl
      | cons a l=>cases this
     clear HR;have ED:Ext W4 W4.drew:=(Ext.refl _).drew;have FD:=F4.ext ED;go_upto_region 18 with fail;rw [Kc.out];go_still_tail 10,(by kernel_rfl);change wpList _ _ _ _ _ W4.drew;go_wp2_with (refine bY rfl _ _ rfl b8 bq ⟨at_,p,0,m⟩ rfl rfl FD ?_;intro w9 R9 O9);refine bodyPost_ret (v:=.tuple #[.agg (eR ⟨at_,p,0,m⟩).toArray,.int .i64 0]) (cr Tryz.results112 _ _ b8 ⟨at_,p,0,m⟩ _ rfl rfl R9) rfl ?_;exact gQ.mk (E4.trans ED) lD O9 e1.out
    | false =>
     have e1:Hid (R=(bq,5)):=by
      show _=_;rw [HR.out,wQ rQ.out qE.out HI.out];rintro rfl
      cases C5.out
     clear HR;go_wp2_with (refine bY rfl _ _ rfl b8 bq bq rfl rfl F4 ?_;intro w9 R9 O9);refine bodyPost_ret (v:=.tuple #[.agg (eR bq).toArray,.int .i64 5]) (cr Tryz.results112 _ _ b8 bq _ rfl rfl R9) rfl ?_;exact gQ.mk E4 lD O9 e1.out
   | true =>
    have HI:Hid (aK S.nodes (bn S at_ p)=true):=by show _=_;rw[<-AH.out];exact TS.out.symm
    obtain ⟨k3,lr⟩:∃k:Bool,k=(nd.kind == 3):=⟨_,rfl⟩;obtain ⟨k1,jI⟩:∃k:Bool,k=(nd.kind != 1):=⟨_,rfl⟩;have t3:=lr.symm;have t1:=jI.symm;have MG:=zH lr;have Ke:=zH jI;have y2:W4.cell? ⟨b16,2,none⟩=some (.int .i64 nd.kind):=N4.cell 2;have yV:W4.cell? ⟨b16,10,none⟩=some (.string (bs nd.data)):=N4.cell 10;have yz:=N4.lt;obtain ⟨bv,Vu⟩:∃bv:Bool,bv=(k3&&(!lb || (m || eE))):=⟨_,rfl⟩;have yr:=zH Vu;clear lr jI Vu;go_upto_region 21 with fail;go_cut [111] (fun v wc=>v=.bool bv/\wc=W4)
    case first =>
     have hb:Hid (bv=(k3&&(!lb || (m || eE)))):=yr
     cases k3
     ·have e:Hid (bv=false):=by show _=_;rw[hb.out];rfl
      clear yr hb;go_wp2_with fail;go_meet;exact ⟨by rw[e.out],rfl⟩
     ·cases lb
      ·have e:Hid (bv=true):=by show _=_;rw[hb.out];rfl
       clear yr hb;go_wp2_with fail;go_meet;exact ⟨by rw[e.out],rfl⟩
      ·cases m
       ·cases eE
        ·have e:Hid (bv=false):=by show _=_;rw[hb.out];rfl
         clear yr hb;go_wp2_with fail;go_meet;exact ⟨by rw[e.out],rfl⟩
        ·have e:Hid (bv=true):=by show _=_;rw[hb.out];rfl
         clear yr hb;go_wp2_with fail;go_meet;exact ⟨by rw[e.out],rfl⟩
       ·have e:Hid (bv=true):=by show _=_;rw[hb.out];rfl
        clear yr hb;go_wp2_with fail;go_meet;exact ⟨by rw[e.out],rfl⟩
    case rest =>
     obtain ⟨rfl,hwc⟩:=hcut;obtain rfl:W4=wc:=hwc.symm
     cases bv with
     | true =>
      have nK : k3=true/\(l≠[]\/m=true\/eE=true):=by
       have:=yr.out
       cases k3
       ·cases this
       ·refine ⟨rfl,?_⟩
        cases hm:m
        ·cases hf:eE
         ·left
          rintro rfl;rw [hm,hf,C5.out]at this
          cases this
         ·exact .inr (.inr rfl)
        ·exact .inr (.inl rfl)
      have HK:Hid ((ac S.nodes (bn S at_ p)).kind=3):=by
       show _=_;have h2:=nK.1;rw [MG.out,ME.out,AH.out]at h2;simpa using h2
      have RR:=zH nK.2;have HD:Hid (nd.data=(ac S.nodes (bn S at_ p)).data):=by show _=_;rw[ME.out,AH.out]
      have kM:nd.data.length<=1048576:=by
       rw [HD.out];exact (T.on _ (aj HI.out).2.2).2
      obtain⟨fe,hfe⟩:=aq (t_ hp nd.data);have Oe:=zH hfe;have MH:=zH kM;clear nK hfe kM t3 t1;go_wp2_with fail;refine (AE b g.bW cu cg at_ (some X) (cap-1) hp m l nd.data _ T4 C_ (by simp) AG.out (by have:=BL.out;omega) MH.out TR).mono ?_;rintro e w5 ⟨O5,rfl,Vv⟩;have aam:=zH Vv;have F5:=O5.has F4 (by rw[List.mem_singleton];exact Ne.symm sQ);have E5:=O5.after E4 (fun x hx=>by rw[List.mem_singleton]at hx;omega);rw [<-Oe.out];clear Vv c3 c6 cz y2 yV yz
      by_cases Ho:fe=0
      case neg =>
       have t4:(fe == 0)=false:=by simpa using Ho
       have t4b:(fe != 0)=true:=by simpa using Ho
       have e1 : Hid (R=(bq,fe)):=by
        show _=_;have h1:=Oe.out;unfold t_ at h1
        by_cases h8:8<hp+1
        ·rw [if_pos h8]at h1
         rw [HR.out,wR rQ.out qE.out HI.out HK.out RR.out h8,h1]
        ·rw [if_neg h8]at h1
         by_cases h9:nd.data=[]
         ·rw [if_pos h9]at h1
          rw [HR.out,tZ rQ.out qE.out HI.out HK.out RR.out h8 (by rw[<-HD.out];exact h9),h1]
         ·rw [if_neg h9]at h1
          exact absurd h1 Ho
       clear Ho HR;go_wp2_with (refine bY rfl _ _ rfl b8 bq bq rfl rfl F5 ?_;intro w9 R9 O9);refine bodyPost_ret (v:=.tuple #[.agg (eR bq).toArray,.int .i64 fe]) (cr Tryz.results112 _ _ b8 bq _ rfl rfl R9) rfl ?_;exact gQ.mk E5 lD O9 e1.out
      have t4:(fe == 0)=true:=by simpa using Ho
      have t4b:(fe != 0)=false:=by simpa using Ho
      have h80:¬8<hp+1/\nd.data≠[]:=by
       have h1:=Oe.out;rw [Ho]at h1;unfold t_ at h1
       by_cases h8:8<hp+1
       ·rw[if_pos h8]at h1;cases h1
       ·rw [if_neg h8]at h1
        refine ⟨h8,fun h9=>?_⟩;rw [if_pos h9]at h1;cases h1
      obtain ⟨A9,c9,T9,RJ,hA9,EA,Vw⟩:=aam.out (by rw[<-Oe.out];exact Ho);have pS:Hid (R=cL S cu cg eE (if nd.data.head?=some 47 then 1 else at_) (aX nd.data++l) (hp+1) (m || (l.isEmpty&&eJ nd.data))):=by
       show _=_;rw [HR.out,wS rQ.out qE.out HI.out HK.out RR.out h80.1 (by rw[<-HD.out];exact h80.2),HD.out]
      have yt:Hid ((aX nd.data++l).length<=1050000*(hp+1+1)):=by
       show _<=_;have:=kr nd.data;have:=MH.out;have:=BL.out;rw [List.length_append];omega
      have RT:Hid (∀q∈aX nd.data++l,q.length<=1100000):=by
       show ∀q∈_,_;intro q hq;rcases List.mem_append.1 hq with hq|hq
       ·have:=pQ hq
        have:=MH.out;omega
       ·exact RP.out q hq
      have H8:=zH (show hp+1<=8 by omega);have HLE:=zH Vw;clear Ho h80 HR Vw;go_wp2_with fail;go_roundw
      case rel=>exact⟨_,_,hp+1,_,A9,c9,T9,RJ,hA9,HLE.out,EA,RT,yt.out,H8.out,pS,F5,E5⟩
      case measure =>
       rw [pR T9,hMr.out];have:=yt.out;have:=H8.out;omega
     | false =>
      have Qe:Hid (¬((ac S.nodes (bn S at_ p)).kind=3/\(l≠[]\/m=true\/eE=true))):=by
       show ¬_;rintro ⟨h1,h2⟩;have h3:k3=true:=by rw[MG.out,ME.out,AH.out];simpa using h1
       have:=yr.out;rw [h3]at this;rcases h2 with h2|h2|h2
       ·have h4:lb=false:=by
         rw [C5.out]
         cases l with
         | nil=>exact absurd rfl h2
         | cons a l=>rfl
        rw [h4]at this;cases this
       ·rw[h2]at this;cases lb<;>cases this
       ·rw[h2]at this;cases lb<;>cases m<;>cases this
      obtain ⟨bw,Kf⟩:∃bw:Bool,bw=(k1&&(!lb || m)):=⟨_,rfl⟩;have ub:=zH Kf;clear Kf yr MG t3;go_upto_region 25 with fail;go_cut [136] (fun v wc=>v=.bool bw/\wc=W4)
      case first =>
       have hb:=ub
       cases k1
       ·have e:Hid (bw=false):=by show _=_;rw[hb.out];rfl
        clear ub hb;go_wp2_with fail;go_meet;exact ⟨by rw[e.out],rfl⟩
       ·cases lb
        ·have e:Hid (bw=true):=by show _=_;rw[hb.out];rfl
         clear ub hb;go_wp2_with fail;go_meet;exact ⟨by rw[e.out],rfl⟩
        ·cases m
         ·have e:Hid (bw=false):=by show _=_;rw[hb.out];rfl
          clear ub hb;go_wp2_with fail;go_meet;exact ⟨by rw[e.out],rfl⟩
         ·have e:Hid (bw=true):=by show _=_;rw[hb.out];rfl
          clear ub hb;go_wp2_with fail;go_meet;exact ⟨by rw[e.out],rfl⟩
      case rest =>
       obtain ⟨rfl,hwc⟩:=hcut;obtain rfl:W4=wc:=hwc.symm;have Vx:k1=true↔(ac S.nodes (bn S at_ p)).kind≠1:=by rw[Ke.out,ME.out,AH.out];simp
       have Vy:lb=false↔l≠[]:=by
        rw [C5.out]
        cases l<;>simp
       have TU:=zH Vx;have AJ:=zH Vy;clear Vx Vy t1
       cases bw with
       | true =>
        have e1:Hid (R=(bq,9)):=by
         show _=_;have h1:=ub.out;have hk:k1=true:=by cases k1<;>simp at h1|-
         rw [hk]at h1;rw [HR.out,wT rQ.out qE.out HI.out Qe.out (TU.out.1 hk)]
         cases hlb:lb
         ·exact .inl (AJ.out.1 hlb)
         ·rw [hlb]at h1
          cases hm:m
          ·rw[hm]at h1;cases h1
          ·exact .inr rfl
        clear HR ub T4 C_ TU AJ Qe y2 yV yz c3 c6 cz N4 tl t0 oN t2 TS ME;have z0:=F4.cell 0;have z1:=F4.cell 1;have z2:=F4.cell 2;have z3:=F4.cell 3;have MI:=Has.free F4 0;have MJ:=Has.free F4 1;have ML:=Has.free F4 2;have MN:=Has.free F4 3;have zz:=F4.lt;obtain ⟨R9,O9⟩:=eL bq F4;go_upto_region 26 with fail
        iterate 16 (first|go_values|go_skip|go_guarded|go_step|go_upon|go_in)
        refine bodyPost_ret (v:=.tuple #[.agg (eR bq).toArray,.int .i64 9]) (cr Tryz.results112 _ _ b8 bq _ rfl rfl R9) rfl ?_;exact gQ.mk E4 lD O9 e1.out
       | false =>
        have IG:Hid (¬((ac S.nodes (bn S at_ p)).kind≠1/\(l≠[]\/m=true))):=by
         show ¬_;rintro ⟨h1,h2⟩;have h3:=ub.out;rw [TU.out.2 h1]at h3;rcases h2 with h2|h2
         ·rw[AJ.out.2 h2]at h3;cases h3
         ·rw[h2]at h3;cases lb<;>cases h3
        clear ub
        cases lb with
        | true =>
         have jF:l=[]:=by
          have:=C5.out
          cases l with
          | nil=>rfl
          | cons a l=>cases this
         have e1:Hid (R=(⟨at_,p,z,m⟩,0)):=by
          show _=_;rw [HR.out,wU rQ.out qE.out HI.out Qe.out IG.out jF,AH.out]
         clear HR jF y2 yV yz;have ED:Ext W4 W4.drew:=(Ext.refl _).drew;have FD:=F4.ext ED;go_upto_region 28 with fail;rw [Kc.out];go_still_tail 11,(by kernel_rfl);change wpList _ _ _ _ _ W4.drew;have z0:=F4.cell 0;have z1:=F4.cell 1;have z2:=F4.cell 2;have z3:=F4.cell 3;have MI:=Has.free F4 0;have MJ:=Has.free F4 1;have ML:=Has.free F4 2;have MN:=Has.free F4 3;have zz:=F4.lt;obtain ⟨R9,O9⟩:=eL (⟨at_,p,z,m⟩:gI) FD
         iterate 12 (first|go_values|go_skip|go_guarded|go_step|go_upon|go_back)
         refine bodyPost_ret (v:=.tuple #[.agg (eR ⟨at_,p,z,m⟩).toArray,.int .i64 0]) (cr Tryz.results112 _ _ b8 ⟨at_,p,z,m⟩ _ rfl rfl R9) rfl ?_;exact gQ.mk (E4.trans ED) lD O9 e1.out
        | false =>
         have pS:Hid (R=cL S cu cg eE z l hp m):=by
          show _=_;rw [HR.out,wV rQ.out qE.out HI.out Qe.out IG.out (AJ.out.1 rfl),AH.out]
         have f3:=Has.free T4 3;clear HR y2 yV yz c6;go_wp2_with fail;have O9:Only [b] W4 (W4.setCell ⟨b,3,none⟩ (.int .i64 z)):=Only.setCell _ _ _ _;have T9:dp (W4.setCell ⟨b,3,none⟩ (.int .i64 z)) b g.bW cu cg z (some X) l.length (cap-1) (hp:Int) m:=Has.setCell T4 3 (.int .i64 z);go_roundw
         case rel=>exact⟨z,l,hp,m,some X,cap-1,T9,C_.only O9 AG.out,by simp,Vt.out,AG.out,RP,by have:=BL.out;omega,TR,pS,O9.has F4 (by rw[List.mem_singleton];exact Ne.symm sQ),O9.after E4 (fun x hx=>by rw[List.mem_singleton]at hx;omega)⟩
         case measure=>rw[pR T9,hMr.out];simp
theorem mU {c : Nat} (B:Nat) (g:cE) (S:aa) (X0:cQ) (cu cg:Int) (p0:List UInt8) (eE:Bool) (w:World) (h:gU w B g S X0) (T:dC c S) (hc:c<=1000000) (hl:S.last<=100000) (RL:p0.length<=1000000) :
  Calls Tryz.prog 30 #[.pointer (some ⟨g.bF,0,none⟩),.agg #[cu,cg],bs p0,.bool eE] w (gQ w (dF S cu cg p0 eE)):=by
 obtain ⟨W0,aY⟩:∃W,W=(w.alloc (.cells #[cu,cg] 27)).alloc (.cells #[.int .i64 0,.string ⟨#[]⟩,.int .i64 0,.bool false] 89):=⟨_,rfl⟩;obtain ⟨b5,kF⟩:∃b,b=w.heap.size:=⟨_,rfl⟩;obtain ⟨b8,fP⟩:∃b,b=w.heap.size+1:=⟨_,rfl⟩;have E0:Ext w W0:=by rw[aY];exact ((Ext.refl _).alloc _).alloc _
 have F0:Has W0 b8 (.cells (eR bq).toArray 89):=by rw[aY,fP];have:=Has.new (w.alloc (.cells #[cu,cg] 27)) (.cells #[.int .i64 0,.string ⟨#[]⟩,.int .i64 0,.bool false] 89);rw[World.size_alloc]at this;exact this
 have C0:Has W0 b5 (.cells #[cu,cg] 27):=by rw[aY,kF];exact (Has.new w _).alloc _
 have lD:w.heap.size<=b8:=by omega
 have RU:S.nodes.length<=1000000:=by have:=T.count;omega
 obtain⟨R,hR⟩:=aq (dF S cu cg p0 eE);rw [<-hR];have HR:=zH hR;obtain⟨q,hq⟩:=aq (jR p0);have HQ:=zH hq;clear hR;go_enter Tryz.func30,Tryz.ntmps30;go_upto_region 1 with fail;rw [<-aY,<-kF];rw [show b5+1=b8 by omega];clear aY kF fP;go_wp2_with fail;refine (Gq p0 _ RL).mono ?_;rw [<-hq];rintro e w2 ⟨rfl,b2⟩;have E2:=E0.trans b2;have F2:=F0.ext b2;have C2:=C0.ext b2;clear hq F0 C0 E0 b2
 by_cases rV:q=0
 case neg =>
  have t0:(q == 0)=false:=by simpa using rV
  have oN:(q != 0)=true:=by simpa using rV
  have e1:Hid (R=(bq,q)):=by show _=_;rw[HR.out,HQ.out];unfold dF;rw[if_neg (by rw[<-HQ.out];exact rV)]
  clear rV;go_wp2_with (refine bY rfl _ _ rfl b8 bq bq rfl rfl F2 ?_;intro w9 R9 O9);refine bodyPost_ret (v:=.tuple #[.agg (eR bq).toArray,.int .i64 q]) (cr Tryz.results30 _ _ b8 bq _ rfl rfl R9) rfl ?_;exact gQ.mk E2 lD O9 e1.out
 have t0:(q == 0)=true:=by simpa using rV
 have oN:(q != 0)=false:=by simpa using rV
 have pS:Hid (R=cL S cu cg eE 1 (aX p0) 0 (eJ p0)):=by show _=_;rw[HR.out];unfold dF;rw[if_pos (by rw[<-HQ.out];exact rV)]
 have sx:Hid (∀p∈aX p0,p.length<=1100000):=by show ∀p∈_,_;intro p hp;have:=pQ hp;omega
 have EB:Hid ((aX p0).length<=1050000):=by show _<=_;have:=kr p0;omega
 clear HR HQ rV;go_wp2_with fail;refine (tT p0 _ (by omega)).mono ?_;rintro e w3 ⟨v3,rfl,pg,b3⟩;obtain ⟨A3,c3,rfl,CZ,RM,Kb,RN⟩:=jH.at_ pg;go_wp2_with fail;refine (tU p0 _ (by omega)).mono ?_;rintro e w4 ⟨rfl,b4⟩;have E4:=(E2.trans b3).trans b4;have F4:=(F2.ext b3).ext b4;have C4:=(C2.ext b3).ext b4;have C_:=Kb.ext b4;obtain⟨l0,jF⟩:=aq (aX p0);obtain⟨m0,hm0⟩:=aq (eJ p0);rw [<-jF]at C_ pS sx EB CZ;rw [<-hm0]at pS;rw [<-jF,<-hm0];have RO:=zH CZ;clear CZ RM Kb pg b3 b4 E2 F2 C2 jF hm0 t0 oN;go_wp2_with fail;go_loopw [11,12,13,14] (fun v11 v12 v13 Vz wr=>∃(at_:Int) (l:List (List UInt8)) (h:Nat) (m:Bool) (A:Option Addr) (cap:Nat),v11=.slice A l.length cap/\v12=.bool m/\v13=.int .i64 at_/\Vz=.int .i64 (h:Int)/\ik wr A l/\(A=none->cap=0)/\l.length<=cap/\Hid (∀p∈l,p.length<=1100000)/\l.length<=1050000*(h+1)/\h<=8/\Hid (R=cL S cu cg eE at_ l h m)/\Has wr b8 (.cells (eR bq).toArray 89)/\Has wr b5 (.cells #[cu,cg] 27)/\Ext w wr) (fun v11 _ _ Vz _=>(9-(intOf Vz).toNat)*20000000+Gy v11)
 case atStart=>exact⟨1,l0,0,m0,A3,c3,rfl,rfl,rfl,rfl,C_,RN,RO.out,sx,by have:=EB.out;omega,by decide,pS,F4,C4,E4⟩
 case round =>
  obtain ⟨at_,l,hp,m,A,cap,rfl,rfl,rfl,rfl,hat,hA0,hlc,HL,Hm,TR,HR,Fr,Cr,Er⟩:=hrel
  cases l with
  | nil =>
   have e1:Hid (R=(⟨0,[],at_,true⟩,0)):=by show _=_;rw[HR.out,pO]
   clear HR;go_wp2_with (refine bY rfl _ _ rfl b8 bq ⟨0,[],at_,true⟩ rfl rfl Fr ?_;intro w9 R9 O9);refine bodyPost_ret (v:=.tuple #[.agg (eR ⟨0,[],at_,true⟩).toArray,.int .i64 0]) (cr Tryz.results30 _ _ b8 ⟨0,[],at_,true⟩ _ rfl rfl R9) rfl ?_;exact gQ.mk Er lD O9 e1.out
  | cons p l =>
   obtain ⟨bl,o,rfl,BI,hcl⟩:∃bl o,A=some ⟨bl,o,none⟩/\bl<wr.heap.size/\∀k,(h:k<(p::l).length)->wr.cell? ⟨bl,o+k,none⟩=some (.string (bs (p::l)[k])):=by
    rcases hat with h0|h0
    ·cases h0
    ·exact h0
   obtain⟨n,hn⟩:=aq ((p::l).length);have mB:n=l.length+1:=by rw[hn];rfl
   have hc0:wr.cell? ⟨bl,o,none⟩=some (.string (bs p)):=hcl 0 (by simp);obtain ⟨X,wH,hX,Yr⟩:=ua bl o n l.length cap mB (by omega);have hpl:p.length<=1100000:=HL.out p (List.mem_cons_self ..);have yp:ik wr (some X) l:=by
    by_cases jF:l=[]
    ·exact .inl jF
    ·have hpos:0<l.length:=List.length_pos_iff.2 jF
     rw [hX hpos];refine .inr ⟨bl,o+1,rfl,BI,fun k hk=>?_⟩;have h1:=hcl (k+1) (by simp;omega);rw [show o+1+k=o+(k+1) by omega];exact h1
   have Vt:=zH (show l.length<=cap-1 by omega);have BL:=zH (show l.length+1<=1050000*(hp+1) by omega);have RP:Hid (∀q∈l,q.length<=1100000):=by show ∀q∈l,_;intro q hq;exact HL.out q (List.mem_cons_of_mem _ hq)
   have q0:(0:Int)<(n:Int):=by omega
   obtain⟨lb,hlb⟩:=aq l.isEmpty;have tl:((n:Int) == 1)=lb:=by rw[hlb,mB];cases l<;>simp<;>omega
   have C5:=zH hlb;rw [<-hn];have HMR:=zH (show (p::l).length=n from hn.symm);clear hat hcl hX Yr hlc Hm HL hA0 hlb mB hn;go_upto_region 8 with fail;clear wH hc0 q0 tl;go_wp2_with fail;refine (fc B g S X0 at_ _ (h.ext Er) RU T.aC).mono ?_;rintro e w5 ⟨A5,c5,rfl,xN,MB⟩;obtain⟨d,hd⟩:=aq (ac S.nodes at_);have Vm:iH d.af/\d.af.length<=c:=by rw[hd];exact T.ac at_
   have tI:=zH Vm;rw [<-hd]at xN;rw [<-hd];have HD:=zH hd;obtain ⟨W6,MO⟩:∃W,W=w5.alloc (.cells #[d.no,d.dev,d.kind,d.mode,d.uid,d.gid,d.mtime,d.ctime,d.ah,d.up,bs d.data,.slice A5 d.af.length c5] 58):=⟨_,rfl⟩;obtain ⟨b17,RV⟩:∃b,b=w5.heap.size:=⟨_,rfl⟩;have TV:Ext w5 W6:=by rw[MO];exact (Ext.refl _).alloc _
   have D6:Has W6 b17 (.cells #[d.no,d.dev,d.kind,d.mode,d.uid,d.gid,d.mtime,d.ctime,d.ah,d.up,bs d.data,.slice A5 d.af.length c5] 58):=by rw[MO,RV];exact Has.new _ _
   have E6:=(Er.trans MB).trans TV;have F6:=(Fr.ext MB).ext TV;have C6:=(Cr.ext MB).ext TV;have VA:=(yp.ext MB).ext TV;have rZ:=xN.ext TV;have hE:Hid (en S cu cg at_ p=if d.kind≠1 then 9 else if fy cu cg d.uid d.gid d.mode 1=false then 6 else if p=[46,46] then 0 else if 255<p.length then 13 else 0):=by show _=_;rw[hd];rfl
   have k2:W6.cell? ⟨b17,2,none⟩=some (.int .i64 d.kind):=D6.cell 2;have kz:=D6.lt;clear hd Vm Fr Cr Er yp xN;go_upto_region 9 with fail;rw [<-MO,<-RV];clear MO RV MB TV
   by_cases q1:d.kind=1
   case neg =>
    have t1:(d.kind == 1)=false:=by simpa using q1
    have vr:(d.kind != 1)=true:=by simpa using q1
    have e0:en S cu cg at_ p=9:=by rw[hE.out,if_pos q1]
    have e1:Hid (R=(bq,9)):=by show _=_;rw[HR.out,pP (by rw[e0];decide),e0]
    clear q1 e0 HR;have z0:=F6.cell 0;have z1:=F6.cell 1;have z2:=F6.cell 2;have z3:=F6.cell 3;have MI:=Has.free F6 0;have MJ:=Has.free F6 1;have ML:=Has.free F6 2;have MN:=Has.free F6 3;have zz:=F6.lt;obtain ⟨R9,O9⟩:=eL (bq:gI) F6;go_upto_region 10 with fail
    iterate 15 (first|go_values|go_skip|go_guarded|go_step|go_upon|go_back)
    refine bodyPost_ret (v:=.tuple #[.agg (eR bq).toArray,.int .i64 9]) (cr Tryz.results30 _ _ b8 bq _ rfl rfl R9) rfl ?_;exact gQ.mk E6 lD O9 e1.out
   have t1:(d.kind == 1)=true:=by simpa using q1
   have vr:(d.kind != 1)=false:=by simpa using q1
   obtain⟨u,hu⟩:=aq (fy cu cg d.uid d.gid d.mode 1);have kZ:Hid (en S cu cg at_ p=if u=false then 6 else if p=[46,46] then 0 else if 255<p.length then 13 else 0):=by show _=_;rw[hE.out,if_neg (fun k=>k q1),hu]
   have HU:=zH hu;clear q1 hE hu;obtain ⟨n0,n1,n2,n3,n4,n5,n6,n7,n8,n9,CE,zT⟩:=D6.dP;have x0:W6.cell? ⟨b5,0,none⟩=some (.int .i64 cu):=C6.cell 0;have x1:W6.cell? ⟨b5,1,none⟩=some (.int .i64 cg):=C6.cell 1;have xz:=C6.lt;go_wp2_with fail;refine (wF cu cg _ _ _ d.mode d.uid d.gid _ _ _ _ _ _ 1 _).mono ?_;rw [<-HU.out];rintro e w7 ⟨rfl,b7⟩;have E7:=E6.trans b7;have F7:=F6.ext b7;have C7:=C6.ext b7;have D7:=D6.ext b7;have RW:=VA.ext b7;have xH:=rZ.ext b7;clear n0 n1 n2 n3 n4 n5 n6 n7 n8 n9 CE zT x0 x1 xz k2 kz E6 F6 C6 D6 VA rZ b7
   cases u with
   | false =>
    have e0:en S cu cg at_ p=6:=by rw[kZ.out,if_pos rfl]
    have e1:Hid (R=(bq,6)):=by show _=_;rw[HR.out,pP (by rw[e0];decide),e0]
    clear e0 HR;have z0:=F7.cell 0;have z1:=F7.cell 1;have z2:=F7.cell 2;have z3:=F7.cell 3;have MI:=Has.free F7 0;have MJ:=Has.free F7 1;have ML:=Has.free F7 2;have MN:=Has.free F7 3;have zz:=F7.lt;obtain ⟨R9,O9⟩:=eL (bq:gI) F7;go_upto_region 12 with fail
    iterate 15 (first|go_values|go_skip|go_guarded|go_step|go_upon|go_back)
    refine bodyPost_ret (v:=.tuple #[.agg (eR bq).toArray,.int .i64 6]) (cr Tryz.results30 _ _ b8 bq _ rfl rfl R9) rfl ?_;exact gQ.mk E7 lD O9 e1.out
   | true =>
    have mr:Hid (en S cu cg at_ p=if p=[46,46] then 0 else if 255<p.length then 13 else 0):=by show _=_;rw[kZ.out,if_neg (by decide)]
    obtain ⟨XP,MF⟩:∃Y,Y=bs p:=⟨_,rfl⟩;have TN:(XP.size:Int)=p.length:=by rw[MF,aR]
    have tX:(XP.toList == [46,46])=(p == [46,46]):=by rw[MF];exact gD.2.2.1
    have Kc:=zH MF;rw [<-MF];clear kZ MF
    by_cases q2:p=[46,46]
    ·have t2:(XP.toList == [46,46])=true:=by rw[tX,q2];rfl
     have e0:en S cu cg at_ p=0:=by rw[mr.out,if_pos q2]
     have pS:Hid (R=cL S cu cg eE (a_ S at_) l hp m):=by show _=_;rw[HR.out,Ez e0 q2]
     clear tX q2 e0 HR TN;go_wp2_with fail;refine (Cm B g S X0 at_ _ (h.ext E7) RU T.eight T.roots T.aC).mono ?_;rintro e w8 ⟨rfl,Em⟩;obtain⟨z,hz⟩:=aq (a_ S at_);rw [<-hz]at pS;rw [<-hz];clear hz;have F8:=F7.ext Em;have C8:=C7.ext Em;have Rs:=RW.ext Em;have E8:=E7.trans Em;go_wp2_with fail;go_roundw
     case rel=>exact⟨z,l,hp,m,some X,cap-1,rfl,rfl,rfl,rfl,Rs,by simp,Vt.out,RP,by have:=BL.out;omega,TR,pS,F8,C8,E8⟩
     case measure=>have:=HMR.out;simp[intOf,Gy]at this|-;omega
    have t2:(XP.toList == [46,46])=false:=by rw[tX];simpa using q2
    have qE:=zH q2;have Qc:Hid (en S cu cg at_ p=if 255<p.length then 13 else 0):=by show _=_;rw[mr.out,if_neg q2]
    clear tX q2 mr
    by_cases q3:255<p.length
    ·have t3:(255:Int)<XP.size:=by omega
     have e0:en S cu cg at_ p=13:=by rw[Qc.out,if_pos q3]
     have e1:Hid (R=(bq,13)):=by show _=_;rw[HR.out,pP (by rw[e0];decide),e0]
     clear q3 e0 HR TN;have z0:=F7.cell 0;have z1:=F7.cell 1;have z2:=F7.cell 2;have z3:=F7.cell 3;have MI:=Has.free F7 0;have MJ:=Has.free F7 1;have ML:=Has.free F7 2;have MN:=Has.free F7 3;have zz:=F7.lt;obtain ⟨R9,O9⟩:=eL (bq:gI) F7;go_upto_region 16 with fail
     iterate 15 (first|go_values|go_skip|go_guarded|go_step|go_upon|go_back)
     refine bodyPost_ret (v:=.tuple #[.agg (eR bq).toArray,.int .i64 13]) (cr Tryz.results30 _ _ b8 bq _ rfl rfl R9) rfl ?_;exact gQ.mk E7 lD O9 e1.out
    have t3:¬(255:Int)<XP.size:=by omega
    have rQ:Hid (en S cu cg at_ p=0):=by show _=_;rw[Qc.out,if_neg q3]
    have Jl:w7.cell? ⟨b17,11,none⟩=some (.slice A5 d.af.length c5):=D7.cell 11;have yz:=D7.lt;clear q3 Qc TN;go_wp2_with fail;rw [Kc.out];refine (qs A5 d.af c5 p _ xH.af.af (by have:=tI.out.2;omega)).mono ?_;rintro e w8 ⟨rfl,Em⟩;rw [<-Kc.out];obtain⟨fo,hfo⟩:=aq (bk d.af p);rw [<-hfo];have HFO:=zH hfo;have E8:=E7.trans Em;clear hfo Jl yz;go_wp2_with fail;refine (jl B g S X0 fo _ (h.ext E8) (by have:=T.eight;omega)).mono ?_;rintro e w9' ⟨rfl,b9'⟩;obtain⟨z,hz⟩:=aq (ar S.ag fo);rw [<-hz];have AH:Hid (z=bn S at_ p):=by show _=_;rw[hz,HFO.out,HD.out];rfl
    have E9:=E8.trans b9';clear hz;go_wp2_with fail;refine (fc B g S X0 z _ (h.ext E9) RU T.aC).mono ?_;rintro e Da ⟨A10,VB,rfl,aan,jb⟩;obtain⟨nd,hnd⟩:=aq (ac S.nodes z);obtain⟨is,MD⟩:=aq (aK S.nodes z);have VC:is=true->nd.no=z/\z≠0:=fun k=>by
     rw [MD]at k;obtain ⟨_,e1,e2⟩:=aj k;have:=(T.aC.2 _ e2).1;rw [hnd];exact ⟨e1,by rw[<-e1];omega⟩
    have iK:is=false->nd.no=0:=fun k=>by
     rw [MD]at k;rw [hnd,(aZ k).1];rfl
    rw [<-hnd];have ME:=zH hnd;have TS:=zH MD;have aao:=zH VC;have aap:=zH iK;obtain ⟨Gz,Oi⟩:∃W,W=Da.alloc (.cells #[nd.no,nd.dev,nd.kind,nd.mode,nd.uid,nd.gid,nd.mtime,nd.ctime,nd.ah,nd.up,bs nd.data,.slice A10 nd.af.length VB] 58):=⟨_,rfl⟩;obtain ⟨VD,RX⟩:∃b,b=Da.heap.size:=⟨_,rfl⟩;have Qf:Ext Da Gz:=by rw[Oi];exact (Ext.refl _).alloc _
    have VE:Has Gz VD (.cells #[nd.no,nd.dev,nd.kind,nd.mode,nd.uid,nd.gid,nd.mtime,nd.ctime,nd.ah,nd.up,bs nd.data,.slice A10 nd.af.length VB] 58):=by rw[Oi,RX];exact Has.new _ _
    have Kg:Ext w7 Gz:=((Em.trans b9').trans jb).trans Qf;have wX:=E7.trans Kg;have iC:=F7.ext Kg;have C11:=C7.ext Kg;have Qg:=RW.ext Kg;clear hnd MD VC iK F7 C7 D7 RW xH E7 E8 E9 aan;go_upto_region 18 with fail;rw [<-Oi,<-RX];clear Oi RX Em b9' jb Qf Kg;have y0:Gz.cell? ⟨VD,0,none⟩=some (.int .i64 nd.no):=VE.cell 0;have y2:Gz.cell? ⟨VD,2,none⟩=some (.int .i64 nd.kind):=VE.cell 2;have yV:Gz.cell? ⟨VD,10,none⟩=some (.string (bs nd.data)):=VE.cell 10;have yz:=VE.lt
    cases is with
    | false =>
     have HI:Hid (aK S.nodes (bn S at_ p)=false):=by show _=_;rw[<-AH.out];exact TS.out.symm
     rw [aap.out rfl]at y0
     cases lb with
     | true =>
      have e1:Hid (R=(⟨at_,p,0,m⟩,0)):=by
       show _=_;rw [HR.out,wP rQ.out qE.out HI.out];have:=C5.out
       cases l with
       | nil=>rfl
       | cons a l=>cases this
      clear HR y2 yV;go_upto_region 21 with fail;rw [Kc.out];have z0:=iC.cell 0;have z1:=iC.cell 1;have z2:=iC.cell 2;have z3:=iC.cell 3;have MI:=Has.free iC 0;have MJ:=Has.free iC 1;have ML:=Has.free iC 2;have MN:=Has.free iC 3;have zz:=iC.lt;obtain ⟨R9,O9⟩:=eL (⟨at_,p,0,m⟩:gI) iC
      iterate 24 (first|go_values|go_skip|go_guarded|go_step|go_upon|go_back)
      refine bodyPost_ret (v:=.tuple #[.agg (eR ⟨at_,p,0,m⟩).toArray,.int .i64 0]) (cr Tryz.results30 _ _ b8 ⟨at_,p,0,m⟩ _ rfl rfl R9) rfl ?_;exact gQ.mk wX lD O9 e1.out
     | false =>
      have e1:Hid (R=(bq,5)):=by
       show _=_;rw [HR.out,wQ rQ.out qE.out HI.out];rintro rfl
       cases C5.out
      clear HR y2 yV;have z0:=iC.cell 0;have z1:=iC.cell 1;have z2:=iC.cell 2;have z3:=iC.cell 3;have MI:=Has.free iC 0;have MJ:=Has.free iC 1;have ML:=Has.free iC 2;have MN:=Has.free iC 3;have zz:=iC.lt;obtain ⟨R9,O9⟩:=eL (bq:gI) iC;go_upto_region 19 with fail
      iterate 15 (first|go_values|go_skip|go_guarded|go_step|go_upon|go_back)
      refine bodyPost_ret (v:=.tuple #[.agg (eR bq).toArray,.int .i64 5]) (cr Tryz.results30 _ _ b8 bq _ rfl rfl R9) rfl ?_;exact gQ.mk wX lD O9 e1.out
    | true =>
     have HI:Hid (aK S.nodes (bn S at_ p)=true):=by show _=_;rw[<-AH.out];exact TS.out.symm
     obtain ⟨hnz,hz0⟩:=aao.out rfl;rw [hnz]at y0;have t5:(z == 0)=false:=by simpa using hz0
     obtain ⟨k3,lr⟩:∃k:Bool,k=(nd.kind == 3):=⟨_,rfl⟩;obtain ⟨k1,jI⟩:∃k:Bool,k=(nd.kind != 1):=⟨_,rfl⟩;have t6:=lr.symm;have t7:=jI.symm;have MG:=zH lr;have Ke:=zH jI;obtain ⟨bv,Vu⟩:∃bv:Bool,bv=(k3&&(!lb || (m || eE))):=⟨_,rfl⟩;have yr:=zH Vu;clear lr jI Vu hnz hz0;go_upto_region 22 with fail;go_cut [96] (fun v wc=>v=.bool bv/\wc=Gz)
     case first =>
      have hb:Hid (bv=(k3&&(!lb || (m || eE)))):=yr
      cases k3
      ·have e:Hid (bv=false):=by show _=_;rw[hb.out];rfl
       clear yr hb;go_wp2_with fail;go_meet;exact ⟨by rw[e.out],rfl⟩
      ·cases lb
       ·have e:Hid (bv=true):=by show _=_;rw[hb.out];rfl
        clear yr hb;go_wp2_with fail;go_meet;exact ⟨by rw[e.out],rfl⟩
       ·cases m
        ·cases eE
         ·have e:Hid (bv=false):=by show _=_;rw[hb.out];rfl
          clear yr hb;go_wp2_with fail;go_meet;exact ⟨by rw[e.out],rfl⟩
         ·have e:Hid (bv=true):=by show _=_;rw[hb.out];rfl
          clear yr hb;go_wp2_with fail;go_meet;exact ⟨by rw[e.out],rfl⟩
        ·have e:Hid (bv=true):=by show _=_;rw[hb.out];rfl
         clear yr hb;go_wp2_with fail;go_meet;exact ⟨by rw[e.out],rfl⟩
     case rest =>
      obtain ⟨rfl,hwc⟩:=hcut;obtain rfl:Gz=wc:=hwc.symm
      cases bv with
      | true =>
       have nK : k3=true/\(l≠[]\/m=true\/eE=true):=by
        have:=yr.out
        cases k3
        ·cases this
        ·refine ⟨rfl,?_⟩
         cases hm:m
         ·cases hf:eE
          ·left
           rintro rfl;rw [hm,hf,C5.out]at this
           cases this
          ·exact .inr (.inr rfl)
         ·exact .inr (.inl rfl)
       have HK:Hid ((ac S.nodes (bn S at_ p)).kind=3):=by
        show _=_;have h2:=nK.1;rw [MG.out,ME.out,AH.out]at h2;simpa using h2
       have RR:=zH nK.2;have RY:Hid (nd.data=(ac S.nodes (bn S at_ p)).data):=by show _=_;rw[ME.out,AH.out]
       have MH:Hid (nd.data.length<=1048576):=by
        show _<=_;rw [RY.out];exact (T.on _ (aj HI.out).2.2).2
       obtain ⟨h1,RI⟩:∃h1:Nat,h1=hp+1:=⟨_,rfl⟩;have q4:IntKind.i64.wrap ((hp:Int)+1)=(h1:Int):=by rw[IntWalk.i64_in _ (by omega)];omega
       have qN:=zH RI;obtain⟨dt,hdt⟩:=aq nd.data;rw [<-hdt]at yV RY MH;clear nK RI t6 t7 y0 y2 t5
       by_cases q5:8<h1
       ·have t8:(8:Int)<(h1:Int):=by omega
        have e1:Hid (R=(bq,12)):=by show _=_;rw[HR.out,wR rQ.out qE.out HI.out HK.out RR.out (by rw[<-qN.out];exact q5)]
        clear q5 HR;have z0:=iC.cell 0;have z1:=iC.cell 1;have z2:=iC.cell 2;have z3:=iC.cell 3;have MI:=Has.free iC 0;have MJ:=Has.free iC 1;have ML:=Has.free iC 2;have MN:=Has.free iC 3;have zz:=iC.lt;obtain ⟨R9,O9⟩:=eL (bq:gI) iC;go_upto_region 25 with fail
        iterate 15 (first|go_values|go_skip|go_guarded|go_step|go_upon|go_back)
        refine bodyPost_ret (v:=.tuple #[.agg (eR bq).toArray,.int .i64 12]) (cr Tryz.results30 _ _ b8 bq _ rfl rfl R9) rfl ?_;exact gQ.mk wX lD O9 e1.out
       have t8:¬(8:Int)<(h1:Int):=by omega
       have H8:Hid (¬8<hp+1):=by show ¬_;rw[<-qN.out];exact q5
       clear q5
       cases dt with
       | nil =>
        have e1:Hid (R=(bq,5)):=by show _=_;rw[HR.out,tZ rQ.out qE.out HI.out HK.out RR.out H8.out RY.out.symm]
        have u0:(bs []).toList=[]:=bh [];clear HR hdt;have z0:=iC.cell 0;have z1:=iC.cell 1;have z2:=iC.cell 2;have z3:=iC.cell 3;have MI:=Has.free iC 0;have MJ:=Has.free iC 1;have ML:=Has.free iC 2;have MN:=Has.free iC 3;have zz:=iC.lt;obtain ⟨R9,O9⟩:=eL (bq:gI) iC;go_upto_region 27 with fail
        iterate 15 (first|go_values|go_skip|go_guarded|go_step|go_upon|go_back)
        refine bodyPost_ret (v:=.tuple #[.agg (eR bq).toArray,.int .i64 5]) (cr Tryz.results30 _ _ b8 bq _ rfl rfl R9) rfl ?_;exact gQ.mk wX lD O9 e1.out
       | cons ch tt =>
        have pS:Hid (R=cL S cu cg eE (if (ch::tt).head?=some 47 then 1 else at_) (aX (ch::tt)++l) (hp+1) (m || (l.isEmpty&&eJ (ch::tt)))):=by
         show _=_;rw [HR.out,wS rQ.out qE.out HI.out HK.out RR.out H8.out (by rw[<-RY.out];simp),<-RY.out]
        obtain ⟨at2,yq⟩:∃a:Int,a=if (ch::tt).head?=some 47 then 1 else at_:=⟨_,rfl⟩
        obtain ⟨v,hv⟩:∃v:Bool,v=(ch == 47):=⟨_,rfl⟩;have hks:0<(bs (ch::tt)).size:=by rw[aR];simp
        have hs2:(((bs (ch::tt))[0].toNat:Int) == 47)=v:=by rw[show (bs (ch::tt))[0]=ch from rfl,hv];exact wO (c:=ch) (d:=47)
        have Oh:Hid (v=true->at2=1):=by show _->_;intro k;rw[hv]at k;rw[yq,if_pos (by simpa using k)]
        have JH:Hid (v=false->at2=at_):=by show _->_;intro k;rw[hv]at k;rw[yq,if_neg (by simpa using k)]
        rw [<-yq]at pS;have u0:(bs (ch::tt)).toList.isEmpty=false:=by rw[bh];rfl
        clear yq hv HR hdt;go_upto_if 109 with fail;go_cut [13] (fun x wc=>x=.int .i64 at2/\wc=Gz)
        case first =>
         cases v
         ·have e2:=zH (JH.out rfl)
          clear JH Oh;go_wp2_with fail;go_meet;exact ⟨by rw[e2.out],rfl⟩
         ·have e2:=zH (Oh.out rfl)
          clear JH Oh;go_wp2_with fail;go_meet;exact ⟨by rw[e2.out],rfl⟩
        case rest =>
         obtain ⟨rfl,hwc⟩:=hcut;obtain rfl:Gz=wc:=hwc.symm;obtain⟨sl,wH⟩:=aq (eJ (ch::tt));obtain⟨m2,cF⟩:=aq (m || (l.isEmpty&&eJ (ch::tt)));have HM:Hid (m2=(m || (lb&&sl))):=by show _=_;rw[cF,C5.out,wH]
         have HSL:=zH wH;rw [<-cF]at pS;clear wH cF JH Oh hs2 u0 hks;go_upto_region 30 with fail;go_cut [12] (fun x wc=>x=.bool m2/\Ext Gz wc)
         case first =>
          cases m
          ·cases lb
           ·have e2:Hid (m2=false):=by show _=_;rw[HM.out];rfl
            go_wp2_with fail;go_meet;exact ⟨by rw[e2.out],Ext.refl _⟩
           ·have e2:Hid (m2=sl):=by show _=_;rw[HM.out];rfl
            go_wp2_with fail;refine (tU (ch::tt) _ (by have:=MH.out;omega)).mono ?_;rw [<-HSL.out,<-e2.out];rintro e RZ ⟨rfl,Hq⟩;go_wp2_with fail;go_meet;exact ⟨rfl,Hq⟩
          ·have e2:Hid (m2=true):=by show _=_;rw[HM.out];rfl
           go_wp2_with fail;go_meet;exact ⟨by rw[e2.out],Ext.refl _⟩
         case rest =>
          obtain ⟨rfl,Hq⟩:=hcut;have N12:=VE.ext Hq;have y12:wc.cell? ⟨VD,10,none⟩=some (.string (bs (ch::tt))):=(Hq.cell yz).trans yV;have Yk:=N12.lt;clear yV yz;go_wp2_with fail;refine (tT (ch::tt) _ (by have:=MH.out;omega)).mono ?_;rintro e w13 ⟨v13,rfl,VF,x_⟩;have Qh:=(Qg.ext Hq).ext x_;have aag:=kr (ch::tt);obtain ⟨Vz,w14,GA,Kh,Ki⟩:=wW (some X) (cap-1) l w13 VF Qh (by simp) x_.size (by have:=MH.out;omega) (by have:=BL.out;omega);have Kj:Ext wc w14:=x_.grown Ki (fun g hv=>(World.ownsRow.lt VF g hv).1);have R7:=zH GA;obtain ⟨A14,Yt,rfl,VG,VH,VI,VJ⟩:=jH.at_ Kh;have aaq:=zH VG;have F14:=(iC.ext Hq).ext Kj;have C14:=(C11.ext Hq).ext Kj;have E15:=(wX.trans Hq).trans Kj;have yt:Hid ((aX (ch::tt)++l).length<=1050000*(hp+1+1)):=by
           show _<=_;have:=MH.out;have:=BL.out;rw [List.length_append];omega
          have RT:Hid (∀q∈aX (ch::tt)++l,q.length<=1100000):=by
           show ∀q∈_,_;intro q hq;rcases List.mem_append.1 hq with hq|hq
           ·have:=pQ hq
            have:=MH.out;omega
           ·exact RP.out q hq
          clear GA Kh Ki VG VH Qh y12;go_wp2_with (at_builtin;refine Lib.wpList_append_run _ rfl _ _ 140 140 rfl _ _ rfl rfl _ _ R7.out ?_);have H8b:=zH (show hp+1<=8 by have:=H8.out;omega);go_roundw
          case rel=>exact⟨at2,aX (ch::tt)++l,hp+1,m2,A14,Yt,by rw[List.length_append],rfl,rfl,by rw[qN.out],VI,VJ,aaq.out,RT,yt.out,H8b.out,pS,F14,C14,E15⟩
          case measure =>
           have h1':=yt.out;rw [List.length_append]at h1';have nu:=H8b.out;have h3':=qN.out;simp only[intOf,Gy];omega
      | false =>
       have Qe:Hid (¬((ac S.nodes (bn S at_ p)).kind=3/\(l≠[]\/m=true\/eE=true))):=by
        show ¬_;rintro ⟨h1,h2⟩;have h3:k3=true:=by rw[MG.out,ME.out,AH.out];simpa using h1
        have:=yr.out;rw [h3]at this;rcases h2 with h2|h2|h2
        ·have h4:lb=false:=by
          rw [C5.out]
          cases l with
          | nil=>exact absurd rfl h2
          | cons a l=>rfl
         rw [h4]at this;cases this
        ·rw[h2]at this;cases lb<;>cases this
        ·rw[h2]at this;cases lb<;>cases m<;>cases this
       obtain ⟨bw,Kf⟩:∃bw:Bool,bw=(k1&&(!lb || m)):=⟨_,rfl⟩;have ub:=zH Kf;clear Kf yr MG t6 yV;go_upto_region 32 with fail;go_cut [133] (fun v wc=>v=.bool bw/\wc=Gz)
       case first =>
        have hb:=ub
        cases k1
        ·have e:Hid (bw=false):=by show _=_;rw[hb.out];rfl
         clear ub hb;go_wp2_with fail;go_meet;exact ⟨by rw[e.out],rfl⟩
        ·cases lb
         ·have e:Hid (bw=true):=by show _=_;rw[hb.out];rfl
          clear ub hb;go_wp2_with fail;go_meet;exact ⟨by rw[e.out],rfl⟩
         ·cases m
          ·have e:Hid (bw=false):=by show _=_;rw[hb.out];rfl
           clear ub hb;go_wp2_with fail;go_meet;exact ⟨by rw[e.out],rfl⟩
          ·have e:Hid (bw=true):=by show _=_;rw[hb.out];rfl
           clear ub hb;go_wp2_with fail;go_meet;exact ⟨by rw[e.out],rfl⟩
       case rest =>
        obtain ⟨rfl,hwc⟩:=hcut;obtain rfl:Gz=wc:=hwc.symm;have Vx:k1=true↔(ac S.nodes (bn S at_ p)).kind≠1:=by rw[Ke.out,ME.out,AH.out];simp
        have Vy:lb=false↔l≠[]:=by
         rw [C5.out]
         cases l<;>simp
        have TU:=zH Vx;have AJ:=zH Vy;clear Vx Vy t7 y2
        cases bw with
        | true =>
         have e1:Hid (R=(bq,9)):=by
          show _=_;have h1:=ub.out;have hk:k1=true:=by cases k1<;>simp at h1|-
          rw [hk]at h1;rw [HR.out,wT rQ.out qE.out HI.out Qe.out (TU.out.1 hk)]
          cases hlb:lb
          ·exact .inl (AJ.out.1 hlb)
          ·rw [hlb]at h1
           cases hm:m
           ·rw[hm]at h1;cases h1
           ·exact .inr rfl
         clear HR ub;have z0:=iC.cell 0;have z1:=iC.cell 1;have z2:=iC.cell 2;have z3:=iC.cell 3;have MI:=Has.free iC 0;have MJ:=Has.free iC 1;have ML:=Has.free iC 2;have MN:=Has.free iC 3;have zz:=iC.lt;obtain ⟨R9,O9⟩:=eL (bq:gI) iC;go_upto_region 33 with fail
         iterate 15 (first|go_values|go_skip|go_guarded|go_step|go_upon|go_back)
         refine bodyPost_ret (v:=.tuple #[.agg (eR bq).toArray,.int .i64 9]) (cr Tryz.results30 _ _ b8 bq _ rfl rfl R9) rfl ?_;exact gQ.mk wX lD O9 e1.out
        | false =>
         have IG:Hid (¬((ac S.nodes (bn S at_ p)).kind≠1/\(l≠[]\/m=true))):=by
          show ¬_;rintro ⟨h1,h2⟩;have h3:=ub.out;rw [TU.out.2 h1]at h3;rcases h2 with h2|h2
          ·rw[AJ.out.2 h2]at h3;cases h3
          ·rw[h2]at h3;cases lb<;>cases h3
         clear ub
         cases lb with
         | true =>
          have jF:l=[]:=by
           have:=C5.out
           cases l with
           | nil=>rfl
           | cons a l=>cases this
          have e1:Hid (R=(⟨at_,p,z,m⟩,0)):=by
           show _=_;rw [HR.out,wU rQ.out qE.out HI.out Qe.out IG.out jF,AH.out]
          clear HR jF;have z0:=iC.cell 0;have z1:=iC.cell 1;have z2:=iC.cell 2;have z3:=iC.cell 3;have MI:=Has.free iC 0;have MJ:=Has.free iC 1;have ML:=Has.free iC 2;have MN:=Has.free iC 3;have zz:=iC.lt;obtain ⟨R9,O9⟩:=eL (⟨at_,p,z,m⟩:gI) iC;go_upto_region 35 with fail;rw [Kc.out]
          iterate 30 (first|go_values|go_skip|go_guarded|go_step|go_upon|go_back)
          refine bodyPost_ret (v:=.tuple #[.agg (eR ⟨at_,p,z,m⟩).toArray,.int .i64 0]) (cr Tryz.results30 _ _ b8 ⟨at_,p,z,m⟩ _ rfl rfl R9) rfl ?_;exact gQ.mk wX lD O9 e1.out
         | false =>
          have pS:Hid (R=cL S cu cg eE z l hp m):=by
           show _=_;rw [HR.out,wV rQ.out qE.out HI.out Qe.out IG.out (AJ.out.1 rfl),AH.out]
          clear HR;go_wp2_with fail;go_roundw
          case rel=>exact⟨z,l,hp,m,some X,cap-1,rfl,rfl,rfl,rfl,Qg,by simp,Vt.out,RP,by have:=BL.out;omega,TR,pS,iC,C11,wX⟩
          case measure=>have:=HMR.out;simp[intOf,Gy]at this|-;omega
end Go.Proofs.YtblbohcaphcobaaGreatDoor
