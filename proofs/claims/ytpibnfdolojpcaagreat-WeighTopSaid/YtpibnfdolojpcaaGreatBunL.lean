import Derived.Test.YtpibnfdolojpcaaGreatBunA
import Derived.Test.YtpibnfdolojpcaaGreatBunB
import Derived.Test.YtpibnfdolojpcaaGreatBunC
import Derived.Test.YtpibnfdolojpcaaGreatBunD
import Derived.Test.YtpibnfdolojpcaaGreatBunE
import Derived.Test.YtpibnfdolojpcaaGreatBunH
import Derived.Test.YtpibnfdolojpcaaGreatBunI
import Derived.BigQuiet
import Derived.StillTailTactics
import Derived.RangeFuncBox
import Derived.Lib.LastIndexByte
import Derived.ControlIn
import Derived.Scope
import Derived.AtR
import Derived.RangeFuncNested
import Derived.RangeFuncBound
import Derived.RangeFuncCalls
import Derived.RangeFuncLeaves
import Derived.Shelf.Abstract
import Derived.OwnWalkIn
import Derived.TacticsInMore
import Derived.LoopNIn
import Derived.LoopIn
set_option maxHeartbeats 16000000
set_option maxRecDepth 100000
namespace Go.Proofs.YtpibnfdolojpcaaGreat
def pc (cur:List UInt8):List UInt8→List (List UInt8)
 | []=>[cur]
 | c::l=>if c=47 then cur::pc [] l else pc (cur++[c]) l
def good (p:List UInt8):Bool:=!(p == [])&&!(p == [46])
def partsN (l:List UInt8):List (List UInt8):=(pc [] l).filter good
theorem pc_ne (l:List UInt8):∀cur,pc cur l≠[]:=by
 induction l with
 | nil=>intro cur h;cases h
 | cons c l ih=>intro cur;unfold pc;split<;>simp[ih]
theorem pc_len (l:List UInt8):∀cur,(pc cur l).length≤l.length+1:=by
 induction l with
 | nil=>intro cur;simp[pc]
 | cons c l ih =>
  intro cur;unfold pc;split
  ·have:=ih [];simp;omega
  ·have:=ih (cur++[c]);simp;omega
def total:List (List UInt8)→Nat
 | []=>0
 | p::l=>p.length+total l
theorem pc_total (l:List UInt8):∀cur,total (pc cur l)≤cur.length+l.length:=by
 induction l with
 | nil=>intro cur;simp[pc,total]
 | cons c l ih =>
  intro cur;unfold pc;split
  ·have:=ih [];simp[total]at *;omega
  ·have:=ih (cur++[c]);simp at *;omega
theorem total_filter (f:List UInt8→Bool) (l:List (List UInt8)):total (l.filter f)≤total l:=by
 induction l with
 | nil=>simp
 | cons x l ih=>rw[List.filter_cons];split<;>simp[total]<;>omega
theorem parts_total (l:List UInt8):total (partsN l)≤l.length:=by
 have h1:=total_filter good (pc [] l);have h2:=pc_total l [];unfold partsN;simp at h2;omega
theorem parts_len (l:List UInt8):(partsN l).length≤l.length+1:=by
 have h1:=List.length_filter_le good (pc [] l);have h2:=pc_len l [];unfold partsN;omega
def lastP (l:List UInt8):List UInt8:=(pc [] l).getLastD []
def afterLast (l:List UInt8):List UInt8:=(l.reverse.takeWhile (·≠47)).reverse
theorem tw_iff {α:Type} {p:α→Bool} {l:List α}:l.takeWhile p=l↔∀x∈l,p x=true:=by
 induction l with
 | nil=>simp
 | cons a l ih =>
  rw [List.takeWhile_cons]
  by_cases h:p a=true
  ·rw[if_pos h];simp[h,ih]
  ·rw[if_neg h];simp[h]
theorem getLastD_cons_ne {α:Type} (a d:α) (l:List α) (h:l≠[]):(a::l).getLastD d=l.getLastD d:=by
 cases l with
 | nil=>exact absurd rfl h
 | cons b l=>rfl
theorem last_pc (l:List UInt8):∀cur,(pc cur l).getLastD []=if 47∈l then afterLast l else cur++l:=by
 induction l with
 | nil=>intro cur;simp[pc]
 | cons c l ih =>
  intro cur;unfold pc
  by_cases hc:c=47
  ·rw [if_pos hc,getLastD_cons_ne _ _ _ (pc_ne _ _),ih []]
   rw [if_pos (show 47∈c::l by rw[hc];exact List.mem_cons_self ..)];unfold afterLast
   by_cases hl:47∈l
   ·rw [if_pos hl,List.reverse_cons,List.takeWhile_append]
    rw [if_neg];intro h;have h2:=List.takeWhile_prefix (p:=fun x:UInt8=>decide (x≠47)) (l:=l.reverse);have h3:List.takeWhile (fun x:UInt8=>decide (x≠47)) l.reverse=l.reverse:=h2.eq_of_length h;have h4:=tw_iff.1 h3 47 (List.mem_reverse.2 hl);simp at h4
   ·rw [if_neg hl,List.reverse_cons,List.takeWhile_append,if_pos]
    ·rw [hc]
     have:List.takeWhile (fun x:UInt8=>decide (x≠47)) [47]=[]:=by decide
     rw [this,List.append_nil,List.reverse_reverse];rfl
    ·congr 1
     rw [tw_iff];intro x hx;have:x≠47:=by rintro rfl;exact hl (List.mem_reverse.1 hx)
     simpa using this
  ·rw [if_neg hc,ih (cur++[c])]
   by_cases hl:47∈l
   ·rw [if_pos hl,if_pos (List.mem_cons_of_mem _ hl)]
    unfold afterLast;rw [List.reverse_cons,List.takeWhile_append,if_neg];intro h;have h2:=List.takeWhile_prefix (p:=fun x:UInt8=>decide (x≠47)) (l:=l.reverse);have h3:List.takeWhile (fun x:UInt8=>decide (x≠47)) l.reverse=l.reverse:=h2.eq_of_length h;have h4:=tw_iff.1 h3 47 (List.mem_reverse.2 hl);simp at h4
   ·have:¬47∈c::l:=by
     intro h;rcases List.mem_cons.1 h with h|h
     ·exact hc h.symm
     ·exact hl h
    rw [if_neg hl,if_neg this];simp
theorem lastP_eq (l:List UInt8):lastP l=afterLast l:=by
 unfold lastP;rw [last_pc];split
 ·rfl
 ·rename_i h
  unfold afterLast;have:l.reverse.takeWhile (fun x:UInt8=>decide (x≠47))=l.reverse:=by
   rw [tw_iff];intro x hx;have:x≠47:=by rintro rfl;exact h (List.mem_reverse.1 hx)
   simpa using this
  rw [this,List.reverse_reverse];rfl
def restP (l:List UInt8) (fr k:Nat):List (List UInt8):=if k≤l.length then pc ((l.drop fr).take (k-fr)) (l.drop k) else []
theorem restP_start (l:List UInt8):restP l 0 0=pc [] l:=by simp[restP]
theorem take_more {l:List UInt8} {fr k:Nat} (h:fr≤k) (hk:k<l.length):(l.drop fr).take (k+1-fr)=(l.drop fr).take (k-fr)++[l[k]]:=by
 rw [show k+1-fr=(k-fr)+1 by omega,List.take_succ_eq_append_getElem (by rw[List.length_drop];omega)]
 congr 2
 rw [List.getElem_drop]
 congr 1
 omega
theorem restP_go {l:List UInt8} {fr k:Nat} (h:fr≤k) (hk:k<l.length) (hc:l[k]≠47):restP l fr (k+1)=restP l fr k:=by
 unfold restP;rw [if_pos (by omega),if_pos (by omega),take_more h hk,List.drop_eq_getElem_cons hk,pc,if_neg hc]
theorem restP_cut {l:List UInt8} {fr k:Nat} (hk:k<l.length) (hc:l[k]=47):restP l fr k=(l.drop fr).take (k-fr)::restP l (k+1) (k+1):=by
 unfold restP;rw [if_pos (by omega),if_pos (by omega),List.drop_eq_getElem_cons hk,pc,if_pos hc];simp
theorem restP_end {l:List UInt8} {fr:Nat}:restP l fr l.length=(l.drop fr).take (l.length-fr)::restP l (l.length+1) (l.length+1):=by
 unfold restP;rw [if_pos (Nat.le_refl _),if_neg (by omega),List.drop_length,pc]
def slashB (l:List UInt8):Bool:=lastP l == [] || lastP l == [46] || lastP l == [46,46]
def cutN (l:List UInt8):List UInt8:=(l.reverse.dropWhile (· == 47)).reverse
open Go.RowKit
theorem slice_to {P:Program} {t:TypeId} (ht:P.underlying t=some .string) (s:ByteArray) (j:Int) (b:Nat) (hj:j=b) (hb:b≤s.size) (r:ByteArray) (hr:s.extract 0 b=r) (w:World) :
  (Instr.slice t (.string s) none (some (.int .i64 j)) none).run P w=.ok (.string r) w:=by
 subst hj;subst hr;rw [run_slice_string_to_if (P:=P) w t s .i64 (b:Int) ht,if_pos (by omega)];simp
theorem slice_from {P:Program} {t:TypeId} (ht:P.underlying t=some .string) (s:ByteArray) (i:Int) (a:Nat) (hi:i=a) (ha:a≤s.size) (r:ByteArray) (hr:s.extract a s.size=r) (w:World) :
  (Instr.slice t (.string s) (some (.int .i64 i)) none none).run P w=.ok (.string r) w:=by
 subst hi;subst hr;rw [run_slice_string_from_if (P:=P) w t s .i64 (a:Int) ht,if_pos (by omega)];simp
theorem bs_to (l:List UInt8) (b:Nat):(bs l).extract 0 b=bs (l.take b):=by rw[bs_extract];simp
theorem bs_from (l:List UInt8) (a:Nat):(bs l).extract a (bs l).size=bs (l.drop a):=by
 rw [bs_extract,bs_size,List.take_of_length_le (by rw[List.length_drop];omega)]
theorem u8_eq {c d:UInt8}:((c.toNat:Int) == (d.toNat:Int))=(c == d):=by
 rw [Bool.eq_iff_iff,beq_iff_eq,beq_iff_eq];exact ⟨fun h=>UInt8.toNat_inj.1 (by omega),fun h=>by rw[h]⟩
open Go.ChangeShapes Go.WideShapes Go.ChangeAt Go.RowKit
theorem OwnT.base {w:World} {b b':Nat} {v:Value} {l:List Txt} (h:OwnT w b v l) (hb:b'≤b):OwnT w b' v l:=by
 obtain ⟨h1,h2⟩:=h;refine ⟨h1,?_⟩;rcases h2 with h2|⟨g,cap,cur,hv,hg,hr⟩
 ·exact .inl h2
 ·exact .inr ⟨g,cap,cur,hv,Nat.le_trans hb hg,hr⟩
def TxtR (w:World) (l:List Txt) (e:Ending) (w':World):Prop:=∃v,e=.returned v∧OwnT w' w.heap.size v l∧Ext w w'
theorem pieces_any (l:List UInt8) (w:World) (hlen:l.length≤2000000):Calls Tryz.prog 132 #[.string (bs l)] w (TxtR w (pc [] l)):=by
 have hsz:((bs l).size:Int)=l.length:=by rw[bs_size]
 obtain ⟨i0,hi,hz0,hz1,hz2⟩:=info_parts infoStr;go_enter Tryz.func132,Tryz.ntmps132;go_wp2_with fail;go_loopw [3,4] (fun u i wr=>∃k:Nat,k≤l.length∧i=.int .i64 k∧(∃D cur,pc [] l=D++pc cur (l.drop k)∧D.length≤k∧cur.length≤k∧OwnT wr w.heap.size u (D++[cur]))∧Ext w wr) (fun _ i _=>l.length-(intOf i).toNat)
 case atStart =>
  refine ⟨0,Nat.zero_le _,rfl,⟨[],[],by simp,by simp,by simp,?_⟩,(Ext.refl _).alloc _⟩;exact World.ownsRow_lit w #[.string (bs [])] 1 (Nat.le_refl _) (by decide) rfl
 case round =>
  obtain ⟨k,hk,rfl,⟨D,cur,hd,hD,hcl0,hown⟩,hE⟩:=hrel
  by_cases hlt:(k:Int)<l.length
  ·have hkl:k<l.length:=by omega
   have hks:k<(bs l).size:=by rw[bs_size];exact hkl
   have hg:(bs l)[k]=l[k]:=bs_get l k hks hkl;obtain ⟨c,hc⟩:∃c,c=l[k]:=⟨_,rfl⟩;have hdk:l.drop k=c::l.drop (k+1):=by rw[hc];exact List.drop_eq_getElem_cons hkl
   rw [hdk,pc]at hd;rw [←hc]at hg;have hx1:(bs l).extract k (k+1)=bs [c]:=by rw[ext_one (bs l) k hks,hg]
   have hcb:(c.toNat:Int)<256:=by have:=c.toNat_lt;omega
   have HG:=zH hg;have HC:=zH hc
   by_cases hs:c=47
   ·rw [if_pos hs]at hd
    have hs2:(((bs l)[k].toNat:Int) == 47)=true:=by rw[hg,hs];rfl
    have HD:=zH hd;clear hs hd hdk hg hc hx1;obtain ⟨M,hM⟩:∃M,M=D++[cur]:=⟨_,rfl⟩;rw [←hM]at hown;have HM:=zH hM;have hMl:M.length≤k+1:=by rw[hM];simp;omega
    clear hM;unfold OwnT at hown;go_wp2_with (at_builtin;refine wpList_append_own _ rfl _ _ 135 rfl w.heap.size 9 i0 (.string ⟨#[]⟩) 1 16 Tryz.underlying135 hi hz0 hz1 hz2 rfl (by decide) _ _ _ rfl (hown.alloc _) ⟨wr.heap.size,0,none⟩ 1 1 (txtCells [[]]) rfl rfl (txt_news wr []) (txtCells_one [[]]) (by unfold maxLen;omega) (by omega) (by have:=hE.size;simp;omega) ?_);intro v' w2 hown2 hgrow _;obtain ⟨ho2,hE2⟩:=txt_app hown hE hown2 hgrow;clear hown2 hgrow;have HO2:=zH ho2;clear ho2;go_wp2_with fail;go_roundw
    case rel=>exact⟨k+1,by omega,by go_num,⟨M,[],by rw[HD.out,HM.out];simp,by omega,by simp,HO2.out⟩,hE2⟩
    case measure=>simp[intOf];omega
   ·rw [if_neg hs]at hd
    have hs2:(((bs l)[k].toNat:Int) == 47)=false:=by
     rw [hg,beq_eq_false_iff_ne];intro h;exact hs (UInt8.toNat_inj.1 (by have:(47:UInt8).toNat=47:=rfl;omega))
    have HD:=zH hd;clear hs hd hdk hg hc;unfold OwnT at hown;obtain ⟨n,hn⟩:∃n,n=D.length:=⟨_,rfl⟩;have hl1:(D++[cur]).length=n+1:=by rw[hn];simp
    rw [hl1]at hown;obtain ⟨g,cap,rfl⟩:=ownsRow_succ hown;have hcl:wr.cell? ⟨g,n,none⟩=some (.string (bs cur)):=by
     rw [hown.cellAt n (by omega),txtCells_get (D++[cur]) n (by rw[hl1];omega)];simp [hn]
    have hfr:=hown.frozenAt n;have hst:=hown.stored n (.string (bs (cur++[c])));have hgl:=(hown.lt g rfl).1;have hst2:Hid (OwnT (wr.setCell ⟨g,n,none⟩ (.string (bs (cur++[c])))) w.heap.size (.slice (some ⟨g,0,none⟩) (n+1) cap) (D++[cur++[c]])∧Ext w (wr.setCell ⟨g,n,none⟩ (.string (bs (cur++[c]))))):=by
     refine ⟨?_,hE.setCell hgl _⟩;have h:=hst.1;have e1:(txtCells (D++[cur])).set n (.string (bs (cur++[c])))=txtCells (D++[cur++[c]]):=by
      rw [hn];simp[txtCells]
     rw [e1]at h;unfold OwnT;have e2:(D++[cur++[c]]).length=n+1:=by rw[hn];simp
     rw [e2];exact h
    have z1:(bs cur).size=cur.length:=bs_size _;have z2:(bs [c]).size=1:=bs_size _;have hbig:¬9223372036854775807<cur.length+1:=by omega
    have z3:(bs (cur++[c])).size=cur.length+1:=by rw[bs_size];simp
    have hcat:bs cur++bs [c]=bs (cur++[c]):=bs_append _ _;have hw1:IntKind.i64.wrap (n:Int)=n:=wrap_i64_in (by omega) (by omega);have hw2:IntKind.i64.wrap ((k:Int)+1)=k+1:=wrap_i64_in (by omega) (by omega);have hn0:(0:Int)≤(n:Int):=Int.natCast_nonneg _;have hk0:(0:Int)≤(k:Int):=Int.natCast_nonneg _;have hk1:((k:Int)+1).toNat=k+1:=by omega
    have hk2:k+1≤(bs l).size:=hks;have hsl:=slice_str (P:=Tryz.prog) Tryz.underlying9 (bs l) (k:Int) ((k:Int)+1) k (k+1) rfl (by omega) (by omega) hk2 (bs [c]) hx1;have hnl:(n:Int)<(n:Int)+1:=by omega
    have hneg:decide ((n:Int)<0)=false:=decide_eq_false (by omega);have hge:decide ((0:Int)≤(n:Int))=true:=decide_eq_true (by omega);have HN:=zH hn;clear hst hown hl1 hn;go_wp2_with fail;go_still_tail 16,(by kernel_rfl);change wpList _ _ _ _ _ wr.drew;go_wp2_with fail;go_roundw
    case rel=>exact⟨k+1,by omega,by go_num,⟨D,cur++[c],HD.out,by omega,by simp;omega,hst2.out.1⟩,hst2.out.2.drew⟩
    case measure=>simp[intOf];omega
  ·obtain rfl:k=l.length:=by omega
   rw [List.drop_length,pc]at hd;rw [←hd]at hown;have HO:=zH hown;clear hown hd;go_wp2_with fail;go_ret;exact ⟨_,rfl,HO.out,hE⟩
theorem pieces_cost (l:List UInt8):(pc [] l).length≤l.length+1:=pc_len l []
theorem txt_tests {p:List UInt8}:((bs p).toList == ([]:List UInt8))=(p == [])∧((bs p).toList == [46])=(p == [46])∧((bs p).toList == [46,46])=(p == [46,46])∧(bs p).toList.isEmpty=(p == []):=by
 rw [bs_toList];refine ⟨rfl,rfl,rfl,?_⟩
 cases p<;>rfl
theorem rparts_any (l:List UInt8) (w:World) (hlen:l.length≤2000000):Calls Tryz.prog 81 #[.string (bs l)] w (TxtR w (partsN l)):=by
 obtain ⟨i0,hi,hz0,hz1,hz2⟩:=info_parts infoStr;obtain ⟨M,hM⟩:∃M,M=pc [] l:=⟨_,rfl⟩;have hMl:=pieces_cost l;have hP:Hid (partsN l=M.filter good):=by show _=_;rw[hM];rfl
 rw [←hM]at hMl;have HM:=zH hM;clear hM;go_enter Tryz.func81,Tryz.ntmps81;go_wp2_with fail;refine (pieces_any l _ hlen).mono ?_;rintro e w1 ⟨v,rfl,hv,hE1⟩;rw [←HM.out]at hv;obtain ⟨A,cap,rfl,hle,hcm,hat,hAn⟩:=hv.at_;clear hv;go_wp2_with fail;go_loopw [3,5] (fun u i wr=>∃k:Nat,k≤M.length∧i=.int .i64 k∧OwnT wr w1.heap.size u ((M.take k).filter good)∧Ext w1 wr) (fun _ i _=>M.length-(intOf i).toNat)
 case atStart =>
  refine ⟨0,Nat.zero_le _,rfl,?_,Ext.refl _⟩;exact World.ownsRow_nil _ _ _ _
 case round =>
  obtain ⟨k,hk,rfl,hown,hE⟩:=hrel
  by_cases hlt:(k:Int)<M.length
  ·have hkl:k<M.length:=by omega
   obtain ⟨b,o,rfl,hb,hcl⟩:=hat.at_ hE k hkl;have htk:Hid (M.take (k+1)=M.take k++[M[k]]):=List.take_succ_eq_append_getElem hkl;obtain ⟨p,hp⟩:∃p,p=M[k]:=⟨_,rfl⟩;rw [←hp]at hcl htk;obtain ⟨t0,t1,_,t3⟩:=txt_tests (p:=p);obtain ⟨X,hX⟩:∃X,X=bs p:=⟨_,rfl⟩;rw [←hX]at hcl t0 t1 t3;have HX:=zH hX;have hgl:Hid (good p=(!(p == [])&&!(p == [46]))):=rfl;clear hp hX
   cases h0:(p == []) with
   | true =>
    rw [h0]at t0 t3;have hn:Hid ((M.take (k+1)).filter good=(M.take k).filter good):=by
     show _=_;rw [htk.out,List.filter_append,List.filter_cons,if_neg (by rw[hgl.out,h0];simp)];simp
    clear h0 t1;have HO:=zH hown;clear hown;go_wp2_with fail;go_roundw
    case rel=>exact⟨k+1,by omega,by go_num,by rw[hn.out];exact HO.out,hE⟩
    case measure=>simp[intOf];omega
   | false =>
    cases h1:(p == [46]) with
    | true =>
     rw [h0]at t0 t3;rw [h1]at t1;have hn:Hid ((M.take (k+1)).filter good=(M.take k).filter good):=by
      show _=_;rw [htk.out,List.filter_append,List.filter_cons,if_neg (by rw[hgl.out,h0,h1];simp)];simp
     clear h0 h1;have HO:=zH hown;clear hown;go_wp2_with fail;go_roundw
     case rel=>exact⟨k+1,by omega,by go_num,by rw[hn.out];exact HO.out,hE⟩
     case measure=>simp[intOf];omega
    | false =>
     rw [h0]at t0 t3;rw [h1]at t1;have hn:Hid ((M.take (k+1)).filter good=(M.take k).filter good++[p]):=by
      show _=_;rw [htk.out,List.filter_append,List.filter_cons,if_pos (by rw[hgl.out,h0,h1];rfl)];simp
     have hfl:((M.take k).filter good).length≤k:=Nat.le_trans (List.length_filter_le _ _) (by rw[List.length_take];omega);obtain ⟨Q,hQ⟩:∃Q,Q=(M.take k).filter good:=⟨_,rfl⟩;rw [←hQ]at hown hfl hn;clear h0 h1 hQ;unfold OwnT at hown;have hnew:∀j u,(txtCells [p])[j]?=some u→(wr.alloc (.cells #[.string X] 9)).cell? ((⟨wr.heap.size,0,none⟩:Addr).add j)=some u:=by rw[HX.out];exact txt_news wr p
     go_wp2_with (at_builtin;refine wpList_append_own _ rfl _ _ 135 rfl w1.heap.size 9 i0 (.string ⟨#[]⟩) 1 16 Tryz.underlying135 hi hz0 hz1 hz2 rfl (by decide) _ _ _ rfl (hown.alloc _) ⟨wr.heap.size,0,none⟩ 1 1 (txtCells [p]) rfl rfl hnew (txtCells_one [p]) (by unfold maxLen;omega) (by omega) (by have:=hE.size;simp;omega) ?_);intro v' w2 hown2 hgrow _;obtain ⟨ho2,hE2⟩:=txt_app hown hE hown2 hgrow;clear hown2 hgrow hnew;have HO2:=zH ho2;clear ho2 hown;go_wp2_with fail;go_roundw
     case rel=>exact⟨k+1,by omega,by go_num,by rw[hn.out];exact HO2.out,hE2⟩
     case measure=>simp[intOf];omega
  ·obtain rfl:k=M.length:=by omega
   rw [List.take_length,←hP.out]at hown;have HO:=zH hown;clear hown;go_wp2_with fail;go_ret;exact ⟨_,rfl,OwnT.base HO.out hE1.size,hE1.trans hE⟩
theorem last_in {l:List UInt8} {w:World} {A:Option Addr} (h:TxtAt w A (pc [] l)):∃n b o,(pc [] l).length=n+1∧A=some ⟨b,o,none⟩∧w.cell? ⟨b,o+n,none⟩=some (.string (bs (lastP l))):=by
 obtain ⟨n,hn⟩:∃n,(pc [] l).length=n+1:=Nat.exists_eq_succ_of_ne_zero (fun e=>pc_ne l [] (List.eq_nil_of_length_eq_zero e));obtain ⟨b,o,hA,_,hc⟩:=h.at_ (Ext.refl _) n (by omega);refine ⟨n,b,o,hn,hA,?_⟩;rw [hc]
 congr 3
 unfold lastP;have e:(pc [] l).length-1=n:=by omega
 rw [List.getLastD_eq_getLast?,List.getLast?_eq_getElem?,e,List.getElem?_eq_getElem (by omega)];rfl
theorem rslash_any (l:List UInt8) (w:World) (hlen:l.length≤2000000):Calls Tryz.prog 82 #[.string (bs l)] w (Ret w (.bool (slashB l))):=by
 have hMl:=pieces_cost l;have hS:Hid (slashB l=(lastP l == [] || lastP l == [46] || lastP l == [46,46])):=rfl;obtain ⟨t0,t1,t2,t3⟩:=txt_tests (p:=lastP l);obtain ⟨X,hX⟩:∃X,X=bs (lastP l):=⟨_,rfl⟩;rw [←hX]at t0 t1 t2 t3;have HX:=zH hX;clear hX;obtain ⟨B0,hB0⟩:∃B0,B0=(lastP l == []):=⟨_,rfl⟩;obtain ⟨B1,hB1⟩:∃B1,B1=(lastP l == [46]):=⟨_,rfl⟩;obtain ⟨B2,hB2⟩:∃B2,B2=(lastP l == [46,46]):=⟨_,rfl⟩;rw [←hB0,←hB1,←hB2]at hS;rw [←hB0]at t0 t3;rw [←hB1]at t1;rw [←hB2]at t2;clear hB0 hB1 hB2;go_enter Tryz.func82,Tryz.ntmps82;go_wp2_with fail;refine (pieces_any l _ hlen).mono ?_;rintro e w1 ⟨v,rfl,hv,hE1⟩;obtain ⟨A,cap,rfl,hle,hcm,hat,hAn⟩:=hv.at_;obtain ⟨n,b,o,hn,rfl,hcl⟩:=last_in hat;rw [←HX.out]at hcl;rw [hn]at hle hMl⊢;clear hv hat hAn hn;have hw1:IntKind.i64.wrap (n:Int)=n:=wrap_i64_in (by omega) (by omega);have hn0:(0:Int)≤(n:Int):=Int.natCast_nonneg _;have hnl:(n:Int)<(n:Int)+1:=by omega
 cases B0<;>cases B1<;>cases B2
 all_goals
  go_wp2_with fail;go_ret;exact Ret.mk (ret_bool (by rw[hS.out];rfl)) hE1
def strOf:Value→ByteArray
 | .string s=>s
 | _=>⟨#[]⟩
theorem cutN_snoc (l:List UInt8):cutN (l++[47])=cutN l:=by
 unfold cutN;rw [List.reverse_append];simp
theorem cutN_stop {l:List UInt8} {c:UInt8} (h:c≠47):cutN (l++[c])=l++[c]:=by
 unfold cutN;rw [List.reverse_append];have:(c == 47)=false:=beq_eq_false_iff_ne.2 h;simp [this]
theorem snoc_cases (l:List UInt8):l=[]∨∃a c,l=a++[c]:=by
 rcases List.eq_nil_or_concat l with h|⟨a,c,h⟩
 ·exact .inl h
 ·exact .inr ⟨a,c,by rw[h,List.concat_eq_append]⟩
def pathN (l:List UInt8):Int:=if l=[] then 5 else if l.head?≠some 47∨hasB l 0=true then 1 else if 4096<l.length then 13 else 0
theorem pathN_no {l:List UInt8} (h0:¬l=[]):pathN l=if l.head?≠some 47∨hasB l 0=true then 1 else if 4096<l.length then 13 else 0:=by
 unfold pathN;rw[if_neg h0]
theorem rpath_any (l:List UInt8) (w:World) (hlen:l.length≤1000000):Calls Tryz.prog 80 #[.string (bs l)] w (Ret w (.int .i64 (pathN l))):=by
 have z0:(bs l).size=l.length:=bs_size l;have hb:Hid ((bs l).data.toList=l):=bs_list l;have hs:(bs l).size≤1000000:=by omega
 cases l with
 | nil =>
  have e:(bs []).toList=[]:=bs_toList [];go_enter Tryz.func80,Tryz.ntmps80;go_wp2_with fail;go_ret;exact Ret.mk rfl (Ext.refl _)
 | cons c t =>
  have hp:=pathN_no (l:=c::t) (by simp);have e0:(bs (c::t)).toList.isEmpty=false:=by rw[bs_toList];rfl
  have hks:0<(bs (c::t)).size:=by rw[bs_size];simp
  have hg:(bs (c::t))[0]=c:=rfl
  by_cases hc:c=47
  ·have hs2:(((bs (c::t))[0].toNat:Int) != 47)=false:=by rw[hg,hc];rfl
   cases hz:hasB (c::t) 0 with
   | true =>
    have hf:Hid (pathN (c::t)=1):=by show _=_;rw[hp,if_pos (.inr hz)]
    have HZ:=zH hz;obtain ⟨X,hX⟩:∃X,X=bs (c::t):=⟨_,rfl⟩;clear hp hg hc hz;go_enter Tryz.func80,Tryz.ntmps80;go_wp2_with fail;refine (rhas_any _ 0 _ (by rfl) hs _).mono ?_;rintro e w1 ⟨rfl,b1⟩;rw [hb.out,HZ.out];go_wp2_with fail;go_ret;exact Ret.mk (ret_int (by rw[hf.out])) b1
   | false =>
    have HZ:=zH hz;have hf:Hid (pathN (c::t)=if 4096<t.length+1 then 13 else 0):=by
     show _=_;rw [hp,if_neg (by rw[hz,hc];simp)];rfl
    by_cases h:4096<t.length+1
    ·rw [if_pos h]at hf
     clear hp hg hc hz;go_enter Tryz.func80,Tryz.ntmps80;go_wp2_with fail;refine (rhas_any _ 0 _ (by rfl) hs _).mono ?_;rintro e w1 ⟨rfl,b1⟩;rw [hb.out,HZ.out];go_wp2_with fail;go_ret;exact Ret.mk (ret_int (by rw[hf.out])) b1
    ·rw [if_neg h]at hf
     clear hp hg hc hz;go_enter Tryz.func80,Tryz.ntmps80;go_wp2_with fail;refine (rhas_any _ 0 _ (by rfl) hs _).mono ?_;rintro e w1 ⟨rfl,b1⟩;rw [hb.out,HZ.out];go_wp2_with fail;go_ret;exact Ret.mk (ret_int (by rw[hf.out])) b1
  ·have hs2:(((bs (c::t))[0].toNat:Int) != 47)=true:=by
    have:=(u8_eq (c:=c) (d:=47)).trans (beq_eq_false_iff_ne.2 hc);rw [hg,bne,show ((c.toNat:Int) == 47)=false from this];rfl
   have hf:Hid (pathN (c::t)=1):=by show _=_;rw[hp,if_pos (.inl (by simpa using hc))]
   clear hp hg hc;go_enter Tryz.func80,Tryz.ntmps80;go_wp2_with fail;go_ret;exact Ret.mk (ret_int (by rw[hf.out])) (Ext.refl _)
noncomputable def lastI (l:List UInt8):Int:=Lib.lastIndexByte (bs l) 47
theorem bs_bang (l:List UInt8) (j:Nat) (h:j<l.length):(bs l).data[j]! = l[j]:=by
 simp [bs,h]
theorem lastI_cases (l:List UInt8):(lastI l=-1∧47∉l)∨∃i:Nat,i<l.length∧lastI l=i∧l[i]?=some 47∧47∉l.drop (i+1):=by
 rcases Lib.lastIndexByte_spec (bs l) 47 with⟨h1,h2⟩|⟨i,hi,h1,h2,h3⟩
 ·refine .inl ⟨h1,fun hm=>?_⟩
  obtain ⟨j,hj,hx⟩:=List.mem_iff_getElem.1 hm;have:=h2 j (by rw[bs_size];exact hj);rw [bs_bang l j hj,hx]at this;exact this rfl
 ·rw [bs_size]at hi
  refine .inr ⟨i,hi,h1,?_,fun hm=>?_⟩
  ·rw [bs_bang l i hi]at h2
   rw [List.getElem?_eq_getElem hi,Option.some.injEq];exact UInt8.toNat_inj.1 (by have:(47:UInt8).toNat=47:=rfl;omega)
  ·obtain ⟨j,hj,hx⟩:=List.mem_iff_getElem.1 hm
   rw [List.length_drop]at hj;have:=h3 (i+1+j) (by omega) (by rw[bs_size];omega);rw [bs_bang l _ (by omega)]at this;rw [List.getElem_drop]at hx;rw [hx]at this;exact this rfl
theorem afterLast_app (a b:List UInt8) (h:47∉b):afterLast (a++47::b)=b:=by
 unfold afterLast;have h1:b.reverse.takeWhile (fun x:UInt8=>decide (x≠47))=b.reverse:=by
  rw [tw_iff];intro x hx;have:x≠47:=by rintro rfl;exact h (List.mem_reverse.1 hx)
  simpa using this
 rw [List.reverse_append,List.reverse_cons,List.append_assoc,List.takeWhile_append,h1,if_pos rfl,List.singleton_append,List.takeWhile_cons,if_neg (by decide)];simp
theorem afterLast_all (b:List UInt8) (h:47∉b):afterLast b=b:=by
 unfold afterLast;have h1:b.reverse.takeWhile (fun x:UInt8=>decide (x≠47))=b.reverse:=by
  rw [tw_iff];intro x hx;have:x≠47:=by rintro rfl;exact h (List.mem_reverse.1 hx)
  simpa using this
 rw [h1,List.reverse_reverse]
theorem split_here {l:List UInt8} {k:Nat} (hk:l[k]?=some 47):l=l.take k++47::l.drop (k+1):=by
 have h:k<l.length:=by
  rcases Nat.lt_or_ge k l.length with h|h
  ·exact h
  ·rw[List.getElem?_eq_none h]at hk;cases hk
 have h2:l[k]=47:=by rw[List.getElem?_eq_getElem h]at hk;exact Option.some.inj hk
 have h3:=List.drop_eq_getElem_cons h;rw [h2]at h3;rw [←h3,List.take_append_drop]
theorem tail_plain (l:List UInt8):∃k:Nat,k≤l.length∧lastI l=(k:Int)-1∧l.drop k=lastP l:=by
 rw [lastP_eq];rcases lastI_cases l with⟨h1,h2⟩|⟨i,hi,h1,h2,h3⟩
 ·exact⟨0,Nat.zero_le _,by omega,by rw[afterLast_all l h2];rfl⟩
 ·refine ⟨i+1,hi,by omega,?_⟩
  have h4:=split_here h2;have h5:=afterLast_app (l.take i) (l.drop (i+1)) h3;rw [←h4]at h5;exact h5.symm
theorem ptail_any (l:List UInt8) (w:World) (hlen:l.length≤2000000):Calls Tryz.prog 207 #[.string (bs l)] w (Ret w (.string (bs (lastP l)))):=by
 obtain ⟨k,hk,hi,hd⟩:=tail_plain l;have z0:(bs l).size=l.length:=bs_size l;have hsl:=slice_from (P:=Tryz.prog) Tryz.underlying9 (bs l) (k:Int) k rfl (by omega) (bs (lastP l)) (by rw[bs_from,hd]);have hw:IntKind.i64.wrap (k:Int)=k:=wrap_i64_in (by omega) (by omega);obtain ⟨T,hT⟩:∃T,T=bs (lastP l):=⟨_,rfl⟩;rw [←hT]at hsl⊢;have HI:Hid (Lib.lastIndexByte (bs l) 47=(k:Int)-1):=hi;clear hi hd hT;go_enter Tryz.func207,Tryz.ntmps207;go_wp2_with fail;refine (Tryz.strings_LastIndexByte _ 47 (by omega) _).mono ?_;rintro e w1 ⟨rfl,rfl⟩;rw [HI.out];go_wp2_with fail;go_ret;exact Ret.mk rfl (Ext.refl _)
theorem pslash_any (l:List UInt8) (w:World) (hlen:l.length≤2000000):Calls Tryz.prog 188 #[.string (bs l)] w (Ret w (.bool (slashB l))):=by
 have hS:Hid (slashB l=(lastP l == [] || lastP l == [46] || lastP l == [46,46])):=rfl;obtain ⟨t0,t1,t2,t3⟩:=txt_tests (p:=lastP l);obtain ⟨X,hX⟩:∃X,X=bs (lastP l):=⟨_,rfl⟩;rw [←hX]at t0 t1 t2 t3;have HX:=zH hX;clear hX;obtain ⟨B0,hB0⟩:∃B0,B0=(lastP l == []):=⟨_,rfl⟩;obtain ⟨B1,hB1⟩:∃B1,B1=(lastP l == [46]):=⟨_,rfl⟩;obtain ⟨B2,hB2⟩:∃B2,B2=(lastP l == [46,46]):=⟨_,rfl⟩;rw [←hB0,←hB1,←hB2]at hS;rw [←hB0]at t0 t3;rw [←hB1]at t1;rw [←hB2]at t2;clear hB0 hB1 hB2;go_enter Tryz.func188,Tryz.ntmps188;go_wp2_with fail;refine (ptail_any l _ hlen).mono ?_;rintro e w1 ⟨rfl,hE1⟩;rw [←HX.out]
 cases B0<;>cases B1<;>cases B2
 all_goals
  go_wp2_with fail;go_ret;exact Ret.mk (ret_bool (by rw[hS.out];rfl)) hE1
theorem cutN_len (l:List UInt8):(cutN l).length≤l.length:=by
 unfold cutN;rw [List.length_reverse];have:=(List.dropWhile_sublist (fun x:UInt8=>x == 47) (l:=l.reverse)).length_le;simpa using this
theorem ppath_any (l:List UInt8) (w:World) (hlen:l.length≤1000000):Calls Tryz.prog 185 #[.string (bs l)] w (Ret w (.int .i64 (pathN l))):=by
 have z0:(bs l).size=l.length:=bs_size l;have hb:Hid ((bs l).data.toList=l):=bs_list l;have hs:(bs l).size≤1000000:=by omega
 cases l with
 | nil =>
  have e:(bs []).toList=[]:=bs_toList [];go_enter Tryz.func185,Tryz.ntmps185;go_wp2_with fail;go_ret;exact Ret.mk rfl (Ext.refl _)
 | cons c t =>
  have hp:=pathN_no (l:=c::t) (by simp);have e0:(bs (c::t)).toList.isEmpty=false:=by rw[bs_toList];rfl
  have hks:0<(bs (c::t)).size:=by rw[bs_size];simp
  have hg:(bs (c::t))[0]=c:=rfl
  by_cases hc:c=47
  ·have hs2:(((bs (c::t))[0].toNat:Int) != 47)=false:=by rw[hg,hc];rfl
   cases hz:hasB (c::t) 0 with
   | true =>
    have hf:Hid (pathN (c::t)=1):=by show _=_;rw[hp,if_pos (.inr hz)]
    have HZ:=zH hz;obtain ⟨X,hX⟩:∃X,X=bs (c::t):=⟨_,rfl⟩;clear hp hg hc hz;go_enter Tryz.func185,Tryz.ntmps185;go_wp2_with fail;refine (Tryz.strings_Contains_one _ 0 _).mono ?_;rintro e w1 ⟨rfl,rfl⟩;rw [hb.out,hasB_index,HZ.out];go_wp2_with fail;go_ret;exact Ret.mk (ret_int (by rw[hf.out])) (Ext.refl _)
   | false =>
    have HZ:=zH hz;have hf:Hid (pathN (c::t)=if 4096<t.length+1 then 13 else 0):=by
     show _=_;rw [hp,if_neg (by rw[hz,hc];simp)];rfl
    by_cases h:4096<t.length+1
    ·rw [if_pos h]at hf
     clear hp hg hc hz;go_enter Tryz.func185,Tryz.ntmps185;go_wp2_with fail;refine (Tryz.strings_Contains_one _ 0 _).mono ?_;rintro e w1 ⟨rfl,rfl⟩;rw [hb.out,hasB_index,HZ.out];go_wp2_with fail;go_ret;exact Ret.mk (ret_int (by rw[hf.out])) (Ext.refl _)
    ·rw [if_neg h]at hf
     clear hp hg hc hz;go_enter Tryz.func185,Tryz.ntmps185;go_wp2_with fail;refine (Tryz.strings_Contains_one _ 0 _).mono ?_;rintro e w1 ⟨rfl,rfl⟩;rw [hb.out,hasB_index,HZ.out];go_wp2_with fail;go_ret;exact Ret.mk (ret_int (by rw[hf.out])) (Ext.refl _)
  ·have hs2:(((bs (c::t))[0].toNat:Int) != 47)=true:=by
    have:=(u8_eq (c:=c) (d:=47)).trans (beq_eq_false_iff_ne.2 hc);rw [hg,bne,show ((c.toNat:Int) == 47)=false from this];rfl
   have hf:Hid (pathN (c::t)=1):=by show _=_;rw[hp,if_pos (.inl (by simpa using hc))]
   clear hp hg hc;go_enter Tryz.func185,Tryz.ntmps185;go_wp2_with fail;go_ret;exact Ret.mk (ret_int (by rw[hf.out])) (Ext.refl _)
open Go
section
variable {F:Fence} {n:Nat} {P:Program} {Q:Exit→Act→World→Prop} {a:Act} {w:World} {b:Frame} {k:List Item} {cs:List Frame}
theorem stepR_scope {c:Code}:step P (lone (b.atR a (.code (.scope c)::k)) cs w)=.next (lone (b.atR a (.code c::.inScope c::k)) cs w):=
 step_lone_go (by simp[stepG,stepG.exec,Frame.atR])
theorem stepR_inScope {c:Code}:step P (lone (b.atR a (.inScope c::k)) cs w)=.next (lone (b.atR a k) cs w):=
 step_lone_go (by simp[stepG,stepG.exec,Frame.atR])
theorem wpIn_scope_straight {c:Code} (h:c.wpIn F n P (Exit.noGoto Q) a w):(Code.scope c).wpIn F n P Q a w:=by
 intro b k cs hro hb hr;have h0:(lone (b.atR a (.code (.scope c)::k)) cs w).fenced P F:=fenced_calm hb hr rfl;obtain ⟨e,a₁,w₁,hq,harr⟩:=h b (.inScope c::k) cs hro hb hr
 cases e with
 | normal=>exact⟨.normal,a₁,w₁,hq,.head h0 stepR_scope (StepsIn.trans harr (.one (fenced_calm hb hr rfl) stepR_inScope))⟩
 | exit id =>
  have hx:exitTo id (.inScope c::k)=exitTo id k:=by simp[exitTo]
  exact ⟨.exit id,a₁,w₁,hq,fun k' hk=>.head h0 stepR_scope (harr.1 k' (by rw[hx];exact hk)),
   fun hr' hk=>let ⟨k₁,h1,h2⟩:=harr.2 hr' (by rw[hx];exact hk);⟨k₁,h1,.head h0 stepR_scope h2⟩⟩
 | goto l=>exact hq.elim
 | ret=>exact⟨_,a₁,w₁,hq,.of_steps (.one h0 stepR_scope) harr⟩
 | panic ch=>exact⟨_,a₁,w₁,hq,.of_steps (.one h0 stepR_scope) harr⟩
 | outgrown=>exact⟨_,a₁,w₁,hq,.of_steps (.one h0 stepR_scope) harr⟩
end
end Go.Proofs.YtpibnfdolojpcaaGreat
namespace Go.Proofs.YtpibnfdolojpcaaGreat
open Go.ChangeShapes Go.WideShapes Go.ChangeAt Go.RowKit Go.Shelf
attribute [local go_sem] Oper.semAt_some
abbrev encP (x:Txt):Array Value:=#[.string (bs x)]
theorem restP_none (l:List UInt8) (fr k:Nat) (h:l.length<k):restP l fr k=[]:=by unfold restP;rw[if_neg (by omega)]
theorem parts1_in (F:Fence) (n:Nat) (hf:F.fn 206) (hro:F.round=none) (hn:1≤n) (lb Bs:Nat) (l:List UInt8) (hlen:l.length≤2000000) (J Jx:List Txt→World→Prop) (Kp:World→World→Prop) (R:World→Prop)
  (hK:∀{A B:World},Kp A B→R A→R B) (hRc:∀{A:World},R A→A.cell? ⟨Bs,0,none⟩=some (.string (bs l))) (W:World)
  (hY : ∀pre x W,J pre W→pre.length<(partsN l).length→YieldAt F (n-1) Tryz.prog lb (encP x) W fun e W' =>
   (e=.returned (.bool true)∧J (pre++[x]) W'∧Kp W W')∨(e=.returned (.bool false)∧Jx (pre++[x]) W'))
  (hBs:R W) (h0:J [] W) :
  CallsIn F n Tryz.prog 206 #[.func (.yield lb) #[] #[],.pointer (some ⟨Bs,0,none⟩)] W fun e W'=>(∃v,e=.returned v) ∧
   ((∃ys,ys=partsN l∧J ys W')∨(∃pre,pre <+: partsN l∧Jx pre W')):=by
 have hsz:((bs l).size:Int)=l.length:=by rw[bs_size]
 refine callsIn_of_wp Tryz.func206 rfl hf ?_ hro;simp only[Tryz.ntmps206,List.size_toArray,List.length_cons,List.length_nil,Nat.reduceAdd,Nat.reduceSub,Array.replicate_succ,Array.replicate_zero,List.push_toArray,List.append_toArray,List.nil_append,List.cons_append];gi_wp2;refine wpIn_scope_straight ?_;gi_wp2;refine wpIn_label ?_;gi_wp2;gi_loopw [3,4] (fun f a wr=>∃fr k:Nat,fr≤k∧k≤l.length+1∧f=.int .i64 fr∧a=.int .i64 k∧∃pre,pre++(restP l fr k).filter good=partsN l∧J pre wr∧R wr) (fun _ a _=>l.length+1-(intOf a).toNat)
 case atStart=>exact⟨0,0,Nat.le_refl _,Nat.zero_le _,rfl,rfl,[],by rw[restP_start];rfl,h0,hBs⟩
 case round =>
  obtain ⟨fr,k,hfk,hk,rfl,rfl,pre,hpre,hJ,hR0⟩:=hrel;have hc:=hRc hR0
  by_cases hle:(k:Int)≤l.length
  ·have hk0 : (0:Int)≤(k:Int):=Int.natCast_nonneg _
   obtain ⟨p,hp⟩:∃p,p=(l.drop fr).take (k-fr):=⟨_,rfl⟩
   by_cases hlt:(k:Int)<l.length
   ·have hkl : k<l.length:=by omega
    have hks:k<(bs l).size:=by rw[bs_size];exact hkl
    have hg:(bs l)[k]=l[k]:=bs_get l k hks hkl
    by_cases hs:l[k]=47
    ·have hs2:(((bs l)[k].toNat:Int) != 47)=false:=by rw[hg,hs];rfl
     have hr0:=restP_cut (fr:=fr) hkl hs;rw [←hp]at hr0;clear hg hs;have hr:restP l fr k=p::restP l (k+1) (k+1):=hr0;rw [hr,List.filter_cons]at hpre;have hk1:IntKind.i64.wrap ((k:Int)+1)=k+1:=wrap_i64_in (by omega) (by omega);have hsl:=slice_str (P:=Tryz.prog) Tryz.underlying9 (bs l) (fr:Int) (k:Int) fr k rfl rfl hfk (by omega) (bs p) (by rw[bs_extract,hp]);obtain ⟨t0,t1,_,t3⟩:=txt_tests (p:=p);obtain ⟨X,hX⟩:∃X,X=bs p:=⟨_,rfl⟩;rw [←hX]at hsl t0 t1 t3;have HX:=zH hX;clear hX hp hr
     cases h0:(p == []) with
     | true =>
      rw [h0]at t0 t3;rw [if_neg (by unfold good;rw[h0];simp)]at hpre;have HP:=zH hpre;clear h0 t1 hpre;gi_wp2;go_roundw
      case rel=>exact⟨k+1,k+1,Nat.le_refl _,by omega,by go_num,by go_num,pre,HP.out,hJ,hR0⟩
      case measure=>simp[intOf];omega
     | false =>
      cases h1:(p == [46]) with
      | true =>
       rw [h0]at t0 t3;rw [h1]at t1;rw [if_neg (by unfold good;rw[h0,h1];simp)]at hpre;have HP:=zH hpre;clear h0 h1 hpre;gi_wp2;go_roundw
       case rel=>exact⟨k+1,k+1,Nat.le_refl _,by omega,by go_num,by go_num,pre,HP.out,hJ,hR0⟩
       case measure=>simp[intOf];omega
      | false =>
       rw [h0]at t0 t3;rw [h1]at t1;rw [if_pos (by unfold good;rw[h0,h1];rfl)]at hpre;have hl1:pre.length<(partsN l).length:=by rw[←hpre];simp
       obtain ⟨fn,tmps,assign,body,hy,hR⟩:=hY pre p wr hJ hl1
       try dsimp only[encP]at hy
       have HP:=zH hpre;rw [←HX.out]at hy;clear h0 h1 hpre hl1;gi_wp2;refine hR.mono ?_;rintro e W3 (⟨rfl,hJ3,hk3⟩|⟨rfl,hJx3⟩)
       ·gi_wp2
        go_roundw
        case rel=>exact⟨k+1,k+1,Nat.le_refl _,by omega,by go_num,by go_num,pre++[p],by rw[←HP.out];simp,hJ3,hK hk3 hR0⟩
        case measure=>simp[intOf];omega
       ·gi_wp2
        simp only[Exit.noGoto];gi_wp2;refine bodyPost_ret (results_none rfl _ _ _) rfl ?_;exact ⟨⟨_,rfl⟩,.inr ⟨_,by rw[←HP.out];exact⟨_,by rw[List.append_assoc];rfl⟩,hJx3⟩⟩
    ·have hs2:(((bs l)[k].toNat:Int) != 47)=true:=by
      have:=(u8_eq (c:=l[k]) (d:=47)).trans (beq_eq_false_iff_ne.2 hs);have hg2:((bs l)[k].toNat:Int)=(l[k].toNat:Int):=congrArg (fun c:UInt8=>(c.toNat:Int)) hg;exact (congrArg (fun x:Int=>x != 47) hg2).trans (by show (!((l[k].toNat:Int) == 47))=true;exact congrArg (fun b=>!b) this)
     have hr0:=restP_go hfk hkl hs;rw [←hr0]at hpre;have HP:=zH hpre;clear hg hs hr0 hpre hp;gi_wp2;go_roundw
     case rel=>exact⟨fr,k+1,by omega,by omega,by go_num,by go_num,pre,HP.out,hJ,hR0⟩
     case measure=>simp[intOf];omega
   ·have hr0:restP l fr k=p::restP l (k+1) (k+1):=by
     have hkl:k=l.length:=by omega
     rw [hp,hkl];exact restP_end
    have hr:restP l fr k=p::restP l (k+1) (k+1):=hr0;rw [hr,List.filter_cons]at hpre;have hk1:IntKind.i64.wrap ((k:Int)+1)=k+1:=wrap_i64_in (by omega) (by omega);have hsl:=slice_str (P:=Tryz.prog) Tryz.underlying9 (bs l) (fr:Int) (k:Int) fr k rfl rfl hfk (by omega) (bs p) (by rw[bs_extract,hp]);obtain ⟨t0,t1,_,t3⟩:=txt_tests (p:=p);obtain ⟨X,hX⟩:∃X,X=bs p:=⟨_,rfl⟩;rw [←hX]at hsl t0 t1 t3;have HX:=zH hX;clear hX hp hr
    cases h0:(p == []) with
    | true =>
     rw [h0]at t0 t3;rw [if_neg (by unfold good;rw[h0];simp)]at hpre;have HP:=zH hpre;clear h0 t1 hpre;gi_wp2;go_roundw
     case rel=>exact⟨k+1,k+1,Nat.le_refl _,by omega,by go_num,by go_num,pre,HP.out,hJ,hR0⟩
     case measure=>simp[intOf];omega
    | false =>
     cases h1:(p == [46]) with
     | true =>
      rw [h0]at t0 t3;rw [h1]at t1;rw [if_neg (by unfold good;rw[h0,h1];simp)]at hpre;have HP:=zH hpre;clear h0 h1 hpre;gi_wp2;go_roundw
      case rel=>exact⟨k+1,k+1,Nat.le_refl _,by omega,by go_num,by go_num,pre,HP.out,hJ,hR0⟩
      case measure=>simp[intOf];omega
     | false =>
      rw [h0]at t0 t3;rw [h1]at t1;rw [if_pos (by unfold good;rw[h0,h1];rfl)]at hpre;have hl1:pre.length<(partsN l).length:=by rw[←hpre];simp
      obtain ⟨fn,tmps,assign,body,hy,hR⟩:=hY pre p wr hJ hl1
      try dsimp only[encP]at hy
      have HP:=zH hpre;rw [←HX.out]at hy;clear h0 h1 hpre hl1;gi_wp2;refine hR.mono ?_;rintro e W3 (⟨rfl,hJ3,hk3⟩|⟨rfl,hJx3⟩)
      ·gi_wp2
       go_roundw
       case rel=>exact⟨k+1,k+1,Nat.le_refl _,by omega,by go_num,by go_num,pre++[p],by rw[←HP.out];simp,hJ3,hK hk3 hR0⟩
       case measure=>simp[intOf];omega
      ·gi_wp2
       simp only[Exit.noGoto];gi_wp2;refine bodyPost_ret (results_none rfl _ _ _) rfl ?_;exact ⟨⟨_,rfl⟩,.inr ⟨_,by rw[←HP.out];exact⟨_,by rw[List.append_assoc];rfl⟩,hJx3⟩⟩
  ·rw [restP_none l fr k (by omega)]at hpre
   have HP:Hid (pre=partsN l):=by show _=_;rw[←hpre];simp
   clear hpre;gi_wp2;go_end0;exact ⟨⟨_,rfl⟩,.inl ⟨_,HP.out,hJ⟩⟩
theorem parts_stops (F:Fence) (n:Nat) (hf:F.fn 206) (hro:F.round=none) (hn:1≤n) (Bs n₀:Nat) (l:List UInt8) (hlen:l.length≤2000000) (w:World) (hBs:Bs<w.heap.size) (hn₀:Bs<n₀)
  (hc:w.cell? ⟨Bs,0,none⟩=some (.string (bs l))) :
  SeqStopsK F n Tryz.prog 206 #[.pointer (some ⟨Bs,0,none⟩)] encP (Below n₀) (fun ys=>ys=partsN l) (fun pre=>pre <+: partsN l) (partsN l).length w:=fun lb J Jx W hW _ _ hY h0 =>
 parts1_in F n hf hro hn lb Bs l hlen J Jx (Below n₀) (fun W=>W.cell? ⟨Bs,0,none⟩=some (.string (bs l))) (fun hk h=>(hk.cell (p:=⟨Bs,0,none⟩) hn₀).trans h) id W hY ((hW.cell (p:=⟨Bs,0,none⟩) hBs).trans hc) h0
end Go.Proofs.YtpibnfdolojpcaaGreat
namespace Go.Proofs.YtpibnfdolojpcaaGreat
open Go.ChangeShapes Go.WideShapes Go.ChangeAt Go.RowKit Go.Shelf
attribute [local go_sem] Oper.semAt_some
theorem parts_in (F:Fence) (n:Nat) (hf:F.fn 187) (hro:F.round=none) (s:ByteArray) (w:World) :
  CallsIn F n Tryz.prog 187 #[.string s] w fun e w'=>e=.returned (.func (.func 206) #[] #[.pointer (some ⟨w.heap.size,0,none⟩)])∧w'=w.alloc (.cells #[.string s] 9):=by
 refine callsIn_of_wp Tryz.func187 rfl hf ?_ hro;simp only[Tryz.ntmps187,List.size_toArray,List.length_cons,List.length_nil,Nat.reduceAdd,Nat.reduceSub,Array.replicate_succ,Array.replicate_zero,List.push_toArray,List.append_toArray,List.nil_append,List.cons_append];gi_wp2;go_ret;exact ⟨rfl,rfl⟩
end Go.Proofs.YtpibnfdolojpcaaGreat
namespace Go.Proofs.YtpibnfdolojpcaaGreat
open Go.ChangeShapes Go.WideShapes Go.ChangeAt Go.RowKit Go.Shelf
attribute [local go_sem] Oper.semAt_some
theorem appendSeq_in (F:Fence) (n:Nat) (hro:F.round=none) (h83:F.fn 205) (h84:F.fn 206) (hn:3≤n) (Bs:Nat) (l:List UInt8) (hlen:l.length≤2000000) (w:World) (hBs:Bs<w.heap.size)
  (hc:w.cell? ⟨Bs,0,none⟩=some (.string (bs l))) :
  CallsIn F n Tryz.prog 205 #[.slice none 0 0,.func (.func 206) #[] #[.pointer (some ⟨Bs,0,none⟩)]] w (TxtR w (partsN l)):=by
 obtain ⟨i0,hi,hz0,hz1,hz2⟩:=info_parts infoStr;have hpl:=parts_len l;refine callsIn_of_wp_marks Tryz.func205 rfl h83 ?_ hro;simp only[Tryz.ntmps205,List.size_toArray,List.length_cons,List.length_nil,Nat.reduceAdd,Nat.reduceSub,Array.replicate_succ,Array.replicate_zero,List.push_toArray,List.append_toArray,List.nil_append,List.cons_append];gi_wp2;obtain ⟨W0,hW0⟩:∃W0,W0=w.alloc (.cells #[.slice none 0 0] 135):=⟨_,rfl⟩;have bO:Boxed W0 w.heap.size 135 (.slice none 0 0):=by rw[hW0];exact Boxed.new w _ _
 have E0:Ext w W0:=by rw[hW0];exact (Ext.refl _).alloc _
 have hz:W0.heap.size=w.heap.size+1:=by rw[hW0];simp
 have hc0:W0.cell? ⟨Bs,0,none⟩=some (.string (bs l)):=(E0.cell hBs).trans hc;rw [←hW0];clear hW0;refine wpIn_rangeFunc_ownG (w0:=W0) hro (by omega) (gf:=206) (lb:=#[.pointer (some ⟨Bs,0,none⟩)]) rfl h84 (enters_of Tryz.func206 (by kernel_rfl) rfl)
  (parts_stops F (n-1) h84 hro (by omega) Bs (w.heap.size) l hlen W0 (by omega) hBs hc0) belowK_t (belowK_b (by omega)) (Below.refl _ _) (fun _=>rfl)
  (fun pre W=>(∃v,Boxed W w.heap.size 135 v∧W.ownsRow w.heap.size 9 1 v pre.length (txtCells pre)∧True)∧Below w.heap.size w W)
  (fun c pre W=>False)
  (OwnFrom.and (Own.from (holdsRow_own w.heap.size (w.heap.size) 135 9 1 (fun pre=>pre.length) txtCells (fun pre _=>True)) _) (ownFrom_below (Nat.le_refl _) (by omega)))
  (fun c=>by intro s X Y row h;exact h.elim)
  ⟨⟨_,bO,World.ownsRow_nil _ _ _ _,trivial⟩,E0⟩
  (fun x=>{tmps:=#[.slice none 0 0,.func (.func 206) #[] #[.pointer (some ⟨Bs,0,none⟩)],.pointer (some ⟨w.heap.size,0,none⟩),undef,.slice none 0 0,.string (bs x),.func (.func 206) #[] #[.pointer (some ⟨Bs,0,none⟩)],.string (bs x),undef,undef,undef,undef,undef],defers:=[]}) ?assign ?body ?done ?stop
 case assign =>
  intro l x W K hK;gi_wp2;exact hK
 case body =>
  rintro l' pre x W ⟨⟨v,hv,hrow,_⟩,hB⟩ hpl2;have hc:=hv.cell;have hsz:=hB.size;have hf:=hv.frozen;gi_wp2_with (gi_at_builtin;refine wpListIn_append_own _ rfl _ _ 135 rfl w.heap.size 9 i0 (.string ⟨#[]⟩) 1 16 Tryz.underlying135 hi hz0 hz1 hz2 rfl (by decide) _ _ _ rfl (hrow.alloc _) ⟨W.heap.size,0,none⟩ 1 1 (txtCells [x]) rfl rfl (txt_news W x) (txtCells_one [x]) (by unfold maxLen;omega) (by omega) (by have:=hv.lt;simp;omega) ?_;intro v' w1 hown' hgrow _;obtain⟨g',cap',rfl⟩:=ownsRow_succ hown';obtain⟨hv1,hv2,hr2,hk2,hb2⟩:=hv.appended (by decide) hrow (by have:=hv.lt;omega) (by omega) hown' hgrow;have hc1:=hv1.cell;have hf1:=hv1.frozen;have hc2:=hv2.cell);have hr3:(w1.setCell ⟨w.heap.size,0,none⟩ (.slice (some ⟨g',0,none⟩) (pre.length+1) cap')).ownsRow w.heap.size 9 1 (.slice (some ⟨g',0,none⟩) (pre.length+1) cap') (pre++[x]).length (txtCells (pre++[x])):=by rw[txtCells_append,List.length_append];exact hr2
  exact ⟨hk2.from _,hb2,⟨_,hv2,hr3,trivial⟩,hB.trans (hb2.mono (by omega))⟩
 case done =>
  rintro D ys W hD rfl ⟨⟨v,hv,hrow,_⟩,hB⟩ hK;have hc:=hv.cell;gi_wp2;refine ⟨by simp,.inl ⟨_,_,rfl,run_takeDeferred hK,?_⟩⟩;refine ⟨v,by simp[results,Tryz.results205,go_sem],v,rfl,?_,hB.trans (belowK_b (w:=w) (Nat.le_refl _) W D _ _ (by omega) hK rfl rfl)⟩;exact OwnT.base (ownsRow_putObj hrow _ hK rfl) (by omega)
 case stop =>
  rintro D c pre W hD hp h hK;exact h.elim
theorem collect_in (F:Fence) (n:Nat) (hro:F.round=none) (h38:F.fn 186) (h83:F.fn 205) (h84:F.fn 206) (hn:4≤n) (Bs:Nat) (l:List UInt8) (hlen:l.length≤2000000) (w:World) (hBs:Bs<w.heap.size)
  (hc:w.cell? ⟨Bs,0,none⟩=some (.string (bs l))) :
  CallsIn F n Tryz.prog 186 #[.func (.func 206) #[] #[.pointer (some ⟨Bs,0,none⟩)]] w (TxtR w (partsN l)):=by
 refine callsIn_of_wp Tryz.func186 rfl h38 ?_ hro;simp only[Tryz.ntmps186,List.size_toArray,List.length_cons,List.length_nil,Nat.reduceAdd,Nat.reduceSub,Array.replicate_succ,Array.replicate_zero,List.push_toArray,List.append_toArray,List.nil_append,List.cons_append];have h1:F.depth.isSome=true→1≤n:=fun _=>by omega
 gi_wp2_with (refine⟨h1,?_⟩;gi_at_call 205;refine (appendSeq_in F (n-1) hro h83 h84 (by omega) Bs l hlen _ hBs hc).mono ?_;rintro e w' ⟨v,rfl,hv,hb⟩);go_ret;exact ⟨v,rfl,hv,hb⟩
theorem pparts_any (l:List UInt8) (w:World):Calls Tryz.prog 187 #[.string (bs l)] w fun e w'=>e=.returned (.func (.func 206) #[] #[.pointer (some ⟨w.heap.size,0,none⟩)])∧w'=w.alloc (.cells #[.string (bs l)] 9):=
 (callsIn_wide (n:=1)).1 (parts_in Fence.wide 1 trivial rfl (bs l) w)
theorem collect_any (Bs:Nat) (l:List UInt8) (hlen:l.length≤2000000) (w:World) (hBs:Bs<w.heap.size) (hc:w.cell? ⟨Bs,0,none⟩=some (.string (bs l))) :
  Calls Tryz.prog 186 #[.func (.func 206) #[] #[.pointer (some ⟨Bs,0,none⟩)]] w (TxtR w (partsN l)):=
 (callsIn_wide (n:=4)).1 (collect_in Fence.wide 4 rfl trivial trivial trivial (by omega) Bs l hlen w hBs hc)
end Go.Proofs.YtpibnfdolojpcaaGreat
namespace Go.Proofs.YtpibnfdolojpcaaGreat
structure FndD where
 dir:Int
 name:List UInt8
 no:Int
 slash:Bool
def fndZ:FndD:=⟨0,[],0,false⟩
def stepE (S:TreeD) (cu cg at_:Int) (p:List UInt8):Int:=
 if (getN S.nodes at_).kind≠1 then 9
 else if mayB cu cg (getN S.nodes at_).uid (getN S.nodes at_).gid (getN S.nodes at_).mode 1=false then 6
 else if p=[46,46] then 0 else if 255<p.length then 13 else 0
def stepN (S:TreeD) (at_:Int) (p:List UInt8):Int:=overF S.devs (findF (getN S.nodes at_).ents p)
def seekF (S:TreeD) (cu cg:Int) (fol:Bool):Int→List (List UInt8)→Nat→Bool→FndD×Int
 | at_,[],_,_=>(⟨0,[],at_,true⟩,0)
 | at_, p::l,h,m =>
  if stepE S cu cg at_ p≠0 then (fndZ,stepE S cu cg at_ p)
  else if p=[46,46] then seekF S cu cg fol (aboveF S at_) l h m
  else if isN S.nodes (stepN S at_ p)=false then (if l=[] then (⟨at_,p,0,m⟩,0) else (fndZ,5))
  else if (getN S.nodes (stepN S at_ p)).kind=3∧(l≠[]∨m=true∨fol=true) then
   (if _hh:8<h+1 then (fndZ,12) else if (getN S.nodes (stepN S at_ p)).data=[] then (fndZ,5)
    else seekF S cu cg fol (if (getN S.nodes (stepN S at_ p)).data.head?=some 47 then 1 else at_) (partsN (getN S.nodes (stepN S at_ p)).data++l) (h+1) (m || (l.isEmpty&&slashB (getN S.nodes (stepN S at_ p)).data)))
  else if (getN S.nodes (stepN S at_ p)).kind≠1∧(l≠[]∨m=true) then (fndZ,9)
  else if l=[] then (⟨at_,p,stepN S at_ p,m⟩,0)
  else seekF S cu cg fol (stepN S at_ p) l h m
termination_by _ l h _=>(9-h,l.length)
theorem seek_nil (S:TreeD) (cu cg:Int) (fol:Bool) (at_:Int) (h:Nat) (m:Bool):seekF S cu cg fol at_ [] h m=(⟨0,[],at_,true⟩,0):=by rw[seekF]
section
variable {S:TreeD} {cu cg:Int} {fol:Bool} {at_:Int} {p:List UInt8} {l:List (List UInt8)} {h:Nat} {m:Bool}
theorem seek_err (h1:stepE S cu cg at_ p≠0):seekF S cu cg fol at_ (p::l) h m=(fndZ,stepE S cu cg at_ p):=by rw[seekF,if_pos h1]
theorem seek_up (h1:stepE S cu cg at_ p=0) (h2:p=[46,46]):seekF S cu cg fol at_ (p::l) h m=seekF S cu cg fol (aboveF S at_) l h m:=by
 rw [seekF,if_neg (fun k=>k h1),if_pos h2]
theorem seek_free (h1:stepE S cu cg at_ p=0) (h2:p≠[46,46]) (h3:isN S.nodes (stepN S at_ p)=false) (h4:l=[]):seekF S cu cg fol at_ (p::l) h m=(⟨at_,p,0,m⟩,0):=by
 rw [seekF,if_neg (fun k=>k h1),if_neg h2,if_pos h3,if_pos h4]
theorem seek_none (h1:stepE S cu cg at_ p=0) (h2:p≠[46,46]) (h3:isN S.nodes (stepN S at_ p)=false) (h4:l≠[]):seekF S cu cg fol at_ (p::l) h m=(fndZ,5):=by
 rw [seekF,if_neg (fun k=>k h1),if_neg h2,if_pos h3,if_neg h4]
theorem seek_loop (h1:stepE S cu cg at_ p=0) (h2:p≠[46,46]) (h3:isN S.nodes (stepN S at_ p)=true) (h4:(getN S.nodes (stepN S at_ p)).kind=3) (h5:l≠[]∨m=true∨fol=true) (h6:8<h+1) :
  seekF S cu cg fol at_ (p::l) h m=(fndZ,12):=by
 rw [seekF,if_neg (fun k=>k h1),if_neg h2,if_neg (by rw[h3];decide),if_pos ⟨h4,h5⟩,dif_pos h6]
theorem seek_empty (h1:stepE S cu cg at_ p=0) (h2:p≠[46,46]) (h3:isN S.nodes (stepN S at_ p)=true) (h4:(getN S.nodes (stepN S at_ p)).kind=3) (h5:l≠[]∨m=true∨fol=true) (h6:¬8<h+1)
  (h7:(getN S.nodes (stepN S at_ p)).data=[]):seekF S cu cg fol at_ (p::l) h m=(fndZ,5):=by
 rw [seekF,if_neg (fun k=>k h1),if_neg h2,if_neg (by rw[h3];decide),if_pos ⟨h4,h5⟩,dif_neg h6,if_pos h7]
theorem seek_link (h1:stepE S cu cg at_ p=0) (h2:p≠[46,46]) (h3:isN S.nodes (stepN S at_ p)=true) (h4:(getN S.nodes (stepN S at_ p)).kind=3) (h5:l≠[]∨m=true∨fol=true) (h6:¬8<h+1)
  (h7 : (getN S.nodes (stepN S at_ p)).data≠[]):seekF S cu cg fol at_ (p::l) h m =
   seekF S cu cg fol (if (getN S.nodes (stepN S at_ p)).data.head?=some 47 then 1 else at_) (partsN (getN S.nodes (stepN S at_ p)).data++l) (h+1) (m || (l.isEmpty&&slashB (getN S.nodes (stepN S at_ p)).data)):=by
 rw [seekF,if_neg (fun k=>k h1),if_neg h2,if_neg (by rw[h3];decide),if_pos ⟨h4,h5⟩,dif_neg h6,if_neg h7]
theorem seek_file (h1:stepE S cu cg at_ p=0) (h2:p≠[46,46]) (h3:isN S.nodes (stepN S at_ p)=true) (h4:¬((getN S.nodes (stepN S at_ p)).kind=3∧(l≠[]∨m=true∨fol=true)))
  (h5:(getN S.nodes (stepN S at_ p)).kind≠1) (h6:l≠[]∨m=true):seekF S cu cg fol at_ (p::l) h m=(fndZ,9):=by
 rw [seekF,if_neg (fun k=>k h1),if_neg h2,if_neg (by rw[h3];decide),if_neg h4,if_pos ⟨h5,h6⟩]
theorem seek_last (h1:stepE S cu cg at_ p=0) (h2:p≠[46,46]) (h3:isN S.nodes (stepN S at_ p)=true) (h4:¬((getN S.nodes (stepN S at_ p)).kind=3∧(l≠[]∨m=true∨fol=true)))
  (h5:¬((getN S.nodes (stepN S at_ p)).kind≠1∧(l≠[]∨m=true))) (h6:l=[]):seekF S cu cg fol at_ (p::l) h m=(⟨at_,p,stepN S at_ p,m⟩,0):=by
 rw [seekF,if_neg (fun k=>k h1),if_neg h2,if_neg (by rw[h3];decide),if_neg h4,if_neg h5,if_pos h6]
theorem seek_down (h1:stepE S cu cg at_ p=0) (h2:p≠[46,46]) (h3:isN S.nodes (stepN S at_ p)=true) (h4:¬((getN S.nodes (stepN S at_ p)).kind=3∧(l≠[]∨m=true∨fol=true)))
  (h5:¬((getN S.nodes (stepN S at_ p)).kind≠1∧(l≠[]∨m=true))) (h6:l≠[]):seekF S cu cg fol at_ (p::l) h m=seekF S cu cg fol (stepN S at_ p) l h m:=by
 rw [seekF,if_neg (fun k=>k h1),if_neg h2,if_neg (by rw[h3];decide),if_neg h4,if_neg h5,if_neg h6]
end
def pathF (S:TreeD) (cu cg:Int) (p:List UInt8) (fol:Bool):FndD×Int:=if pathN p=0 then seekF S cu cg fol 1 (partsN p) 0 (slashB p) else (fndZ,pathN p)
theorem seek_ind {P:List (List UInt8)→Nat→Prop} (step:∀l h,(∀l' h',(h<h'∧h'≤8)∨(h'=h∧l'.length<l.length)→P l' h')→P l h):∀l h,P l h:=by
 have inner:∀n,(∀l h,9-h<n→P l h)→∀k (l:List (List UInt8)) (h:Nat),9-h≤n→l.length≤k→P l h:=by
  intro n hn k
  induction k with
  | zero =>
   intro l h h1 h2;exact step l h fun l' h' hx=>by
    rcases hx with hx|hx
    ·exact hn l' h' (by omega)
    ·omega
  | succ k ih =>
   intro l h h1 h2;exact step l h fun l' h' hx=>by
    rcases hx with hx|hx
    ·exact hn l' h' (by omega)
    ·exact ih l' h' (by omega) (by omega)
 have outer:∀n l h,9-h<n→P l h:=by
  intro n
  induction n with
  | zero=>intro l h h1;omega
  | succ n ih=>intro l h h1;exact inner n ih l.length l h (by omega) (Nat.le_refl _)
 intro l h;exact outer (9-h+1) l h (by omega)
end Go.Proofs.YtpibnfdolojpcaaGreat
namespace Go.Proofs.YtpibnfdolojpcaaGreat
open Go.ChangeShapes Go.WideShapes Go.ChangeAt Go.RowKit
attribute [local irreducible] wpQuiet
def TripAt (w:World) (b bW:Nat) (cu cg at_:Int) (A:Option Addr) (len cap:Nat) (hops:Int) (must:Bool):Prop:=
 Has w b (.cells #[.pointer (some ⟨bW,0,none⟩),.int .i64 cu,.int .i64 cg,.int .i64 at_,.slice A len cap,.int .i64 hops,.bool must] 255)
theorem TripAt.ext {w w':World} {b bW:Nat} {cu cg at_:Int} {A:Option Addr} {len cap:Nat} {hops:Int} {must:Bool} (h:TripAt w b bW cu cg at_ A len cap hops must) (hE:Ext w w'):TripAt w' b bW cu cg at_ A len cap hops must:=Has.ext h hE
def stepG (S:TreeD) (at_:Int) (p:List UInt8):Int:=if p=[46,46] then aboveF S at_ else stepN S at_ p
theorem pstep_any {c:Nat} (B:Nat) (g:GhW) (S:TreeD) (b:Nat) (cu cg at_:Int) (A:Option Addr) (len cap:Nat) (hops:Int) (must:Bool) (p:List UInt8) (w:World) (h:WAt w B g S) (T:Tre c S) (hc:c≤1000000)
    (ht:TripAt w b g.bW cu cg at_ A len cap hops must) (hp:p.length≤2000000) :
    Calls Tryz.prog 189 #[.pointer (some ⟨b,0,none⟩),.string (bs p)] w (Ret w (.tuple #[.int .i64 (if stepE S cu cg at_ p=0 then stepG S at_ p else 0),.int .i64 (stepE S cu cg at_ p)])):=by
  obtain ⟨A1,k1,ok1,C1⟩:=tget_fix B g S at_ w h
  obtain ⟨n,hn⟩:∃n,n=getN S.nodes at_:=⟨_,rfl⟩
  obtain ⟨i,hi⟩:∃i,i=isN S.nodes at_:=⟨_,rfl⟩
  have hE:Hid (stepE S cu cg at_ p=if n.kind≠1 then 9 else if mayB cu cg n.uid n.gid n.mode 1=false then 6 else if p=[46,46] then 0 else if 255<p.length then 13 else 0):=by show _=_;rw[hn];rfl
  have hiz:i=false→n.kind=0:=fun e=>by rw[hn,(isN_false (hi.symm.trans e)).1];rfl
  have hRR:Rise n.ents∧n.ents.length≤c:=by rw[hn];exact T.getN at_
  rw [←hn]at ok1
  rw [←hn,←hi]at C1
  have HC1:=zH C1
  have HN:=zH hn
  have HIZ:=zH hiz
  have HRR:=zH hRR
  obtain ⟨x,hx⟩:∃x,x=stepE S cu cg at_ p:=⟨_,rfl⟩
  obtain ⟨y,hy⟩:∃y,y=stepG S at_ p:=⟨_,rfl⟩
  rw [←hx]at hE
  rw [←hx,←hy]
  obtain ⟨z,hz⟩:∃z,z=if x=0 then y else 0:=⟨_,rfl⟩
  rw [←hz]
  have HZ0:Hid (x≠0→z=0):=by show _→_;intro k;rw[hz,if_neg k]
  have HZ1:Hid (x=0→z=y):=by show _→_;intro k;rw[hz,if_pos k]
  have HY:Hid (y=if p=[46,46] then aboveF S at_ else stepN S at_ p):=by show _=_;rw[hy];rfl
  have T0:=(Has.cell ht 0)
  have T1:=(Has.cell ht 1)
  have T2:=(Has.cell ht 2)
  have T3:=(Has.cell ht 3)
  have Tz:=Has.lt ht
  obtain ⟨_,_,cd,h3,_⟩:=id h
  have v0:∀u:Gr w,u.w.cell? ⟨b,0,none⟩=some (.pointer (some ⟨g.bW,0,none⟩)):=Gr.cell Tz T0
  have v3:∀u:Gr w,u.w.cell? ⟨b,3,none⟩=some (.int .i64 at_):=Gr.cell Tz T3
  have vw:∀u:Gr w,u.w.cell? ⟨g.bW,0,none⟩=some (.pointer (some ⟨g.bT,0,none⟩)):=Gr.cell h3.lt (h3.cell 0)
  clear C1 hn hi hiz hRR hx hy hz T0 T1 T2 T3 h3
  go_enter Tryz.func189,Tryz.ntmps189
  go_upto_region 1 with fail
  refine wp_region_nbox w 15 16 6 21 n A1 k1 _ _ (by kernel_rfl) (by kernel_rfl) rfl rfl rfl rfl (by simp) ((Ext.refl _).drew) ?_
  simp only[List.take_succ_cons,List.take_zero,List.drop_succ_cons,List.drop_zero,List.drop_nil]
  repeat (refine wpQuietR_step (fun K hK=>?_)
          go_simp
          first
            | (refine hK _ ?_;clear hK K)
            | (apply Exists.intro
               refine ⟨fun u=>?_,hK _ ?_⟩
               first
                 | ((with_reducible refine (HC1.out _ u.h).mono ?_);rintro e w'' ⟨rfl,hx⟩;exact⟨rfl,hx⟩)
               clear hK K))
  refine wpQuietR_nil ?_
  refine wpQuietR_nil ⟨rfl,?_⟩
  refine wpQuietR_step (fun K hK=>?_)
  go_simp
  refine hK _ ?_
  clear hK K
  refine wpQuietR_nil ?_
  intro w4 b6 E4 hb6 N4
  simp only[Act.put]
  have T4:=TripAt.ext ht E4
  have ok4:=ok1.ext E4
  have hb6':b6≠b:=by omega
  clear v0 v3 vw HC1 ok1
  obtain ⟨j,hj⟩:∃j,j=i:=⟨_,rfl⟩
  have k2:w4.cell? ⟨b6,2,none⟩=some (.int .i64 n.kind):=N4.cell 2
  have kz:=N4.lt
  by_cases c1:n.kind=1
  case neg =>
    have t1:(n.kind == 1)=false:=by simpa using c1
    have t1b:(n.kind != 1)=true:=by simpa using c1
    have e1:Hid (x=9):=by show _=_;rw[hE.out,if_pos c1]
    have e2:Hid (z=0):=HZ0.out (by rw[e1.out];decide)
    clear c1 hE hj
    cases i
    · go_wp2_with fail
      go_ret2
      exact Ret.mk (by rw[e1.out,e2.out];rfl) E4
    · go_wp2_with fail
      go_ret2
      exact Ret.mk (by rw[e1.out,e2.out];rfl) E4
  have hi1:i=true:=by
    cases i
    · have:=HIZ.out rfl;omega
    · rfl
  subst hi1
  have t1:(n.kind == 1)=true:=by simpa using c1
  have t1b:(n.kind != 1)=false:=by simpa using c1
  have hE2:Hid (x=if mayB cu cg n.uid n.gid n.mode 1=false then 6 else if p=[46,46] then 0 else if 255<p.length then 13 else 0):=by show _=_;rw[hE.out,if_neg (fun k=>k c1)]
  obtain ⟨u,hu⟩:∃u,u=mayB cu cg n.uid n.gid n.mode 1:=⟨_,rfl⟩
  have HU:=zH hu
  rw [←hu]at hE2
  clear hE hu c1 hj
  obtain ⟨n0,n1,n2,n3,n4,n5,n6,n7,n8,n9,n10,n11⟩:=N4.node12
  have KN:Hid (∀u':Gr w4,Calls Tryz.prog 51 #[.agg #[.int .i64 cu,.int .i64 cg],.agg #[.int .i64 n.no,.int .i64 n.dev,.int .i64 n.kind,.int .i64 n.mode,.int .i64 n.uid,.int .i64 n.gid,.int .i64 n.mtime,.int .i64 n.ctime,.int .i64 n.links,.int .i64 n.up,.string (bs n.data),.slice A1 n.ents.length k1],.int .i64 1] u'.w (Ret u'.w (.bool u))):=by
    show ∀u':Gr w4,_
    intro u'
    rw [HU.out]
    exact pnode_any cu cg _ _ _ n.mode n.uid n.gid _ _ _ _ _ _ 1 u'.w
  go_upto_region 4 with fail
  have T1:∀u:Gr w4,u.w.cell? ⟨b,1,none⟩=some (.int .i64 cu):=Gr.cell (Has.lt T4) (Has.cell T4 1)
  have T2:∀u:Gr w4,u.w.cell? ⟨b,2,none⟩=some (.int .i64 cg):=Gr.cell (Has.lt T4) (Has.cell T4 2)
  have n0:=Gr.cell kz n0
  have n1:=Gr.cell kz n1
  have n2:=Gr.cell kz n2
  have n3:=Gr.cell kz n3
  have n4:=Gr.cell kz n4
  have n5:=Gr.cell kz n5
  have n6:=Gr.cell kz n6
  have n7:=Gr.cell kz n7
  have n8:=Gr.cell kz n8
  have n9:=Gr.cell kz n9
  have n10:=Gr.cell kz n10
  have n11:=Gr.cell kz n11
  clear k2
  refine wp_region_grow w4 (by kernel_rfl) (by kernel_rfl) (Ext.refl _).drew ?_
  repeat (quiet_step (((with_reducible refine (KN.out _).mono ?_);rintro e w'' ⟨rfl,hEx⟩;exact⟨rfl,⟨w'',Ext.trans (Gr.h _) hEx⟩,rfl⟩)))
  refine wpQuiet_nil ?_
  rintro w5 ⟨⟨w5',b5'⟩,h5⟩
  dsimp only at h5
  subst h5
  have T5:=TripAt.ext T4 b5'
  have N5:=N4.ext b5'
  have ok5:=ok4.ext b5'
  have E5:=E4.trans b5'
  clear KN T1 T2 n0 n1 n2 n3 n4 n5 n6 n7 n8 n9 n10 n11 kz T4 N4 ok4
  cases u
  · have e1:Hid (x=6):=by show _=_;rw[hE2.out,if_pos rfl]
    have e2:Hid (z=0):=HZ0.out (by rw[e1.out];decide)
    clear hE2
    go_wp2_with fail
    go_ret2
    exact Ret.mk (by rw[e1.out,e2.out];rfl) E5
  have hE3:Hid (x=if p=[46,46] then 0 else if 255<p.length then 13 else 0):=by show _=_;rw[hE2.out,if_neg (by decide)]
  clear hE2
  obtain ⟨X,hX⟩:∃X,X=bs p:=⟨_,rfl⟩
  have hlX:(X.size:Int)=p.length:=by rw[hX,bs_size]
  have tX:(X.toList == [46,46])=(p == [46,46]):=by rw[hX];exact txt_tests.2.2.1
  rw [←hX]
  have HX:=zH hX
  by_cases c2:p=[46,46]
  · have e1:Hid (x=0):=by show _=_;rw[hE3.out,if_pos c2]
    have e2:Hid (z=aboveF S at_):=by show _=_;rw[HZ1.out e1.out,HY.out,if_pos c2]
    have t2:(X.toList == [46,46])=true:=by rw[tX,c2];rfl
    have KA:Hid (∀u':Gr w5,Calls Tryz.prog 142 #[.pointer (some ⟨g.bW,0,none⟩),.int .i64 at_] u'.w (Ret u'.w (.int .i64 (aboveF S at_)))):=by
      show ∀u':Gr w5,_
      exact fun u'=>pabove_any B g S at_ _ ((h.ext E5).ext u'.h) T.devs T.eight T.roots T.nos
    clear hE3 c2 tX hX
    go_upto_region 7 with fail
    have T0:∀u:Gr w5,u.w.cell? ⟨b,0,none⟩=some (.pointer (some ⟨g.bW,0,none⟩)):=Gr.cell (Has.lt T5) (Has.cell T5 0)
    have T3:∀u:Gr w5,u.w.cell? ⟨b,3,none⟩=some (.int .i64 at_):=Gr.cell (Has.lt T5) (Has.cell T5 3)
    refine wp_region_grow w5 (by kernel_rfl) (by kernel_rfl) (Ext.refl _).drew ?_
    repeat (quiet_step (((with_reducible refine (KA.out _).mono ?_);rintro e w'' ⟨rfl,hEx⟩;exact⟨rfl,⟨w'',Ext.trans (Gr.h _) hEx⟩,rfl⟩)))
    refine wpQuiet_nil ?_
    rintro w6 ⟨⟨w6',b6'⟩,h6⟩
    dsimp only at h6
    subst h6
    clear T0 T3 KA
    go_wp2_with fail
    go_ret2
    exact Ret.mk (by rw[e1.out,e2.out];rfl) (E5.trans b6')
  have t2:(X.toList == [46,46])=false:=by rw[tX];simpa using c2
  have HY2:Hid (y=stepN S at_ p):=by show _=_;rw[HY.out,if_neg c2]
  have hE4:Hid (x=if 255<p.length then 13 else 0):=by show _=_;rw[hE3.out,if_neg c2]
  clear hE3 c2 tX
  by_cases c3:255<p.length
  · have e1:Hid (x=13):=by show _=_;rw[hE4.out,if_pos c3]
    have e2:Hid (z=0):=HZ0.out (by rw[e1.out];decide)
    have t3:(255:Int)<X.size:=by omega
    clear hE4 c3 hX hlX
    go_wp2_with fail
    go_ret2
    exact Ret.mk (by rw[e1.out,e2.out];rfl) E5
  have e1:Hid (x=0):=by show _=_;rw[hE4.out,if_neg c3]
  have t3:¬(255:Int)<X.size:=by omega
  obtain ⟨q,hq⟩:∃q,q=findF n.ents p:=⟨_,rfl⟩
  have e2:Hid (z=overF S.devs q):=by show _=_;rw[HZ1.out e1.out,HY2.out,hq,HN.out];rfl
  have HRR2:=HRR.out
  have KF:Hid (∀u':Gr w5,Calls Tryz.prog 100 #[.slice A1 n.ents.length k1,.string X] u'.w (Ret u'.w (.int .i64 q))):=by
    show ∀u':Gr w5,_
    intro u'
    rw [hq,←numOf_findF HRR2.1,HX.out]
    exact find_any A1 n.ents k1 p u'.w (ok5.ext u'.h).ents.ents HRR2.1 (by have:=HRR2.2;omega)
  have KO:Hid (∀u':Gr w5,Calls Tryz.prog 101 #[.pointer (some ⟨g.bW,0,none⟩),.int .i64 q] u'.w (Ret u'.w (.int .i64 (overF S.devs q)))):=by
    show ∀u':Gr w5,_
    exact fun u'=>pover_any B g S q _ ((h.ext E5).ext u'.h) T.devs (by have:=T.eight;omega)
  clear hE4 c3 hX hlX hq HRR2
  go_upto_region 10 with fail
  have T0:∀u:Gr w5,u.w.cell? ⟨b,0,none⟩=some (.pointer (some ⟨g.bW,0,none⟩)):=Gr.cell (Has.lt T5) (Has.cell T5 0)
  have n11:=Gr.cell N5.lt (N5.cell 11)
  refine wp_region_grow w5 (by kernel_rfl) (by kernel_rfl) (Ext.refl _).drew ?_
  repeat (quiet_step (((first|with_reducible refine (KF.out _).mono ?_|with_reducible refine (KO.out _).mono ?_);rintro e w'' ⟨rfl,hEx⟩;exact⟨rfl,⟨w'',Ext.trans (Gr.h _) hEx⟩,rfl⟩)))
  refine wpQuiet_nil ?_
  rintro w6 ⟨⟨w6',b6'⟩,h6⟩
  dsimp only at h6
  subst h6
  clear T0 n11 KF KO
  go_wp2_with fail
  go_ret2
  exact Ret.mk (by rw[e1.out,e2.out];rfl) (E5.trans b6')
end Go.Proofs.YtpibnfdolojpcaaGreat
namespace Go.Proofs.YtpibnfdolojpcaaGreat
open Go.ChangeShapes Go.WideShapes Go.ChangeAt Go.RowKit
attribute [local irreducible] wpQuiet
def Off (A:Option Addr) (b:Nat):Prop:=∀x,A=some x→x.block≠b
theorem TxtAt.only {w w':World} {A:Option Addr} {l:List Txt} {b:Nat} (h:TxtAt w A l) (o:Only [b] w w') (hL:Off A b):TxtAt w' A l:=by
 rcases h with h|⟨b2,o',hA,hb,hc⟩
 ·exact .inl h
 ·have hn:b2∉[b]:=fun hb'=>by rw[List.mem_singleton]at hb';exact hL _ hA hb'
  have e:w'.heap[b2]?=w.heap[b2]?:=o.block b2 hb hn;have ec:∀j,w'.cell? ⟨b2,j,none⟩=w.cell? ⟨b2,j,none⟩:=fun j=>by simp[World.cell?,e]
  exact .inr ⟨b2,o',hA,by have:=o.size;omega,fun i hi=>(ec _).trans (hc i hi)⟩
theorem has_grown {w w':World} {B:Nat} {o:Obj} {row:Option Nat} (h:Has w B o) (hg:w.grownBy w' row) (hr:row≠some B):Has w' B o:=
 (hg.block B h.lt (fun e=>hr e.symm)).trans h
theorem step_append15 {P:Program} {ops:Array Oper} {o:Oper} {a:Act} {K:Act→World→Prop} {Q:Exit→Act→World→Prop} {E:Prop} (w:World) (hgd:o.guard=none) (s x:Operand) (t:TypeId)
  (ho:o.op=.call {callee:=.builtin .append,args:=#[s,x],argTypes:=#[t,t]}) (vs vx:Value) (hs:a.eval s=vs) (hx:a.eval x=vx) {R:Value→World→Prop}
  (hr:∃v' w',(Builtin.append_ #[t,t] o.type #[vs,vx]).run P w=.ok v' w'∧R v' w') (h:∀v' w',R v' w'→K (a.put o.dst v') w') :
  if Region.wanted o (yielded ops a.tmps)=true then Oper.wp P o a w K Q else E:=by
 have hw:Region.wanted o (yielded ops a.tmps)=true:=by simp[Region.wanted,hgd]
 rw [if_pos hw];obtain ⟨v',w',h1,h2⟩:=hr;unfold Oper.wp execOp;simp only[ho,resolve,invoke,builtin,Sem.run_bind,Sem.run_pure,Result.andThen_ok,List.map_toArray,List.map_cons,List.map_nil,hs,hx,h1];exact h v' w' h2
theorem app_texts {base:Nat} {v:Value} {P:List Txt} (A:Option Addr) (cap:Nat) (L:List Txt) (wr:World) (h:OwnT wr base v P) (hat:TxtAt wr A L) (hA:A=none→cap=0) (hb:base≤wr.heap.size) (hl:P.length≤20000000) (hL:L.length≤20000000) :
  ∃ v' w2,(Builtin.append_ #[135,135] 135 #[v,.slice A L.length cap]).run Tryz.prog wr=.ok v' w2∧OwnT w2 base v' (P++L)∧wr.grownBy w2 v.ownBlock:=by
 obtain ⟨i0,hi,hz0,hz1,hz2⟩:=info_parts infoStr
 cases A with
 | none =>
  have hl0:L=[]:=by
   rcases hat with h|⟨b',o',h,_⟩
   ·exact h
   ·cases h
  subst hl0;obtain rfl:cap=0:=hA rfl;obtain ⟨A',c',rfl,hpc,_,_,_⟩:=h.at_;refine ⟨_,wr,?_,by rw[List.append_nil];exact h,World.grownBy.refl _ _⟩
  cases A'<;>simp[Builtin.append_,run_underlying Tryz.underlying135,sizeOf,typeInfo,hi,Builtin.lenOf,Builtin.firstCells,storeCells,hpc]
 | some ad =>
  have hne2:∀j u,(txtCells L)[j]?=some u→wr.cell? (ad.add j)=some u:=by
   intro j u hu;rcases hat with h|⟨b',o',hAe,hb,h2⟩
   ·subst h;simp[txtCells]at hu
   ·obtain rfl:ad=⟨b',o',none⟩:=Option.some.inj hAe
    rw [Addr.add_lit];have hj:j<L.length:=by
     rcases Nat.lt_or_ge j L.length with h'|h'
     ·exact h'
     ·rw[List.getElem?_eq_none (by rw[txtCells_len];exact h')]at hu;cases hu
    exact (h2 j hj).trans ((txtCells_get L j hj).symm.trans hu)
  obtain ⟨v',w2,hr,h2,h3,_⟩:=run_append_own (P:=Tryz.prog) wr base 135 135 9 i0 (.string ⟨#[]⟩) 1 16 Tryz.underlying135 hi hz0 hz1 hz2 rfl (by decide) _ P.length _ h ad L.length cap (txtCells L) (by rw[txtCells_len,Nat.mul_one]) hne2 (txtCells_one L) (by unfold maxLen;omega) (by omega) hb;refine ⟨v',w2,hr,?_,h3⟩;unfold OwnT;rw [txtCells_append,List.length_append];exact h2
def folE (hops:Nat) (d:List UInt8):Int:=if 8<hops+1 then 12 else if d=[] then 5 else 0
def FolQ (w:World) (b bW:Nat) (cu cg at_:Int) (hops:Nat) (must:Bool) (l:List Txt) (d:List UInt8) (e:Ending) (w':World):Prop:=
 Only [b] w w'∧e=.returned (.int .i64 (folE hops d))∧(folE hops d=0→∃A' cap',TripAt w' b bW cu cg (if d.head?=some 47 then 1 else at_) A' (partsN d++l).length cap' ((hops+1:Nat):Int) (must || (l.isEmpty&&slashB d))∧TxtAt w' A' (partsN d++l)∧(A'=none→cap'=0)∧Off A' b∧(partsN d++l).length≤cap')
theorem pfollow_any (b bW:Nat) (cu cg at_:Int) (A:Option Addr) (cap hops:Nat) (must:Bool) (l:List Txt) (d:List UInt8) (w:World) (ht:TripAt w b bW cu cg at_ A l.length cap hops must) (hat:TxtAt w A l) (hA:A=none→cap=0) (hoff:Off A b)
  (hl:l.length≤10000000) (hd:d.length≤1048576) (hh:hops≤8) :
  Calls Tryz.prog 190 #[.pointer (some ⟨b,0,none⟩),.string (bs d)] w (FolQ w b bW cu cg at_ hops must l d):=by
 have T5:=Has.cell ht 5;have F5:=Has.free ht 5;have Tz:=Has.lt ht;have q1:IntKind.i64.wrap ((hops:Int)+1)=((hops+1:Nat):Int):=by rw[IntWalk.i64_in _ (by omega)];omega
 obtain ⟨h1,hh1⟩:∃h1:Nat,h1=hops+1:=⟨_,rfl⟩;rw [←hh1]at q1;obtain ⟨W1,hW1⟩:∃W1,W1=w.setCell ⟨b,5,none⟩ (.int .i64 (h1:Int)):=⟨_,rfl⟩;have O1:Only [b] w W1:=by rw[hW1];exact Only.setCell _ _ _ _
 have T1:TripAt W1 b bW cu cg at_ A l.length cap (h1:Int) must:=by rw[hW1];exact Has.setCell ht 5 (.int .i64 (h1:Int))
 have hat1:TxtAt W1 A l:=hat.only O1 hoff;have HFE:Hid (folE hops d=if 8<h1 then 12 else if d=[] then 5 else 0):=by show _=_;rw[hh1];rfl
 have HH1:=zH hh1;have hh2:h1≤9:=by omega
 clear hh1 hat;go_enter Tryz.func190,Tryz.ntmps190;go_upto_region 2 with fail;rw [←hW1];clear hW1 T5 F5 q1;have T5:=Has.cell T1 5;have Tz1:=Has.lt T1;have e0:∀e,folE hops d=e→e≠0→∀w',Only [b] w w'→FolQ w b bW cu cg at_ hops must l d (.returned (.int .i64 e)) w':=fun e he h0 w' ho=>⟨ho,by rw[he],fun k=>absurd (he.symm.trans k) h0⟩
 have HS:=zH e0;clear e0
 by_cases c1:8<h1
 ·have e1:Hid (folE hops d=12):=by show _=_;rw[HFE.out,if_pos c1]
  have t1:(8:Int)<(h1:Int):=by omega
  clear c1 HFE;go_wp2_with fail;go_ret;exact HS.out _ e1.out (by decide) _ O1
 have t1:¬(8:Int)<(h1:Int):=by omega
 have HFE2:Hid (folE hops d=if d=[] then 5 else 0):=by show _=_;rw[HFE.out,if_neg c1]
 clear HFE c1
 cases d with
 | nil =>
  have e1:Hid (folE hops []=5):=by show _=_;rw[HFE2.out,if_pos rfl]
  have z0:(bs []).toList=[]:=bs_toList [];clear HFE2;go_wp2_with fail;go_ret;exact HS.out _ e1.out (by decide) _ O1
 | cons c t =>
  have e1:Hid (folE hops (c::t)=0):=by show _=_;rw[HFE2.out,if_neg (by simp)]
  have z0:(bs (c::t)).toList.isEmpty=false:=by rw[bs_toList];rfl
  have hks:0<(bs (c::t)).size:=by rw[bs_size];simp
  have hg:(bs (c::t))[0]=c:=rfl;clear HFE2 HS;obtain ⟨at2,hat2⟩:∃a:Int,a=if (c::t).head?=some 47 then 1 else at_:=⟨_,rfl⟩
  have HA2:=zH hat2;obtain ⟨v,hv⟩:∃v:Bool,v=(c == 47):=⟨_,rfl⟩;have hs2:(((bs (c::t))[0].toNat:Int) == 47)=v:=by rw[hg,hv];exact u8_eq (c:=c) (d:=47)
  have HV1:Hid (v=true→at2=1):=by show _→_;intro k;rw[hv]at k;rw[hat2,if_pos (by simpa using k)]
  have HV0:Hid (v=false→at2=at_):=by show _→_;intro k;rw[hv]at k;rw[hat2,if_neg (by simpa using k)]
  clear hg hat2 hv;go_upto_if 21 with fail;clear T5 Tz1;go_cut [] (fun wc=>TripAt wc b bW cu cg at2 A l.length cap (h1:Int) must∧TxtAt wc A l∧Only [b] w wc)
  case first =>
   cases v
   ·have e2:=zH (HV0.out rfl)
    clear HV0 HV1;go_wp2_with fail;go_meet;exact ⟨by rw[e2.out];exact T1,hat1,O1⟩
   ·have e2:=zH (HV1.out rfl)
    clear HV0 HV1;have F3:=Has.free T1 3;have T3:=Has.cell T1 3;have Tz1:=Has.lt T1;go_wp2_with fail;go_meet;have T2:TripAt (W1.setCell ⟨b,3,none⟩ (.int .i64 1)) b bW cu cg at2 A l.length cap (h1:Int) must:=by rw[e2.out];exact Has.setCell T1 3 (.int .i64 1)
    exact ⟨T2,hat1.only (Only.setCell _ _ _ _) hoff,O1.then (Only.setCell _ _ _ _)⟩
  case rest =>
   obtain ⟨T2,hatc,O2⟩:=hcut;obtain ⟨lb,hlb⟩:∃lb,lb=l.isEmpty:=⟨_,rfl⟩;have t2:((l.length:Int) == 0)=lb:=by rw[hlb];cases l<;>simp<;>omega
   obtain ⟨sl,hsl⟩:∃sl,sl=slashB (c::t):=⟨_,rfl⟩;obtain ⟨m2,hm2⟩:∃m2,m2=(must || (l.isEmpty&&slashB (c::t))):=⟨_,rfl⟩;have HM:Hid (m2=(must || (lb&&sl))):=by show _=_;rw[hm2,hlb,hsl]
   have HM2:=zH hm2;have HSL:=zH hsl;have T5:=Has.cell T2 4;have Tz1:=Has.lt T2;clear hlb hsl hm2 HV0 HV1 T1 hat1 O1;go_upto_if 30 with fail;clear T5 Tz1;go_cut [] (fun wd=>TripAt wd b bW cu cg at2 A l.length cap (h1:Int) m2∧TxtAt wd A l∧Only [b] w wd)
   case first =>
    cases lb
    ·have e2:Hid (m2=must):=by show _=_;rw[HM.out];simp
     go_wp2_with fail;go_meet;exact ⟨by rw[e2.out];exact T2,hatc,O2⟩
    ·have T6:=Has.cell T2 6
     have F6:=Has.free T2 6;have Tz1:=Has.lt T2;have h6:TripAt (wc.setCell ⟨b,6,none⟩ (.bool m2)) b bW cu cg at2 A l.length cap (h1:Int) m2:=Has.setCell T2 6 (.bool m2)
     cases must
     ·have e2:Hid (m2=sl):=by show _=_;rw[HM.out];rfl
      go_wp2_with fail;refine (pslash_any (c::t) _ (by simp at hd⊢;omega)).mono ?_;rw [←HSL.out,←e2.out];rintro e w4 ⟨rfl,b4⟩;have T3:=TripAt.ext T2 b4;have T6:=Has.cell T3 6;have F6:=Has.free T3 6;have Tz1:=Has.lt T3;have h6:TripAt (w4.setCell ⟨b,6,none⟩ (.bool m2)) b bW cu cg at2 A l.length cap (h1:Int) m2:=Has.setCell T3 6 (.bool m2);go_wp2_with fail;go_meet;exact ⟨h6,(hatc.ext b4).only (Only.setCell _ _ _ _) hoff,(O2.ext b4).then (Only.setCell _ _ _ _)⟩
     ·have e2:Hid (m2=true):=by show _=_;rw[HM.out];rfl
      rw [e2.out]at h6;go_wp2_with fail;go_meet;exact ⟨by rw[e2.out];exact h6,hatc.only (Only.setCell _ _ _ _) hoff,O2.then (Only.setCell _ _ _ _)⟩
   case rest =>
    clear T2 hatc O2;obtain ⟨T2,hatc,O2⟩:=hcut;go_upto_region 10 with fail;have T4:=Has.cell T2 4;have Tz:=Has.lt T2;have hW1:Ext wc wc.drew:=(Ext.refl _).drew;have hW2:Ext wc (wc.drew.alloc (.cells #[.string (bs (c::t))] 9)):=hW1.alloc _;have hpl:=parts_len (c::t);have KS:Hid (∀w',Ext wc w'→w'.cell? ⟨b,4,none⟩=some (.slice A l.length cap)):=fun w' h=>(h.cell Tz).trans T4
    have hcp:=KS.out _ hW2;have hcd:=KS.out _ hW1;go_region_law (first|(go_simp;go_at_call 187;refine (pparts_any (c::t) _).mono ?_;rintro e wp ⟨rfl,rfl⟩)|(go_simp;go_at_call 186;refine (collect_any _ (c::t) (by simp at hd⊢;omega) _ (by simp) ((Has.new _ _).cell 0)).mono ?_;rintro e wk ⟨v3,rfl,ok3,bk3⟩;have hk3:=hW2.trans bk3;have hck:=KS.out _ hk3;have hzk:=(TripAt.ext T2 hk3);have hzk2:=Has.lt hzk)|(refine step_append15 _ (by rfl) _ _ 135 (by rfl) _ _ (by rfl) (by rfl) (app_texts A cap l _ ok3 (hatc.ext hk3) hA bk3.size (by simp at hd hpl⊢;omega) (by omega)) ?_;rintro v9 w9 ⟨hO9,hg9⟩;have hT9:TripAt w9 b bW cu cg at2 A l.length cap (h1:Int) m2:=has_grown (TripAt.ext T2 hk3) hg9 (row_ne ok3 (TripAt.ext T2 hk3) (by decide));have hc9:=Has.cell hT9 4;have hf9:=Has.free hT9 4;have hz9:=Has.lt hT9;obtain⟨A9,c9,rfl,hA91,hA92,hA93,hA94⟩:=OwnT.at_ hO9))
    all_goals
     have E9:Ext wc w9:=hk3.grown hg9 (fun g hv=>by have:=(World.ownsRow.lt ok3 g hv).1;simp at this;omega);have hne9:=row_ne hO9 hT9 (by decide);have hoff9:Off A9 b:=fun x hx=>by
      intro e;refine hne9 ?_;rw [hx,←e];rfl
     have hfin:TripAt (w9.setCell ⟨b,4,none⟩ (.slice A9 ((partsN (c::t)).length+l.length) c9)) b bW cu cg at2 A9 (partsN (c::t)++l).length c9 (h1:Int) m2:=by
      rw [List.length_append];exact Has.setCell hT9 4 (.slice A9 ((partsN (c::t)).length+l.length) c9)
     have O9:Only [b] w (w9.setCell ⟨b,4,none⟩ (.slice A9 ((partsN (c::t)).length+l.length) c9)):=(O2.ext E9).then (Only.setCell _ _ _ _);have hat9:=hA93.only (Only.setCell w9 b 4 (.slice A9 ((partsN (c::t)).length+l.length) c9)) hoff9;clear T4 hcp hcd hck hzk2 hc9 hf9 hz9;go_wp2_with fail;go_ret;refine ⟨O9,by rw[e1.out];rfl,fun _=>⟨A9,c9,?_,hat9,hA94,hoff9,hA91⟩⟩;rw [←HA2.out,←HM2.out,←HH1.out];exact hfin
end Go.Proofs.YtpibnfdolojpcaaGreat
namespace Go.Proofs.YtpibnfdolojpcaaGreat
open Go.ChangeShapes Go.WideShapes Go.ChangeAt Go.RowKit
abbrev fndC (x:FndD):List Value:=[.int .i64 x.dir,.string (bs x.name),.int .i64 x.no,.bool x.slash]
theorem infoFound15:(Tryz.prog.info? 82).map (·.size)=some 4:=by kernel_rfl
theorem fndC_one (x:FndD):∀u∈fndC x,u.oneCell'=true:=by
 intro u hu;simp only[List.mem_cons,List.not_mem_nil,or_false]at hu;rcases hu with rfl|rfl|rfl|rfl<;>rfl
theorem Has.putFnd {w:World} {b:Nat} {t:TypeId} {x:FndD} (y:FndD) (h:Has w b (.cells (fndC x).toArray t)):Has (w.setCells b 0 (fndC y)) b (.cells (fndC y).toArray t):=by
 have h0:=Has.setCell h 0 (.int .i64 y.dir);have h1:=Has.setCell h0 1 (.string (bs y.name));have h2:=Has.setCell h1 2 (.int .i64 y.no);have h3:=Has.setCell h2 3 (.bool y.slash);exact h3
theorem found_set {w:World} {b:Nat} {t:TypeId} {x:FndD} (y:FndD) (h:Has w b (.cells (fndC x).toArray t)) :
  Has ((((w.setCell ⟨b,0,none⟩ (.int .i64 y.dir)).setCell ⟨b,1,none⟩ (.string (bs y.name))).setCell ⟨b,2,none⟩ (.int .i64 y.no)).setCell ⟨b,3,none⟩ (.bool y.slash)) b (.cells (fndC y).toArray t)∧Only [b] w ((((w.setCell ⟨b,0,none⟩ (.int .i64 y.dir)).setCell ⟨b,1,none⟩ (.string (bs y.name))).setCell ⟨b,2,none⟩ (.int .i64 y.no)).setCell ⟨b,3,none⟩ (.bool y.slash)):=
 ⟨h.putFnd y,only_setCells (fndC y) 0 w⟩
theorem wpList_store_found {ops:Array Oper} {rest:List Oper} {op:Oper} {a:Act} {w:World} {Q:Exit→Act→World→Prop} (hgd:op.guard=none) (x y:Operand) (ho:op.op=.store 82 x y)
  (b:Nat) (d d':FndD) (hx:a.eval x=.pointer (some ⟨b,0,none⟩)) (hy:a.eval y=.agg (fndC d').toArray) (hb:Has w b (.cells (fndC d).toArray 82))
  (h:∀w',Has w' b (.cells (fndC d').toArray 82)→Only [b] w w'→wpList Tryz.prog ops Q rest (a.put op.dst undef) w'):wpList Tryz.prog ops Q (op::rest) a w:=by
 refine wpList_store_mid hgd 82 x y ho b 0 (fndC d').toArray hx hy hb.there infoFound15 (all_oneCell_toArray (cs:=fndC d') (fndC_one d')) ?_;exact h _ (hb.putFnd d') (only_setCells (fndC d') 0 w)
theorem res_found {fn:Func} {p t:Tmp} (h:fn.results=#[.cell p 82,.tmp t]) (tmps:Array Value) (w:World) (g:Nat) (d:FndD) (v:Value)
  (hp:tmps.getD p undef=.pointer (some ⟨g,0,none⟩)) (hv:tmps.getD t undef=v) (hg:Has w g (.cells (fndC d).toArray 82)) :
  (results fn tmps).run Tryz.prog w=.ok (.tuple #[.agg (fndC d).toArray,v]) w:=
 res_cell_tmp h tmps w g 82 _ _ v hp hv hg Tryz.underlying82 rfl infoFound15
theorem part_len {d p:List UInt8} (h:p∈partsN d):p.length≤d.length:=by
 have key:∀(L:List (List UInt8)),p∈L→p.length≤total L:=by
  intro L hp
  induction L with
  | nil=>cases hp
  | cons x L ih =>
   unfold total;rcases List.mem_cons.1 hp with rfl|hp
   ·omega
   ·have:=ih hp;omega
 have:=key _ h;have:=parts_total d;omega
theorem from_one15 (bl o n m cap:Nat) (h0:n=m+1) (hc:n≤cap):∃X:Addr,(∀W,(Instr.slice 135 (.slice (some ⟨bl,o,none⟩) n cap) (some (.int .i64 1)) none none).run Tryz.prog W=.ok (.slice (some X) m (cap-1)) W)∧(0<m→X=⟨bl,o+1,none⟩)∧X.block=bl:=by
 have h4:n-1=m:=by omega
 have hu:=Tryz.underlying135;have h1:(1:Int)≤n:=by omega
 have hi:(Tryz.prog.info? 9).map (·.size)=some 1:=by kernel_rfl
 by_cases h:cap=1
 ·refine ⟨⟨bl,o,none⟩,fun W=>?_,fun h2=>by omega,rfl⟩
  subst h;go_simp;intro h;omega
 ·refine ⟨⟨bl,o+1,none⟩,fun W=>?_,fun _=>rfl,rfl⟩
  go_simp;intro h;omega
def lenV:Value→Nat
 | .slice _ n _=>n
 | _=>0
def tripM (w:World) (b:Nat):Nat:=(9-(intOf ((w.cell? ⟨b,5,none⟩).getD undef)).toNat)*20000000+lenV ((w.cell? ⟨b,4,none⟩).getD undef)
theorem tripM_eq {w:World} {b bW:Nat} {cu cg at_:Int} {A:Option Addr} {len cap h:Nat} {m:Bool} (t:TripAt w b bW cu cg at_ A len cap (h:Int) m):tripM w b=(9-h)*20000000+len:=by
 have h5:=Has.cell t 5;have h4:=Has.cell t 4;unfold tripM;rw [h5,h4];simp [intOf,lenV]
def FndR (w:World) (R:FndD×Int):Ending→World→Prop:=Ret w (.tuple #[.agg (fndC R.1).toArray,.int .i64 R.2])
theorem FndR.mk {w w0 w':World} {b8:Nat} {R:FndD×Int} {d:FndD} {e:Int} (hE:Ext w w0) (hb:w.heap.size≤b8) (O:Only [b8] w0 w') (h:R=(d,e)):FndR w R (.returned (.tuple #[.agg (fndC d).toArray,.int .i64 e])) w':=by
 subst h;exact ⟨rfl,O.after hE (fun x hx=>by rw[List.mem_singleton]at hx;omega)⟩
theorem ppath15_any {c:Nat} (B:Nat) (g:GhW) (S:TreeD) (cu cg:Int) (p0:List UInt8) (fol:Bool) (w:World) (h:WAt w B g S) (T:Tre c S) (hc:c≤1000000) (hp0:p0.length≤1000000) :
  Calls Tryz.prog 155 #[.pointer (some ⟨g.bW,0,none⟩),.agg #[.int .i64 cu,.int .i64 cg],.string (bs p0),.bool fol] w (FndR w (pathF S cu cg p0 fol)):=by
 obtain ⟨W0,hW0⟩:∃W,W=(w.alloc (.cells #[.int .i64 cu,.int .i64 cg] 27)).alloc (.cells #[.int .i64 0,.string ⟨#[]⟩,.int .i64 0,.bool false] 82):=⟨_,rfl⟩;obtain ⟨b5,hb5⟩:∃b,b=w.heap.size:=⟨_,rfl⟩;obtain ⟨b8,hb8⟩:∃b,b=w.heap.size+1:=⟨_,rfl⟩;have E0:Ext w W0:=by rw[hW0];exact ((Ext.refl _).alloc _).alloc _
 have F0:Has W0 b8 (.cells (fndC fndZ).toArray 82):=by rw[hW0,hb8];have:=Has.new (w.alloc (.cells #[.int .i64 cu,.int .i64 cg] 27)) (.cells #[.int .i64 0,.string ⟨#[]⟩,.int .i64 0,.bool false] 82);rw[World.size_alloc]at this;exact this
 have C0:Has W0 b5 (.cells #[.int .i64 cu,.int .i64 cg] 27):=by rw[hW0,hb5];exact (Has.new w _).alloc _
 have hb8w:w.heap.size≤b8:=by omega
 obtain ⟨R,hR⟩:∃R,R=pathF S cu cg p0 fol:=⟨_,rfl⟩;rw [←hR];have HR:=zH hR;obtain ⟨q,hq⟩:∃q,q=pathN p0:=⟨_,rfl⟩;have HQ:=zH hq;have hl0:((S.devs.length:Int) == 0)=false:=by have:=T.devs;simpa using (show ¬(S.devs.length:Int)=0 by omega)
 clear hR;go_enter Tryz.func155,Tryz.ntmps155;go_upto_region 1 with fail;rw [←hW0,←hb5];rw [show b5+1=b8 by omega];clear hW0 hb5 hb8;refine wp_scope_straight ?_;go_wp2_with fail;refine (pdevs_any B g S _ (h.ext E0) T.devs).mono ?_;rintro e w1 ⟨rfl,b1⟩;go_wp2_with fail;refine (ppath_any p0 _ hp0).mono ?_;rw [←hq];rintro e w2 ⟨rfl,b2⟩;have E2:=(E0.trans b1).trans b2;have F2:=(F0.ext b1).ext b2;have C2:=(C0.ext b1).ext b2;clear hq F0 C0 E0 b1 b2 hl0
 by_cases hq0:q=0
 case neg =>
  have t0:(q == 0)=false:=by simpa using hq0
  have t0b:(q != 0)=true:=by simpa using hq0
  have e1:Hid (R=(fndZ,q)):=by show _=_;rw[HR.out,HQ.out];unfold pathF;rw[if_neg (by rw[←HQ.out];exact hq0)]
  clear hq0;go_wp2_with (refine wpList_store_found rfl _ _ rfl b8 fndZ fndZ rfl rfl F2 ?_;intro w9 R9 O9);refine bodyPost_ret (v:=.tuple #[.agg (fndC fndZ).toArray,.int .i64 q]) (res_found Tryz.results155 _ _ b8 fndZ _ rfl rfl R9) rfl ?_;exact FndR.mk E2 hb8w O9 e1.out
 have t0:(q == 0)=true:=by simpa using hq0
 have t0b:(q != 0)=false:=by simpa using hq0
 have HR2:Hid (R=seekF S cu cg fol 1 (partsN p0) 0 (slashB p0)):=by show _=_;rw[HR.out];unfold pathF;rw[if_pos (by rw[←HQ.out];exact hq0)]
 have HPL:Hid (∀p∈partsN p0,p.length≤1100000):=by show ∀p∈_,_;intro p hp;have:=part_len hp;omega
 have hpl:=parts_len p0;clear HR HQ hq0;go_upto_region 6 with fail;have X0:=C2.cell 0;have X1:=C2.cell 1;have Xz:=C2.lt;have hW1:Ext w2 w2.drew:=(Ext.refl _).drew;have hW2:Ext w2 (w2.drew.alloc (.cells #[.string (bs p0)] 9)):=hW1.alloc _;have KS:Hid (∀w',Ext w2 w'→w'.cell? ⟨b5,0,none⟩=some (.int .i64 cu)∧w'.cell? ⟨b5,1,none⟩=some (.int .i64 cg)):=fun w' h=>⟨(h.cell Xz).trans X0,(h.cell Xz).trans X1⟩
 go_region_held3 (fun w'=>w'.cell? ⟨b5,0,none⟩=some (.int .i64 cu)∧w'.cell? ⟨b5,1,none⟩=some (.int .i64 cg))
  ((first|exact KS.out _ hW1|exact KS.out _ hW2|exact KS.out _ hk3|exact KS.out _ hk4|exact KS.out _ (hk4.alloc _)))
  ((first|(go_at_call 187;refine (pparts_any p0 _).mono ?_;rintro e wp ⟨rfl,rfl⟩)|(go_at_call 186;refine (collect_any _ p0 (by omega) _ (by simp) ((Has.new _ _).cell 0)).mono ?_;rintro e wk ⟨v3,rfl,ok3,bk3⟩;have hk3:=hW2.trans bk3;obtain⟨A3,c3,rfl,hA31,hA32,hA33,hA34⟩:=OwnT.at_ ok3)|(go_at_call 188;refine (pslash_any p0 _ (by omega)).mono ?_;rintro e w4 ⟨rfl,bs4⟩;have hk4:=hk3.trans bs4)))
 obtain ⟨W5,hW5⟩:∃W,W=w4.alloc (.cells #[.pointer (some ⟨g.bW,0,none⟩),.int .i64 cu,.int .i64 cg,.int .i64 1,.slice A3 (partsN p0).length c3,.int .i64 0,.bool (slashB p0)] 255):=⟨_,rfl⟩;obtain ⟨b,hb⟩:∃b,b=w4.heap.size:=⟨_,rfl⟩;have T5:TripAt W5 b g.bW cu cg 1 A3 (partsN p0).length c3 0 (slashB p0):=by rw[hW5,hb];exact Has.new _ _
 have E45:Ext w4 W5:=by rw[hW5];exact (Ext.refl _).alloc _
 have E5:Ext w W5:=(E2.trans hk4).trans E45;have F5:=(F2.ext hk4).ext E45;have hat5:=(hA33.ext bs4).ext E45;have hoff5:Off A3 b:=fun x hx=>by
  have:=(World.ownsRow.lt ok3 x.block (by rw[hx];rfl)).2;have:=bs4.size;omega
 have hbw:w.heap.size≤b:=by have:=(E2.trans hk4).size;omega
 rw [←hW5,←hb];have HP1:Hid ((partsN p0).length≤1050000):=by show _≤_;omega
 obtain ⟨l0,hl0⟩:∃l0,l0=partsN p0:=⟨_,rfl⟩;obtain ⟨m0,hm0⟩:∃m0,m0=slashB p0:=⟨_,rfl⟩;rw [←hl0]at T5 hat5 HR2 HPL HP1 hA31;rw [←hm0]at T5 HR2;have HA31:=zH hA31;clear hW5 hb X0 X1 Xz hW1 hW2 KS hk3 hk4 hA31 hA32 hA33 ok3 bk3 bs4 E45 E2 F2 C2 hpl hl0 hm0 t0 t0b;go_wp2_with fail;refine wp_label ?_;go_wp2_with fail;go_loopw [] (fun wr=>∃(at_:Int) (l:List (List UInt8)) (h:Nat) (m:Bool) (A:Option Addr) (cap:Nat),TripAt wr b g.bW cu cg at_ A l.length cap (h:Int) m∧TxtAt wr A l∧(A=none→cap=0)∧l.length≤cap∧Off A b∧Hid (∀p∈l,p.length≤1100000)∧l.length≤1050000*(h+1)∧h≤8∧Hid (R=seekF S cu cg fol at_ l h m)∧Has wr b8 (.cells (fndC fndZ).toArray 82)∧Ext w wr) (fun wr=>tripM wr b)
 case atStart=>exact⟨1,l0,0,m0,A3,c3,T5,hat5,hA34,HA31.out,hoff5,HPL,by have:=HP1.out;omega,by decide,HR2,F5,E5⟩
 case round =>
  obtain ⟨at_,l,hp,m,A,cap,Tr,hat,hA0,hlc,hoff,HL,hll,hh8,HR,Fr,Er⟩:=hrel;have T4:=Has.cell Tr 4;have Tz:=Has.lt Tr;have hMr:=zH (tripM_eq Tr);have hbb:b≠b8:=has_ne Tr Fr (by decide)
  cases l with
  | nil =>
   have e1:Hid (R=(⟨0,[],at_,true⟩,0)):=by show _=_;rw[HR.out,seek_nil]
   have T3:=Has.cell Tr 3;clear HR;go_wp2_with (refine wpList_store_found rfl _ _ rfl b8 fndZ ⟨0,[],at_,true⟩ rfl rfl Fr ?_;intro w9 R9 O9);refine bodyPost_ret (v:=.tuple #[.agg (fndC ⟨0,[],at_,true⟩).toArray,.int .i64 0]) (res_found Tryz.results155 _ _ b8 ⟨0,[],at_,true⟩ _ rfl rfl R9) rfl ?_;exact FndR.mk Er hb8w O9 e1.out
  | cons p l =>
   obtain ⟨bl,o,rfl,hbl,hcl⟩:∃bl o,A=some ⟨bl,o,none⟩∧bl<wr.heap.size∧∀k,(h:k<(p::l).length)→wr.cell? ⟨bl,o+k,none⟩=some (.string (bs (p::l)[k])):=by
    rcases hat with h0|h0
    ·cases h0
    ·exact h0
   obtain ⟨n,hn⟩:∃n,n=(p::l).length:=⟨_,rfl⟩;have hnl:n=l.length+1:=by rw[hn];rfl
   have hc0:wr.cell? ⟨bl,o,none⟩=some (.string (bs p)):=hcl 0 (by simp);obtain ⟨X,hsl,hX,hXb⟩:=from_one15 bl o n l.length cap hnl (by omega);have hne:bl≠b:=hoff _ rfl;have hpl:p.length≤1100000:=HL.out p (List.mem_cons_self ..);obtain ⟨W1,hW1⟩:∃W,W=wr.setCell ⟨b,4,none⟩ (.slice (some X) l.length (cap-1)):=⟨_,rfl⟩;have O1:Only [b] wr W1:=by rw[hW1];exact Only.setCell _ _ _ _
   have T1:TripAt W1 b g.bW cu cg at_ (some X) l.length (cap-1) (hp:Int) m:=by rw[hW1];exact Has.setCell Tr 4 (.slice (some X) l.length (cap-1))
   have hat1:TxtAt W1 (some X) l:=by
    by_cases hl0:l=[]
    ·exact .inl hl0
    ·have hpos:0<l.length:=List.length_pos_iff.2 hl0
     rw [hX hpos];refine .inr ⟨bl,o+1,rfl,by have:=O1.size;omega,fun k hk=>?_⟩;have h1:=hcl (k+1) (by simp;omega);have e:W1.heap[bl]?=wr.heap[bl]?:=O1.block bl hbl (by rw[List.mem_singleton];exact hne);rw [show o+1+k=o+(k+1) by omega];have e2:W1.cell? ⟨bl,o+(k+1),none⟩=wr.cell? ⟨bl,o+(k+1),none⟩:=by simp[World.cell?,e]
     rw [e2];exact h1
   have hoff1:Off (some X) b:=fun x hx=>by cases hx;rw[hXb];exact hne
   have F1:=O1.has Fr (by rw[List.mem_singleton];exact Ne.symm hbb);have E1:Ext w W1:=O1.after Er (fun x hx=>by rw[List.mem_singleton]at hx;omega);have HLC:=zH (show l.length≤cap-1 by omega);have HLL:=zH (show l.length+1≤1050000*(hp+1) by omega);have HLP:Hid (∀q∈l,q.length≤1100000):=by show ∀q∈l,_;intro q hq;exact HL.out q (List.mem_cons_of_mem _ hq)
   have F4:=Has.free Tr 4;have q0:(0:Int)<(n:Int):=by omega
   rw [←hn]at T4;obtain ⟨lb,hlb⟩:∃lb,lb=l.isEmpty:=⟨_,rfl⟩;have tl:((l.length:Int) == 0)=lb:=by rw[hlb];cases l<;>simp<;>omega
   have HLB:=zH hlb;have T4b:=Has.cell T1 4;clear hat hcl hX hXb hlc hll HL hoff hA0 hlb hnl hn;go_upto_region 11 with fail;rw [←hW1];have K1:=h.ext E1;have HW1:=zH hW1;have hoffR:=zH hoff1;clear hW1 T4 T4b F4 tl hsl hc0 Tz Tr Fr q0 hoff1 hne;have tl:((l.length:Int) == 0)=lb:=by rw[HLB.out];cases l<;>simp<;>omega
   go_wp2_with fail;refine (pstep_any B g S b cu cg at_ (some X) l.length (cap-1) hp m p _ K1 T hc T1 (by omega)).mono ?_;rintro e w2' ⟨rfl,b2⟩;obtain ⟨x,hx⟩:∃x,x=stepE S cu cg at_ p:=⟨_,rfl⟩;obtain ⟨z,hz⟩:∃z,z=if x=0 then stepG S at_ p else 0:=⟨_,rfl⟩
   rw [←hx];rw [←hz];have HX:=zH hx;have HZ:=zH hz;have K2:=K1.ext b2;obtain ⟨_,_,cd,h3,_⟩:=id K2;have v0:w2'.cell? ⟨g.bW,0,none⟩=some (.pointer (some ⟨g.bT,0,none⟩)):=h3.cell 0;have vz:=h3.lt;have T2:=TripAt.ext T1 b2;have F2:=F1.ext b2;have E2:=E1.trans b2;clear hx hz h3 T1 F1 E1 K1;go_wp2_with fail;refine (tget_any B g.bT g.bM S.nodes S.last z _ K2.2.1).mono ?_;rintro e w3 ⟨A4,c4,rfl,ok4,b3⟩;obtain ⟨nd,hnd⟩:∃nd,nd=getN S.nodes z:=⟨_,rfl⟩;obtain ⟨is,his⟩:∃is,is=isN S.nodes z:=⟨_,rfl⟩;rw [←hnd]at ok4;rw [←hnd,←his];have HND:=zH hnd;have HIS:=zH his;obtain ⟨W4,hW4⟩:∃W4,W4=w3.alloc (.cells #[.int .i64 nd.no,.int .i64 nd.dev,.int .i64 nd.kind,.int .i64 nd.mode,.int .i64 nd.uid,.int .i64 nd.gid,.int .i64 nd.mtime,.int .i64 nd.ctime,.int .i64 nd.links,.int .i64 nd.up,.string (bs nd.data),.slice A4 nd.ents.length c4] 66):=⟨_,rfl⟩;obtain ⟨b16,hb16⟩:∃b,b=w3.heap.size:=⟨_,rfl⟩;have E34:Ext w3 W4:=by rw[hW4];exact (Ext.refl _).alloc _
   have N4:Has W4 b16 (.cells #[.int .i64 nd.no,.int .i64 nd.dev,.int .i64 nd.kind,.int .i64 nd.mode,.int .i64 nd.uid,.int .i64 nd.gid,.int .i64 nd.mtime,.int .i64 nd.ctime,.int .i64 nd.links,.int .i64 nd.up,.string (bs nd.data),.slice A4 nd.ents.length c4] 66):=by rw[hW4,hb16];exact Has.new _ _
   have K4:=(K2.ext b3).ext E34;have T4:=TripAt.ext (TripAt.ext T2 b3) E34;have F4:=(F2.ext b3).ext E34;have E4:=(E2.trans b3).trans E34;have hat4:=((hat1.ext b2).ext b3).ext E34;clear hnd his v0 vz T2 F2 E2 K2 hat1 ok4;go_upto_region 13 with fail;rw [←hW4,←hb16];clear hW4 hb16 b2 b3 E34 O1
   by_cases hx0:x=0
   case neg =>
    have t0:(x == 0)=false:=by simpa using hx0
    have t0b:(x != 0)=true:=by simpa using hx0
    have e1:Hid (R=(fndZ,x)):=by show _=_;rw[HR.out,seek_err (by rw[←HX.out];exact hx0),HX.out]
    clear hx0 HR;go_wp2_with (refine wpList_store_found rfl _ _ rfl b8 fndZ fndZ rfl rfl F4 ?_;intro w9 R9 O9);refine bodyPost_ret (v:=.tuple #[.agg (fndC fndZ).toArray,.int .i64 x]) (res_found Tryz.results155 _ _ b8 fndZ _ rfl rfl R9) rfl ?_;exact FndR.mk E4 hb8w O9 e1.out
   have t0:(x == 0)=true:=by simpa using hx0
   have t0b:(x != 0)=false:=by simpa using hx0
   have HS0:Hid (stepE S cu cg at_ p=0):=by show _=_;rw[←HX.out];exact hx0
   have HZ2:Hid (z=stepG S at_ p):=by show _=_;rw[HZ.out,if_pos hx0]
   obtain ⟨XP,hXP⟩:∃Y,Y=bs p:=⟨_,rfl⟩;have tX:(XP.toList == [46,46])=(p == [46,46]):=by rw[hXP];exact txt_tests.2.2.1
   have HXP:=zH hXP;rw [←hXP];clear hx0 HZ HX hXP
   by_cases c2:p=[46,46]
   ·have t2:(XP.toList == [46,46])=true:=by rw[tX,c2];rfl
    have hz2:z=aboveF S at_:=by rw[HZ2.out];unfold stepG;rw[if_pos c2]
    have HR2:Hid (R=seekF S cu cg fol z l hp m):=by show _=_;rw[HR.out,seek_up HS0.out c2,hz2]
    have c3:=Has.cell T4 3;have f3:=Has.free T4 3;have cz:=Has.lt T4;clear tX c2 hz2 HR;go_wp2_with fail;have O9:Only [b] W4 (W4.setCell ⟨b,3,none⟩ (.int .i64 z)):=Only.setCell _ _ _ _;have T9:TripAt (W4.setCell ⟨b,3,none⟩ (.int .i64 z)) b g.bW cu cg z (some X) l.length (cap-1) (hp:Int) m:=Has.setCell T4 3 (.int .i64 z);go_roundw
    case rel=>exact⟨z,l,hp,m,some X,cap-1,T9,hat4.only O9 hoffR.out,by simp,HLC.out,hoffR.out,HLP,by have:=HLL.out;omega,hh8,HR2,O9.has F4 (by rw[List.mem_singleton];exact Ne.symm hbb),O9.after E4 (fun x hx=>by rw[List.mem_singleton]at hx;omega)⟩
    case measure=>rw[tripM_eq T9,hMr.out];simp
   have t2:(XP.toList == [46,46])=false:=by rw[tX];simpa using c2
   have HC2:=zH c2;have HZ3:Hid (z=stepN S at_ p):=by show _=_;rw[HZ2.out];unfold stepG;rw[if_neg c2]
   clear tX c2 HZ2;have c3:=Has.cell T4 3;have c6:=Has.cell T4 6;have cz:=Has.lt T4
   cases is with
   | false =>
    have HI:Hid (isN S.nodes (stepN S at_ p)=false):=by show _=_;rw[←HZ3.out];exact HIS.out.symm
    cases lb with
    | true =>
     have e1:Hid (R=(⟨at_,p,0,m⟩,0)):=by
      show _=_;rw [HR.out,seek_free HS0.out HC2.out HI.out];have:=HLB.out
      cases l with
      | nil=>rfl
      | cons a l=>cases this
     clear HR;have ED:Ext W4 W4.drew:=(Ext.refl _).drew;have FD:=F4.ext ED;go_upto_region 18 with fail;rw [HXP.out];go_still_tail 10,(by kernel_rfl);change wpList _ _ _ _ _ W4.drew;go_wp2_with (refine wpList_store_found rfl _ _ rfl b8 fndZ ⟨at_,p,0,m⟩ rfl rfl FD ?_;intro w9 R9 O9);refine bodyPost_ret (v:=.tuple #[.agg (fndC ⟨at_,p,0,m⟩).toArray,.int .i64 0]) (res_found Tryz.results155 _ _ b8 ⟨at_,p,0,m⟩ _ rfl rfl R9) rfl ?_;exact FndR.mk (E4.trans ED) hb8w O9 e1.out
    | false =>
     have e1:Hid (R=(fndZ,5)):=by
      show _=_;rw [HR.out,seek_none HS0.out HC2.out HI.out];rintro rfl
      cases HLB.out
     clear HR;go_wp2_with (refine wpList_store_found rfl _ _ rfl b8 fndZ fndZ rfl rfl F4 ?_;intro w9 R9 O9);refine bodyPost_ret (v:=.tuple #[.agg (fndC fndZ).toArray,.int .i64 5]) (res_found Tryz.results155 _ _ b8 fndZ _ rfl rfl R9) rfl ?_;exact FndR.mk E4 hb8w O9 e1.out
   | true =>
    have HI:Hid (isN S.nodes (stepN S at_ p)=true):=by show _=_;rw[←HZ3.out];exact HIS.out.symm
    obtain ⟨k3,hk3⟩:∃k:Bool,k=(nd.kind == 3):=⟨_,rfl⟩;obtain ⟨k1,hk1⟩:∃k:Bool,k=(nd.kind != 1):=⟨_,rfl⟩;have t3:=hk3.symm;have t1:=hk1.symm;have HK3:=zH hk3;have HK1:=zH hk1;have y2:W4.cell? ⟨b16,2,none⟩=some (.int .i64 nd.kind):=N4.cell 2;have y10:W4.cell? ⟨b16,10,none⟩=some (.string (bs nd.data)):=N4.cell 10;have yz:=N4.lt;obtain ⟨bv,hbv⟩:∃bv:Bool,bv=(k3&&(!lb || (m || fol))):=⟨_,rfl⟩;have HBV:=zH hbv;clear hk3 hk1 hbv;go_upto_region 21 with fail;go_cut [111] (fun v wc=>v=.bool bv∧wc=W4)
    case first =>
     have hb:Hid (bv=(k3&&(!lb || (m || fol)))):=HBV
     cases k3
     ·have e:Hid (bv=false):=by show _=_;rw[hb.out];rfl
      clear HBV hb;go_wp2_with fail;go_meet;exact ⟨by rw[e.out],rfl⟩
     ·cases lb
      ·have e:Hid (bv=true):=by show _=_;rw[hb.out];rfl
       clear HBV hb;go_wp2_with fail;go_meet;exact ⟨by rw[e.out],rfl⟩
      ·cases m
       ·cases fol
        ·have e:Hid (bv=false):=by show _=_;rw[hb.out];rfl
         clear HBV hb;go_wp2_with fail;go_meet;exact ⟨by rw[e.out],rfl⟩
        ·have e:Hid (bv=true):=by show _=_;rw[hb.out];rfl
         clear HBV hb;go_wp2_with fail;go_meet;exact ⟨by rw[e.out],rfl⟩
       ·have e:Hid (bv=true):=by show _=_;rw[hb.out];rfl
        clear HBV hb;go_wp2_with fail;go_meet;exact ⟨by rw[e.out],rfl⟩
    case rest =>
     obtain ⟨rfl,hwc⟩:=hcut;obtain rfl:W4=wc:=hwc.symm
     cases bv with
     | true =>
      have hb3 : k3=true∧(l≠[]∨m=true∨fol=true):=by
       have:=HBV.out
       cases k3
       ·cases this
       ·refine ⟨rfl,?_⟩
        cases hm:m
        ·cases hf:fol
         ·left
          rintro rfl;rw [hm,hf,HLB.out]at this
          cases this
         ·exact .inr (.inr rfl)
        ·exact .inr (.inl rfl)
      have HK:Hid ((getN S.nodes (stepN S at_ p)).kind=3):=by
       show _=_;have h2:=hb3.1;rw [HK3.out,HND.out,HZ3.out]at h2;simpa using h2
      have HOR:=zH hb3.2;have HD:Hid (nd.data=(getN S.nodes (stepN S at_ p)).data):=by show _=_;rw[HND.out,HZ3.out]
      have hdl:nd.data.length≤1048576:=by
       rw [HD.out];exact (T.on _ (isN_true HI.out).2.2).2
      obtain ⟨fe,hfe⟩:∃fe,fe=folE hp nd.data:=⟨_,rfl⟩;have HFE:=zH hfe;have HDL:=zH hdl;clear hb3 hfe hdl t3 t1;go_wp2_with fail;refine (pfollow_any b g.bW cu cg at_ (some X) (cap-1) hp m l nd.data _ T4 hat4 (by simp) hoffR.out (by have:=HLL.out;omega) HDL.out hh8).mono ?_;rintro e w5 ⟨O5,rfl,hfol⟩;have HFOL:=zH hfol;have F5:=O5.has F4 (by rw[List.mem_singleton];exact Ne.symm hbb);have E5:=O5.after E4 (fun x hx=>by rw[List.mem_singleton]at hx;omega);rw [←HFE.out];clear hfol c3 c6 cz y2 y10 yz
      by_cases hf0:fe=0
      case neg =>
       have t4:(fe == 0)=false:=by simpa using hf0
       have t4b:(fe != 0)=true:=by simpa using hf0
       have e1 : Hid (R=(fndZ,fe)):=by
        show _=_;have h1:=HFE.out;unfold folE at h1
        by_cases h8:8<hp+1
        ·rw [if_pos h8]at h1
         rw [HR.out,seek_loop HS0.out HC2.out HI.out HK.out HOR.out h8,h1]
        ·rw [if_neg h8]at h1
         by_cases h9:nd.data=[]
         ·rw [if_pos h9]at h1
          rw [HR.out,seek_empty HS0.out HC2.out HI.out HK.out HOR.out h8 (by rw[←HD.out];exact h9),h1]
         ·rw [if_neg h9]at h1
          exact absurd h1 hf0
       clear hf0 HR;go_wp2_with (refine wpList_store_found rfl _ _ rfl b8 fndZ fndZ rfl rfl F5 ?_;intro w9 R9 O9);refine bodyPost_ret (v:=.tuple #[.agg (fndC fndZ).toArray,.int .i64 fe]) (res_found Tryz.results155 _ _ b8 fndZ _ rfl rfl R9) rfl ?_;exact FndR.mk E5 hb8w O9 e1.out
      have t4:(fe == 0)=true:=by simpa using hf0
      have t4b:(fe != 0)=false:=by simpa using hf0
      have h80:¬8<hp+1∧nd.data≠[]:=by
       have h1:=HFE.out;rw [hf0]at h1;unfold folE at h1
       by_cases h8:8<hp+1
       ·rw[if_pos h8]at h1;cases h1
       ·rw [if_neg h8]at h1
        refine ⟨h8,fun h9=>?_⟩;rw [if_pos h9]at h1;cases h1
      obtain ⟨A9,c9,T9,hat9,hA9,hoff9,hle9⟩:=HFOL.out (by rw[←HFE.out];exact hf0);have HR2:Hid (R=seekF S cu cg fol (if nd.data.head?=some 47 then 1 else at_) (partsN nd.data++l) (hp+1) (m || (l.isEmpty&&slashB nd.data))):=by
       show _=_;rw [HR.out,seek_link HS0.out HC2.out HI.out HK.out HOR.out h80.1 (by rw[←HD.out];exact h80.2),HD.out]
      have HLN:Hid ((partsN nd.data++l).length≤1050000*(hp+1+1)):=by
       show _≤_;have:=parts_len nd.data;have:=HDL.out;have:=HLL.out;rw [List.length_append];omega
      have HLP2:Hid (∀q∈partsN nd.data++l,q.length≤1100000):=by
       show ∀q∈_,_;intro q hq;rcases List.mem_append.1 hq with hq|hq
       ·have:=part_len hq
        have:=HDL.out;omega
       ·exact HLP.out q hq
      have H8:=zH (show hp+1≤8 by omega);have HLE:=zH hle9;clear hf0 h80 HR hle9;go_wp2_with fail;go_roundw
      case rel=>exact⟨_,_,hp+1,_,A9,c9,T9,hat9,hA9,HLE.out,hoff9,HLP2,HLN.out,H8.out,HR2,F5,E5⟩
      case measure =>
       rw [tripM_eq T9,hMr.out];have:=HLN.out;have:=H8.out;omega
     | false =>
      have HN3:Hid (¬((getN S.nodes (stepN S at_ p)).kind=3∧(l≠[]∨m=true∨fol=true))):=by
       show ¬_;rintro ⟨h1,h2⟩;have h3:k3=true:=by rw[HK3.out,HND.out,HZ3.out];simpa using h1
       have:=HBV.out;rw [h3]at this;rcases h2 with h2|h2|h2
       ·have h4:lb=false:=by
         rw [HLB.out]
         cases l with
         | nil=>exact absurd rfl h2
         | cons a l=>rfl
        rw [h4]at this;cases this
       ·rw[h2]at this;cases lb<;>cases this
       ·rw[h2]at this;cases lb<;>cases m<;>cases this
      obtain ⟨bw,hbw2⟩:∃bw:Bool,bw=(k1&&(!lb || m)):=⟨_,rfl⟩;have HBW:=zH hbw2;clear hbw2 HBV HK3 t3;go_upto_region 25 with fail;go_cut [136] (fun v wc=>v=.bool bw∧wc=W4)
      case first =>
       have hb:=HBW
       cases k1
       ·have e:Hid (bw=false):=by show _=_;rw[hb.out];rfl
        clear HBW hb;go_wp2_with fail;go_meet;exact ⟨by rw[e.out],rfl⟩
       ·cases lb
        ·have e:Hid (bw=true):=by show _=_;rw[hb.out];rfl
         clear HBW hb;go_wp2_with fail;go_meet;exact ⟨by rw[e.out],rfl⟩
        ·cases m
         ·have e:Hid (bw=false):=by show _=_;rw[hb.out];rfl
          clear HBW hb;go_wp2_with fail;go_meet;exact ⟨by rw[e.out],rfl⟩
         ·have e:Hid (bw=true):=by show _=_;rw[hb.out];rfl
          clear HBW hb;go_wp2_with fail;go_meet;exact ⟨by rw[e.out],rfl⟩
      case rest =>
       obtain ⟨rfl,hwc⟩:=hcut;obtain rfl:W4=wc:=hwc.symm;have hK1:k1=true↔(getN S.nodes (stepN S at_ p)).kind≠1:=by rw[HK1.out,HND.out,HZ3.out];simp
       have hLB:lb=false↔l≠[]:=by
        rw [HLB.out]
        cases l<;>simp
       have HKK:=zH hK1;have HLL2:=zH hLB;clear hK1 hLB t1
       cases bw with
       | true =>
        have e1:Hid (R=(fndZ,9)):=by
         show _=_;have h1:=HBW.out;have hk:k1=true:=by cases k1<;>simp at h1⊢
         rw [hk]at h1;rw [HR.out,seek_file HS0.out HC2.out HI.out HN3.out (HKK.out.1 hk)]
         cases hlb:lb
         ·exact .inl (HLL2.out.1 hlb)
         ·rw [hlb]at h1
          cases hm:m
          ·rw[hm]at h1;cases h1
          ·exact .inr rfl
        clear HR HBW T4 hat4 HKK HLL2 HN3 y2 y10 yz c3 c6 cz N4 tl t0 t0b t2 HIS HND;have z0:=F4.cell 0;have z1:=F4.cell 1;have z2:=F4.cell 2;have z3:=F4.cell 3;have zf0:=Has.free F4 0;have zf1:=Has.free F4 1;have zf2:=Has.free F4 2;have zf3:=Has.free F4 3;have zz:=F4.lt;obtain ⟨R9,O9⟩:=found_set fndZ F4;go_upto_region 26 with fail
        iterate 16 (first|go_values|go_skip|go_guarded|go_step|go_upon|go_in)
        refine bodyPost_ret (v:=.tuple #[.agg (fndC fndZ).toArray,.int .i64 9]) (res_found Tryz.results155 _ _ b8 fndZ _ rfl rfl R9) rfl ?_;exact FndR.mk E4 hb8w O9 e1.out
       | false =>
        have HN1:Hid (¬((getN S.nodes (stepN S at_ p)).kind≠1∧(l≠[]∨m=true))):=by
         show ¬_;rintro ⟨h1,h2⟩;have h3:=HBW.out;rw [HKK.out.2 h1]at h3;rcases h2 with h2|h2
         ·rw[HLL2.out.2 h2]at h3;cases h3
         ·rw[h2]at h3;cases lb<;>cases h3
        clear HBW
        cases lb with
        | true =>
         have hl0:l=[]:=by
          have:=HLB.out
          cases l with
          | nil=>rfl
          | cons a l=>cases this
         have e1:Hid (R=(⟨at_,p,z,m⟩,0)):=by
          show _=_;rw [HR.out,seek_last HS0.out HC2.out HI.out HN3.out HN1.out hl0,HZ3.out]
         clear HR hl0 y2 y10 yz;have ED:Ext W4 W4.drew:=(Ext.refl _).drew;have FD:=F4.ext ED;go_upto_region 28 with fail;rw [HXP.out];go_still_tail 11,(by kernel_rfl);change wpList _ _ _ _ _ W4.drew;have z0:=F4.cell 0;have z1:=F4.cell 1;have z2:=F4.cell 2;have z3:=F4.cell 3;have zf0:=Has.free F4 0;have zf1:=Has.free F4 1;have zf2:=Has.free F4 2;have zf3:=Has.free F4 3;have zz:=F4.lt;obtain ⟨R9,O9⟩:=found_set (⟨at_,p,z,m⟩:FndD) FD
         iterate 12 (first|go_values|go_skip|go_guarded|go_step|go_upon|go_back)
         refine bodyPost_ret (v:=.tuple #[.agg (fndC ⟨at_,p,z,m⟩).toArray,.int .i64 0]) (res_found Tryz.results155 _ _ b8 ⟨at_,p,z,m⟩ _ rfl rfl R9) rfl ?_;exact FndR.mk (E4.trans ED) hb8w O9 e1.out
        | false =>
         have HR2:Hid (R=seekF S cu cg fol z l hp m):=by
          show _=_;rw [HR.out,seek_down HS0.out HC2.out HI.out HN3.out HN1.out (HLL2.out.1 rfl),HZ3.out]
         have f3:=Has.free T4 3;clear HR y2 y10 yz c6;go_wp2_with fail;have O9:Only [b] W4 (W4.setCell ⟨b,3,none⟩ (.int .i64 z)):=Only.setCell _ _ _ _;have T9:TripAt (W4.setCell ⟨b,3,none⟩ (.int .i64 z)) b g.bW cu cg z (some X) l.length (cap-1) (hp:Int) m:=Has.setCell T4 3 (.int .i64 z);go_roundw
         case rel=>exact⟨z,l,hp,m,some X,cap-1,T9,hat4.only O9 hoffR.out,by simp,HLC.out,hoffR.out,HLP,by have:=HLL.out;omega,hh8,HR2,O9.has F4 (by rw[List.mem_singleton];exact Ne.symm hbb),O9.after E4 (fun x hx=>by rw[List.mem_singleton]at hx;omega)⟩
         case measure=>rw[tripM_eq T9,hMr.out];simp
theorem rpath15_any {c : Nat} (B:Nat) (g:GhF) (S:TreeD) (X0:Xtra) (cu cg:Int) (p0:List UInt8) (fol:Bool) (w:World) (h:FAt w B g S X0) (T:Tre c S) (hc:c≤1000000) (hl:S.last≤100000) (hp0:p0.length≤1000000) :
  Calls Tryz.prog 40 #[.pointer (some ⟨g.bF,0,none⟩),.agg #[.int .i64 cu,.int .i64 cg],.string (bs p0),.bool fol] w (FndR w (pathF S cu cg p0 fol)):=by
 obtain ⟨W0,hW0⟩:∃W,W=(w.alloc (.cells #[.int .i64 cu,.int .i64 cg] 27)).alloc (.cells #[.int .i64 0,.string ⟨#[]⟩,.int .i64 0,.bool false] 82):=⟨_,rfl⟩;obtain ⟨b5,hb5⟩:∃b,b=w.heap.size:=⟨_,rfl⟩;obtain ⟨b8,hb8⟩:∃b,b=w.heap.size+1:=⟨_,rfl⟩;have E0:Ext w W0:=by rw[hW0];exact ((Ext.refl _).alloc _).alloc _
 have F0:Has W0 b8 (.cells (fndC fndZ).toArray 82):=by rw[hW0,hb8];have:=Has.new (w.alloc (.cells #[.int .i64 cu,.int .i64 cg] 27)) (.cells #[.int .i64 0,.string ⟨#[]⟩,.int .i64 0,.bool false] 82);rw[World.size_alloc]at this;exact this
 have C0:Has W0 b5 (.cells #[.int .i64 cu,.int .i64 cg] 27):=by rw[hW0,hb5];exact (Has.new w _).alloc _
 have hb8w:w.heap.size≤b8:=by omega
 have hnl1:S.nodes.length≤1000000:=by have:=T.count;omega
 obtain ⟨R,hR⟩:∃R,R=pathF S cu cg p0 fol:=⟨_,rfl⟩;rw [←hR];have HR:=zH hR;obtain ⟨q,hq⟩:∃q,q=pathN p0:=⟨_,rfl⟩;have HQ:=zH hq;clear hR;go_enter Tryz.func40,Tryz.ntmps40;go_upto_region 1 with fail;rw [←hW0,←hb5];rw [show b5+1=b8 by omega];clear hW0 hb5 hb8;go_wp2_with fail;refine (rpath_any p0 _ hp0).mono ?_;rw [←hq];rintro e w2 ⟨rfl,b2⟩;have E2:=E0.trans b2;have F2:=F0.ext b2;have C2:=C0.ext b2;clear hq F0 C0 E0 b2
 by_cases hq0:q=0
 case neg =>
  have t0:(q == 0)=false:=by simpa using hq0
  have t0b:(q != 0)=true:=by simpa using hq0
  have e1:Hid (R=(fndZ,q)):=by show _=_;rw[HR.out,HQ.out];unfold pathF;rw[if_neg (by rw[←HQ.out];exact hq0)]
  clear hq0;go_wp2_with (refine wpList_store_found rfl _ _ rfl b8 fndZ fndZ rfl rfl F2 ?_;intro w9 R9 O9);refine bodyPost_ret (v:=.tuple #[.agg (fndC fndZ).toArray,.int .i64 q]) (res_found Tryz.results40 _ _ b8 fndZ _ rfl rfl R9) rfl ?_;exact FndR.mk E2 hb8w O9 e1.out
 have t0:(q == 0)=true:=by simpa using hq0
 have t0b:(q != 0)=false:=by simpa using hq0
 have HR2:Hid (R=seekF S cu cg fol 1 (partsN p0) 0 (slashB p0)):=by show _=_;rw[HR.out];unfold pathF;rw[if_pos (by rw[←HQ.out];exact hq0)]
 have HPL:Hid (∀p∈partsN p0,p.length≤1100000):=by show ∀p∈_,_;intro p hp;have:=part_len hp;omega
 have HP1:Hid ((partsN p0).length≤1050000):=by show _≤_;have:=parts_len p0;omega
 clear HR HQ hq0;go_wp2_with fail;refine (rparts_any p0 _ (by omega)).mono ?_;rintro e w3 ⟨v3,rfl,ok3,b3⟩;obtain ⟨A3,c3,rfl,hA31,hA32,hA33,hA34⟩:=OwnT.at_ ok3;go_wp2_with fail;refine (rslash_any p0 _ (by omega)).mono ?_;rintro e w4 ⟨rfl,b4⟩;have E4:=(E2.trans b3).trans b4;have F4:=(F2.ext b3).ext b4;have C4:=(C2.ext b3).ext b4;have hat4:=hA33.ext b4;obtain ⟨l0,hl0⟩:∃l0,l0=partsN p0:=⟨_,rfl⟩;obtain ⟨m0,hm0⟩:∃m0,m0=slashB p0:=⟨_,rfl⟩;rw [←hl0]at hat4 HR2 HPL HP1 hA31;rw [←hm0]at HR2;rw [←hl0,←hm0];have HA31:=zH hA31;clear hA31 hA32 hA33 ok3 b3 b4 E2 F2 C2 hl0 hm0 t0 t0b;go_wp2_with fail;go_loopw [11,12,13,14] (fun v11 v12 v13 v14 wr=>∃(at_:Int) (l:List (List UInt8)) (h:Nat) (m:Bool) (A:Option Addr) (cap:Nat),v11=.slice A l.length cap∧v12=.bool m∧v13=.int .i64 at_∧v14=.int .i64 (h:Int)∧TxtAt wr A l∧(A=none→cap=0)∧l.length≤cap∧Hid (∀p∈l,p.length≤1100000)∧l.length≤1050000*(h+1)∧h≤8∧Hid (R=seekF S cu cg fol at_ l h m)∧Has wr b8 (.cells (fndC fndZ).toArray 82)∧Has wr b5 (.cells #[.int .i64 cu,.int .i64 cg] 27)∧Ext w wr) (fun v11 _ _ v14 _=>(9-(intOf v14).toNat)*20000000+lenV v11)
 case atStart=>exact⟨1,l0,0,m0,A3,c3,rfl,rfl,rfl,rfl,hat4,hA34,HA31.out,HPL,by have:=HP1.out;omega,by decide,HR2,F4,C4,E4⟩
 case round =>
  obtain ⟨at_,l,hp,m,A,cap,rfl,rfl,rfl,rfl,hat,hA0,hlc,HL,hll,hh8,HR,Fr,Cr,Er⟩:=hrel
  cases l with
  | nil =>
   have e1:Hid (R=(⟨0,[],at_,true⟩,0)):=by show _=_;rw[HR.out,seek_nil]
   clear HR;go_wp2_with (refine wpList_store_found rfl _ _ rfl b8 fndZ ⟨0,[],at_,true⟩ rfl rfl Fr ?_;intro w9 R9 O9);refine bodyPost_ret (v:=.tuple #[.agg (fndC ⟨0,[],at_,true⟩).toArray,.int .i64 0]) (res_found Tryz.results40 _ _ b8 ⟨0,[],at_,true⟩ _ rfl rfl R9) rfl ?_;exact FndR.mk Er hb8w O9 e1.out
  | cons p l =>
   obtain ⟨bl,o,rfl,hbl,hcl⟩:∃bl o,A=some ⟨bl,o,none⟩∧bl<wr.heap.size∧∀k,(h:k<(p::l).length)→wr.cell? ⟨bl,o+k,none⟩=some (.string (bs (p::l)[k])):=by
    rcases hat with h0|h0
    ·cases h0
    ·exact h0
   obtain ⟨n,hn⟩:∃n,n=(p::l).length:=⟨_,rfl⟩;have hnl:n=l.length+1:=by rw[hn];rfl
   have hc0:wr.cell? ⟨bl,o,none⟩=some (.string (bs p)):=hcl 0 (by simp);obtain ⟨X,hsl,hX,hXb⟩:=from_one15 bl o n l.length cap hnl (by omega);have hpl:p.length≤1100000:=HL.out p (List.mem_cons_self ..);have hat1:TxtAt wr (some X) l:=by
    by_cases hl0:l=[]
    ·exact .inl hl0
    ·have hpos:0<l.length:=List.length_pos_iff.2 hl0
     rw [hX hpos];refine .inr ⟨bl,o+1,rfl,hbl,fun k hk=>?_⟩;have h1:=hcl (k+1) (by simp;omega);rw [show o+1+k=o+(k+1) by omega];exact h1
   have HLC:=zH (show l.length≤cap-1 by omega);have HLL:=zH (show l.length+1≤1050000*(hp+1) by omega);have HLP:Hid (∀q∈l,q.length≤1100000):=by show ∀q∈l,_;intro q hq;exact HL.out q (List.mem_cons_of_mem _ hq)
   have q0:(0:Int)<(n:Int):=by omega
   obtain ⟨lb,hlb⟩:∃lb,lb=l.isEmpty:=⟨_,rfl⟩;have tl:((n:Int) == 1)=lb:=by rw[hlb,hnl];cases l<;>simp<;>omega
   have HLB:=zH hlb;rw [←hn];have HMR:=zH (show (p::l).length=n from hn.symm);clear hat hcl hX hXb hlc hll HL hA0 hlb hnl hn;go_upto_region 8 with fail;clear hsl hc0 q0 tl;go_wp2_with fail;refine (rget_any B g S X0 at_ _ (h.ext Er) hnl1 T.nos).mono ?_;rintro e w5 ⟨A5,c5,rfl,ok5,b5'⟩;obtain ⟨d,hd⟩:∃d,d=getN S.nodes at_:=⟨_,rfl⟩;have hRR:Rise d.ents∧d.ents.length≤c:=by rw[hd];exact T.getN at_
   have HRR:=zH hRR;rw [←hd]at ok5;rw [←hd];have HD:=zH hd;obtain ⟨W6,hW6⟩:∃W,W=w5.alloc (.cells #[.int .i64 d.no,.int .i64 d.dev,.int .i64 d.kind,.int .i64 d.mode,.int .i64 d.uid,.int .i64 d.gid,.int .i64 d.mtime,.int .i64 d.ctime,.int .i64 d.links,.int .i64 d.up,.string (bs d.data),.slice A5 d.ents.length c5] 66):=⟨_,rfl⟩;obtain ⟨b17,hb17⟩:∃b,b=w5.heap.size:=⟨_,rfl⟩;have E56:Ext w5 W6:=by rw[hW6];exact (Ext.refl _).alloc _
   have D6:Has W6 b17 (.cells #[.int .i64 d.no,.int .i64 d.dev,.int .i64 d.kind,.int .i64 d.mode,.int .i64 d.uid,.int .i64 d.gid,.int .i64 d.mtime,.int .i64 d.ctime,.int .i64 d.links,.int .i64 d.up,.string (bs d.data),.slice A5 d.ents.length c5] 66):=by rw[hW6,hb17];exact Has.new _ _
   have E6:=(Er.trans b5').trans E56;have F6:=(Fr.ext b5').ext E56;have C6:=(Cr.ext b5').ext E56;have hat6:=(hat1.ext b5').ext E56;have ok6:=ok5.ext E56;have hE:Hid (stepE S cu cg at_ p=if d.kind≠1 then 9 else if mayB cu cg d.uid d.gid d.mode 1=false then 6 else if p=[46,46] then 0 else if 255<p.length then 13 else 0):=by show _=_;rw[hd];rfl
   have k2:W6.cell? ⟨b17,2,none⟩=some (.int .i64 d.kind):=D6.cell 2;have kz:=D6.lt;clear hd hRR Fr Cr Er hat1 ok5;go_upto_region 9 with fail;rw [←hW6,←hb17];clear hW6 hb17 b5' E56
   by_cases q1:d.kind=1
   case neg =>
    have t1:(d.kind == 1)=false:=by simpa using q1
    have t1b:(d.kind != 1)=true:=by simpa using q1
    have e0:stepE S cu cg at_ p=9:=by rw[hE.out,if_pos q1]
    have e1:Hid (R=(fndZ,9)):=by show _=_;rw[HR.out,seek_err (by rw[e0];decide),e0]
    clear q1 e0 HR;have z0:=F6.cell 0;have z1:=F6.cell 1;have z2:=F6.cell 2;have z3:=F6.cell 3;have zf0:=Has.free F6 0;have zf1:=Has.free F6 1;have zf2:=Has.free F6 2;have zf3:=Has.free F6 3;have zz:=F6.lt;obtain ⟨R9,O9⟩:=found_set (fndZ:FndD) F6;go_upto_region 10 with fail
    iterate 15 (first|go_values|go_skip|go_guarded|go_step|go_upon|go_back)
    refine bodyPost_ret (v:=.tuple #[.agg (fndC fndZ).toArray,.int .i64 9]) (res_found Tryz.results40 _ _ b8 fndZ _ rfl rfl R9) rfl ?_;exact FndR.mk E6 hb8w O9 e1.out
   have t1:(d.kind == 1)=true:=by simpa using q1
   have t1b:(d.kind != 1)=false:=by simpa using q1
   obtain ⟨u,hu⟩:∃u,u=mayB cu cg d.uid d.gid d.mode 1:=⟨_,rfl⟩;have hE2:Hid (stepE S cu cg at_ p=if u=false then 6 else if p=[46,46] then 0 else if 255<p.length then 13 else 0):=by show _=_;rw[hE.out,if_neg (fun k=>k q1),hu]
   have HU:=zH hu;clear q1 hE hu;obtain ⟨n0,n1,n2,n3,n4,n5,n6,n7,n8,n9,n10,n11⟩:=D6.node12;have x0:W6.cell? ⟨b5,0,none⟩=some (.int .i64 cu):=C6.cell 0;have x1:W6.cell? ⟨b5,1,none⟩=some (.int .i64 cg):=C6.cell 1;have xz:=C6.lt;go_wp2_with fail;refine (rnode_any cu cg _ _ _ d.mode d.uid d.gid _ _ _ _ _ _ 1 _).mono ?_;rw [←HU.out];rintro e w7 ⟨rfl,b7⟩;have E7:=E6.trans b7;have F7:=F6.ext b7;have C7:=C6.ext b7;have D7:=D6.ext b7;have hat7:=hat6.ext b7;have ok7:=ok6.ext b7;clear n0 n1 n2 n3 n4 n5 n6 n7 n8 n9 n10 n11 x0 x1 xz k2 kz E6 F6 C6 D6 hat6 ok6 b7
   cases u with
   | false =>
    have e0:stepE S cu cg at_ p=6:=by rw[hE2.out,if_pos rfl]
    have e1:Hid (R=(fndZ,6)):=by show _=_;rw[HR.out,seek_err (by rw[e0];decide),e0]
    clear e0 HR;have z0:=F7.cell 0;have z1:=F7.cell 1;have z2:=F7.cell 2;have z3:=F7.cell 3;have zf0:=Has.free F7 0;have zf1:=Has.free F7 1;have zf2:=Has.free F7 2;have zf3:=Has.free F7 3;have zz:=F7.lt;obtain ⟨R9,O9⟩:=found_set (fndZ:FndD) F7;go_upto_region 12 with fail
    iterate 15 (first|go_values|go_skip|go_guarded|go_step|go_upon|go_back)
    refine bodyPost_ret (v:=.tuple #[.agg (fndC fndZ).toArray,.int .i64 6]) (res_found Tryz.results40 _ _ b8 fndZ _ rfl rfl R9) rfl ?_;exact FndR.mk E7 hb8w O9 e1.out
   | true =>
    have hE3:Hid (stepE S cu cg at_ p=if p=[46,46] then 0 else if 255<p.length then 13 else 0):=by show _=_;rw[hE2.out,if_neg (by decide)]
    obtain ⟨XP,hXP⟩:∃Y,Y=bs p:=⟨_,rfl⟩;have hlX:(XP.size:Int)=p.length:=by rw[hXP,bs_size]
    have tX:(XP.toList == [46,46])=(p == [46,46]):=by rw[hXP];exact txt_tests.2.2.1
    have HXP:=zH hXP;rw [←hXP];clear hE2 hXP
    by_cases q2:p=[46,46]
    ·have t2:(XP.toList == [46,46])=true:=by rw[tX,q2];rfl
     have e0:stepE S cu cg at_ p=0:=by rw[hE3.out,if_pos q2]
     have HR2:Hid (R=seekF S cu cg fol (aboveF S at_) l hp m):=by show _=_;rw[HR.out,seek_up e0 q2]
     clear tX q2 e0 HR hlX;go_wp2_with fail;refine (rabove_any B g S X0 at_ _ (h.ext E7) hnl1 T.eight T.roots T.nos).mono ?_;rintro e w8 ⟨rfl,b8'⟩;obtain ⟨z,hz⟩:∃z,z=aboveF S at_:=⟨_,rfl⟩;rw [←hz]at HR2;rw [←hz];clear hz;have F8:=F7.ext b8';have C8:=C7.ext b8';have hat8:=hat7.ext b8';have E8:=E7.trans b8';go_wp2_with fail;go_roundw
     case rel=>exact⟨z,l,hp,m,some X,cap-1,rfl,rfl,rfl,rfl,hat8,by simp,HLC.out,HLP,by have:=HLL.out;omega,hh8,HR2,F8,C8,E8⟩
     case measure=>have:=HMR.out;simp[intOf,lenV]at this⊢;omega
    have t2:(XP.toList == [46,46])=false:=by rw[tX];simpa using q2
    have HC2:=zH q2;have hE4:Hid (stepE S cu cg at_ p=if 255<p.length then 13 else 0):=by show _=_;rw[hE3.out,if_neg q2]
    clear tX q2 hE3
    by_cases q3:255<p.length
    ·have t3:(255:Int)<XP.size:=by omega
     have e0:stepE S cu cg at_ p=13:=by rw[hE4.out,if_pos q3]
     have e1:Hid (R=(fndZ,13)):=by show _=_;rw[HR.out,seek_err (by rw[e0];decide),e0]
     clear q3 e0 HR hlX;have z0:=F7.cell 0;have z1:=F7.cell 1;have z2:=F7.cell 2;have z3:=F7.cell 3;have zf0:=Has.free F7 0;have zf1:=Has.free F7 1;have zf2:=Has.free F7 2;have zf3:=Has.free F7 3;have zz:=F7.lt;obtain ⟨R9,O9⟩:=found_set (fndZ:FndD) F7;go_upto_region 16 with fail
     iterate 15 (first|go_values|go_skip|go_guarded|go_step|go_upon|go_back)
     refine bodyPost_ret (v:=.tuple #[.agg (fndC fndZ).toArray,.int .i64 13]) (res_found Tryz.results40 _ _ b8 fndZ _ rfl rfl R9) rfl ?_;exact FndR.mk E7 hb8w O9 e1.out
    have t3:¬(255:Int)<XP.size:=by omega
    have HS0:Hid (stepE S cu cg at_ p=0):=by show _=_;rw[hE4.out,if_neg q3]
    have y11:w7.cell? ⟨b17,11,none⟩=some (.slice A5 d.ents.length c5):=D7.cell 11;have yz:=D7.lt;clear q3 hE4 hlX;go_wp2_with fail;rw [HXP.out];refine (rfind_any A5 d.ents c5 p _ ok7.ents.ents (by have:=HRR.out.2;omega)).mono ?_;rintro e w8 ⟨rfl,b8'⟩;rw [←HXP.out];obtain ⟨fo,hfo⟩:∃fo,fo=findF d.ents p:=⟨_,rfl⟩;rw [←hfo];have HFO:=zH hfo;have E8:=E7.trans b8';clear hfo y11 yz;go_wp2_with fail;refine (rover_any B g S X0 fo _ (h.ext E8) (by have:=T.eight;omega)).mono ?_;rintro e w9' ⟨rfl,b9'⟩;obtain ⟨z,hz⟩:∃z,z=overF S.devs fo:=⟨_,rfl⟩;rw [←hz];have HZ3:Hid (z=stepN S at_ p):=by show _=_;rw[hz,HFO.out,HD.out];rfl
    have E9:=E8.trans b9';clear hz;go_wp2_with fail;refine (rget_any B g S X0 z _ (h.ext E9) hnl1 T.nos).mono ?_;rintro e w10 ⟨A10,c10,rfl,ok10,b10⟩;obtain ⟨nd,hnd⟩:∃nd,nd=getN S.nodes z:=⟨_,rfl⟩;obtain ⟨is,his⟩:∃is,is=isN S.nodes z:=⟨_,rfl⟩;have hno1:is=true→nd.no=z∧z≠0:=fun k=>by
     rw [his]at k;obtain ⟨_,e1,e2⟩:=isN_true k;have:=(T.nos.2 _ e2).1;rw [hnd];exact ⟨e1,by rw[←e1];omega⟩
    have hno0:is=false→nd.no=0:=fun k=>by
     rw [his]at k;rw [hnd,(isN_false k).1];rfl
    rw [←hnd];have HND:=zH hnd;have HIS:=zH his;have HNO1:=zH hno1;have HNO0:=zH hno0;obtain ⟨W11,hW11⟩:∃W,W=w10.alloc (.cells #[.int .i64 nd.no,.int .i64 nd.dev,.int .i64 nd.kind,.int .i64 nd.mode,.int .i64 nd.uid,.int .i64 nd.gid,.int .i64 nd.mtime,.int .i64 nd.ctime,.int .i64 nd.links,.int .i64 nd.up,.string (bs nd.data),.slice A10 nd.ents.length c10] 66):=⟨_,rfl⟩;obtain ⟨b18,hb18⟩:∃b,b=w10.heap.size:=⟨_,rfl⟩;have E1011:Ext w10 W11:=by rw[hW11];exact (Ext.refl _).alloc _
    have N11:Has W11 b18 (.cells #[.int .i64 nd.no,.int .i64 nd.dev,.int .i64 nd.kind,.int .i64 nd.mode,.int .i64 nd.uid,.int .i64 nd.gid,.int .i64 nd.mtime,.int .i64 nd.ctime,.int .i64 nd.links,.int .i64 nd.up,.string (bs nd.data),.slice A10 nd.ents.length c10] 66):=by rw[hW11,hb18];exact Has.new _ _
    have E711:Ext w7 W11:=((b8'.trans b9').trans b10).trans E1011;have E11:=E7.trans E711;have F11:=F7.ext E711;have C11:=C7.ext E711;have hat11:=hat7.ext E711;clear hnd his hno1 hno0 F7 C7 D7 hat7 ok7 E7 E8 E9 ok10;go_upto_region 18 with fail;rw [←hW11,←hb18];clear hW11 hb18 b8' b9' b10 E1011 E711;have y0:W11.cell? ⟨b18,0,none⟩=some (.int .i64 nd.no):=N11.cell 0;have y2:W11.cell? ⟨b18,2,none⟩=some (.int .i64 nd.kind):=N11.cell 2;have y10:W11.cell? ⟨b18,10,none⟩=some (.string (bs nd.data)):=N11.cell 10;have yz:=N11.lt
    cases is with
    | false =>
     have HI:Hid (isN S.nodes (stepN S at_ p)=false):=by show _=_;rw[←HZ3.out];exact HIS.out.symm
     rw [HNO0.out rfl]at y0
     cases lb with
     | true =>
      have e1:Hid (R=(⟨at_,p,0,m⟩,0)):=by
       show _=_;rw [HR.out,seek_free HS0.out HC2.out HI.out];have:=HLB.out
       cases l with
       | nil=>rfl
       | cons a l=>cases this
      clear HR y2 y10;go_upto_region 21 with fail;rw [HXP.out];have z0:=F11.cell 0;have z1:=F11.cell 1;have z2:=F11.cell 2;have z3:=F11.cell 3;have zf0:=Has.free F11 0;have zf1:=Has.free F11 1;have zf2:=Has.free F11 2;have zf3:=Has.free F11 3;have zz:=F11.lt;obtain ⟨R9,O9⟩:=found_set (⟨at_,p,0,m⟩:FndD) F11
      iterate 24 (first|go_values|go_skip|go_guarded|go_step|go_upon|go_back)
      refine bodyPost_ret (v:=.tuple #[.agg (fndC ⟨at_,p,0,m⟩).toArray,.int .i64 0]) (res_found Tryz.results40 _ _ b8 ⟨at_,p,0,m⟩ _ rfl rfl R9) rfl ?_;exact FndR.mk E11 hb8w O9 e1.out
     | false =>
      have e1:Hid (R=(fndZ,5)):=by
       show _=_;rw [HR.out,seek_none HS0.out HC2.out HI.out];rintro rfl
       cases HLB.out
      clear HR y2 y10;have z0:=F11.cell 0;have z1:=F11.cell 1;have z2:=F11.cell 2;have z3:=F11.cell 3;have zf0:=Has.free F11 0;have zf1:=Has.free F11 1;have zf2:=Has.free F11 2;have zf3:=Has.free F11 3;have zz:=F11.lt;obtain ⟨R9,O9⟩:=found_set (fndZ:FndD) F11;go_upto_region 19 with fail
      iterate 15 (first|go_values|go_skip|go_guarded|go_step|go_upon|go_back)
      refine bodyPost_ret (v:=.tuple #[.agg (fndC fndZ).toArray,.int .i64 5]) (res_found Tryz.results40 _ _ b8 fndZ _ rfl rfl R9) rfl ?_;exact FndR.mk E11 hb8w O9 e1.out
    | true =>
     have HI:Hid (isN S.nodes (stepN S at_ p)=true):=by show _=_;rw[←HZ3.out];exact HIS.out.symm
     obtain ⟨hnz,hz0⟩:=HNO1.out rfl;rw [hnz]at y0;have t5:(z == 0)=false:=by simpa using hz0
     obtain ⟨k3,hk3⟩:∃k:Bool,k=(nd.kind == 3):=⟨_,rfl⟩;obtain ⟨k1,hk1⟩:∃k:Bool,k=(nd.kind != 1):=⟨_,rfl⟩;have t6:=hk3.symm;have t7:=hk1.symm;have HK3:=zH hk3;have HK1:=zH hk1;obtain ⟨bv,hbv⟩:∃bv:Bool,bv=(k3&&(!lb || (m || fol))):=⟨_,rfl⟩;have HBV:=zH hbv;clear hk3 hk1 hbv hnz hz0;go_upto_region 22 with fail;go_cut [96] (fun v wc=>v=.bool bv∧wc=W11)
     case first =>
      have hb:Hid (bv=(k3&&(!lb || (m || fol)))):=HBV
      cases k3
      ·have e:Hid (bv=false):=by show _=_;rw[hb.out];rfl
       clear HBV hb;go_wp2_with fail;go_meet;exact ⟨by rw[e.out],rfl⟩
      ·cases lb
       ·have e:Hid (bv=true):=by show _=_;rw[hb.out];rfl
        clear HBV hb;go_wp2_with fail;go_meet;exact ⟨by rw[e.out],rfl⟩
       ·cases m
        ·cases fol
         ·have e:Hid (bv=false):=by show _=_;rw[hb.out];rfl
          clear HBV hb;go_wp2_with fail;go_meet;exact ⟨by rw[e.out],rfl⟩
         ·have e:Hid (bv=true):=by show _=_;rw[hb.out];rfl
          clear HBV hb;go_wp2_with fail;go_meet;exact ⟨by rw[e.out],rfl⟩
        ·have e:Hid (bv=true):=by show _=_;rw[hb.out];rfl
         clear HBV hb;go_wp2_with fail;go_meet;exact ⟨by rw[e.out],rfl⟩
     case rest =>
      obtain ⟨rfl,hwc⟩:=hcut;obtain rfl:W11=wc:=hwc.symm
      cases bv with
      | true =>
       have hb3 : k3=true∧(l≠[]∨m=true∨fol=true):=by
        have:=HBV.out
        cases k3
        ·cases this
        ·refine ⟨rfl,?_⟩
         cases hm:m
         ·cases hf:fol
          ·left
           rintro rfl;rw [hm,hf,HLB.out]at this
           cases this
          ·exact .inr (.inr rfl)
         ·exact .inr (.inl rfl)
       have HK:Hid ((getN S.nodes (stepN S at_ p)).kind=3):=by
        show _=_;have h2:=hb3.1;rw [HK3.out,HND.out,HZ3.out]at h2;simpa using h2
       have HOR:=zH hb3.2;have HDD:Hid (nd.data=(getN S.nodes (stepN S at_ p)).data):=by show _=_;rw[HND.out,HZ3.out]
       have HDL:Hid (nd.data.length≤1048576):=by
        show _≤_;rw [HDD.out];exact (T.on _ (isN_true HI.out).2.2).2
       obtain ⟨h1,hh1⟩:∃h1:Nat,h1=hp+1:=⟨_,rfl⟩;have q4:IntKind.i64.wrap ((hp:Int)+1)=(h1:Int):=by rw[IntWalk.i64_in _ (by omega)];omega
       have HH1:=zH hh1;obtain ⟨dt,hdt⟩:∃dt,dt=nd.data:=⟨_,rfl⟩;rw [←hdt]at y10 HDD HDL;clear hb3 hh1 t6 t7 y0 y2 t5
       by_cases q5:8<h1
       ·have t8:(8:Int)<(h1:Int):=by omega
        have e1:Hid (R=(fndZ,12)):=by show _=_;rw[HR.out,seek_loop HS0.out HC2.out HI.out HK.out HOR.out (by rw[←HH1.out];exact q5)]
        clear q5 HR;have z0:=F11.cell 0;have z1:=F11.cell 1;have z2:=F11.cell 2;have z3:=F11.cell 3;have zf0:=Has.free F11 0;have zf1:=Has.free F11 1;have zf2:=Has.free F11 2;have zf3:=Has.free F11 3;have zz:=F11.lt;obtain ⟨R9,O9⟩:=found_set (fndZ:FndD) F11;go_upto_region 25 with fail
        iterate 15 (first|go_values|go_skip|go_guarded|go_step|go_upon|go_back)
        refine bodyPost_ret (v:=.tuple #[.agg (fndC fndZ).toArray,.int .i64 12]) (res_found Tryz.results40 _ _ b8 fndZ _ rfl rfl R9) rfl ?_;exact FndR.mk E11 hb8w O9 e1.out
       have t8:¬(8:Int)<(h1:Int):=by omega
       have H8:Hid (¬8<hp+1):=by show ¬_;rw[←HH1.out];exact q5
       clear q5
       cases dt with
       | nil =>
        have e1:Hid (R=(fndZ,5)):=by show _=_;rw[HR.out,seek_empty HS0.out HC2.out HI.out HK.out HOR.out H8.out HDD.out.symm]
        have u0:(bs []).toList=[]:=bs_toList [];clear HR hdt;have z0:=F11.cell 0;have z1:=F11.cell 1;have z2:=F11.cell 2;have z3:=F11.cell 3;have zf0:=Has.free F11 0;have zf1:=Has.free F11 1;have zf2:=Has.free F11 2;have zf3:=Has.free F11 3;have zz:=F11.lt;obtain ⟨R9,O9⟩:=found_set (fndZ:FndD) F11;go_upto_region 27 with fail
        iterate 15 (first|go_values|go_skip|go_guarded|go_step|go_upon|go_back)
        refine bodyPost_ret (v:=.tuple #[.agg (fndC fndZ).toArray,.int .i64 5]) (res_found Tryz.results40 _ _ b8 fndZ _ rfl rfl R9) rfl ?_;exact FndR.mk E11 hb8w O9 e1.out
       | cons ch tt =>
        have HR2:Hid (R=seekF S cu cg fol (if (ch::tt).head?=some 47 then 1 else at_) (partsN (ch::tt)++l) (hp+1) (m || (l.isEmpty&&slashB (ch::tt)))):=by
         show _=_;rw [HR.out,seek_link HS0.out HC2.out HI.out HK.out HOR.out H8.out (by rw[←HDD.out];simp),←HDD.out]
        obtain ⟨at2,hat2⟩:∃a:Int,a=if (ch::tt).head?=some 47 then 1 else at_:=⟨_,rfl⟩
        obtain ⟨v,hv⟩:∃v:Bool,v=(ch == 47):=⟨_,rfl⟩;have hks:0<(bs (ch::tt)).size:=by rw[bs_size];simp
        have hs2:(((bs (ch::tt))[0].toNat:Int) == 47)=v:=by rw[show (bs (ch::tt))[0]=ch from rfl,hv];exact u8_eq (c:=ch) (d:=47)
        have HV1:Hid (v=true→at2=1):=by show _→_;intro k;rw[hv]at k;rw[hat2,if_pos (by simpa using k)]
        have HV0:Hid (v=false→at2=at_):=by show _→_;intro k;rw[hv]at k;rw[hat2,if_neg (by simpa using k)]
        rw [←hat2]at HR2;have u0:(bs (ch::tt)).toList.isEmpty=false:=by rw[bs_toList];rfl
        clear hat2 hv HR hdt;go_upto_if 109 with fail;go_cut [13] (fun x wc=>x=.int .i64 at2∧wc=W11)
        case first =>
         cases v
         ·have e2:=zH (HV0.out rfl)
          clear HV0 HV1;go_wp2_with fail;go_meet;exact ⟨by rw[e2.out],rfl⟩
         ·have e2:=zH (HV1.out rfl)
          clear HV0 HV1;go_wp2_with fail;go_meet;exact ⟨by rw[e2.out],rfl⟩
        case rest =>
         obtain ⟨rfl,hwc⟩:=hcut;obtain rfl:W11=wc:=hwc.symm;obtain ⟨sl,hsl⟩:∃sl,sl=slashB (ch::tt):=⟨_,rfl⟩;obtain ⟨m2,hm2⟩:∃m2,m2=(m || (l.isEmpty&&slashB (ch::tt))):=⟨_,rfl⟩;have HM:Hid (m2=(m || (lb&&sl))):=by show _=_;rw[hm2,HLB.out,hsl]
         have HSL:=zH hsl;rw [←hm2]at HR2;clear hsl hm2 HV0 HV1 hs2 u0 hks;go_upto_region 30 with fail;go_cut [12] (fun x wc=>x=.bool m2∧Ext W11 wc)
         case first =>
          cases m
          ·cases lb
           ·have e2:Hid (m2=false):=by show _=_;rw[HM.out];rfl
            go_wp2_with fail;go_meet;exact ⟨by rw[e2.out],Ext.refl _⟩
           ·have e2:Hid (m2=sl):=by show _=_;rw[HM.out];rfl
            go_wp2_with fail;refine (rslash_any (ch::tt) _ (by have:=HDL.out;omega)).mono ?_;rw [←HSL.out,←e2.out];rintro e w12 ⟨rfl,b12⟩;go_wp2_with fail;go_meet;exact ⟨rfl,b12⟩
          ·have e2:Hid (m2=true):=by show _=_;rw[HM.out];rfl
           go_wp2_with fail;go_meet;exact ⟨by rw[e2.out],Ext.refl _⟩
         case rest =>
          obtain ⟨rfl,b12⟩:=hcut;have N12:=N11.ext b12;have y12:wc.cell? ⟨b18,10,none⟩=some (.string (bs (ch::tt))):=(b12.cell yz).trans y10;have yz2:=N12.lt;clear y10 yz;go_wp2_with fail;refine (rparts_any (ch::tt) _ (by have:=HDL.out;omega)).mono ?_;rintro e w13 ⟨v13,rfl,ok13,b13⟩;have hat13:=(hat11.ext b12).ext b13;have hpl2:=parts_len (ch::tt);obtain ⟨v14,w14,hr14,hO14,hg14⟩:=app_texts (some X) (cap-1) l w13 ok13 hat13 (by simp) b13.size (by have:=HDL.out;omega) (by have:=HLL.out;omega);have E14:Ext wc w14:=b13.grown hg14 (fun g hv=>(World.ownsRow.lt ok13 g hv).1);have HR14:=zH hr14;obtain ⟨A14,c14,rfl,hA14,hA14b,hat14,hA14c⟩:=OwnT.at_ hO14;have HA14:=zH hA14;have F14:=(F11.ext b12).ext E14;have C14:=(C11.ext b12).ext E14;have E15:=(E11.trans b12).trans E14;have HLN:Hid ((partsN (ch::tt)++l).length≤1050000*(hp+1+1)):=by
           show _≤_;have:=HDL.out;have:=HLL.out;rw [List.length_append];omega
          have HLP2:Hid (∀q∈partsN (ch::tt)++l,q.length≤1100000):=by
           show ∀q∈_,_;intro q hq;rcases List.mem_append.1 hq with hq|hq
           ·have:=part_len hq
            have:=HDL.out;omega
           ·exact HLP.out q hq
          clear hr14 hO14 hg14 hA14 hA14b hat13 y12;go_wp2_with (at_builtin;refine Lib.wpList_append_run _ rfl _ _ 135 135 rfl _ _ rfl rfl _ _ HR14.out ?_);have H8b:=zH (show hp+1≤8 by have:=H8.out;omega);go_roundw
          case rel=>exact⟨at2,partsN (ch::tt)++l,hp+1,m2,A14,c14,by rw[List.length_append],rfl,rfl,by rw[HH1.out],hat14,hA14c,HA14.out,HLP2,HLN.out,H8b.out,HR2,F14,C14,E15⟩
          case measure =>
           have h1':=HLN.out;rw [List.length_append]at h1';have h2':=H8b.out;have h3':=HH1.out;simp only[intOf,lenV];omega
      | false =>
       have HN3:Hid (¬((getN S.nodes (stepN S at_ p)).kind=3∧(l≠[]∨m=true∨fol=true))):=by
        show ¬_;rintro ⟨h1,h2⟩;have h3:k3=true:=by rw[HK3.out,HND.out,HZ3.out];simpa using h1
        have:=HBV.out;rw [h3]at this;rcases h2 with h2|h2|h2
        ·have h4:lb=false:=by
          rw [HLB.out]
          cases l with
          | nil=>exact absurd rfl h2
          | cons a l=>rfl
         rw [h4]at this;cases this
        ·rw[h2]at this;cases lb<;>cases this
        ·rw[h2]at this;cases lb<;>cases m<;>cases this
       obtain ⟨bw,hbw2⟩:∃bw:Bool,bw=(k1&&(!lb || m)):=⟨_,rfl⟩;have HBW:=zH hbw2;clear hbw2 HBV HK3 t6 y10;go_upto_region 32 with fail;go_cut [133] (fun v wc=>v=.bool bw∧wc=W11)
       case first =>
        have hb:=HBW
        cases k1
        ·have e:Hid (bw=false):=by show _=_;rw[hb.out];rfl
         clear HBW hb;go_wp2_with fail;go_meet;exact ⟨by rw[e.out],rfl⟩
        ·cases lb
         ·have e:Hid (bw=true):=by show _=_;rw[hb.out];rfl
          clear HBW hb;go_wp2_with fail;go_meet;exact ⟨by rw[e.out],rfl⟩
         ·cases m
          ·have e:Hid (bw=false):=by show _=_;rw[hb.out];rfl
           clear HBW hb;go_wp2_with fail;go_meet;exact ⟨by rw[e.out],rfl⟩
          ·have e:Hid (bw=true):=by show _=_;rw[hb.out];rfl
           clear HBW hb;go_wp2_with fail;go_meet;exact ⟨by rw[e.out],rfl⟩
       case rest =>
        obtain ⟨rfl,hwc⟩:=hcut;obtain rfl:W11=wc:=hwc.symm;have hK1:k1=true↔(getN S.nodes (stepN S at_ p)).kind≠1:=by rw[HK1.out,HND.out,HZ3.out];simp
        have hLB:lb=false↔l≠[]:=by
         rw [HLB.out]
         cases l<;>simp
        have HKK:=zH hK1;have HLL2:=zH hLB;clear hK1 hLB t7 y2
        cases bw with
        | true =>
         have e1:Hid (R=(fndZ,9)):=by
          show _=_;have h1:=HBW.out;have hk:k1=true:=by cases k1<;>simp at h1⊢
          rw [hk]at h1;rw [HR.out,seek_file HS0.out HC2.out HI.out HN3.out (HKK.out.1 hk)]
          cases hlb:lb
          ·exact .inl (HLL2.out.1 hlb)
          ·rw [hlb]at h1
           cases hm:m
           ·rw[hm]at h1;cases h1
           ·exact .inr rfl
         clear HR HBW;have z0:=F11.cell 0;have z1:=F11.cell 1;have z2:=F11.cell 2;have z3:=F11.cell 3;have zf0:=Has.free F11 0;have zf1:=Has.free F11 1;have zf2:=Has.free F11 2;have zf3:=Has.free F11 3;have zz:=F11.lt;obtain ⟨R9,O9⟩:=found_set (fndZ:FndD) F11;go_upto_region 33 with fail
         iterate 15 (first|go_values|go_skip|go_guarded|go_step|go_upon|go_back)
         refine bodyPost_ret (v:=.tuple #[.agg (fndC fndZ).toArray,.int .i64 9]) (res_found Tryz.results40 _ _ b8 fndZ _ rfl rfl R9) rfl ?_;exact FndR.mk E11 hb8w O9 e1.out
        | false =>
         have HN1:Hid (¬((getN S.nodes (stepN S at_ p)).kind≠1∧(l≠[]∨m=true))):=by
          show ¬_;rintro ⟨h1,h2⟩;have h3:=HBW.out;rw [HKK.out.2 h1]at h3;rcases h2 with h2|h2
          ·rw[HLL2.out.2 h2]at h3;cases h3
          ·rw[h2]at h3;cases lb<;>cases h3
         clear HBW
         cases lb with
         | true =>
          have hl0:l=[]:=by
           have:=HLB.out
           cases l with
           | nil=>rfl
           | cons a l=>cases this
          have e1:Hid (R=(⟨at_,p,z,m⟩,0)):=by
           show _=_;rw [HR.out,seek_last HS0.out HC2.out HI.out HN3.out HN1.out hl0,HZ3.out]
          clear HR hl0;have z0:=F11.cell 0;have z1:=F11.cell 1;have z2:=F11.cell 2;have z3:=F11.cell 3;have zf0:=Has.free F11 0;have zf1:=Has.free F11 1;have zf2:=Has.free F11 2;have zf3:=Has.free F11 3;have zz:=F11.lt;obtain ⟨R9,O9⟩:=found_set (⟨at_,p,z,m⟩:FndD) F11;go_upto_region 35 with fail;rw [HXP.out]
          iterate 30 (first|go_values|go_skip|go_guarded|go_step|go_upon|go_back)
          refine bodyPost_ret (v:=.tuple #[.agg (fndC ⟨at_,p,z,m⟩).toArray,.int .i64 0]) (res_found Tryz.results40 _ _ b8 ⟨at_,p,z,m⟩ _ rfl rfl R9) rfl ?_;exact FndR.mk E11 hb8w O9 e1.out
         | false =>
          have HR2:Hid (R=seekF S cu cg fol z l hp m):=by
           show _=_;rw [HR.out,seek_down HS0.out HC2.out HI.out HN3.out HN1.out (HLL2.out.1 rfl),HZ3.out]
          clear HR;go_wp2_with fail;go_roundw
          case rel=>exact⟨z,l,hp,m,some X,cap-1,rfl,rfl,rfl,rfl,hat11,by simp,HLC.out,HLP,by have:=HLL.out;omega,hh8,HR2,F11,C11,E11⟩
          case measure=>have:=HMR.out;simp[intOf,lenV]at this⊢;omega
end Go.Proofs.YtpibnfdolojpcaaGreat
