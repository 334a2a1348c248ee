import Derived.Test.YtpibnfdolojpcaaGreatBunA
import Derived.Test.YtpibnfdolojpcaaGreatBunB
import Derived.Test.YtpibnfdolojpcaaGreatBunC
import Derived.Test.YtpibnfdolojpcaaGreatBunD
import Derived.Test.YtpibnfdolojpcaaGreatBunE
import Derived.Test.YtpibnfdolojpcaaGreatBunH
import Derived.Test.YtpibnfdolojpcaaGreatBunI
import Derived.BigQuiet
import Derived.StillTailTactics
import Derived.RangeFuncBox
import Derived.Lib.LastIndexByte
import Derived.ControlIn
import Derived.Scope
import Derived.AtR
import Derived.RangeFuncNested
import Derived.RangeFuncBound
import Derived.RangeFuncCalls
import Derived.RangeFuncLeaves
import Derived.Shelf.Abstract
import Derived.OwnWalkIn
import Derived.TacticsInMore
import Derived.LoopNIn
import Derived.LoopIn
set_option maxHeartbeats 16000000
set_option maxRecDepth 100000
namespace Go.Proofs.YtpibnfdolojpcaaGreat
section
def pc (cur:List UInt8):List UInt8->List (List UInt8)
 | []=>[cur]
 | c::l=>if c=47 then cur::pc [] l else pc (cur++[c]) l
def ft (p:List UInt8):Bool:=!(p == [])&&!(p == [46])
def bg (l:List UInt8):List (List UInt8):=(pc [] l).filter ft
theorem Si (l:List UInt8):∀cur,pc cur l≠[]:=by
 induction l with
 | nil=>intro cur h;cases h
 | cons c l ih=>intro cur;unfold pc;split<;>simp[ih]
theorem Mc (l:List UInt8):∀cur,(pc cur l).length<=l.length+1:=by
 induction l with
 | nil=>intro cur;simp[pc]
 | cons c l ih =>
  intro cur;unfold pc;split
  ·have:=ih [];simp;omega
  ·have:=ih (cur++[c]);simp;omega
def total:List (List UInt8)->Nat
 | []=>0
 | p::l=>p.length+total l
theorem Md (l:List UInt8):∀cur,total (pc cur l)<=cur.length+l.length:=by
 induction l with
 | nil=>intro cur;simp[pc,total]
 | cons c l ih =>
  intro cur;unfold pc;split
  ·have:=ih [];simp[total]at *;omega
  ·have:=ih (cur++[c]);simp at *;omega
theorem yV (f:List UInt8->Bool) (l:List (List UInt8)):total (l.filter f)<=total l:=by
 induction l with
 | nil=>simp
 | cons x l ih=>rw[List.filter_cons];split<;>simp[total]<;>omega
theorem Bj (l:List UInt8):total (bg l)<=l.length:=by
 have h1:=yV ft (pc [] l);have h2:=Md l [];unfold bg;simp at h2;omega
theorem kM (l:List UInt8):(bg l).length<=l.length+1:=by
 have h1:=List.length_filter_le ft (pc [] l);have h2:=Mc l [];unfold bg;omega
def di (l:List UInt8):List UInt8:=(pc [] l).getLastD []
def ie (l:List UInt8):List UInt8:=(l.reverse.takeWhile (·≠47)).reverse
theorem r9 {α:Type} {p:α->Bool} {l:List α}:l.takeWhile p=l↔∀x∈l,p x=true:=by
 induction l with
 | nil=>simp
 | cons a l ih =>
  rw [List.takeWhile_cons]
  by_cases h:p a=true
  ·rw[if_pos h];simp[h,ih]
  ·rw[if_neg h];simp[h]
theorem r_ {α:Type} (a d:α) (l:List α) (h:l≠[]):(a::l).getLastD d=l.getLastD d:=by
 cases l with
 | nil=>exact absurd rfl h
 | cons b l=>rfl
theorem Qm (l:List UInt8):∀cur,(pc cur l).getLastD []=if 47∈l then ie l else cur++l:=by
 induction l with
 | nil=>intro cur;simp[pc]
 | cons c l ih =>
  intro cur;unfold pc
  by_cases hc:c=47
  ·rw [if_pos hc,r_ _ _ _ (Si _ _),ih []]
   rw [if_pos (show 47∈c::l by rw[hc];exact List.mem_cons_self ..)];unfold ie
   by_cases hl:47∈l
   ·rw [if_pos hl,List.reverse_cons,List.takeWhile_append]
    rw [if_neg];intro h;have h2:=List.takeWhile_prefix (p:=fun x:UInt8=>decide (x≠47)) (l:=l.reverse);have h3:List.takeWhile (fun x:UInt8=>decide (x≠47)) l.reverse=l.reverse:=h2.eq_of_length h;have h4:=r9.1 h3 47 (List.mem_reverse.2 hl);simp at h4
   ·rw [if_neg hl,List.reverse_cons,List.takeWhile_append,if_pos]
    ·rw [hc]
     have:List.takeWhile (fun x:UInt8=>decide (x≠47)) [47]=[]:=by decide
     rw [this,List.append_nil,List.reverse_reverse];rfl
    ·congr 1
     rw [r9];intro x hx;have:x≠47:=by rintro rfl;exact hl (List.mem_reverse.1 hx)
     simpa using this
  ·rw [if_neg hc,ih (cur++[c])]
   by_cases hl:47∈l
   ·rw [if_pos hl,if_pos (List.mem_cons_of_mem _ hl)]
    unfold ie;rw [List.reverse_cons,List.takeWhile_append,if_neg];intro h;have h2:=List.takeWhile_prefix (p:=fun x:UInt8=>decide (x≠47)) (l:=l.reverse);have h3:List.takeWhile (fun x:UInt8=>decide (x≠47)) l.reverse=l.reverse:=h2.eq_of_length h;have h4:=r9.1 h3 47 (List.mem_reverse.2 hl);simp at h4
   ·have:¬47∈c::l:=by
     intro h;rcases List.mem_cons.1 h with h|h
     ·exact hc h.symm
     ·exact hl h
    rw [if_neg hl,if_neg this];simp
theorem Me (l:List UInt8):di l=ie l:=by
 unfold di;rw [Qm];split
 ·rfl
 ·rename_i h
  unfold ie;have:l.reverse.takeWhile (fun x:UInt8=>decide (x≠47))=l.reverse:=by
   rw [r9];intro x hx;have:x≠47:=by rintro rfl;exact h (List.mem_reverse.1 hx)
   simpa using this
  rw [this,List.reverse_reverse];rfl
def jb (l:List UInt8) (fr k:Nat):List (List UInt8):=if k<=l.length then pc ((l.drop fr).take (k-fr)) (l.drop k) else []
theorem Bk (l:List UInt8):jb l 0 0=pc [] l:=by simp[jb]
theorem Ht {l:List UInt8} {fr k:Nat} (h:fr<=k) (hk:k<l.length):(l.drop fr).take (k+1-fr)=(l.drop fr).take (k-fr)++[l[k]]:=by
 rw [show k+1-fr=(k-fr)+1 by omega,List.take_succ_eq_append_getElem (by rw[List.length_drop];omega)]
 congr 2
 rw [List.getElem_drop]
 congr 1
 omega
theorem Mf {l:List UInt8} {fr k:Nat} (h:fr<=k) (hk:k<l.length) (hc:l[k]≠47):jb l fr (k+1)=jb l fr k:=by
 unfold jb;rw [if_pos (by omega),if_pos (by omega),Ht h hk,List.drop_eq_getElem_cons hk,pc,if_neg hc]
theorem Hu {l:List UInt8} {fr k:Nat} (hk:k<l.length) (hc:l[k]=47):jb l fr k=(l.drop fr).take (k-fr)::jb l (k+1) (k+1):=by
 unfold jb;rw [if_pos (by omega),if_pos (by omega),List.drop_eq_getElem_cons hk,pc,if_pos hc];simp
theorem Hv {l:List UInt8} {fr:Nat}:jb l fr l.length=(l.drop fr).take (l.length-fr)::jb l (l.length+1) (l.length+1):=by
 unfold jb;rw [if_pos (Nat.le_refl _),if_neg (by omega),List.drop_length,pc]
def fg (l:List UInt8):Bool:=di l == [] || di l == [46] || di l == [46,46]
def od (l:List UInt8):List UInt8:=(l.reverse.dropWhile (· == 47)).reverse
open Go.RowKit
theorem Mg {P:Program} {t:TypeId} (ht:P.underlying t=some .string) (s:ByteArray) (j:Int) (b:Nat) (hj:j=b) (hb:b<=s.size) (r:ByteArray) (hr:s.extract 0 b=r) (w:World) :
  (Instr.slice t (.string s) none (some (.int .i64 j)) none).run P w=.ok (.string r) w:=by
 subst hj;subst hr;rw [run_slice_string_to_if (P:=P) w t s .i64 (b:Int) ht,if_pos (by omega)];simp
theorem DC {P:Program} {t:TypeId} (ht:P.underlying t=some .string) (s:ByteArray) (i:Int) (a:Nat) (hi:i=a) (ha:a<=s.size) (r:ByteArray) (hr:s.extract a s.size=r) (w:World) :
  (Instr.slice t (.string s) (some (.int .i64 i)) none none).run P w=.ok (.string r) w:=by
 subst hi;subst hr;rw [run_slice_string_from_if (P:=P) w t s .i64 (a:Int) ht,if_pos (by omega)];simp
theorem XU (l:List UInt8) (b:Nat):(bs l).extract 0 b=bs (l.take b):=by rw[ml];simp
theorem Qn (l:List UInt8) (a:Nat):(bs l).extract a (bs l).size=bs (l.drop a):=by
 rw [ml,bi,List.take_of_length_le (by rw[List.length_drop];omega)]
theorem xA {c d:UInt8}:((c.toNat:Int) == (d.toNat:Int))=(c == d):=by
 rw [Bool.eq_iff_iff,beq_iff_eq,beq_iff_eq];exact ⟨fun h=>UInt8.toNat_inj.1 (by omega),fun h=>by rw[h]⟩
open Go.ChangeShapes Go.WideShapes Go.ChangeAt Go.RowKit
theorem kg.base {w:World} {b b':Nat} {v:Value} {l:List vY} (h:kg w b v l) (hb:b'<=b):kg w b' v l:=by
 obtain ⟨h1,h2⟩:=h;refine ⟨h1,?_⟩;rcases h2 with h2|⟨g,cap,cur,hv,hg,hr⟩
 ·exact .inl h2
 ·exact .inr ⟨g,cap,cur,hv,Nat.le_trans hb hg,hr⟩
def Mh (w:World) (l:List vY) (e:Ending) (w':World):Prop:=∃v,e=.returned v/\kg w' w.heap.size v l/\Ext w w'
theorem uU (l:List UInt8) (w:World) (hlen:l.length<=2000000):Calls Tryz.prog 132 #[bs l] w (Mh w (pc [] l)):=by
 have hsz:((bs l).size:Int)=l.length:=by rw[bi]
 obtain ⟨i0,hi,hz0,hz1,hz2⟩:=info_parts tH;go_enter Tryz.func132,Tryz.ntmps132;go_wp2_with fail;go_loopw [3,4] (fun u i wr=>∃k:Nat,k<=l.length/\i=.int .i64 k/\(∃D cur,pc [] l=D++pc cur (l.drop k)/\D.length<=k/\cur.length<=k/\kg wr w.heap.size u (D++[cur]))/\Ext w wr) (fun _ i _=>l.length-(intOf i).toNat)
 case atStart =>
  refine ⟨0,Nat.zero_le _,rfl,⟨[],[],by simp,by simp,by simp,?_⟩,(Ext.refl _).alloc _⟩;exact World.ownsRow_lit w #[.string (bs [])] 1 (Nat.le_refl _) (by decide) rfl
 case round =>
  obtain ⟨k,hk,rfl,⟨D,cur,hd,hD,acw,hown⟩,hE⟩:=hrel
  by_cases hlt:(k:Int)<l.length
  ·have dI:k<l.length:=by omega
   have hks:k<(bs l).size:=by rw[bi];exact dI
   have hg:(bs l)[k]=l[k]:=CJ l k hks dI;obtain⟨c,hc⟩:=zE (l[k]);have VU:l.drop k=c::l.drop (k+1):=by rw[hc];exact List.drop_eq_getElem_cons dI
   rw [VU,pc]at hd;rw [<-hc]at hg;have sI:(bs l).extract k (k+1)=bs [c]:=by rw[Pf (bs l) k hks,hg]
   have hcb:(c.toNat:Int)<256:=by have:=c.toNat_lt;omega
   have HG:=zH hg;have HC:=zH hc
   by_cases hs:c=47
   ·rw [if_pos hs]at hd
    have pX:(((bs l)[k].toNat:Int) == 47)=true:=by rw[hg,hs];rfl
    have HD:=zH hd;clear hs hd VU hg hc sI;obtain⟨M,hM⟩:=zE (D++[cur]);rw [<-hM]at hown;have HM:=zH hM;have Sj:M.length<=k+1:=by rw[hM];simp;omega
    clear hM;unfold kg at hown;go_wp2_with (at_builtin;refine wpList_append_own _ rfl _ _ 135 rfl w.heap.size 9 i0 (.string ⟨#[]⟩) 1 16 Tryz.underlying135 hi hz0 hz1 hz2 rfl (by decide) _ _ _ rfl (hown.alloc _) ⟨wr.heap.size,0,none⟩ 1 1 (bP [[]]) rfl rfl (tZ wr []) (kH [[]]) (by unfold maxLen;omega) (by omega) (by have:=hE.size;simp;omega) ?_);intro v' w2 ii hgrow _;obtain ⟨mO,kD⟩:=Fb hown hE ii hgrow;clear ii hgrow;have Tf:=zH mO;clear mO;go_wp2_with fail;go_roundw
    case rel=>exact⟨k+1,by omega,by go_num,⟨M,[],by rw[HD.out,HM.out];simp,by omega,by simp,Tf.out⟩,kD⟩
    case measure=>simp[intOf];omega
   ·rw [if_neg hs]at hd
    have pX:(((bs l)[k].toNat:Int) == 47)=false:=by
     rw [hg,beq_eq_false_iff_ne];intro h;exact hs (UInt8.toNat_inj.1 (by have:(47:UInt8).toNat=47:=rfl;omega))
    have HD:=zH hd;clear hs hd VU hg hc;unfold kg at hown;obtain⟨n,hn⟩:=zE D.length;have iE:(D++[cur]).length=n+1:=by rw[hn];simp
    rw [iE]at hown;obtain ⟨g,cap,rfl⟩:=ownsRow_succ hown;have hcl:wr.cell? ⟨g,n,none⟩=some (.string (bs cur)):=by
     rw [hown.cellAt n (by omega),kI (D++[cur]) n (by rw[iE];omega)];simp [hn]
    have zB:=hown.frozenAt n;have hst:=hown.stored n (.string (bs (cur++[c])));have TX:=(hown.lt g rfl).1;have wA:Hid (kg (wr.setCell ⟨g,n,none⟩ (.string (bs (cur++[c])))) w.heap.size (.slice (some ⟨g,0,none⟩) (n+1) cap) (D++[cur++[c]])/\Ext w (wr.setCell ⟨g,n,none⟩ (.string (bs (cur++[c]))))):=by
     refine ⟨?_,hE.setCell TX _⟩;have h:=hst.1;have e1:(bP (D++[cur])).set n (.string (bs (cur++[c])))=bP (D++[cur++[c]]):=by
      rw [hn];simp[bP]
     rw [e1]at h;unfold kg;have e2:(D++[cur++[c]]).length=n+1:=by rw[hn];simp
     rw [e2];exact h
    have z1:(bs cur).size=cur.length:=bi _;have z2:(bs [c]).size=1:=bi _;have acx:¬9223372036854775807<cur.length+1:=by omega
    have z3:(bs (cur++[c])).size=cur.length+1:=by rw[bi];simp
    have acy:bs cur++bs [c]=bs (cur++[c]):=rf _ _;have hw1:IntKind.i64.wrap (n:Int)=n:=a_ (by omega) (by omega);have hw2:IntKind.i64.wrap ((k:Int)+1)=k+1:=a_ (by omega) (by omega);have hn0:(0:Int)<=(n:Int):=Int.natCast_nonneg _;have TF:(0:Int)<=(k:Int):=Int.natCast_nonneg _;have jK:((k:Int)+1).toNat=k+1:=by omega
    have hk2:k+1<=(bs l).size:=hks;have xm:=rc (P:=Tryz.prog) Tryz.underlying9 (bs l) (k:Int) ((k:Int)+1) k (k+1) rfl (by omega) (by omega) hk2 (bs [c]) sI;have lM:(n:Int)<(n:Int)+1:=by omega
    have hneg:decide ((n:Int)<0)=false:=decide_eq_false (by omega);have hge:decide ((0:Int)<=(n:Int))=true:=decide_eq_true (by omega);have HN:=zH hn;clear hst hown iE hn;go_wp2_with fail;go_still_tail 16,(by kernel_rfl);change wpList _ _ _ _ _ wr.drew;go_wp2_with fail;go_roundw
    case rel=>exact⟨k+1,by omega,by go_num,⟨D,cur++[c],HD.out,by omega,by simp;omega,wA.out.1⟩,wA.out.2.drew⟩
    case measure=>simp[intOf];omega
  ·obtain rfl:k=l.length:=by omega
   rw [List.drop_length,pc]at hd;rw [<-hd]at hown;have HO:=zH hown;clear hown hd;go_wp2_with fail;go_ret;exact ⟨_,rfl,HO.out,hE⟩
theorem sU (l:List UInt8):(pc [] l).length<=l.length+1:=Mc l []
theorem ig {p:List UInt8}:((bs p).toList == ([]:List UInt8))=(p == [])/\((bs p).toList == [46])=(p == [46])/\((bs p).toList == [46,46])=(p == [46,46])/\(bs p).toList.isEmpty=(p == []):=by
 rw [bk];refine ⟨rfl,rfl,rfl,?_⟩
 cases p<;>rfl
theorem uV (l:List UInt8) (w:World) (hlen:l.length<=2000000):Calls Tryz.prog 81 #[bs l] w (Mh w (bg l)):=by
 obtain ⟨i0,hi,hz0,hz1,hz2⟩:=info_parts tH;obtain⟨M,hM⟩:=zE (pc [] l);have Sj:=sU l;have hP:Hid (bg l=M.filter ft):=by show _=_;rw[hM];rfl
 rw [<-hM]at Sj;have HM:=zH hM;clear hM;go_enter Tryz.func81,Tryz.ntmps81;go_wp2_with fail;refine (uU l _ hlen).mono ?_;rintro e w1 ⟨v,rfl,hv,yi⟩;rw [<-HM.out]at hv;obtain ⟨A,cap,rfl,hle,hcm,hat,hAn⟩:=hv.at_;clear hv;go_wp2_with fail;go_loopw [3,5] (fun u i wr=>∃k:Nat,k<=M.length/\i=.int .i64 k/\kg wr w1.heap.size u ((M.take k).filter ft)/\Ext w1 wr) (fun _ i _=>M.length-(intOf i).toNat)
 case atStart =>
  refine ⟨0,Nat.zero_le _,rfl,?_,Ext.refl _⟩;exact World.ownsRow_nil _ _ _ _
 case round =>
  obtain ⟨k,hk,rfl,hown,hE⟩:=hrel
  by_cases hlt:(k:Int)<M.length
  ·have dI:k<M.length:=by omega
   obtain ⟨b,o,rfl,hb,hcl⟩:=hat.at_ hE k dI;have ng:Hid (M.take (k+1)=M.take k++[M[k]]):=List.take_succ_eq_append_getElem dI;obtain⟨p,hp⟩:=zE (M[k]);rw [<-hp]at hcl ng;obtain ⟨t0,t1,_,t3⟩:=ig (p:=p);obtain⟨X,hX⟩:=zE (bs p);rw [<-hX]at hcl t0 t1 t3;have HX:=zH hX;have TX:Hid (ft p=(!(p == [])&&!(p == [46]))):=rfl;clear hp hX
   cases h0:(p == []) with
   | true =>
    rw [h0]at t0 t3;have hn:Hid ((M.take (k+1)).filter ft=(M.take k).filter ft):=by
     show _=_;rw [ng.out,List.filter_append,List.filter_cons,if_neg (by rw[TX.out,h0];simp)];simp
    clear h0 t1;have HO:=zH hown;clear hown;go_wp2_with fail;go_roundw
    case rel=>exact⟨k+1,by omega,by go_num,by rw[hn.out];exact HO.out,hE⟩
    case measure=>simp[intOf];omega
   | false =>
    cases h1:(p == [46]) with
    | true =>
     rw [h0]at t0 t3;rw [h1]at t1;have hn:Hid ((M.take (k+1)).filter ft=(M.take k).filter ft):=by
      show _=_;rw [ng.out,List.filter_append,List.filter_cons,if_neg (by rw[TX.out,h0,h1];simp)];simp
     clear h0 h1;have HO:=zH hown;clear hown;go_wp2_with fail;go_roundw
     case rel=>exact⟨k+1,by omega,by go_num,by rw[hn.out];exact HO.out,hE⟩
     case measure=>simp[intOf];omega
    | false =>
     rw [h0]at t0 t3;rw [h1]at t1;have hn:Hid ((M.take (k+1)).filter ft=(M.take k).filter ft++[p]):=by
      show _=_;rw [ng.out,List.filter_append,List.filter_cons,if_pos (by rw[TX.out,h0,h1];rfl)];simp
     have yj:((M.take k).filter ft).length<=k:=Nat.le_trans (List.length_filter_le _ _) (by rw[List.length_take];omega);obtain⟨Q,hQ⟩:=zE ((M.take k).filter ft);rw [<-hQ]at hown yj hn;clear h0 h1 hQ;unfold kg at hown;have rO:∀j u,(bP [p])[j]?=some u->(wr.alloc (.cells #[.string X] 9)).cell? ((⟨wr.heap.size,0,none⟩:Addr).add j)=some u:=by rw[HX.out];exact tZ wr p
     go_wp2_with (at_builtin;refine wpList_append_own _ rfl _ _ 135 rfl w1.heap.size 9 i0 (.string ⟨#[]⟩) 1 16 Tryz.underlying135 hi hz0 hz1 hz2 rfl (by decide) _ _ _ rfl (hown.alloc _) ⟨wr.heap.size,0,none⟩ 1 1 (bP [p]) rfl rfl rO (kH [p]) (by unfold maxLen;omega) (by omega) (by have:=hE.size;simp;omega) ?_);intro v' w2 ii hgrow _;obtain ⟨mO,kD⟩:=Fb hown hE ii hgrow;clear ii hgrow rO;have Tf:=zH mO;clear mO hown;go_wp2_with fail;go_roundw
     case rel=>exact⟨k+1,by omega,by go_num,by rw[hn.out];exact Tf.out,kD⟩
     case measure=>simp[intOf];omega
  ·obtain rfl:k=M.length:=by omega
   rw [List.take_length,<-hP.out]at hown;have HO:=zH hown;clear hown;go_wp2_with fail;go_ret;exact ⟨_,rfl,kg.base HO.out yi.size,yi.trans hE⟩
theorem Qo {l:List UInt8} {w:World} {A:Option Addr} (h:iY w A (pc [] l)):∃n b o,(pc [] l).length=n+1/\A=some ⟨b,o,none⟩/\w.cell? ⟨b,o+n,none⟩=some (.string (bs (di l))):=by
 obtain ⟨n,hn⟩:∃n,(pc [] l).length=n+1:=Nat.exists_eq_succ_of_ne_zero (fun e=>Si l [] (List.eq_nil_of_length_eq_zero e));obtain ⟨b,o,hA,_,hc⟩:=h.at_ (Ext.refl _) n (by omega);refine ⟨n,b,o,hn,hA,?_⟩;rw [hc]
 congr 3
 unfold di;have e:(pc [] l).length-1=n:=by omega
 rw [List.getLastD_eq_getLast?,List.getLast?_eq_getElem?,e,List.getElem?_eq_getElem (by omega)];rfl
theorem uW (l:List UInt8) (w:World) (hlen:l.length<=2000000):Calls Tryz.prog 82 #[bs l] w (aI w (.bool (fg l))):=by
 have Sj:=sU l;have hS:Hid (fg l=(di l == [] || di l == [46] || di l == [46,46])):=rfl;obtain ⟨t0,t1,t2,t3⟩:=ig (p:=di l);obtain⟨X,hX⟩:=zE (bs (di l));rw [<-hX]at t0 t1 t2 t3;have HX:=zH hX;clear hX;obtain⟨B0,OL⟩:=zE (di l == []);obtain⟨B1,wP⟩:=zE (di l == [46]);obtain⟨B2,Dx⟩:=zE (di l == [46,46]);rw [<-OL,<-wP,<-Dx]at hS;rw [<-OL]at t0 t3;rw [<-wP]at t1;rw [<-Dx]at t2;clear OL wP Dx;go_enter Tryz.func82,Tryz.ntmps82;go_wp2_with fail;refine (uU l _ hlen).mono ?_;rintro e w1 ⟨v,rfl,hv,yi⟩;obtain ⟨A,cap,rfl,hle,hcm,hat,hAn⟩:=hv.at_;obtain ⟨n,b,o,hn,rfl,hcl⟩:=Qo hat;rw [<-HX.out]at hcl;rw [hn]at hle Sj|-;clear hv hat hAn hn;have hw1:IntKind.i64.wrap (n:Int)=n:=a_ (by omega) (by omega);have hn0:(0:Int)<=(n:Int):=Int.natCast_nonneg _;have lM:(n:Int)<(n:Int)+1:=by omega
 cases B0<;>cases B1<;>cases B2
 all_goals
  go_wp2_with fail;go_ret;exact aI.mk (iD (by rw[hS.out];rfl)) yi
def strOf:Value->ByteArray
 | .string s=>s
 | _=>⟨#[]⟩
theorem Hw (l:List UInt8):od (l++[47])=od l:=by
 unfold od;rw [List.reverse_append];simp
theorem Hx {l:List UInt8} {c:UInt8} (h:c≠47):od (l++[c])=l++[c]:=by
 unfold od;rw [List.reverse_append];have:(c == 47)=false:=beq_eq_false_iff_ne.2 h;simp [this]
theorem DD (l:List UInt8):l=[]\/∃a c,l=a++[c]:=by
 rcases List.eq_nil_or_concat l with h|⟨a,c,h⟩
 ·exact .inl h
 ·exact .inr ⟨a,c,by rw[h,List.concat_eq_append]⟩
def ku (l:List UInt8):Int:=if l=[] then 5 else if l.head?≠some 47\/hasB l 0=true then 1 else if 4096<l.length then 13 else 0
theorem Bl {l:List UInt8} (h0:¬l=[]):ku l=if l.head?≠some 47\/hasB l 0=true then 1 else if 4096<l.length then 13 else 0:=by
 unfold ku;rw[if_neg h0]
theorem Hy (l:List UInt8) (w:World) (hlen:l.length<=1000000):Calls Tryz.prog 80 #[bs l] w (aI w (.int .i64 (ku l))):=by
 have z0:(bs l).size=l.length:=bi l;have hb:Hid ((bs l).data.toList=l):=mj l;have hs:(bs l).size<=1000000:=by omega
 cases l with
 | nil =>
  have e:(bs []).toList=[]:=bk [];go_enter Tryz.func80,Tryz.ntmps80;go_wp2_with fail;go_ret;exact aI.mk rfl (Ext.refl _)
 | cons c t =>
  have hp:=Bl (l:=c::t) (by simp);have e0:(bs (c::t)).toList.isEmpty=false:=by rw[bk];rfl
  have hks:0<(bs (c::t)).size:=by rw[bi];simp
  have hg:(bs (c::t))[0]=c:=rfl
  by_cases hc:c=47
  ·have pX:(((bs (c::t))[0].toNat:Int) != 47)=false:=by rw[hg,hc];rfl
   cases hz:hasB (c::t) 0 with
   | true =>
    have hf:Hid (ku (c::t)=1):=by show _=_;rw[hp,if_pos (.inr hz)]
    have HZ:=zH hz;obtain⟨X,hX⟩:=zE (bs (c::t));clear hp hg hc hz;go_enter Tryz.func80,Tryz.ntmps80;go_wp2_with fail;refine (gT _ 0 _ (by rfl) hs _).mono ?_;rintro e w1 ⟨rfl,b1⟩;rw [hb.out,HZ.out];go_wp2_with fail;go_ret;exact aI.mk (aB (by rw[hf.out])) b1
   | false =>
    have HZ:=zH hz;have hf:Hid (ku (c::t)=if 4096<t.length+1 then 13 else 0):=by
     show _=_;rw [hp,if_neg (by rw[hz,hc];simp)];rfl
    by_cases h:4096<t.length+1
    ·rw [if_pos h]at hf
     clear hp hg hc hz;go_enter Tryz.func80,Tryz.ntmps80;go_wp2_with fail;refine (gT _ 0 _ (by rfl) hs _).mono ?_;rintro e w1 ⟨rfl,b1⟩;rw [hb.out,HZ.out];go_wp2_with fail;go_ret;exact aI.mk (aB (by rw[hf.out])) b1
    ·rw [if_neg h]at hf
     clear hp hg hc hz;go_enter Tryz.func80,Tryz.ntmps80;go_wp2_with fail;refine (gT _ 0 _ (by rfl) hs _).mono ?_;rintro e w1 ⟨rfl,b1⟩;rw [hb.out,HZ.out];go_wp2_with fail;go_ret;exact aI.mk (aB (by rw[hf.out])) b1
  ·have pX:(((bs (c::t))[0].toNat:Int) != 47)=true:=by
    have:=(xA (c:=c) (d:=47)).trans (beq_eq_false_iff_ne.2 hc);rw [hg,bne,show ((c.toNat:Int) == 47)=false from this];rfl
   have hf:Hid (ku (c::t)=1):=by show _=_;rw[hp,if_pos (.inl (by simpa using hc))]
   clear hp hg hc;go_enter Tryz.func80,Tryz.ntmps80;go_wp2_with fail;go_ret;exact aI.mk (aB (by rw[hf.out])) (Ext.refl _)
noncomputable def Mi (l:List UInt8):Int:=Lib.lastIndexByte (bs l) 47
theorem yX (l:List UInt8) (j:Nat) (h:j<l.length):(bs l).data[j]! = l[j]:=by
 simp [bs,h]
theorem Bm (l:List UInt8):(Mi l=-1/\47∉l)\/∃i:Nat,i<l.length/\Mi l=i/\l[i]?=some 47/\47∉l.drop (i+1):=by
 rcases Lib.lastIndexByte_spec (bs l) 47 with⟨h1,h2⟩|⟨i,hi,h1,h2,h3⟩
 ·refine .inl ⟨h1,fun hm=>?_⟩
  obtain ⟨j,hj,hx⟩:=List.mem_iff_getElem.1 hm;have:=h2 j (by rw[bi];exact hj);rw [yX l j hj,hx]at this;exact this rfl
 ·rw [bi]at hi
  refine .inr ⟨i,hi,h1,?_,fun hm=>?_⟩
  ·rw [yX l i hi]at h2
   rw [List.getElem?_eq_getElem hi,Option.some.injEq];exact UInt8.toNat_inj.1 (by have:(47:UInt8).toNat=47:=rfl;omega)
  ·obtain ⟨j,hj,hx⟩:=List.mem_iff_getElem.1 hm
   rw [List.length_drop]at hj;have:=h3 (i+1+j) (by omega) (by rw[bi];omega);rw [yX l _ (by omega)]at this;rw [List.getElem_drop]at hx;rw [hx]at this;exact this rfl
theorem wB (a b:List UInt8) (h:47∉b):ie (a++47::b)=b:=by
 unfold ie;have h1:b.reverse.takeWhile (fun x:UInt8=>decide (x≠47))=b.reverse:=by
  rw [r9];intro x hx;have:x≠47:=by rintro rfl;exact h (List.mem_reverse.1 hx)
  simpa using this
 rw [List.reverse_append,List.reverse_cons,List.append_assoc,List.takeWhile_append,h1,if_pos rfl,List.singleton_append,List.takeWhile_cons,if_neg (by decide)];simp
theorem wC (b:List UInt8) (h:47∉b):ie b=b:=by
 unfold ie;have h1:b.reverse.takeWhile (fun x:UInt8=>decide (x≠47))=b.reverse:=by
  rw [r9];intro x hx;have:x≠47:=by rintro rfl;exact h (List.mem_reverse.1 hx)
  simpa using this
 rw [h1,List.reverse_reverse]
theorem DE {l:List UInt8} {k:Nat} (hk:l[k]?=some 47):l=l.take k++47::l.drop (k+1):=by
 have h:k<l.length:=by
  rcases Nat.lt_or_ge k l.length with h|h
  ·exact h
  ·rw[List.getElem?_eq_none h]at hk;cases hk
 have h2:l[k]=47:=by rw[List.getElem?_eq_getElem h]at hk;exact Option.some.inj hk
 have h3:=List.drop_eq_getElem_cons h;rw [h2]at h3;rw [<-h3,List.take_append_drop]
theorem DF (l:List UInt8):∃k:Nat,k<=l.length/\Mi l=(k:Int)-1/\l.drop k=di l:=by
 rw [Me];rcases Bm l with⟨h1,h2⟩|⟨i,hi,h1,h2,h3⟩
 ·exact⟨0,Nat.zero_le _,by omega,by rw[wC l h2];rfl⟩
 ·refine ⟨i+1,hi,by omega,?_⟩
  have h4:=DE h2;have h5:=wB (l.take i) (l.drop (i+1)) h3;rw [<-h4]at h5;exact h5.symm
theorem Hz (l:List UInt8) (w:World) (hlen:l.length<=2000000):Calls Tryz.prog 207 #[bs l] w (aI w (.string (bs (di l)))):=by
 obtain ⟨k,hk,hi,hd⟩:=DF l;have z0:(bs l).size=l.length:=bi l;have xm:=DC (P:=Tryz.prog) Tryz.underlying9 (bs l) (k:Int) k rfl (by omega) (bs (di l)) (by rw[Qn,hd]);have hw:IntKind.i64.wrap (k:Int)=k:=a_ (by omega) (by omega);obtain⟨T,hT⟩:=zE (bs (di l));rw [<-hT]at xm|-;have HI:Hid (Lib.lastIndexByte (bs l) 47=(k:Int)-1):=hi;clear hi hd hT;go_enter Tryz.func207,Tryz.ntmps207;go_wp2_with fail;refine (Tryz.strings_LastIndexByte _ 47 (by omega) _).mono ?_;rintro e w1 ⟨rfl,rfl⟩;rw [HI.out];go_wp2_with fail;go_ret;exact aI.mk rfl (Ext.refl _)
theorem uY (l:List UInt8) (w:World) (hlen:l.length<=2000000):Calls Tryz.prog 188 #[bs l] w (aI w (.bool (fg l))):=by
 have hS:Hid (fg l=(di l == [] || di l == [46] || di l == [46,46])):=rfl;obtain ⟨t0,t1,t2,t3⟩:=ig (p:=di l);obtain⟨X,hX⟩:=zE (bs (di l));rw [<-hX]at t0 t1 t2 t3;have HX:=zH hX;clear hX;obtain⟨B0,OL⟩:=zE (di l == []);obtain⟨B1,wP⟩:=zE (di l == [46]);obtain⟨B2,Dx⟩:=zE (di l == [46,46]);rw [<-OL,<-wP,<-Dx]at hS;rw [<-OL]at t0 t3;rw [<-wP]at t1;rw [<-Dx]at t2;clear OL wP Dx;go_enter Tryz.func188,Tryz.ntmps188;go_wp2_with fail;refine (Hz l _ hlen).mono ?_;rintro e w1 ⟨rfl,yi⟩;rw [<-HX.out]
 cases B0<;>cases B1<;>cases B2
 all_goals
  go_wp2_with fail;go_ret;exact aI.mk (iD (by rw[hS.out];rfl)) yi
theorem Bn (l:List UInt8):(od l).length<=l.length:=by
 unfold od;rw [List.length_reverse];have:=(List.dropWhile_sublist (fun x:UInt8=>x == 47) (l:=l.reverse)).length_le;simpa using this
theorem H7 (l:List UInt8) (w:World) (hlen:l.length<=1000000):Calls Tryz.prog 185 #[bs l] w (aI w (.int .i64 (ku l))):=by
 have z0:(bs l).size=l.length:=bi l;have hb:Hid ((bs l).data.toList=l):=mj l;have hs:(bs l).size<=1000000:=by omega
 cases l with
 | nil =>
  have e:(bs []).toList=[]:=bk [];go_enter Tryz.func185,Tryz.ntmps185;go_wp2_with fail;go_ret;exact aI.mk rfl (Ext.refl _)
 | cons c t =>
  have hp:=Bl (l:=c::t) (by simp);have e0:(bs (c::t)).toList.isEmpty=false:=by rw[bk];rfl
  have hks:0<(bs (c::t)).size:=by rw[bi];simp
  have hg:(bs (c::t))[0]=c:=rfl
  by_cases hc:c=47
  ·have pX:(((bs (c::t))[0].toNat:Int) != 47)=false:=by rw[hg,hc];rfl
   cases hz:hasB (c::t) 0 with
   | true =>
    have hf:Hid (ku (c::t)=1):=by show _=_;rw[hp,if_pos (.inr hz)]
    have HZ:=zH hz;obtain⟨X,hX⟩:=zE (bs (c::t));clear hp hg hc hz;go_enter Tryz.func185,Tryz.ntmps185;go_wp2_with fail;refine (Tryz.strings_Contains_one _ 0 _).mono ?_;rintro e w1 ⟨rfl,rfl⟩;rw [hb.out,mz,HZ.out];go_wp2_with fail;go_ret;exact aI.mk (aB (by rw[hf.out])) (Ext.refl _)
   | false =>
    have HZ:=zH hz;have hf:Hid (ku (c::t)=if 4096<t.length+1 then 13 else 0):=by
     show _=_;rw [hp,if_neg (by rw[hz,hc];simp)];rfl
    by_cases h:4096<t.length+1
    ·rw [if_pos h]at hf
     clear hp hg hc hz;go_enter Tryz.func185,Tryz.ntmps185;go_wp2_with fail;refine (Tryz.strings_Contains_one _ 0 _).mono ?_;rintro e w1 ⟨rfl,rfl⟩;rw [hb.out,mz,HZ.out];go_wp2_with fail;go_ret;exact aI.mk (aB (by rw[hf.out])) (Ext.refl _)
    ·rw [if_neg h]at hf
     clear hp hg hc hz;go_enter Tryz.func185,Tryz.ntmps185;go_wp2_with fail;refine (Tryz.strings_Contains_one _ 0 _).mono ?_;rintro e w1 ⟨rfl,rfl⟩;rw [hb.out,mz,HZ.out];go_wp2_with fail;go_ret;exact aI.mk (aB (by rw[hf.out])) (Ext.refl _)
  ·have pX:(((bs (c::t))[0].toNat:Int) != 47)=true:=by
    have:=(xA (c:=c) (d:=47)).trans (beq_eq_false_iff_ne.2 hc);rw [hg,bne,show ((c.toNat:Int) == 47)=false from this];rfl
   have hf:Hid (ku (c::t)=1):=by show _=_;rw[hp,if_pos (.inl (by simpa using hc))]
   clear hp hg hc;go_enter Tryz.func185,Tryz.ntmps185;go_wp2_with fail;go_ret;exact aI.mk (aB (by rw[hf.out])) (Ext.refl _)
open Go
section
variable {F:Fence} {n:Nat} {P:Program} {Q:Exit->Act->World->Prop} {a:Act} {w:World} {b:Frame} {k:List Item} {cs:List Frame}
theorem jc {c:Code}:step P (lone (b.atR a (.code (.scope c)::k)) cs w)=.next (lone (b.atR a (.code c::.inScope c::k)) cs w):=
 step_lone_go (by simp[stepG,stepG.exec,Frame.atR])
theorem wD {c:Code}:step P (lone (b.atR a (.inScope c::k)) cs w)=.next (lone (b.atR a k) cs w):=
 step_lone_go (by simp[stepG,stepG.exec,Frame.atR])
theorem kv {c:Code} (h:c.wpIn F n P (Exit.noGoto Q) a w):(Code.scope c).wpIn F n P Q a w:=by
 intro b k cs hro hb hr;have h0:(lone (b.atR a (.code (.scope c)::k)) cs w).fenced P F:=fenced_calm hb hr rfl;obtain ⟨e,a₁,w₁,hq,harr⟩:=h b (.inScope c::k) cs hro hb hr
 cases e with
 | normal=>exact⟨.normal,a₁,w₁,hq,.head h0 jc (StepsIn.trans harr (.one (fenced_calm hb hr rfl) wD))⟩
 | exit id =>
  have hx:exitTo id (.inScope c::k)=exitTo id k:=by simp[exitTo]
  exact ⟨.exit id,a₁,w₁,hq,fun k' hk=>.head h0 jc (harr.1 k' (by rw[hx];exact hk)),
   fun hr' hk=>let ⟨aaX,h1,h2⟩:=harr.2 hr' (by rw[hx];exact hk);⟨aaX,h1,.head h0 jc h2⟩⟩
 | goto l=>exact hq.elim
 | ret=>exact⟨_,a₁,w₁,hq,.of_steps (.one h0 jc) harr⟩
 | panic ch=>exact⟨_,a₁,w₁,hq,.of_steps (.one h0 jc) harr⟩
 | outgrown=>exact⟨_,a₁,w₁,hq,.of_steps (.one h0 jc) harr⟩
end
end
section
open Go.ChangeShapes Go.WideShapes Go.ChangeAt Go.RowKit Go.Shelf
attribute [local go_sem] Oper.semAt_some
abbrev Qr (x:vY):Array Value:=#[bs x]
theorem DG (l:List UInt8) (fr k:Nat) (h:l.length<k):jb l fr k=[]:=by unfold jb;rw[if_neg (by omega)]
theorem H_ (F:Fence) (n:Nat) (hf:F.fn 206) (hro:F.round=none) (hn:1<=n) (lb Bs:Nat) (l:List UInt8) (hlen:l.length<=2000000) (J Jx:List vY->World->Prop) (Kp:World->World->Prop) (R:World->Prop)
  (hK:∀{A B:World},Kp A B->R A->R B) (hRc:∀{A:World},R A->A.cell? ⟨Bs,0,none⟩=some (.string (bs l))) (W:World)
  (hY : ∀pre x W,J pre W->pre.length<(bg l).length->YieldAt F (n-1) Tryz.prog lb (Qr x) W fun e W' =>
   (e=.returned (.bool true)/\J (pre++[x]) W'/\Kp W W')\/(e=.returned (.bool false)/\Jx (pre++[x]) W'))
  (EZ:R W) (h0:J [] W) :
  CallsIn F n Tryz.prog 206 #[.func (.yield lb) #[] #[],.pointer (some ⟨Bs,0,none⟩)] W fun e W'=>(∃v,e=.returned v) /\
   ((∃ys,ys=bg l/\J ys W')\/(∃pre,pre <+: bg l/\Jx pre W')):=by
 have hsz:((bs l).size:Int)=l.length:=by rw[bi]
 refine callsIn_of_wp Tryz.func206 rfl hf ?_ hro;simp only[Tryz.ntmps206,List.size_toArray,List.length_cons,List.length_nil,Nat.reduceAdd,Nat.reduceSub,Array.replicate_succ,Array.replicate_zero,List.push_toArray,List.append_toArray,List.nil_append,List.cons_append];gi_wp2;refine kv ?_;gi_wp2;refine wpIn_label ?_;gi_wp2;gi_loopw [3,4] (fun f a wr=>∃fr k:Nat,fr<=k/\k<=l.length+1/\f=.int .i64 fr/\a=.int .i64 k/\∃pre,pre++(jb l fr k).filter ft=bg l/\J pre wr/\R wr) (fun _ a _=>l.length+1-(intOf a).toNat)
 case atStart=>exact⟨0,0,Nat.le_refl _,Nat.zero_le _,rfl,rfl,[],by rw[Bk];rfl,h0,EZ⟩
 case round =>
  obtain ⟨fr,k,hfk,hk,rfl,rfl,pre,iy,hJ,Sk⟩:=hrel;have hc:=hRc Sk
  by_cases hle:(k:Int)<=l.length
  ·have TF : (0:Int)<=(k:Int):=Int.natCast_nonneg _
   obtain⟨p,hp⟩:=zE ((l.drop fr).take (k-fr))
   by_cases hlt:(k:Int)<l.length
   ·have dI : k<l.length:=by omega
    have hks:k<(bs l).size:=by rw[bi];exact dI
    have hg:(bs l)[k]=l[k]:=CJ l k hks dI
    by_cases hs:l[k]=47
    ·have pX:(((bs l)[k].toNat:Int) != 47)=false:=by rw[hg,hs];rfl
     have OD:=Hu (fr:=fr) dI hs;rw [<-hp]at OD;clear hg hs;have hr:jb l fr k=p::jb l (k+1) (k+1):=OD;rw [hr,List.filter_cons]at iy;have jK:IntKind.i64.wrap ((k:Int)+1)=k+1:=a_ (by omega) (by omega);have xm:=rc (P:=Tryz.prog) Tryz.underlying9 (bs l) (fr:Int) (k:Int) fr k rfl rfl hfk (by omega) (bs p) (by rw[ml,hp]);obtain ⟨t0,t1,_,t3⟩:=ig (p:=p);obtain⟨X,hX⟩:=zE (bs p);rw [<-hX]at xm t0 t1 t3;have HX:=zH hX;clear hX hp hr
     cases h0:(p == []) with
     | true =>
      rw [h0]at t0 t3;rw [if_neg (by unfold ft;rw[h0];simp)]at iy;have HP:=zH iy;clear h0 t1 iy;gi_wp2;go_roundw
      case rel=>exact⟨k+1,k+1,Nat.le_refl _,by omega,by go_num,by go_num,pre,HP.out,hJ,Sk⟩
      case measure=>simp[intOf];omega
     | false =>
      cases h1:(p == [46]) with
      | true =>
       rw [h0]at t0 t3;rw [h1]at t1;rw [if_neg (by unfold ft;rw[h0,h1];simp)]at iy;have HP:=zH iy;clear h0 h1 iy;gi_wp2;go_roundw
       case rel=>exact⟨k+1,k+1,Nat.le_refl _,by omega,by go_num,by go_num,pre,HP.out,hJ,Sk⟩
       case measure=>simp[intOf];omega
      | false =>
       rw [h0]at t0 t3;rw [h1]at t1;rw [if_pos (by unfold ft;rw[h0,h1];rfl)]at iy;have iE:pre.length<(bg l).length:=by rw[<-iy];simp
       obtain ⟨fn,tmps,assign,body,hy,hR⟩:=hY pre p wr hJ iE
       try dsimp only[Qr]at hy
       have HP:=zH iy;rw [<-HX.out]at hy;clear h0 h1 iy iE;gi_wp2;refine hR.mono ?_;rintro e W3 (⟨rfl,Cx,mq⟩|⟨rfl,tV⟩)
       ·gi_wp2
        go_roundw
        case rel=>exact⟨k+1,k+1,Nat.le_refl _,by omega,by go_num,by go_num,pre++[p],by rw[<-HP.out];simp,Cx,hK mq Sk⟩
        case measure=>simp[intOf];omega
       ·gi_wp2
        simp only[Exit.noGoto];gi_wp2;refine bodyPost_ret (results_none rfl _ _ _) rfl ?_;exact ⟨⟨_,rfl⟩,.inr ⟨_,by rw[<-HP.out];exact⟨_,by rw[List.append_assoc];rfl⟩,tV⟩⟩
    ·have pX:(((bs l)[k].toNat:Int) != 47)=true:=by
      have:=(xA (c:=l[k]) (d:=47)).trans (beq_eq_false_iff_ne.2 hs);have Hg:((bs l)[k].toNat:Int)=(l[k].toNat:Int):=congrArg (fun c:UInt8=>(c.toNat:Int)) hg;exact (congrArg (fun x:Int=>x != 47) Hg).trans (by show (!((l[k].toNat:Int) == 47))=true;exact congrArg (fun b=>!b) this)
     have OD:=Mf hfk dI hs;rw [<-OD]at iy;have HP:=zH iy;clear hg hs OD iy hp;gi_wp2;go_roundw
     case rel=>exact⟨fr,k+1,by omega,by omega,by go_num,by go_num,pre,HP.out,hJ,Sk⟩
     case measure=>simp[intOf];omega
   ·have OD:jb l fr k=p::jb l (k+1) (k+1):=by
     have dI:k=l.length:=by omega
     rw [hp,dI];exact Hv
    have hr:jb l fr k=p::jb l (k+1) (k+1):=OD;rw [hr,List.filter_cons]at iy;have jK:IntKind.i64.wrap ((k:Int)+1)=k+1:=a_ (by omega) (by omega);have xm:=rc (P:=Tryz.prog) Tryz.underlying9 (bs l) (fr:Int) (k:Int) fr k rfl rfl hfk (by omega) (bs p) (by rw[ml,hp]);obtain ⟨t0,t1,_,t3⟩:=ig (p:=p);obtain⟨X,hX⟩:=zE (bs p);rw [<-hX]at xm t0 t1 t3;have HX:=zH hX;clear hX hp hr
    cases h0:(p == []) with
    | true =>
     rw [h0]at t0 t3;rw [if_neg (by unfold ft;rw[h0];simp)]at iy;have HP:=zH iy;clear h0 t1 iy;gi_wp2;go_roundw
     case rel=>exact⟨k+1,k+1,Nat.le_refl _,by omega,by go_num,by go_num,pre,HP.out,hJ,Sk⟩
     case measure=>simp[intOf];omega
    | false =>
     cases h1:(p == [46]) with
     | true =>
      rw [h0]at t0 t3;rw [h1]at t1;rw [if_neg (by unfold ft;rw[h0,h1];simp)]at iy;have HP:=zH iy;clear h0 h1 iy;gi_wp2;go_roundw
      case rel=>exact⟨k+1,k+1,Nat.le_refl _,by omega,by go_num,by go_num,pre,HP.out,hJ,Sk⟩
      case measure=>simp[intOf];omega
     | false =>
      rw [h0]at t0 t3;rw [h1]at t1;rw [if_pos (by unfold ft;rw[h0,h1];rfl)]at iy;have iE:pre.length<(bg l).length:=by rw[<-iy];simp
      obtain ⟨fn,tmps,assign,body,hy,hR⟩:=hY pre p wr hJ iE
      try dsimp only[Qr]at hy
      have HP:=zH iy;rw [<-HX.out]at hy;clear h0 h1 iy iE;gi_wp2;refine hR.mono ?_;rintro e W3 (⟨rfl,Cx,mq⟩|⟨rfl,tV⟩)
      ·gi_wp2
       go_roundw
       case rel=>exact⟨k+1,k+1,Nat.le_refl _,by omega,by go_num,by go_num,pre++[p],by rw[<-HP.out];simp,Cx,hK mq Sk⟩
       case measure=>simp[intOf];omega
      ·gi_wp2
       simp only[Exit.noGoto];gi_wp2;refine bodyPost_ret (results_none rfl _ _ _) rfl ?_;exact ⟨⟨_,rfl⟩,.inr ⟨_,by rw[<-HP.out];exact⟨_,by rw[List.append_assoc];rfl⟩,tV⟩⟩
  ·rw [DG l fr k (by omega)]at iy
   have HP:Hid (pre=bg l):=by show _=_;rw[<-iy];simp
   clear iy;gi_wp2;go_end0;exact ⟨⟨_,rfl⟩,.inl ⟨_,HP.out,hJ⟩⟩
theorem Bo (F:Fence) (n:Nat) (hf:F.fn 206) (hro:F.round=none) (hn:1<=n) (Bs n₀:Nat) (l:List UInt8) (hlen:l.length<=2000000) (w:World) (EZ:Bs<w.heap.size) (EY:Bs<n₀)
  (hc:w.cell? ⟨Bs,0,none⟩=some (.string (bs l))) :
  SeqStopsK F n Tryz.prog 206 #[.pointer (some ⟨Bs,0,none⟩)] Qr (Below n₀) (fun ys=>ys=bg l) (fun pre=>pre <+: bg l) (bg l).length w:=fun lb J Jx W hW _ _ hY h0 =>
 H_ F n hf hro hn lb Bs l hlen J Jx (Below n₀) (fun W=>W.cell? ⟨Bs,0,none⟩=some (.string (bs l))) (fun hk h=>(hk.cell (p:=⟨Bs,0,none⟩) EY).trans h) id W hY ((hW.cell (p:=⟨Bs,0,none⟩) EZ).trans hc) h0
end
section
open Go.ChangeShapes Go.WideShapes Go.ChangeAt Go.RowKit Go.Shelf
attribute [local go_sem] Oper.semAt_some
theorem Mj (F:Fence) (n:Nat) (hf:F.fn 187) (hro:F.round=none) (s:ByteArray) (w:World) :
  CallsIn F n Tryz.prog 187 #[.string s] w fun e w'=>e=.returned (.func (.func 206) #[] #[.pointer (some ⟨w.heap.size,0,none⟩)])/\w'=w.alloc (.cells #[.string s] 9):=by
 refine callsIn_of_wp Tryz.func187 rfl hf ?_ hro;simp only[Tryz.ntmps187,List.size_toArray,List.length_cons,List.length_nil,Nat.reduceAdd,Nat.reduceSub,Array.replicate_succ,Array.replicate_zero,List.push_toArray,List.append_toArray,List.nil_append,List.cons_append];gi_wp2;go_ret;exact ⟨rfl,rfl⟩
end
section
open Go.ChangeShapes Go.WideShapes Go.ChangeAt Go.RowKit Go.Shelf
attribute [local go_sem] Oper.semAt_some
theorem yY (F:Fence) (n:Nat) (hro:F.round=none) (h83:F.fn 205) (h84:F.fn 206) (hn:3<=n) (Bs:Nat) (l:List UInt8) (hlen:l.length<=2000000) (w:World) (EZ:Bs<w.heap.size)
  (hc:w.cell? ⟨Bs,0,none⟩=some (.string (bs l))) :
  CallsIn F n Tryz.prog 205 #[.slice none 0 0,.func (.func 206) #[] #[.pointer (some ⟨Bs,0,none⟩)]] w (Mh w (bg l)):=by
 obtain ⟨i0,hi,hz0,hz1,hz2⟩:=info_parts tH;have hpl:=kM l;refine callsIn_of_wp_marks Tryz.func205 rfl h83 ?_ hro;simp only[Tryz.ntmps205,List.size_toArray,List.length_cons,List.length_nil,Nat.reduceAdd,Nat.reduceSub,Array.replicate_succ,Array.replicate_zero,List.push_toArray,List.append_toArray,List.nil_append,List.cons_append];gi_wp2;obtain⟨W0,aH⟩:=zE (w.alloc (.cells #[.slice none 0 0] 135));have bO:Boxed W0 w.heap.size 135 (.slice none 0 0):=by rw[aH];exact Boxed.new w _ _
 have E0:Ext w W0:=by rw[aH];exact (Ext.refl _).alloc _
 have hz:W0.heap.size=w.heap.size+1:=by rw[aH];simp
 have hc0:W0.cell? ⟨Bs,0,none⟩=some (.string (bs l)):=(E0.cell EZ).trans hc;rw [<-aH];clear aH;refine wpIn_rangeFunc_ownG (w0:=W0) hro (by omega) (gf:=206) (lb:=#[.pointer (some ⟨Bs,0,none⟩)]) rfl h84 (enters_of Tryz.func206 (by kernel_rfl) rfl)
  (Bo F (n-1) h84 hro (by omega) Bs (w.heap.size) l hlen W0 (by omega) EZ hc0) belowK_t (belowK_b (by omega)) (Below.refl _ _) (fun _=>rfl)
  (fun pre W=>(∃v,Boxed W w.heap.size 135 v/\W.ownsRow w.heap.size 9 1 v pre.length (bP pre)/\True)/\Below w.heap.size w W)
  (fun c pre W=>False)
  (OwnFrom.and (Own.from (holdsRow_own w.heap.size (w.heap.size) 135 9 1 (fun pre=>pre.length) bP (fun pre _=>True)) _) (ownFrom_below (Nat.le_refl _) (by omega)))
  (fun c=>by intro s X Y row h;exact h.elim)
  ⟨⟨_,bO,World.ownsRow_nil _ _ _ _,trivial⟩,E0⟩
  (fun x=>{tmps:=#[.slice none 0 0,.func (.func 206) #[] #[.pointer (some ⟨Bs,0,none⟩)],.pointer (some ⟨w.heap.size,0,none⟩),undef,.slice none 0 0,bs x,.func (.func 206) #[] #[.pointer (some ⟨Bs,0,none⟩)],bs x,undef,undef,undef,undef,undef],defers:=[]}) ?assign ?body ?done ?stop
 case assign =>
  intro l x W K hK;gi_wp2;exact hK
 case body =>
  rintro l' pre x W ⟨⟨v,hv,hrow,_⟩,hB⟩ Mk;have hc:=hv.cell;have hsz:=hB.size;have hf:=hv.frozen;gi_wp2_with (gi_at_builtin;refine wpListIn_append_own _ rfl _ _ 135 rfl w.heap.size 9 i0 (.string ⟨#[]⟩) 1 16 Tryz.underlying135 hi hz0 hz1 hz2 rfl (by decide) _ _ _ rfl (hrow.alloc _) ⟨W.heap.size,0,none⟩ 1 1 (bP [x]) rfl rfl (tZ W x) (kH [x]) (by unfold maxLen;omega) (by omega) (by have:=hv.lt;simp;omega) ?_;intro v' w1 hown' hgrow _;obtain⟨g',cap',rfl⟩:=ownsRow_succ hown';obtain⟨AW,Kq,CQ,hk2,hb2⟩:=hv.appended (by decide) hrow (by have:=hv.lt;omega) (by omega) hown' hgrow;have hc1:=AW.cell;have JA:=AW.frozen;have tF:=Kq.cell);have LX:(w1.setCell ⟨w.heap.size,0,none⟩ (.slice (some ⟨g',0,none⟩) (pre.length+1) cap')).ownsRow w.heap.size 9 1 (.slice (some ⟨g',0,none⟩) (pre.length+1) cap') (pre++[x]).length (bP (pre++[x])):=by rw[kf,List.length_append];exact CQ
  exact ⟨hk2.from _,hb2,⟨_,Kq,LX,trivial⟩,hB.trans (hb2.mono (by omega))⟩
 case done =>
  rintro D ys W hD rfl ⟨⟨v,hv,hrow,_⟩,hB⟩ hK;have hc:=hv.cell;gi_wp2;refine ⟨by simp,.inl ⟨_,_,rfl,run_takeDeferred hK,?_⟩⟩;refine ⟨v,by simp[results,Tryz.results205,go_sem],v,rfl,?_,hB.trans (belowK_b (w:=w) (Nat.le_refl _) W D _ _ (by omega) hK rfl rfl)⟩;exact kg.base (ownsRow_putObj hrow _ hK rfl) (by omega)
 case stop =>
  rintro D c pre W hD hp h hK;exact h.elim
theorem DH (F:Fence) (n:Nat) (hro:F.round=none) (h38:F.fn 186) (h83:F.fn 205) (h84:F.fn 206) (hn:4<=n) (Bs:Nat) (l:List UInt8) (hlen:l.length<=2000000) (w:World) (EZ:Bs<w.heap.size)
  (hc:w.cell? ⟨Bs,0,none⟩=some (.string (bs l))) :
  CallsIn F n Tryz.prog 186 #[.func (.func 206) #[] #[.pointer (some ⟨Bs,0,none⟩)]] w (Mh w (bg l)):=by
 refine callsIn_of_wp Tryz.func186 rfl h38 ?_ hro;simp only[Tryz.ntmps186,List.size_toArray,List.length_cons,List.length_nil,Nat.reduceAdd,Nat.reduceSub,Array.replicate_succ,Array.replicate_zero,List.push_toArray,List.append_toArray,List.nil_append,List.cons_append];have h1:F.depth.isSome=true->1<=n:=fun _=>by omega
 gi_wp2_with (refine⟨h1,?_⟩;gi_at_call 205;refine (yY F (n-1) hro h83 h84 (by omega) Bs l hlen _ EZ hc).mono ?_;rintro e w' ⟨v,rfl,hv,hb⟩);go_ret;exact ⟨v,rfl,hv,hb⟩
theorem uZ (l:List UInt8) (w:World):Calls Tryz.prog 187 #[bs l] w fun e w'=>e=.returned (.func (.func 206) #[] #[.pointer (some ⟨w.heap.size,0,none⟩)])/\w'=w.alloc (.cells #[bs l] 9):=
 (callsIn_wide (n:=1)).1 (Mj Fence.wide 1 trivial rfl (bs l) w)
theorem sV (Bs:Nat) (l:List UInt8) (hlen:l.length<=2000000) (w:World) (EZ:Bs<w.heap.size) (hc:w.cell? ⟨Bs,0,none⟩=some (.string (bs l))) :
  Calls Tryz.prog 186 #[.func (.func 206) #[] #[.pointer (some ⟨Bs,0,none⟩)]] w (Mh w (bg l)):=
 (callsIn_wide (n:=4)).1 (DH Fence.wide 4 rfl trivial trivial trivial (by omega) Bs l hlen w EZ hc)
end
section
structure iz where
 dir:Int
 name:List UInt8
 no:Int
 fR:Bool
def bC:iz:=⟨0,[],0,false⟩
def eE (S:ae) (cu cg at_:Int) (p:List UInt8):Int:=
 if (ac S.nodes at_).kind≠1 then 9
 else if dX cu cg (ac S.nodes at_).uid (ac S.nodes at_).gid (ac S.nodes at_).mode 1=false then 6
 else if p=[46,46] then 0 else if 255<p.length then 13 else 0
def bp (S:ae) (at_:Int) (p:List UInt8):Int:=ar S.ah (aK (ac S.nodes at_).af p)
def dg (S:ae) (cu cg:Int) (eV:Bool):Int->List (List UInt8)->Nat->Bool->iz×Int
 | at_,[],_,_=>(⟨0,[],at_,true⟩,0)
 | at_, p::l,h,m =>
  if eE S cu cg at_ p≠0 then (bC,eE S cu cg at_ p)
  else if p=[46,46] then dg S cu cg eV (aZ S at_) l h m
  else if aJ S.nodes (bp S at_ p)=false then (if l=[] then (⟨at_,p,0,m⟩,0) else (bC,5))
  else if (ac S.nodes (bp S at_ p)).kind=3/\(l≠[]\/m=true\/eV=true) then
   (if _hh:8<h+1 then (bC,12) else if (ac S.nodes (bp S at_ p)).data=[] then (bC,5)
    else dg S cu cg eV (if (ac S.nodes (bp S at_ p)).data.head?=some 47 then 1 else at_) (bg (ac S.nodes (bp S at_ p)).data++l) (h+1) (m || (l.isEmpty&&fg (ac S.nodes (bp S at_ p)).data)))
  else if (ac S.nodes (bp S at_ p)).kind≠1/\(l≠[]\/m=true) then (bC,9)
  else if l=[] then (⟨at_,p,bp S at_ p,m⟩,0)
  else dg S cu cg eV (bp S at_ p) l h m
termination_by _ l h _=>(9-h,l.length)
theorem qD (S:ae) (cu cg:Int) (eV:Bool) (at_:Int) (h:Nat) (m:Bool):dg S cu cg eV at_ [] h m=(⟨0,[],at_,true⟩,0):=by rw[dg]
section
variable {S:ae} {cu cg:Int} {eV:Bool} {at_:Int} {p:List UInt8} {l:List (List UInt8)} {h:Nat} {m:Bool}
theorem qE (h1:eE S cu cg at_ p≠0):dg S cu cg eV at_ (p::l) h m=(bC,eE S cu cg at_ p):=by rw[dg,if_pos h1]
theorem FH (h1:eE S cu cg at_ p=0) (h2:p=[46,46]):dg S cu cg eV at_ (p::l) h m=dg S cu cg eV (aZ S at_) l h m:=by
 rw [dg,if_neg (fun k=>k h1),if_pos h2]
theorem xB (h1:eE S cu cg at_ p=0) (h2:p≠[46,46]) (h3:aJ S.nodes (bp S at_ p)=false) (h4:l=[]):dg S cu cg eV at_ (p::l) h m=(⟨at_,p,0,m⟩,0):=by
 rw [dg,if_neg (fun k=>k h1),if_neg h2,if_pos h3,if_pos h4]
theorem xC (h1:eE S cu cg at_ p=0) (h2:p≠[46,46]) (h3:aJ S.nodes (bp S at_ p)=false) (h4:l≠[]):dg S cu cg eV at_ (p::l) h m=(bC,5):=by
 rw [dg,if_neg (fun k=>k h1),if_neg h2,if_pos h3,if_neg h4]
theorem xD (h1:eE S cu cg at_ p=0) (h2:p≠[46,46]) (h3:aJ S.nodes (bp S at_ p)=true) (h4:(ac S.nodes (bp S at_ p)).kind=3) (h5:l≠[]\/m=true\/eV=true) (h6:8<h+1) :
  dg S cu cg eV at_ (p::l) h m=(bC,12):=by
 rw [dg,if_neg (fun k=>k h1),if_neg h2,if_neg (by rw[h3];decide),if_pos ⟨h4,h5⟩,dif_pos h6]
theorem u_ (h1:eE S cu cg at_ p=0) (h2:p≠[46,46]) (h3:aJ S.nodes (bp S at_ p)=true) (h4:(ac S.nodes (bp S at_ p)).kind=3) (h5:l≠[]\/m=true\/eV=true) (h6:¬8<h+1)
  (h7:(ac S.nodes (bp S at_ p)).data=[]):dg S cu cg eV at_ (p::l) h m=(bC,5):=by
 rw [dg,if_neg (fun k=>k h1),if_neg h2,if_neg (by rw[h3];decide),if_pos ⟨h4,h5⟩,dif_neg h6,if_pos h7]
theorem xE (h1:eE S cu cg at_ p=0) (h2:p≠[46,46]) (h3:aJ S.nodes (bp S at_ p)=true) (h4:(ac S.nodes (bp S at_ p)).kind=3) (h5:l≠[]\/m=true\/eV=true) (h6:¬8<h+1)
  (h7 : (ac S.nodes (bp S at_ p)).data≠[]):dg S cu cg eV at_ (p::l) h m =
   dg S cu cg eV (if (ac S.nodes (bp S at_ p)).data.head?=some 47 then 1 else at_) (bg (ac S.nodes (bp S at_ p)).data++l) (h+1) (m || (l.isEmpty&&fg (ac S.nodes (bp S at_ p)).data)):=by
 rw [dg,if_neg (fun k=>k h1),if_neg h2,if_neg (by rw[h3];decide),if_pos ⟨h4,h5⟩,dif_neg h6,if_neg h7]
theorem xF (h1:eE S cu cg at_ p=0) (h2:p≠[46,46]) (h3:aJ S.nodes (bp S at_ p)=true) (h4:¬((ac S.nodes (bp S at_ p)).kind=3/\(l≠[]\/m=true\/eV=true)))
  (h5:(ac S.nodes (bp S at_ p)).kind≠1) (h6:l≠[]\/m=true):dg S cu cg eV at_ (p::l) h m=(bC,9):=by
 rw [dg,if_neg (fun k=>k h1),if_neg h2,if_neg (by rw[h3];decide),if_neg h4,if_pos ⟨h5,h6⟩]
theorem xG (h1:eE S cu cg at_ p=0) (h2:p≠[46,46]) (h3:aJ S.nodes (bp S at_ p)=true) (h4:¬((ac S.nodes (bp S at_ p)).kind=3/\(l≠[]\/m=true\/eV=true)))
  (h5:¬((ac S.nodes (bp S at_ p)).kind≠1/\(l≠[]\/m=true))) (h6:l=[]):dg S cu cg eV at_ (p::l) h m=(⟨at_,p,bp S at_ p,m⟩,0):=by
 rw [dg,if_neg (fun k=>k h1),if_neg h2,if_neg (by rw[h3];decide),if_neg h4,if_neg h5,if_pos h6]
theorem xH (h1:eE S cu cg at_ p=0) (h2:p≠[46,46]) (h3:aJ S.nodes (bp S at_ p)=true) (h4:¬((ac S.nodes (bp S at_ p)).kind=3/\(l≠[]\/m=true\/eV=true)))
  (h5:¬((ac S.nodes (bp S at_ p)).kind≠1/\(l≠[]\/m=true))) (h6:l≠[]):dg S cu cg eV at_ (p::l) h m=dg S cu cg eV (bp S at_ p) l h m:=by
 rw [dg,if_neg (fun k=>k h1),if_neg h2,if_neg (by rw[h3];decide),if_neg h4,if_neg h5,if_neg h6]
end
def dV (S:ae) (cu cg:Int) (p:List UInt8) (eV:Bool):iz×Int:=if ku p=0 then dg S cu cg eV 1 (bg p) 0 (fg p) else (bC,ku p)
theorem Ml {P:List (List UInt8)->Nat->Prop} (step:∀l h,(∀l' h',(h<h'/\h'<=8)\/(h'=h/\l'.length<l.length)->P l' h')->P l h):∀l h,P l h:=by
 have inner:∀n,(∀l h,9-h<n->P l h)->∀k (l:List (List UInt8)) (h:Nat),9-h<=n->l.length<=k->P l h:=by
  intro n hn k
  induction k with
  | zero =>
   intro l h h1 h2;exact step l h fun l' h' hx=>by
    rcases hx with hx|hx
    ·exact hn l' h' (by omega)
    ·omega
  | succ k ih =>
   intro l h h1 h2;exact step l h fun l' h' hx=>by
    rcases hx with hx|hx
    ·exact hn l' h' (by omega)
    ·exact ih l' h' (by omega) (by omega)
 have outer:∀n l h,9-h<n->P l h:=by
  intro n
  induction n with
  | zero=>intro l h h1;omega
  | succ n ih=>intro l h h1;exact inner n ih l.length l h (by omega) (Nat.le_refl _)
 intro l h;exact outer (9-h+1) l h (by omega)
end
section
open Go.ChangeShapes Go.WideShapes Go.ChangeAt Go.RowKit
attribute [local irreducible] wpQuiet
def dG (w:World) (b bW:Nat) (cu cg at_:Int) (A:Option Addr) (len cap:Nat) (j6:Int) (must:Bool):Prop:=
 Has w b (.cells #[.pointer (some ⟨bW,0,none⟩),cu,cg,.int .i64 at_,.slice A len cap,.int .i64 j6,.bool must] 255)
theorem dG.ext {w w':World} {b bW:Nat} {cu cg at_:Int} {A:Option Addr} {len cap:Nat} {j6:Int} {must:Bool} (h:dG w b bW cu cg at_ A len cap j6 must) (hE:Ext w w'):dG w' b bW cu cg at_ A len cap j6 must:=Has.ext h hE
def stepG (S:ae) (at_:Int) (p:List UInt8):Int:=if p=[46,46] then aZ S at_ else bp S at_ p
theorem Ia {c:Nat} (B:Nat) (g:bG) (S:ae) (b:Nat) (cu cg at_:Int) (A:Option Addr) (len cap:Nat) (j6:Int) (must:Bool) (p:List UInt8) (w:World) (h:dM w B g S) (T:dy c S) (hc:c<=1000000)
    (ht:dG w b g.bW cu cg at_ A len cap j6 must) (hp:p.length<=2000000) :
    Calls Tryz.prog 189 #[.pointer (some ⟨b,0,none⟩),bs p] w (aI w (.tuple #[.int .i64 (if eE S cu cg at_ p=0 then stepG S at_ p else 0),.int .i64 (eE S cu cg at_ p)])):=by
  obtain ⟨A1,k1,tN,C1⟩:=kS B g S at_ w h
  obtain⟨n,hn⟩:=zE (ac S.nodes at_)
  obtain⟨i,hi⟩:=zE (aJ S.nodes at_)
  have hE:Hid (eE S cu cg at_ p=if n.kind≠1 then 9 else if dX cu cg n.uid n.gid n.mode 1=false then 6 else if p=[46,46] then 0 else if 255<p.length then 13 else 0):=by show _=_;rw[hn];rfl
  have hiz:i=false->n.kind=0:=fun e=>by rw[hn,(aU (hi.symm.trans e)).1];rfl
  have XV:iq n.af/\n.af.length<=c:=by rw[hn];exact T.ac at_
  rw [<-hn]at tN
  rw [<-hn,<-hi]at C1
  have AG:=zH C1
  have HN:=zH hn
  have HIZ:=zH hiz
  have zI:=zH XV
  obtain⟨x,hx⟩:=zE (eE S cu cg at_ p)
  obtain⟨y,hy⟩:=zE (stepG S at_ p)
  rw [<-hx]at hE
  rw [<-hx,<-hy]
  obtain ⟨z,hz⟩:∃z,z=if x=0 then y else 0:=⟨_,rfl⟩
  rw [<-hz]
  have XJ:Hid (x≠0->z=0):=by show _->_;intro k;rw[hz,if_neg k]
  have HZ1:Hid (x=0->z=y):=by show _->_;intro k;rw[hz,if_pos k]
  have HY:Hid (y=if p=[46,46] then aZ S at_ else bp S at_ p):=by show _=_;rw[hy];rfl
  have T0:=(Has.cell ht 0)
  have T1:=(Has.cell ht 1)
  have T2:=(Has.cell ht 2)
  have T3:=(Has.cell ht 3)
  have Tz:=Has.lt ht
  obtain ⟨_,_,cd,h3,_⟩:=id h
  have v0:∀u:Gr w,u.w.cell? ⟨b,0,none⟩=some (.pointer (some ⟨g.bW,0,none⟩)):=Gr.cell Tz T0
  have v3:∀u:Gr w,u.w.cell? ⟨b,3,none⟩=some (.int .i64 at_):=Gr.cell Tz T3
  have vw:∀u:Gr w,u.w.cell? ⟨g.bW,0,none⟩=some (.pointer (some ⟨g.bT,0,none⟩)):=Gr.cell h3.lt (h3.cell 0)
  clear C1 hn hi hiz XV hx hy hz T0 T1 T2 T3 h3
  go_enter Tryz.func189,Tryz.ntmps189
  go_upto_region 1 with fail
  refine kU w 15 16 6 21 n A1 k1 _ _ (by kernel_rfl) (by kernel_rfl) rfl rfl rfl rfl (by simp) ((Ext.refl _).drew) ?_
  simp only[List.take_succ_cons,List.take_zero,List.drop_succ_cons,List.drop_zero,List.drop_nil]
  repeat (refine bJ (fun K hK=>?_)
          go_simp
          first
            | (refine hK _ ?_;clear hK K)
            | (apply Exists.intro
               refine ⟨fun u=>?_,hK _ ?_⟩
               first
                 | ((with_reducible refine (AG.out _ u.h).mono ?_);rintro e w'' ⟨rfl,hx⟩;exact⟨rfl,hx⟩)
               clear hK K))
  refine aM ?_
  refine aM ⟨rfl,?_⟩
  refine bJ (fun K hK=>?_)
  go_simp
  refine hK _ ?_
  clear hK K
  refine aM ?_
  intro w4 b6 E4 Ib N4
  simp only[Act.put]
  have T4:=dG.ext ht E4
  have qy:=tN.ext E4
  have acz:b6≠b:=by omega
  clear v0 v3 vw AG tN
  obtain⟨j,hj⟩:=zE i
  have k2:w4.cell? ⟨b6,2,none⟩=some (.int .i64 n.kind):=N4.cell 2
  have kz:=N4.lt
  by_cases c1:n.kind=1
  case neg =>
    have t1:(n.kind == 1)=false:=by simpa using c1
    have rH:(n.kind != 1)=true:=by simpa using c1
    have e1:Hid (x=9):=by show _=_;rw[hE.out,if_pos c1]
    have e2:Hid (z=0):=XJ.out (by rw[e1.out];decide)
    clear c1 hE hj
    cases i
    · go_wp2_with fail
      go_ret2
      exact aI.mk (by rw[e1.out,e2.out];rfl) E4
    · go_wp2_with fail
      go_ret2
      exact aI.mk (by rw[e1.out,e2.out];rfl) E4
  have PL:i=true:=by
    cases i
    · have:=HIZ.out rfl;omega
    · rfl
  subst PL
  have t1:(n.kind == 1)=true:=by simpa using c1
  have rH:(n.kind != 1)=false:=by simpa using c1
  have kD:Hid (x=if dX cu cg n.uid n.gid n.mode 1=false then 6 else if p=[46,46] then 0 else if 255<p.length then 13 else 0):=by show _=_;rw[hE.out,if_neg (fun k=>k c1)]
  obtain⟨u,hu⟩:=zE (dX cu cg n.uid n.gid n.mode 1)
  have HU:=zH hu
  rw [<-hu]at kD
  clear hE hu c1 hj
  obtain ⟨n0,n1,n2,n3,n4,n5,n6,n7,n8,n9,G3,Do⟩:=N4.cD
  have KN:Hid (∀u':Gr w4,Calls Tryz.prog 51 #[.agg #[cu,cg],.agg #[n.no,n.dev,n.kind,n.mode,n.uid,n.gid,n.mtime,n.ctime,n.ag,n.up,bs n.data,.slice A1 n.af.length k1],.int .i64 1] u'.w (aI u'.w (.bool u))):=by
    show ∀u':Gr w4,_
    intro u'
    rw [HU.out]
    exact lS cu cg _ _ _ n.mode n.uid n.gid _ _ _ _ _ _ 1 u'.w
  go_upto_region 4 with fail
  have T1:∀u:Gr w4,u.w.cell? ⟨b,1,none⟩=some (.int .i64 cu):=Gr.cell (Has.lt T4) (Has.cell T4 1)
  have T2:∀u:Gr w4,u.w.cell? ⟨b,2,none⟩=some (.int .i64 cg):=Gr.cell (Has.lt T4) (Has.cell T4 2)
  have n0:=Gr.cell kz n0
  have n1:=Gr.cell kz n1
  have n2:=Gr.cell kz n2
  have n3:=Gr.cell kz n3
  have n4:=Gr.cell kz n4
  have n5:=Gr.cell kz n5
  have n6:=Gr.cell kz n6
  have n7:=Gr.cell kz n7
  have n8:=Gr.cell kz n8
  have n9:=Gr.cell kz n9
  have G3:=Gr.cell kz G3
  have Do:=Gr.cell kz Do
  clear k2
  refine gS w4 (by kernel_rfl) (by kernel_rfl) (Ext.refl _).drew ?_
  repeat (quiet_step (((with_reducible refine (KN.out _).mono ?_);rintro e w'' ⟨rfl,LK⟩;exact⟨rfl,⟨w'',Ext.trans (Gr.h _) LK⟩,rfl⟩)))
  refine wpQuiet_nil ?_
  rintro w5 ⟨⟨w5',uO⟩,h5⟩
  dsimp only at h5
  subst h5
  have T5:=dG.ext T4 uO
  have N5:=N4.ext uO
  have yH:=qy.ext uO
  have E5:=E4.trans uO
  clear KN T1 T2 n0 n1 n2 n3 n4 n5 n6 n7 n8 n9 G3 Do kz T4 N4 qy
  cases u
  · have e1:Hid (x=6):=by show _=_;rw[kD.out,if_pos rfl]
    have e2:Hid (z=0):=XJ.out (by rw[e1.out];decide)
    clear kD
    go_wp2_with fail
    go_ret2
    exact aI.mk (by rw[e1.out,e2.out];rfl) E5
  have tL:Hid (x=if p=[46,46] then 0 else if 255<p.length then 13 else 0):=by show _=_;rw[kD.out,if_neg (by decide)]
  clear kD
  obtain⟨X,hX⟩:=zE (bs p)
  have V7:(X.size:Int)=p.length:=by rw[hX,bi]
  have tX:(X.toList == [46,46])=(p == [46,46]):=by rw[hX];exact ig.2.2.1
  rw [<-hX]
  have HX:=zH hX
  by_cases c2:p=[46,46]
  · have e1:Hid (x=0):=by show _=_;rw[tL.out,if_pos c2]
    have e2:Hid (z=aZ S at_):=by show _=_;rw[HZ1.out e1.out,HY.out,if_pos c2]
    have t2:(X.toList == [46,46])=true:=by rw[tX,c2];rfl
    have KA:Hid (∀u':Gr w5,Calls Tryz.prog 142 #[.pointer (some ⟨g.bW,0,none⟩),.int .i64 at_] u'.w (aI u'.w (.int .i64 (aZ S at_)))):=by
      show ∀u':Gr w5,_
      exact fun u'=>Da B g S at_ _ ((h.ext E5).ext u'.h) T.ah T.eight T.roots T.bc
    clear tL c2 tX hX
    go_upto_region 7 with fail
    have T0:∀u:Gr w5,u.w.cell? ⟨b,0,none⟩=some (.pointer (some ⟨g.bW,0,none⟩)):=Gr.cell (Has.lt T5) (Has.cell T5 0)
    have T3:∀u:Gr w5,u.w.cell? ⟨b,3,none⟩=some (.int .i64 at_):=Gr.cell (Has.lt T5) (Has.cell T5 3)
    refine gS w5 (by kernel_rfl) (by kernel_rfl) (Ext.refl _).drew ?_
    repeat (quiet_step (((with_reducible refine (KA.out _).mono ?_);rintro e w'' ⟨rfl,LK⟩;exact⟨rfl,⟨w'',Ext.trans (Gr.h _) LK⟩,rfl⟩)))
    refine wpQuiet_nil ?_
    rintro w6 ⟨⟨w6',b6'⟩,h6⟩
    dsimp only at h6
    subst h6
    clear T0 T3 KA
    go_wp2_with fail
    go_ret2
    exact aI.mk (by rw[e1.out,e2.out];rfl) (E5.trans b6')
  have t2:(X.toList == [46,46])=false:=by rw[tX];simpa using c2
  have HY2:Hid (y=bp S at_ p):=by show _=_;rw[HY.out,if_neg c2]
  have Sl:Hid (x=if 255<p.length then 13 else 0):=by show _=_;rw[tL.out,if_neg c2]
  clear tL c2 tX
  by_cases c3:255<p.length
  · have e1:Hid (x=13):=by show _=_;rw[Sl.out,if_pos c3]
    have e2:Hid (z=0):=XJ.out (by rw[e1.out];decide)
    have t3:(255:Int)<X.size:=by omega
    clear Sl c3 hX V7
    go_wp2_with fail
    go_ret2
    exact aI.mk (by rw[e1.out,e2.out];rfl) E5
  have e1:Hid (x=0):=by show _=_;rw[Sl.out,if_neg c3]
  have t3:¬(255:Int)<X.size:=by omega
  obtain⟨q,hq⟩:=zE (aK n.af p)
  have e2:Hid (z=ar S.ah q):=by show _=_;rw[HZ1.out e1.out,HY2.out,hq,HN.out];rfl
  have Qs:=zI.out
  have KF:Hid (∀u':Gr w5,Calls Tryz.prog 100 #[.slice A1 n.af.length k1,.string X] u'.w (aI u'.w (.int .i64 q))):=by
    show ∀u':Gr w5,_
    intro u'
    rw [hq,<-j0 Qs.1,HX.out]
    exact nv A1 n.af k1 p u'.w (yH.ext u'.h).af.af Qs.1 (by have:=Qs.2;omega)
  have KO:Hid (∀u':Gr w5,Calls Tryz.prog 101 #[.pointer (some ⟨g.bW,0,none⟩),.int .i64 q] u'.w (aI u'.w (.int .i64 (ar S.ah q)))):=by
    show ∀u':Gr w5,_
    exact fun u'=>gZ B g S q _ ((h.ext E5).ext u'.h) T.ah (by have:=T.eight;omega)
  clear Sl c3 hX V7 hq Qs
  go_upto_region 10 with fail
  have T0:∀u:Gr w5,u.w.cell? ⟨b,0,none⟩=some (.pointer (some ⟨g.bW,0,none⟩)):=Gr.cell (Has.lt T5) (Has.cell T5 0)
  have Do:=Gr.cell N5.lt (N5.cell 11)
  refine gS w5 (by kernel_rfl) (by kernel_rfl) (Ext.refl _).drew ?_
  repeat (quiet_step (((first|with_reducible refine (KF.out _).mono ?_|with_reducible refine (KO.out _).mono ?_);rintro e w'' ⟨rfl,LK⟩;exact⟨rfl,⟨w'',Ext.trans (Gr.h _) LK⟩,rfl⟩)))
  refine wpQuiet_nil ?_
  rintro w6 ⟨⟨w6',b6'⟩,h6⟩
  dsimp only at h6
  subst h6
  clear T0 Do KF KO
  go_wp2_with fail
  go_ret2
  exact aI.mk (by rw[e1.out,e2.out];rfl) (E5.trans b6')
end
section
open Go.ChangeShapes Go.WideShapes Go.ChangeAt Go.RowKit
attribute [local irreducible] wpQuiet
def TY (A:Option Addr) (b:Nat):Prop:=∀x,A=some x->x.block≠b
theorem iY.only {w w':World} {A:Option Addr} {l:List vY} {b:Nat} (h:iY w A l) (o:Only [b] w w') (hL:TY A b):iY w' A l:=by
 rcases h with h|⟨b2,o',hA,hb,hc⟩
 ·exact .inl h
 ·have hn:b2∉[b]:=fun hb'=>by rw[List.mem_singleton]at hb';exact hL _ hA hb'
  have e:w'.heap[b2]?=w.heap[b2]?:=o.block b2 hb hn;have ec:∀j,w'.cell? ⟨b2,j,none⟩=w.cell? ⟨b2,j,none⟩:=fun j=>by simp[World.cell?,e]
  exact .inr ⟨b2,o',hA,by have:=o.size;omega,fun i hi=>(ec _).trans (hc i hi)⟩
theorem Ic {w w':World} {B:Nat} {o:Obj} {row:Option Nat} (h:Has w B o) (hg:w.grownBy w' row) (hr:row≠some B):Has w' B o:=
 (hg.block B h.lt (fun e=>hr e.symm)).trans h
theorem wE {P:Program} {ops:Array Oper} {o:Oper} {a:Act} {K:Act->World->Prop} {Q:Exit->Act->World->Prop} {E:Prop} (w:World) (hgd:o.guard=none) (s x:Operand) (t:TypeId)
  (ho:o.op=.call {callee:=.builtin .append,args:=#[s,x],argTypes:=#[t,t]}) (vs vx:Value) (hs:a.eval s=vs) (hx:a.eval x=vx) {R:Value->World->Prop}
  (hr:∃v' w',(Builtin.append_ #[t,t] o.type #[vs,vx]).run P w=.ok v' w'/\R v' w') (h:∀v' w',R v' w'->K (a.put o.dst v') w') :
  if Region.wanted o (yielded ops a.tmps)=true then Oper.wp P o a w K Q else E:=by
 have hw:Region.wanted o (yielded ops a.tmps)=true:=by simp[Region.wanted,hgd]
 rw [if_pos hw];obtain ⟨v',w',h1,h2⟩:=hr;unfold Oper.wp execOp;simp only[ho,resolve,invoke,builtin,Sem.run_bind,Sem.run_pure,Result.andThen_ok,List.map_toArray,List.map_cons,List.map_nil,hs,hx,h1];exact h v' w' h2
theorem xI {base:Nat} {v:Value} {P:List vY} (A:Option Addr) (cap:Nat) (L:List vY) (wr:World) (h:kg wr base v P) (hat:iY wr A L) (hA:A=none->cap=0) (hb:base<=wr.heap.size) (hl:P.length<=20000000) (hL:L.length<=20000000) :
  ∃ v' w2,(Builtin.append_ #[135,135] 135 #[v,.slice A L.length cap]).run Tryz.prog wr=.ok v' w2/\kg w2 base v' (P++L)/\wr.grownBy w2 v.ownBlock:=by
 obtain ⟨i0,hi,hz0,hz1,hz2⟩:=info_parts tH
 cases A with
 | none =>
  have j_:L=[]:=by
   rcases hat with h|⟨b',o',h,_⟩
   ·exact h
   ·cases h
  subst j_;obtain rfl:cap=0:=hA rfl;obtain ⟨A',c',rfl,hpc,_,_,_⟩:=h.at_;refine ⟨_,wr,?_,by rw[List.append_nil];exact h,World.grownBy.refl _ _⟩
  cases A'<;>simp[Builtin.append_,run_underlying Tryz.underlying135,sizeOf,typeInfo,hi,Builtin.lenOf,Builtin.firstCells,storeCells,hpc]
 | some ad =>
  have tf:∀j u,(bP L)[j]?=some u->wr.cell? (ad.add j)=some u:=by
   intro j u hu;rcases hat with h|⟨b',o',hAe,hb,h2⟩
   ·subst h;simp[bP]at hu
   ·obtain rfl:ad=⟨b',o',none⟩:=Option.some.inj hAe
    rw [Addr.add_lit];have hj:j<L.length:=by
     rcases Nat.lt_or_ge j L.length with h'|h'
     ·exact h'
     ·rw[List.getElem?_eq_none (by rw[mw];exact h')]at hu;cases hu
    exact (h2 j hj).trans ((kI L j hj).symm.trans hu)
  obtain ⟨v',w2,hr,h2,h3,_⟩:=run_append_own (P:=Tryz.prog) wr base 135 135 9 i0 (.string ⟨#[]⟩) 1 16 Tryz.underlying135 hi hz0 hz1 hz2 rfl (by decide) _ P.length _ h ad L.length cap (bP L) (by rw[mw,Nat.mul_one]) tf (kH L) (by unfold maxLen;omega) (by omega) hb;refine ⟨v',w2,hr,?_,h3⟩;unfold kg;rw [kf,List.length_append];exact h2
def vc (j6:Nat) (d:List UInt8):Int:=if 8<j6+1 then 12 else if d=[] then 5 else 0
def XW (w:World) (b bW:Nat) (cu cg at_:Int) (j6:Nat) (must:Bool) (l:List vY) (d:List UInt8) (e:Ending) (w':World):Prop:=
 Only [b] w w'/\e=.returned (.int .i64 (vc j6 d))/\(vc j6 d=0->∃A' cap',dG w' b bW cu cg (if d.head?=some 47 then 1 else at_) A' (bg d++l).length cap' ((j6+1:Nat):Int) (must || (l.isEmpty&&fg d))/\iY w' A' (bg d++l)/\(A'=none->cap'=0)/\TY A' b/\(bg d++l).length<=cap')
theorem Bp (b bW:Nat) (cu cg at_:Int) (A:Option Addr) (cap j6:Nat) (must:Bool) (l:List vY) (d:List UInt8) (w:World) (ht:dG w b bW cu cg at_ A l.length cap j6 must) (hat:iY w A l) (hA:A=none->cap=0) (hoff:TY A b)
  (hl:l.length<=10000000) (hd:d.length<=1048576) (hh:j6<=8) :
  Calls Tryz.prog 190 #[.pointer (some ⟨b,0,none⟩),bs d] w (XW w b bW cu cg at_ j6 must l d):=by
 have T5:=Has.cell ht 5;have F5:=Has.free ht 5;have Tz:=Has.lt ht;have q1:IntKind.i64.wrap ((j6:Int)+1)=((j6+1:Nat):Int):=by rw[IntWalk.i64_in _ (by omega)];omega
 obtain ⟨h1,TZ⟩:∃h1:Nat,h1=j6+1:=⟨_,rfl⟩;rw [<-TZ]at q1;obtain⟨W1,bL⟩:=zE (w.setCell ⟨b,5,none⟩ (.int .i64 (h1:Int)));have O1:Only [b] w W1:=by rw[bL];exact Only.setCell _ _ _ _
 have T1:dG W1 b bW cu cg at_ A l.length cap (h1:Int) must:=by rw[bL];exact Has.setCell ht 5 (.int .i64 (h1:Int))
 have yZ:iY W1 A l:=hat.only O1 hoff;have Qt:Hid (vc j6 d=if 8<h1 then 12 else if d=[] then 5 else 0):=by show _=_;rw[TZ];rfl
 have V9:=zH TZ;have hh2:h1<=9:=by omega
 clear TZ hat;go_enter Tryz.func190,Tryz.ntmps190;go_upto_region 2 with fail;rw [<-bL];clear bL T5 F5 q1;have T5:=Has.cell T1 5;have V_:=Has.lt T1;have e0:∀e,vc j6 d=e->e≠0->∀w',Only [b] w w'->XW w b bW cu cg at_ j6 must l d (.returned (.int .i64 e)) w':=fun e he h0 w' ho=>⟨ho,by rw[he],fun k=>absurd (he.symm.trans k) h0⟩
 have HS:=zH e0;clear e0
 by_cases c1:8<h1
 ·have e1:Hid (vc j6 d=12):=by show _=_;rw[Qt.out,if_pos c1]
  have t1:(8:Int)<(h1:Int):=by omega
  clear c1 Qt;go_wp2_with fail;go_ret;exact HS.out _ e1.out (by decide) _ O1
 have t1:¬(8:Int)<(h1:Int):=by omega
 have Qu:Hid (vc j6 d=if d=[] then 5 else 0):=by show _=_;rw[Qt.out,if_neg c1]
 clear Qt c1
 cases d with
 | nil =>
  have e1:Hid (vc j6 []=5):=by show _=_;rw[Qu.out,if_pos rfl]
  have z0:(bs []).toList=[]:=bk [];clear Qu;go_wp2_with fail;go_ret;exact HS.out _ e1.out (by decide) _ O1
 | cons c t =>
  have e1:Hid (vc j6 (c::t)=0):=by show _=_;rw[Qu.out,if_neg (by simp)]
  have z0:(bs (c::t)).toList.isEmpty=false:=by rw[bk];rfl
  have hks:0<(bs (c::t)).size:=by rw[bi];simp
  have hg:(bs (c::t))[0]=c:=rfl;clear Qu HS;obtain ⟨FI,y_⟩:∃a:Int,a=if (c::t).head?=some 47 then 1 else at_:=⟨_,rfl⟩
  have HA2:=zH y_;obtain ⟨v,hv⟩:∃v:Bool,v=(c == 47):=⟨_,rfl⟩;have pX:(((bs (c::t))[0].toNat:Int) == 47)=v:=by rw[hg,hv];exact xA (c:=c) (d:=47)
  have Qv:Hid (v=true->FI=1):=by show _->_;intro k;rw[hv]at k;rw[y_,if_pos (by simpa using k)]
  have LR:Hid (v=false->FI=at_):=by show _->_;intro k;rw[hv]at k;rw[y_,if_neg (by simpa using k)]
  clear hg y_ hv;go_upto_if 21 with fail;clear T5 V_;go_cut [] (fun wc=>dG wc b bW cu cg FI A l.length cap (h1:Int) must/\iY wc A l/\Only [b] w wc)
  case first =>
   cases v
   ·have e2:=zH (LR.out rfl)
    clear LR Qv;go_wp2_with fail;go_meet;exact ⟨by rw[e2.out];exact T1,yZ,O1⟩
   ·have e2:=zH (Qv.out rfl)
    clear LR Qv;have F3:=Has.free T1 3;have T3:=Has.cell T1 3;have V_:=Has.lt T1;go_wp2_with fail;go_meet;have T2:dG (W1.setCell ⟨b,3,none⟩ (.int .i64 1)) b bW cu cg FI A l.length cap (h1:Int) must:=by rw[e2.out];exact Has.setCell T1 3 (.int .i64 1)
    exact ⟨T2,yZ.only (Only.setCell _ _ _ _) hoff,O1.then (Only.setCell _ _ _ _)⟩
  case rest =>
   obtain ⟨T2,Ie,O2⟩:=hcut;obtain⟨lb,hlb⟩:=zE l.isEmpty;have t2:((l.length:Int) == 0)=lb:=by rw[hlb];cases l<;>simp<;>omega
   obtain⟨sl,xm⟩:=zE (fg (c::t));obtain⟨m2,bU⟩:=zE (must || (l.isEmpty&&fg (c::t)));have HM:Hid (m2=(must || (lb&&sl))):=by show _=_;rw[bU,hlb,xm]
   have HM2:=zH bU;have HSL:=zH xm;have T5:=Has.cell T2 4;have V_:=Has.lt T2;clear hlb xm bU LR Qv T1 yZ O1;go_upto_if 30 with fail;clear T5 V_;go_cut [] (fun wd=>dG wd b bW cu cg FI A l.length cap (h1:Int) m2/\iY wd A l/\Only [b] w wd)
   case first =>
    cases lb
    ·have e2:Hid (m2=must):=by show _=_;rw[HM.out];simp
     go_wp2_with fail;go_meet;exact ⟨by rw[e2.out];exact T2,Ie,O2⟩
    ·have T6:=Has.cell T2 6
     have F6:=Has.free T2 6;have V_:=Has.lt T2;have h6:dG (wc.setCell ⟨b,6,none⟩ (.bool m2)) b bW cu cg FI A l.length cap (h1:Int) m2:=Has.setCell T2 6 (.bool m2)
     cases must
     ·have e2:Hid (m2=sl):=by show _=_;rw[HM.out];rfl
      go_wp2_with fail;refine (uY (c::t) _ (by simp at hd|-;omega)).mono ?_;rw [<-HSL.out,<-e2.out];rintro e w4 ⟨rfl,b4⟩;have T3:=dG.ext T2 b4;have T6:=Has.cell T3 6;have F6:=Has.free T3 6;have V_:=Has.lt T3;have h6:dG (w4.setCell ⟨b,6,none⟩ (.bool m2)) b bW cu cg FI A l.length cap (h1:Int) m2:=Has.setCell T3 6 (.bool m2);go_wp2_with fail;go_meet;exact ⟨h6,(Ie.ext b4).only (Only.setCell _ _ _ _) hoff,(O2.ext b4).then (Only.setCell _ _ _ _)⟩
     ·have e2:Hid (m2=true):=by show _=_;rw[HM.out];rfl
      rw [e2.out]at h6;go_wp2_with fail;go_meet;exact ⟨by rw[e2.out];exact h6,Ie.only (Only.setCell _ _ _ _) hoff,O2.then (Only.setCell _ _ _ _)⟩
   case rest =>
    clear T2 Ie O2;obtain ⟨T2,Ie,O2⟩:=hcut;go_upto_region 10 with fail;have T4:=Has.cell T2 4;have Tz:=Has.lt T2;have bL:Ext wc wc.drew:=(Ext.refl _).drew;have cQ:Ext wc (wc.drew.alloc (.cells #[.string (bs (c::t))] 9)):=bL.alloc _;have hpl:=kM (c::t);have KS:Hid (∀w',Ext wc w'->w'.cell? ⟨b,4,none⟩=some (.slice A l.length cap)):=fun w' h=>(h.cell Tz).trans T4
    have OC:=KS.out _ cQ;have FB:=KS.out _ bL;go_region_law (first|(go_simp;go_at_call 187;refine (uZ (c::t) _).mono ?_;rintro e wp ⟨rfl,rfl⟩)|(go_simp;go_at_call 186;refine (sV _ (c::t) (by simp at hd|-;omega) _ (by simp) ((Has.new _ _).cell 0)).mono ?_;rintro e wk ⟨v3,rfl,nj,XX⟩;have mq:=cQ.trans XX;have PX:=KS.out _ mq;have hzk:=(dG.ext T2 mq);have aaY:=Has.lt hzk)|(refine wE _ (by rfl) _ _ 135 (by rfl) _ _ (by rfl) (by rfl) (xI A cap l _ nj (Ie.ext mq) hA XX.size (by simp at hd hpl|-;omega) (by omega)) ?_;rintro v9 w9 ⟨JC,JD⟩;have XY:dG w9 b bW cu cg FI A l.length cap (h1:Int) m2:=Ic (dG.ext T2 mq) JD (jI nj (dG.ext T2 mq) (by decide));have hc9:=Has.cell XY 4;have hf9:=Has.free XY 4;have hz9:=Has.lt XY;obtain⟨A9,c9,rfl,aaZ,acA,aa0,aa1⟩:=kg.at_ JC))
    all_goals
     have E9:Ext wc w9:=mq.grown JD (fun g hv=>by have:=(World.ownsRow.lt nj g hv).1;simp at this;omega);have aa2:=jI JC XY (by decide);have FJ:TY A9 b:=fun x hx=>by
      intro e;refine aa2 ?_;rw [hx,<-e];rfl
     have pE:dG (w9.setCell ⟨b,4,none⟩ (.slice A9 ((bg (c::t)).length+l.length) c9)) b bW cu cg FI A9 (bg (c::t)++l).length c9 (h1:Int) m2:=by
      rw [List.length_append];exact Has.setCell XY 4 (.slice A9 ((bg (c::t)).length+l.length) c9)
     have O9:Only [b] w (w9.setCell ⟨b,4,none⟩ (.slice A9 ((bg (c::t)).length+l.length) c9)):=(O2.ext E9).then (Only.setCell _ _ _ _);have T7:=aa0.only (Only.setCell w9 b 4 (.slice A9 ((bg (c::t)).length+l.length) c9)) FJ;clear T4 OC FB PX aaY hc9 hf9 hz9;go_wp2_with fail;go_ret;refine ⟨O9,by rw[e1.out];rfl,fun _=>⟨A9,c9,?_,T7,aa1,FJ,aaZ⟩⟩;rw [<-HA2.out,<-HM2.out,<-V9.out];exact pE
end
open Go.ChangeShapes Go.WideShapes Go.ChangeAt Go.RowKit
abbrev fy (x:iz):List Value:=[.int .i64 x.dir,.string (bs x.name),.int .i64 x.no,.bool x.fR]
theorem sW:(Tryz.prog.info? 82).map (·.size)=some 4:=by kernel_rfl
theorem Mm (x:iz):∀u∈fy x,u.oneCell'=true:=by
 intro u hu;simp only[List.mem_cons,List.not_mem_nil,or_false]at hu;rcases hu with rfl|rfl|rfl|rfl<;>rfl
theorem Has.Mn {w:World} {b:Nat} {t:TypeId} {x:iz} (y:iz) (h:Has w b (.cells (fy x).toArray t)):Has (w.setCells b 0 (fy y)) b (.cells (fy y).toArray t):=by
 have h0:=Has.setCell h 0 (.int .i64 y.dir);have h1:=Has.setCell h0 1 (.string (bs y.name));have h2:=Has.setCell h1 2 (.int .i64 y.no);have h3:=Has.setCell h2 3 (.bool y.fR);exact h3
theorem fj {w:World} {b:Nat} {t:TypeId} {x:iz} (y:iz) (h:Has w b (.cells (fy x).toArray t)) :
  Has ((((w.setCell ⟨b,0,none⟩ (.int .i64 y.dir)).setCell ⟨b,1,none⟩ (.string (bs y.name))).setCell ⟨b,2,none⟩ (.int .i64 y.no)).setCell ⟨b,3,none⟩ (.bool y.fR)) b (.cells (fy y).toArray t)/\Only [b] w ((((w.setCell ⟨b,0,none⟩ (.int .i64 y.dir)).setCell ⟨b,1,none⟩ (.string (bs y.name))).setCell ⟨b,2,none⟩ (.int .i64 y.no)).setCell ⟨b,3,none⟩ (.bool y.fR)):=
 ⟨h.Mn y,bH (fy y) 0 w⟩
theorem b_ {ops:Array Oper} {rest:List Oper} {op:Oper} {a:Act} {w:World} {Q:Exit->Act->World->Prop} (hgd:op.guard=none) (x y:Operand) (ho:op.op=.store 82 x y)
  (b:Nat) (d d':iz) (hx:a.eval x=.pointer (some ⟨b,0,none⟩)) (hy:a.eval y=.agg (fy d').toArray) (hb:Has w b (.cells (fy d).toArray 82))
  (h:∀w',Has w' b (.cells (fy d').toArray 82)->Only [b] w w'->wpList Tryz.prog ops Q rest (a.put op.dst undef) w'):wpList Tryz.prog ops Q (op::rest) a w:=by
 refine wpList_store_mid hgd 82 x y ho b 0 (fy d').toArray hx hy hb.there sW (all_oneCell_toArray (cs:=fy d') (Mm d')) ?_;exact h _ (hb.Mn d') (bH (fy d') 0 w)
theorem cB {fn:Func} {p t:Tmp} (h:fn.results=#[.cell p 82,.tmp t]) (tmps:Array Value) (w:World) (g:Nat) (d:iz) (v:Value)
  (hp:tmps.getD p undef=.pointer (some ⟨g,0,none⟩)) (hv:tmps.getD t undef=v) (hg:Has w g (.cells (fy d).toArray 82)) :
  (results fn tmps).run Tryz.prog w=.ok (.tuple #[.agg (fy d).toArray,v]) w:=
 kJ h tmps w g 82 _ _ v hp hv hg Tryz.underlying82 rfl sW
theorem qF {d p:List UInt8} (h:p∈bg d):p.length<=d.length:=by
 have key:∀(L:List (List UInt8)),p∈L->p.length<=total L:=by
  intro L hp
  induction L with
  | nil=>cases hp
  | cons x L ih =>
   unfold total;rcases List.mem_cons.1 hp with rfl|hp
   ·omega
   ·have:=ih hp;omega
 have:=key _ h;have:=Bj d;omega
theorem vg (bl o n m cap:Nat) (h0:n=m+1) (hc:n<=cap):∃X:Addr,(∀W,(Instr.slice 135 (.slice (some ⟨bl,o,none⟩) n cap) (some (.int .i64 1)) none none).run Tryz.prog W=.ok (.slice (some X) m (cap-1)) W)/\(0<m->X=⟨bl,o+1,none⟩)/\X.block=bl:=by
 have h4:n-1=m:=by omega
 have hu:=Tryz.underlying135;have h1:(1:Int)<=n:=by omega
 have hi:(Tryz.prog.info? 9).map (·.size)=some 1:=by kernel_rfl
 by_cases h:cap=1
 ·refine ⟨⟨bl,o,none⟩,fun W=>?_,fun h2=>by omega,rfl⟩
  subst h;go_simp;intro h;omega
 ·refine ⟨⟨bl,o+1,none⟩,fun W=>?_,fun _=>rfl,rfl⟩
  go_simp;intro h;omega
def Ig:Value->Nat
 | .slice _ n _=>n
 | _=>0
def Mo (w:World) (b:Nat):Nat:=(9-(intOf ((w.cell? ⟨b,5,none⟩).getD undef)).toNat)*20000000+Ig ((w.cell? ⟨b,4,none⟩).getD undef)
theorem qG {w:World} {b bW:Nat} {cu cg at_:Int} {A:Option Addr} {len cap h:Nat} {m:Bool} (t:dG w b bW cu cg at_ A len cap (h:Int) m):Mo w b=(9-h)*20000000+len:=by
 have h5:=Has.cell t 5;have h4:=Has.cell t 4;unfold Mo;rw [h5,h4];simp [intOf,Ig]
def iT (w:World) (R:iz×Int):Ending->World->Prop:=aI w (.tuple #[.agg (fy R.1).toArray,.int .i64 R.2])
theorem iT.mk {w w0 w':World} {b8:Nat} {R:iz×Int} {d:iz} {e:Int} (hE:Ext w w0) (hb:w.heap.size<=b8) (O:Only [b8] w0 w') (h:R=(d,e)):iT w R (.returned (.tuple #[.agg (fy d).toArray,.int .i64 e])) w':=by
 subst h;exact ⟨rfl,O.after hE (fun x hx=>by rw[List.mem_singleton]at hx;omega)⟩
theorem Bq {c:Nat} (B:Nat) (g:bG) (S:ae) (cu cg:Int) (p0:List UInt8) (eV:Bool) (w:World) (h:dM w B g S) (T:dy c S) (hc:c<=1000000) (hp0:p0.length<=1000000) :
  Calls Tryz.prog 155 #[.pointer (some ⟨g.bW,0,none⟩),.agg #[cu,cg],bs p0,.bool eV] w (iT w (dV S cu cg p0 eV)):=by
 obtain ⟨W0,aH⟩:∃W,W=(w.alloc (.cells #[cu,cg] 27)).alloc (.cells #[.int .i64 0,.string ⟨#[]⟩,.int .i64 0,.bool false] 82):=⟨_,rfl⟩;obtain ⟨b5,gQ⟩:∃b,b=w.heap.size:=⟨_,rfl⟩;obtain ⟨b8,fM⟩:∃b,b=w.heap.size+1:=⟨_,rfl⟩;have E0:Ext w W0:=by rw[aH];exact ((Ext.refl _).alloc _).alloc _
 have F0:Has W0 b8 (.cells (fy bC).toArray 82):=by rw[aH,fM];have:=Has.new (w.alloc (.cells #[cu,cg] 27)) (.cells #[.int .i64 0,.string ⟨#[]⟩,.int .i64 0,.bool false] 82);rw[World.size_alloc]at this;exact this
 have C0:Has W0 b5 (.cells #[cu,cg] 27):=by rw[aH,gQ];exact (Has.new w _).alloc _
 have l6:w.heap.size<=b8:=by omega
 obtain⟨R,hR⟩:=zE (dV S cu cg p0 eV);rw [<-hR];have HR:=zH hR;obtain⟨q,hq⟩:=zE (ku p0);have HQ:=zH hq;have j_:((S.ah.length:Int) == 0)=false:=by have:=T.ah;simpa using (show ¬(S.ah.length:Int)=0 by omega)
 clear hR;go_enter Tryz.func155,Tryz.ntmps155;go_upto_region 1 with fail;rw [<-aH,<-gQ];rw [show b5+1=b8 by omega];clear aH gQ fM;refine wp_scope_straight ?_;go_wp2_with fail;refine (lL B g S _ (h.ext E0) T.ah).mono ?_;rintro e w1 ⟨rfl,b1⟩;go_wp2_with fail;refine (H7 p0 _ hp0).mono ?_;rw [<-hq];rintro e w2 ⟨rfl,b2⟩;have E2:=(E0.trans b1).trans b2;have F2:=(F0.ext b1).ext b2;have C2:=(C0.ext b1).ext b2;clear hq F0 C0 E0 b1 b2 j_
 by_cases tw:q=0
 case neg =>
  have t0:(q == 0)=false:=by simpa using tw
  have mB:(q != 0)=true:=by simpa using tw
  have e1:Hid (R=(bC,q)):=by show _=_;rw[HR.out,HQ.out];unfold dV;rw[if_neg (by rw[<-HQ.out];exact tw)]
  clear tw;go_wp2_with (refine b_ rfl _ _ rfl b8 bC bC rfl rfl F2 ?_;intro w9 R9 O9);refine bodyPost_ret (v:=.tuple #[.agg (fy bC).toArray,.int .i64 q]) (cB Tryz.results155 _ _ b8 bC _ rfl rfl R9) rfl ?_;exact iT.mk E2 l6 O9 e1.out
 have t0:(q == 0)=true:=by simpa using tw
 have mB:(q != 0)=false:=by simpa using tw
 have sX:Hid (R=dg S cu cg eV 1 (bg p0) 0 (fg p0)):=by show _=_;rw[HR.out];unfold dV;rw[if_pos (by rw[<-HQ.out];exact tw)]
 have JG:Hid (∀p∈bg p0,p.length<=1100000):=by show ∀p∈_,_;intro p hp;have:=qF hp;omega
 have hpl:=kM p0;clear HR HQ tw;go_upto_region 6 with fail;have X0:=C2.cell 0;have X1:=C2.cell 1;have Xz:=C2.lt;have bL:Ext w2 w2.drew:=(Ext.refl _).drew;have cQ:Ext w2 (w2.drew.alloc (.cells #[bs p0] 9)):=bL.alloc _;have KS:Hid (∀w',Ext w2 w'->w'.cell? ⟨b5,0,none⟩=some (.int .i64 cu)/\w'.cell? ⟨b5,1,none⟩=some (.int .i64 cg)):=fun w' h=>⟨(h.cell Xz).trans X0,(h.cell Xz).trans X1⟩
 go_region_held3 (fun w'=>w'.cell? ⟨b5,0,none⟩=some (.int .i64 cu)/\w'.cell? ⟨b5,1,none⟩=some (.int .i64 cg))
  ((first|exact KS.out _ bL|exact KS.out _ cQ|exact KS.out _ mq|exact KS.out _ OQ|exact KS.out _ (OQ.alloc _)))
  ((first|(go_at_call 187;refine (uZ p0 _).mono ?_;rintro e wp ⟨rfl,rfl⟩)|(go_at_call 186;refine (sV _ p0 (by omega) _ (by simp) ((Has.new _ _).cell 0)).mono ?_;rintro e wk ⟨v3,rfl,nj,XX⟩;have mq:=cQ.trans XX;obtain⟨A3,c3,rfl,DI,T_,Mp,Ua⟩:=kg.at_ nj)|(go_at_call 188;refine (uY p0 _ (by omega)).mono ?_;rintro e w4 ⟨rfl,bs4⟩;have OQ:=mq.trans bs4)))
 obtain ⟨W5,jJ⟩:∃W,W=w4.alloc (.cells #[.pointer (some ⟨g.bW,0,none⟩),cu,cg,.int .i64 1,.slice A3 (bg p0).length c3,.int .i64 0,.bool (fg p0)] 255):=⟨_,rfl⟩;obtain⟨b,hb⟩:=zE w4.heap.size;have T5:dG W5 b g.bW cu cg 1 A3 (bg p0).length c3 0 (fg p0):=by rw[jJ,hb];exact Has.new _ _
 have OJ:Ext w4 W5:=by rw[jJ];exact (Ext.refl _).alloc _
 have E5:Ext w W5:=(E2.trans OQ).trans OJ;have F5:=(F2.ext OQ).ext OJ;have XZ:=(Mp.ext bs4).ext OJ;have X7:TY A3 b:=fun x hx=>by
  have:=(World.ownsRow.lt nj x.block (by rw[hx];rfl)).2;have:=bs4.size;omega
 have o7:w.heap.size<=b:=by have:=(E2.trans OQ).size;omega
 rw [<-jJ,<-hb];have Mq:Hid ((bg p0).length<=1050000):=by show _<=_;omega
 obtain⟨l0,j_⟩:=zE (bg p0);obtain⟨m0,hm0⟩:=zE (fg p0);rw [<-j_]at T5 XZ sX JG Mq DI;rw [<-hm0]at T5 sX;have Ub:=zH DI;clear jJ hb X0 X1 Xz bL cQ KS mq OQ DI T_ Mp nj XX bs4 OJ E2 F2 C2 hpl j_ hm0 t0 mB;go_wp2_with fail;refine wp_label ?_;go_wp2_with fail;go_loopw [] (fun wr=>∃(at_:Int) (l:List (List UInt8)) (h:Nat) (m:Bool) (A:Option Addr) (cap:Nat),dG wr b g.bW cu cg at_ A l.length cap (h:Int) m/\iY wr A l/\(A=none->cap=0)/\l.length<=cap/\TY A b/\Hid (∀p∈l,p.length<=1100000)/\l.length<=1050000*(h+1)/\h<=8/\Hid (R=dg S cu cg eV at_ l h m)/\Has wr b8 (.cells (fy bC).toArray 82)/\Ext w wr) (fun wr=>Mo wr b)
 case atStart=>exact⟨1,l0,0,m0,A3,c3,T5,XZ,Ua,Ub.out,X7,JG,by have:=Mq.out;omega,by decide,sX,F5,E5⟩
 case round =>
  obtain ⟨at_,l,hp,m,A,cap,Tr,hat,hA0,hlc,hoff,HL,FC,Wb,HR,Fr,Er⟩:=hrel;have T4:=Has.cell Tr 4;have Tz:=Has.lt Tr;have hMr:=zH (qG Tr);have qZ:b≠b8:=gb Tr Fr (by decide)
  cases l with
  | nil =>
   have e1:Hid (R=(⟨0,[],at_,true⟩,0)):=by show _=_;rw[HR.out,qD]
   have T3:=Has.cell Tr 3;clear HR;go_wp2_with (refine b_ rfl _ _ rfl b8 bC ⟨0,[],at_,true⟩ rfl rfl Fr ?_;intro w9 R9 O9);refine bodyPost_ret (v:=.tuple #[.agg (fy ⟨0,[],at_,true⟩).toArray,.int .i64 0]) (cB Tryz.results155 _ _ b8 ⟨0,[],at_,true⟩ _ rfl rfl R9) rfl ?_;exact iT.mk Er l6 O9 e1.out
  | cons p l =>
   obtain ⟨bl,o,rfl,mV,hcl⟩:∃bl o,A=some ⟨bl,o,none⟩/\bl<wr.heap.size/\∀k,(h:k<(p::l).length)->wr.cell? ⟨bl,o+k,none⟩=some (.string (bs (p::l)[k])):=by
    rcases hat with h0|h0
    ·cases h0
    ·exact h0
   obtain⟨n,hn⟩:=zE ((p::l).length);have lM:n=l.length+1:=by rw[hn];rfl
   have hc0:wr.cell? ⟨bl,o,none⟩=some (.string (bs p)):=hcl 0 (by simp);obtain ⟨X,xm,hX,hXb⟩:=vg bl o n l.length cap lM (by omega);have hne:bl≠b:=hoff _ rfl;have hpl:p.length<=1100000:=HL.out p (List.mem_cons_self ..);obtain ⟨W1,bL⟩:∃W,W=wr.setCell ⟨b,4,none⟩ (.slice (some X) l.length (cap-1)):=⟨_,rfl⟩;have O1:Only [b] wr W1:=by rw[bL];exact Only.setCell _ _ _ _
   have T1:dG W1 b g.bW cu cg at_ (some X) l.length (cap-1) (hp:Int) m:=by rw[bL];exact Has.setCell Tr 4 (.slice (some X) l.length (cap-1))
   have yZ:iY W1 (some X) l:=by
    by_cases j_:l=[]
    ·exact .inl j_
    ·have hpos:0<l.length:=List.length_pos_iff.2 j_
     rw [hX hpos];refine .inr ⟨bl,o+1,rfl,by have:=O1.size;omega,fun k hk=>?_⟩;have h1:=hcl (k+1) (by simp;omega);have e:W1.heap[bl]?=wr.heap[bl]?:=O1.block bl mV (by rw[List.mem_singleton];exact hne);rw [show o+1+k=o+(k+1) by omega];have e2:W1.cell? ⟨bl,o+(k+1),none⟩=wr.cell? ⟨bl,o+(k+1),none⟩:=by simp[World.cell?,e]
     rw [e2];exact h1
   have Sm:TY (some X) b:=fun x hx=>by cases hx;rw[hXb];exact hne
   have F1:=O1.has Fr (by rw[List.mem_singleton];exact Ne.symm qZ);have E1:Ext w W1:=O1.after Er (fun x hx=>by rw[List.mem_singleton]at hx;omega);have X_:=zH (show l.length<=cap-1 by omega);have uF:=zH (show l.length+1<=1050000*(hp+1) by omega);have Uc:Hid (∀q∈l,q.length<=1100000):=by show ∀q∈l,_;intro q hq;exact HL.out q (List.mem_cons_of_mem _ hq)
   have F4:=Has.free Tr 4;have q0:(0:Int)<(n:Int):=by omega
   rw [<-hn]at T4;obtain⟨lb,hlb⟩:=zE l.isEmpty;have tl:((l.length:Int) == 0)=lb:=by rw[hlb];cases l<;>simp<;>omega
   have DJ:=zH hlb;have T4b:=Has.cell T1 4;clear hat hcl hX hXb hlc FC HL hoff hA0 hlb lM hn;go_upto_region 11 with fail;rw [<-bL];have K1:=h.ext E1;have HW1:=zH bL;have Br:=zH Sm;clear bL T4 T4b F4 tl xm hc0 Tz Tr Fr q0 Sm hne;have tl:((l.length:Int) == 0)=lb:=by rw[DJ.out];cases l<;>simp<;>omega
   go_wp2_with fail;refine (Ia B g S b cu cg at_ (some X) l.length (cap-1) hp m p _ K1 T hc T1 (by omega)).mono ?_;rintro e w2' ⟨rfl,b2⟩;obtain⟨x,hx⟩:=zE (eE S cu cg at_ p);obtain ⟨z,hz⟩:∃z,z=if x=0 then stepG S at_ p else 0:=⟨_,rfl⟩
   rw [<-hx];rw [<-hz];have HX:=zH hx;have HZ:=zH hz;have K2:=K1.ext b2;obtain ⟨_,_,cd,h3,_⟩:=id K2;have v0:w2'.cell? ⟨g.bW,0,none⟩=some (.pointer (some ⟨g.bT,0,none⟩)):=h3.cell 0;have vz:=h3.lt;have T2:=dG.ext T1 b2;have F2:=F1.ext b2;have E2:=E1.trans b2;clear hx hz h3 T1 F1 E1 K1;go_wp2_with fail;refine (fK B g.bT g.bM S.nodes S.last z _ K2.2.1).mono ?_;rintro e w3 ⟨A4,c4,rfl,qy,b3⟩;obtain⟨nd,hnd⟩:=zE (ac S.nodes z);obtain⟨is,Ih⟩:=zE (aJ S.nodes z);rw [<-hnd]at qy;rw [<-hnd,<-Ih];have OS:=zH hnd;have Ud:=zH Ih;obtain⟨W4,ij⟩:=zE (w3.alloc (.cells #[nd.no,nd.dev,nd.kind,nd.mode,nd.uid,nd.gid,nd.mtime,nd.ctime,nd.ag,nd.up,bs nd.data,.slice A4 nd.af.length c4] 66));obtain ⟨b16,Ue⟩:∃b,b=w3.heap.size:=⟨_,rfl⟩;have Fx:Ext w3 W4:=by rw[ij];exact (Ext.refl _).alloc _
   have N4:Has W4 b16 (.cells #[nd.no,nd.dev,nd.kind,nd.mode,nd.uid,nd.gid,nd.mtime,nd.ctime,nd.ag,nd.up,bs nd.data,.slice A4 nd.af.length c4] 66):=by rw[ij,Ue];exact Has.new _ _
   have K4:=(K2.ext b3).ext Fx;have T4:=dG.ext (dG.ext T2 b3) Fx;have F4:=(F2.ext b3).ext Fx;have E4:=(E2.trans b3).trans Fx;have DK:=((yZ.ext b2).ext b3).ext Fx;clear hnd Ih v0 vz T2 F2 E2 K2 yZ qy;go_upto_region 13 with fail;rw [<-ij,<-Ue];clear ij Ue b2 b3 Fx O1
   by_cases aV:x=0
   case neg =>
    have t0:(x == 0)=false:=by simpa using aV
    have mB:(x != 0)=true:=by simpa using aV
    have e1:Hid (R=(bC,x)):=by show _=_;rw[HR.out,qE (by rw[<-HX.out];exact aV),HX.out]
    clear aV HR;go_wp2_with (refine b_ rfl _ _ rfl b8 bC bC rfl rfl F4 ?_;intro w9 R9 O9);refine bodyPost_ret (v:=.tuple #[.agg (fy bC).toArray,.int .i64 x]) (cB Tryz.results155 _ _ b8 bC _ rfl rfl R9) rfl ?_;exact iT.mk E4 l6 O9 e1.out
   have t0:(x == 0)=true:=by simpa using aV
   have mB:(x != 0)=false:=by simpa using aV
   have tq:Hid (eE S cu cg at_ p=0):=by show _=_;rw[<-HX.out];exact aV
   have TA:Hid (z=stepG S at_ p):=by show _=_;rw[HZ.out,if_pos aV]
   obtain ⟨XP,OT⟩:∃Y,Y=bs p:=⟨_,rfl⟩;have tX:(XP.toList == [46,46])=(p == [46,46]):=by rw[OT];exact ig.2.2.1
   have Uf:=zH OT;rw [<-OT];clear aV HZ HX OT
   by_cases c2:p=[46,46]
   ·have t2:(XP.toList == [46,46])=true:=by rw[tX,c2];rfl
    have hz2:z=aZ S at_:=by rw[TA.out];unfold stepG;rw[if_pos c2]
    have sX:Hid (R=dg S cu cg eV z l hp m):=by show _=_;rw[HR.out,FH tq.out c2,hz2]
    have c3:=Has.cell T4 3;have f3:=Has.free T4 3;have cz:=Has.lt T4;clear tX c2 hz2 HR;go_wp2_with fail;have O9:Only [b] W4 (W4.setCell ⟨b,3,none⟩ (.int .i64 z)):=Only.setCell _ _ _ _;have T9:dG (W4.setCell ⟨b,3,none⟩ (.int .i64 z)) b g.bW cu cg z (some X) l.length (cap-1) (hp:Int) m:=Has.setCell T4 3 (.int .i64 z);go_roundw
    case rel=>exact⟨z,l,hp,m,some X,cap-1,T9,DK.only O9 Br.out,by simp,X_.out,Br.out,Uc,by have:=uF.out;omega,Wb,sX,O9.has F4 (by rw[List.mem_singleton];exact Ne.symm qZ),O9.after E4 (fun x hx=>by rw[List.mem_singleton]at hx;omega)⟩
    case measure=>rw[qG T9,hMr.out];simp
   have t2:(XP.toList == [46,46])=false:=by rw[tX];simpa using c2
   have rU:=zH c2;have Bt:Hid (z=bp S at_ p):=by show _=_;rw[TA.out];unfold stepG;rw[if_neg c2]
   clear tX c2 TA;have c3:=Has.cell T4 3;have c6:=Has.cell T4 6;have cz:=Has.lt T4
   cases is with
   | false =>
    have HI:Hid (aJ S.nodes (bp S at_ p)=false):=by show _=_;rw[<-Bt.out];exact Ud.out.symm
    cases lb with
    | true =>
     have e1:Hid (R=(⟨at_,p,0,m⟩,0)):=by
      show _=_;rw [HR.out,xB tq.out rU.out HI.out];have:=DJ.out
      cases l with
      | nil=>rfl
      | cons a l=>cases this
     clear HR;have ED:Ext W4 W4.drew:=(Ext.refl _).drew;have FD:=F4.ext ED;go_upto_region 18 with fail;rw [Uf.out];go_still_tail 10,(by kernel_rfl);change wpList _ _ _ _ _ W4.drew;go_wp2_with (refine b_ rfl _ _ rfl b8 bC ⟨at_,p,0,m⟩ rfl rfl FD ?_;intro w9 R9 O9);refine bodyPost_ret (v:=.tuple #[.agg (fy ⟨at_,p,0,m⟩).toArray,.int .i64 0]) (cB Tryz.results155 _ _ b8 ⟨at_,p,0,m⟩ _ rfl rfl R9) rfl ?_;exact iT.mk (E4.trans ED) l6 O9 e1.out
    | false =>
     have e1:Hid (R=(bC,5)):=by
      show _=_;rw [HR.out,xC tq.out rU.out HI.out];rintro rfl
      cases DJ.out
     clear HR;go_wp2_with (refine b_ rfl _ _ rfl b8 bC bC rfl rfl F4 ?_;intro w9 R9 O9);refine bodyPost_ret (v:=.tuple #[.agg (fy bC).toArray,.int .i64 5]) (cB Tryz.results155 _ _ b8 bC _ rfl rfl R9) rfl ?_;exact iT.mk E4 l6 O9 e1.out
   | true =>
    have HI:Hid (aJ S.nodes (bp S at_ p)=true):=by show _=_;rw[<-Bt.out];exact Ud.out.symm
    obtain ⟨k3,mq⟩:∃k:Bool,k=(nd.kind == 3):=⟨_,rfl⟩;obtain ⟨k1,jK⟩:∃k:Bool,k=(nd.kind != 1):=⟨_,rfl⟩;have t3:=mq.symm;have t1:=jK.symm;have Ii:=zH mq;have JH:=zH jK;have y2:W4.cell? ⟨b16,2,none⟩=some (.int .i64 nd.kind):=N4.cell 2;have pZ:W4.cell? ⟨b16,10,none⟩=some (.string (bs nd.data)):=N4.cell 10;have yz:=N4.lt;obtain ⟨bv,Ya⟩:∃bv:Bool,bv=(k3&&(!lb || (m || eV))):=⟨_,rfl⟩;have zb:=zH Ya;clear mq jK Ya;go_upto_region 21 with fail;go_cut [111] (fun v wc=>v=.bool bv/\wc=W4)
    case first =>
     have hb:Hid (bv=(k3&&(!lb || (m || eV)))):=zb
     cases k3
     ·have e:Hid (bv=false):=by show _=_;rw[hb.out];rfl
      clear zb hb;go_wp2_with fail;go_meet;exact ⟨by rw[e.out],rfl⟩
     ·cases lb
      ·have e:Hid (bv=true):=by show _=_;rw[hb.out];rfl
       clear zb hb;go_wp2_with fail;go_meet;exact ⟨by rw[e.out],rfl⟩
      ·cases m
       ·cases eV
        ·have e:Hid (bv=false):=by show _=_;rw[hb.out];rfl
         clear zb hb;go_wp2_with fail;go_meet;exact ⟨by rw[e.out],rfl⟩
        ·have e:Hid (bv=true):=by show _=_;rw[hb.out];rfl
         clear zb hb;go_wp2_with fail;go_meet;exact ⟨by rw[e.out],rfl⟩
       ·have e:Hid (bv=true):=by show _=_;rw[hb.out];rfl
        clear zb hb;go_wp2_with fail;go_meet;exact ⟨by rw[e.out],rfl⟩
    case rest =>
     obtain ⟨rfl,hwc⟩:=hcut;obtain rfl:W4=wc:=hwc.symm
     cases bv with
     | true =>
      have oT : k3=true/\(l≠[]\/m=true\/eV=true):=by
       have:=zb.out
       cases k3
       ·cases this
       ·refine ⟨rfl,?_⟩
        cases hm:m
        ·cases hf:eV
         ·left
          rintro rfl;rw [hm,hf,DJ.out]at this
          cases this
         ·exact .inr (.inr rfl)
        ·exact .inr (.inl rfl)
      have HK:Hid ((ac S.nodes (bp S at_ p)).kind=3):=by
       show _=_;have h2:=oT.1;rw [Ii.out,OS.out,Bt.out]at h2;simpa using h2
      have Ug:=zH oT.2;have HD:Hid (nd.data=(ac S.nodes (bp S at_ p)).data):=by show _=_;rw[OS.out,Bt.out]
      have lr:nd.data.length<=1048576:=by
       rw [HD.out];exact (T.on _ (ak HI.out).2.2).2
      obtain⟨fe,Yb⟩:=zE (vc hp nd.data);have Qt:=zH Yb;have Ij:=zH lr;clear oT Yb lr t3 t1;go_wp2_with fail;refine (Bp b g.bW cu cg at_ (some X) (cap-1) hp m l nd.data _ T4 DK (by simp) Br.out (by have:=uF.out;omega) Ij.out Wb).mono ?_;rintro e w5 ⟨O5,rfl,Yc⟩;have aa3:=zH Yc;have F5:=O5.has F4 (by rw[List.mem_singleton];exact Ne.symm qZ);have E5:=O5.after E4 (fun x hx=>by rw[List.mem_singleton]at hx;omega);rw [<-Qt.out];clear Yc c3 c6 cz y2 pZ yz
      by_cases JI:fe=0
      case neg =>
       have t4:(fe == 0)=false:=by simpa using JI
       have t4b:(fe != 0)=true:=by simpa using JI
       have e1 : Hid (R=(bC,fe)):=by
        show _=_;have h1:=Qt.out;unfold vc at h1
        by_cases h8:8<hp+1
        ·rw [if_pos h8]at h1
         rw [HR.out,xD tq.out rU.out HI.out HK.out Ug.out h8,h1]
        ·rw [if_neg h8]at h1
         by_cases h9:nd.data=[]
         ·rw [if_pos h9]at h1
          rw [HR.out,u_ tq.out rU.out HI.out HK.out Ug.out h8 (by rw[<-HD.out];exact h9),h1]
         ·rw [if_neg h9]at h1
          exact absurd h1 JI
       clear JI HR;go_wp2_with (refine b_ rfl _ _ rfl b8 bC bC rfl rfl F5 ?_;intro w9 R9 O9);refine bodyPost_ret (v:=.tuple #[.agg (fy bC).toArray,.int .i64 fe]) (cB Tryz.results155 _ _ b8 bC _ rfl rfl R9) rfl ?_;exact iT.mk E5 l6 O9 e1.out
      have t4:(fe == 0)=true:=by simpa using JI
      have t4b:(fe != 0)=false:=by simpa using JI
      have h80:¬8<hp+1/\nd.data≠[]:=by
       have h1:=Qt.out;rw [JI]at h1;unfold vc at h1
       by_cases h8:8<hp+1
       ·rw[if_pos h8]at h1;cases h1
       ·rw [if_neg h8]at h1
        refine ⟨h8,fun h9=>?_⟩;rw [if_pos h9]at h1;cases h1
      obtain ⟨A9,c9,T9,T7,hA9,FJ,Yd⟩:=aa3.out (by rw[<-Qt.out];exact JI);have sX:Hid (R=dg S cu cg eV (if nd.data.head?=some 47 then 1 else at_) (bg nd.data++l) (hp+1) (m || (l.isEmpty&&fg nd.data))):=by
       show _=_;rw [HR.out,xE tq.out rU.out HI.out HK.out Ug.out h80.1 (by rw[<-HD.out];exact h80.2),HD.out]
      have JJ:Hid ((bg nd.data++l).length<=1050000*(hp+1+1)):=by
       show _<=_;have:=kM nd.data;have:=Ij.out;have:=uF.out;rw [List.length_append];omega
      have Uh:Hid (∀q∈bg nd.data++l,q.length<=1100000):=by
       show ∀q∈_,_;intro q hq;rcases List.mem_append.1 hq with hq|hq
       ·have:=qF hq
        have:=Ij.out;omega
       ·exact Uc.out q hq
      have H8:=zH (show hp+1<=8 by omega);have HLE:=zH Yd;clear JI h80 HR Yd;go_wp2_with fail;go_roundw
      case rel=>exact⟨_,_,hp+1,_,A9,c9,T9,T7,hA9,HLE.out,FJ,Uh,JJ.out,H8.out,sX,F5,E5⟩
      case measure =>
       rw [qG T9,hMr.out];have:=JJ.out;have:=H8.out;omega
     | false =>
      have Sn:Hid (¬((ac S.nodes (bp S at_ p)).kind=3/\(l≠[]\/m=true\/eV=true))):=by
       show ¬_;rintro ⟨h1,h2⟩;have h3:k3=true:=by rw[Ii.out,OS.out,Bt.out];simpa using h1
       have:=zb.out;rw [h3]at this;rcases h2 with h2|h2|h2
       ·have h4:lb=false:=by
         rw [DJ.out]
         cases l with
         | nil=>exact absurd rfl h2
         | cons a l=>rfl
        rw [h4]at this;cases this
       ·rw[h2]at this;cases lb<;>cases this
       ·rw[h2]at this;cases lb<;>cases m<;>cases this
      obtain ⟨bw,Ik⟩:∃bw:Bool,bw=(k1&&(!lb || m)):=⟨_,rfl⟩;have vh:=zH Ik;clear Ik zb Ii t3;go_upto_region 25 with fail;go_cut [136] (fun v wc=>v=.bool bw/\wc=W4)
      case first =>
       have hb:=vh
       cases k1
       ·have e:Hid (bw=false):=by show _=_;rw[hb.out];rfl
        clear vh hb;go_wp2_with fail;go_meet;exact ⟨by rw[e.out],rfl⟩
       ·cases lb
        ·have e:Hid (bw=true):=by show _=_;rw[hb.out];rfl
         clear vh hb;go_wp2_with fail;go_meet;exact ⟨by rw[e.out],rfl⟩
        ·cases m
         ·have e:Hid (bw=false):=by show _=_;rw[hb.out];rfl
          clear vh hb;go_wp2_with fail;go_meet;exact ⟨by rw[e.out],rfl⟩
         ·have e:Hid (bw=true):=by show _=_;rw[hb.out];rfl
          clear vh hb;go_wp2_with fail;go_meet;exact ⟨by rw[e.out],rfl⟩
      case rest =>
       obtain ⟨rfl,hwc⟩:=hcut;obtain rfl:W4=wc:=hwc.symm;have Ye:k1=true↔(ac S.nodes (bp S at_ p)).kind≠1:=by rw[JH.out,OS.out,Bt.out];simp
       have Yf:lb=false↔l≠[]:=by
        rw [DJ.out]
        cases l<;>simp
       have Wd:=zH Ye;have Bu:=zH Yf;clear Ye Yf t1
       cases bw with
       | true =>
        have e1:Hid (R=(bC,9)):=by
         show _=_;have h1:=vh.out;have hk:k1=true:=by cases k1<;>simp at h1|-
         rw [hk]at h1;rw [HR.out,xF tq.out rU.out HI.out Sn.out (Wd.out.1 hk)]
         cases hlb:lb
         ·exact .inl (Bu.out.1 hlb)
         ·rw [hlb]at h1
          cases hm:m
          ·rw[hm]at h1;cases h1
          ·exact .inr rfl
        clear HR vh T4 DK Wd Bu Sn y2 pZ yz c3 c6 cz N4 tl t0 mB t2 Ud OS;have z0:=F4.cell 0;have z1:=F4.cell 1;have z2:=F4.cell 2;have z3:=F4.cell 3;have OU:=Has.free F4 0;have OW:=Has.free F4 1;have OX:=Has.free F4 2;have OY:=Has.free F4 3;have zz:=F4.lt;obtain ⟨R9,O9⟩:=fj bC F4;go_upto_region 26 with fail
        iterate 16 (first|go_values|go_skip|go_guarded|go_step|go_upon|go_in)
        refine bodyPost_ret (v:=.tuple #[.agg (fy bC).toArray,.int .i64 9]) (cB Tryz.results155 _ _ b8 bC _ rfl rfl R9) rfl ?_;exact iT.mk E4 l6 O9 e1.out
       | false =>
        have Kr:Hid (¬((ac S.nodes (bp S at_ p)).kind≠1/\(l≠[]\/m=true))):=by
         show ¬_;rintro ⟨h1,h2⟩;have h3:=vh.out;rw [Wd.out.2 h1]at h3;rcases h2 with h2|h2
         ·rw[Bu.out.2 h2]at h3;cases h3
         ·rw[h2]at h3;cases lb<;>cases h3
        clear vh
        cases lb with
        | true =>
         have j_:l=[]:=by
          have:=DJ.out
          cases l with
          | nil=>rfl
          | cons a l=>cases this
         have e1:Hid (R=(⟨at_,p,z,m⟩,0)):=by
          show _=_;rw [HR.out,xG tq.out rU.out HI.out Sn.out Kr.out j_,Bt.out]
         clear HR j_ y2 pZ yz;have ED:Ext W4 W4.drew:=(Ext.refl _).drew;have FD:=F4.ext ED;go_upto_region 28 with fail;rw [Uf.out];go_still_tail 11,(by kernel_rfl);change wpList _ _ _ _ _ W4.drew;have z0:=F4.cell 0;have z1:=F4.cell 1;have z2:=F4.cell 2;have z3:=F4.cell 3;have OU:=Has.free F4 0;have OW:=Has.free F4 1;have OX:=Has.free F4 2;have OY:=Has.free F4 3;have zz:=F4.lt;obtain ⟨R9,O9⟩:=fj (⟨at_,p,z,m⟩:iz) FD
         iterate 12 (first|go_values|go_skip|go_guarded|go_step|go_upon|go_back)
         refine bodyPost_ret (v:=.tuple #[.agg (fy ⟨at_,p,z,m⟩).toArray,.int .i64 0]) (cB Tryz.results155 _ _ b8 ⟨at_,p,z,m⟩ _ rfl rfl R9) rfl ?_;exact iT.mk (E4.trans ED) l6 O9 e1.out
        | false =>
         have sX:Hid (R=dg S cu cg eV z l hp m):=by
          show _=_;rw [HR.out,xH tq.out rU.out HI.out Sn.out Kr.out (Bu.out.1 rfl),Bt.out]
         have f3:=Has.free T4 3;clear HR y2 pZ yz c6;go_wp2_with fail;have O9:Only [b] W4 (W4.setCell ⟨b,3,none⟩ (.int .i64 z)):=Only.setCell _ _ _ _;have T9:dG (W4.setCell ⟨b,3,none⟩ (.int .i64 z)) b g.bW cu cg z (some X) l.length (cap-1) (hp:Int) m:=Has.setCell T4 3 (.int .i64 z);go_roundw
         case rel=>exact⟨z,l,hp,m,some X,cap-1,T9,DK.only O9 Br.out,by simp,X_.out,Br.out,Uc,by have:=uF.out;omega,Wb,sX,O9.has F4 (by rw[List.mem_singleton];exact Ne.symm qZ),O9.after E4 (fun x hx=>by rw[List.mem_singleton]at hx;omega)⟩
         case measure=>rw[qG T9,hMr.out];simp
theorem sY {c : Nat} (B:Nat) (g:cI) (S:ae) (X0:cP) (cu cg:Int) (p0:List UInt8) (eV:Bool) (w:World) (h:gR w B g S X0) (T:dy c S) (hc:c<=1000000) (hl:S.last<=100000) (hp0:p0.length<=1000000) :
  Calls Tryz.prog 40 #[.pointer (some ⟨g.bF,0,none⟩),.agg #[cu,cg],bs p0,.bool eV] w (iT w (dV S cu cg p0 eV)):=by
 obtain ⟨W0,aH⟩:∃W,W=(w.alloc (.cells #[cu,cg] 27)).alloc (.cells #[.int .i64 0,.string ⟨#[]⟩,.int .i64 0,.bool false] 82):=⟨_,rfl⟩;obtain ⟨b5,gQ⟩:∃b,b=w.heap.size:=⟨_,rfl⟩;obtain ⟨b8,fM⟩:∃b,b=w.heap.size+1:=⟨_,rfl⟩;have E0:Ext w W0:=by rw[aH];exact ((Ext.refl _).alloc _).alloc _
 have F0:Has W0 b8 (.cells (fy bC).toArray 82):=by rw[aH,fM];have:=Has.new (w.alloc (.cells #[cu,cg] 27)) (.cells #[.int .i64 0,.string ⟨#[]⟩,.int .i64 0,.bool false] 82);rw[World.size_alloc]at this;exact this
 have C0:Has W0 b5 (.cells #[cu,cg] 27):=by rw[aH,gQ];exact (Has.new w _).alloc _
 have l6:w.heap.size<=b8:=by omega
 have Ui:S.nodes.length<=1000000:=by have:=T.count;omega
 obtain⟨R,hR⟩:=zE (dV S cu cg p0 eV);rw [<-hR];have HR:=zH hR;obtain⟨q,hq⟩:=zE (ku p0);have HQ:=zH hq;clear hR;go_enter Tryz.func40,Tryz.ntmps40;go_upto_region 1 with fail;rw [<-aH,<-gQ];rw [show b5+1=b8 by omega];clear aH gQ fM;go_wp2_with fail;refine (Hy p0 _ hp0).mono ?_;rw [<-hq];rintro e w2 ⟨rfl,b2⟩;have E2:=E0.trans b2;have F2:=F0.ext b2;have C2:=C0.ext b2;clear hq F0 C0 E0 b2
 by_cases tw:q=0
 case neg =>
  have t0:(q == 0)=false:=by simpa using tw
  have mB:(q != 0)=true:=by simpa using tw
  have e1:Hid (R=(bC,q)):=by show _=_;rw[HR.out,HQ.out];unfold dV;rw[if_neg (by rw[<-HQ.out];exact tw)]
  clear tw;go_wp2_with (refine b_ rfl _ _ rfl b8 bC bC rfl rfl F2 ?_;intro w9 R9 O9);refine bodyPost_ret (v:=.tuple #[.agg (fy bC).toArray,.int .i64 q]) (cB Tryz.results40 _ _ b8 bC _ rfl rfl R9) rfl ?_;exact iT.mk E2 l6 O9 e1.out
 have t0:(q == 0)=true:=by simpa using tw
 have mB:(q != 0)=false:=by simpa using tw
 have sX:Hid (R=dg S cu cg eV 1 (bg p0) 0 (fg p0)):=by show _=_;rw[HR.out];unfold dV;rw[if_pos (by rw[<-HQ.out];exact tw)]
 have JG:Hid (∀p∈bg p0,p.length<=1100000):=by show ∀p∈_,_;intro p hp;have:=qF hp;omega
 have Mq:Hid ((bg p0).length<=1050000):=by show _<=_;have:=kM p0;omega
 clear HR HQ tw;go_wp2_with fail;refine (uV p0 _ (by omega)).mono ?_;rintro e w3 ⟨v3,rfl,nj,b3⟩;obtain ⟨A3,c3,rfl,DI,T_,Mp,Ua⟩:=kg.at_ nj;go_wp2_with fail;refine (uW p0 _ (by omega)).mono ?_;rintro e w4 ⟨rfl,b4⟩;have E4:=(E2.trans b3).trans b4;have F4:=(F2.ext b3).ext b4;have C4:=(C2.ext b3).ext b4;have DK:=Mp.ext b4;obtain⟨l0,j_⟩:=zE (bg p0);obtain⟨m0,hm0⟩:=zE (fg p0);rw [<-j_]at DK sX JG Mq DI;rw [<-hm0]at sX;rw [<-j_,<-hm0];have Ub:=zH DI;clear DI T_ Mp nj b3 b4 E2 F2 C2 j_ hm0 t0 mB;go_wp2_with fail;go_loopw [11,12,13,14] (fun v11 v12 v13 Yg wr=>∃(at_:Int) (l:List (List UInt8)) (h:Nat) (m:Bool) (A:Option Addr) (cap:Nat),v11=.slice A l.length cap/\v12=.bool m/\v13=.int .i64 at_/\Yg=.int .i64 (h:Int)/\iY wr A l/\(A=none->cap=0)/\l.length<=cap/\Hid (∀p∈l,p.length<=1100000)/\l.length<=1050000*(h+1)/\h<=8/\Hid (R=dg S cu cg eV at_ l h m)/\Has wr b8 (.cells (fy bC).toArray 82)/\Has wr b5 (.cells #[cu,cg] 27)/\Ext w wr) (fun v11 _ _ Yg _=>(9-(intOf Yg).toNat)*20000000+Ig v11)
 case atStart=>exact⟨1,l0,0,m0,A3,c3,rfl,rfl,rfl,rfl,DK,Ua,Ub.out,JG,by have:=Mq.out;omega,by decide,sX,F4,C4,E4⟩
 case round =>
  obtain ⟨at_,l,hp,m,A,cap,rfl,rfl,rfl,rfl,hat,hA0,hlc,HL,FC,Wb,HR,Fr,Cr,Er⟩:=hrel
  cases l with
  | nil =>
   have e1:Hid (R=(⟨0,[],at_,true⟩,0)):=by show _=_;rw[HR.out,qD]
   clear HR;go_wp2_with (refine b_ rfl _ _ rfl b8 bC ⟨0,[],at_,true⟩ rfl rfl Fr ?_;intro w9 R9 O9);refine bodyPost_ret (v:=.tuple #[.agg (fy ⟨0,[],at_,true⟩).toArray,.int .i64 0]) (cB Tryz.results40 _ _ b8 ⟨0,[],at_,true⟩ _ rfl rfl R9) rfl ?_;exact iT.mk Er l6 O9 e1.out
  | cons p l =>
   obtain ⟨bl,o,rfl,mV,hcl⟩:∃bl o,A=some ⟨bl,o,none⟩/\bl<wr.heap.size/\∀k,(h:k<(p::l).length)->wr.cell? ⟨bl,o+k,none⟩=some (.string (bs (p::l)[k])):=by
    rcases hat with h0|h0
    ·cases h0
    ·exact h0
   obtain⟨n,hn⟩:=zE ((p::l).length);have lM:n=l.length+1:=by rw[hn];rfl
   have hc0:wr.cell? ⟨bl,o,none⟩=some (.string (bs p)):=hcl 0 (by simp);obtain ⟨X,xm,hX,hXb⟩:=vg bl o n l.length cap lM (by omega);have hpl:p.length<=1100000:=HL.out p (List.mem_cons_self ..);have yZ:iY wr (some X) l:=by
    by_cases j_:l=[]
    ·exact .inl j_
    ·have hpos:0<l.length:=List.length_pos_iff.2 j_
     rw [hX hpos];refine .inr ⟨bl,o+1,rfl,mV,fun k hk=>?_⟩;have h1:=hcl (k+1) (by simp;omega);rw [show o+1+k=o+(k+1) by omega];exact h1
   have X_:=zH (show l.length<=cap-1 by omega);have uF:=zH (show l.length+1<=1050000*(hp+1) by omega);have Uc:Hid (∀q∈l,q.length<=1100000):=by show ∀q∈l,_;intro q hq;exact HL.out q (List.mem_cons_of_mem _ hq)
   have q0:(0:Int)<(n:Int):=by omega
   obtain⟨lb,hlb⟩:=zE l.isEmpty;have tl:((n:Int) == 1)=lb:=by rw[hlb,lM];cases l<;>simp<;>omega
   have DJ:=zH hlb;rw [<-hn];have HMR:=zH (show (p::l).length=n from hn.symm);clear hat hcl hX hXb hlc FC HL hA0 hlb lM hn;go_upto_region 8 with fail;clear xm hc0 q0 tl;go_wp2_with fail;refine (eK B g S X0 at_ _ (h.ext Er) Ui T.bc).mono ?_;rintro e w5 ⟨A5,c5,rfl,yH,uO⟩;obtain⟨d,hd⟩:=zE (ac S.nodes at_);have XV:iq d.af/\d.af.length<=c:=by rw[hd];exact T.ac at_
   have zI:=zH XV;rw [<-hd]at yH;rw [<-hd];have HD:=zH hd;obtain ⟨W6,ze⟩:∃W,W=w5.alloc (.cells #[d.no,d.dev,d.kind,d.mode,d.uid,d.gid,d.mtime,d.ctime,d.ag,d.up,bs d.data,.slice A5 d.af.length c5] 66):=⟨_,rfl⟩;obtain ⟨b17,Uj⟩:∃b,b=w5.heap.size:=⟨_,rfl⟩;have We:Ext w5 W6:=by rw[ze];exact (Ext.refl _).alloc _
   have D6:Has W6 b17 (.cells #[d.no,d.dev,d.kind,d.mode,d.uid,d.gid,d.mtime,d.ctime,d.ag,d.up,bs d.data,.slice A5 d.af.length c5] 66):=by rw[ze,Uj];exact Has.new _ _
   have E6:=(Er.trans uO).trans We;have F6:=(Fr.ext uO).ext We;have C6:=(Cr.ext uO).ext We;have Yh:=(yZ.ext uO).ext We;have rT:=yH.ext We;have hE:Hid (eE S cu cg at_ p=if d.kind≠1 then 9 else if dX cu cg d.uid d.gid d.mode 1=false then 6 else if p=[46,46] then 0 else if 255<p.length then 13 else 0):=by show _=_;rw[hd];rfl
   have k2:W6.cell? ⟨b17,2,none⟩=some (.int .i64 d.kind):=D6.cell 2;have kz:=D6.lt;clear hd XV Fr Cr Er yZ yH;go_upto_region 9 with fail;rw [<-ze,<-Uj];clear ze Uj uO We
   by_cases q1:d.kind=1
   case neg =>
    have t1:(d.kind == 1)=false:=by simpa using q1
    have rH:(d.kind != 1)=true:=by simpa using q1
    have e0:eE S cu cg at_ p=9:=by rw[hE.out,if_pos q1]
    have e1:Hid (R=(bC,9)):=by show _=_;rw[HR.out,qE (by rw[e0];decide),e0]
    clear q1 e0 HR;have z0:=F6.cell 0;have z1:=F6.cell 1;have z2:=F6.cell 2;have z3:=F6.cell 3;have OU:=Has.free F6 0;have OW:=Has.free F6 1;have OX:=Has.free F6 2;have OY:=Has.free F6 3;have zz:=F6.lt;obtain ⟨R9,O9⟩:=fj (bC:iz) F6;go_upto_region 10 with fail
    iterate 15 (first|go_values|go_skip|go_guarded|go_step|go_upon|go_back)
    refine bodyPost_ret (v:=.tuple #[.agg (fy bC).toArray,.int .i64 9]) (cB Tryz.results40 _ _ b8 bC _ rfl rfl R9) rfl ?_;exact iT.mk E6 l6 O9 e1.out
   have t1:(d.kind == 1)=true:=by simpa using q1
   have rH:(d.kind != 1)=false:=by simpa using q1
   obtain⟨u,hu⟩:=zE (dX cu cg d.uid d.gid d.mode 1);have kD:Hid (eE S cu cg at_ p=if u=false then 6 else if p=[46,46] then 0 else if 255<p.length then 13 else 0):=by show _=_;rw[hE.out,if_neg (fun k=>k q1),hu]
   have HU:=zH hu;clear q1 hE hu;obtain ⟨n0,n1,n2,n3,n4,n5,n6,n7,n8,n9,G3,Do⟩:=D6.cD;have x0:W6.cell? ⟨b5,0,none⟩=some (.int .i64 cu):=C6.cell 0;have x1:W6.cell? ⟨b5,1,none⟩=some (.int .i64 cg):=C6.cell 1;have xz:=C6.lt;go_wp2_with fail;refine (rN cu cg _ _ _ d.mode d.uid d.gid _ _ _ _ _ _ 1 _).mono ?_;rw [<-HU.out];rintro e w7 ⟨rfl,b7⟩;have E7:=E6.trans b7;have F7:=F6.ext b7;have C7:=C6.ext b7;have D7:=D6.ext b7;have Uk:=Yh.ext b7;have yw:=rT.ext b7;clear n0 n1 n2 n3 n4 n5 n6 n7 n8 n9 G3 Do x0 x1 xz k2 kz E6 F6 C6 D6 Yh rT b7
   cases u with
   | false =>
    have e0:eE S cu cg at_ p=6:=by rw[kD.out,if_pos rfl]
    have e1:Hid (R=(bC,6)):=by show _=_;rw[HR.out,qE (by rw[e0];decide),e0]
    clear e0 HR;have z0:=F7.cell 0;have z1:=F7.cell 1;have z2:=F7.cell 2;have z3:=F7.cell 3;have OU:=Has.free F7 0;have OW:=Has.free F7 1;have OX:=Has.free F7 2;have OY:=Has.free F7 3;have zz:=F7.lt;obtain ⟨R9,O9⟩:=fj (bC:iz) F7;go_upto_region 12 with fail
    iterate 15 (first|go_values|go_skip|go_guarded|go_step|go_upon|go_back)
    refine bodyPost_ret (v:=.tuple #[.agg (fy bC).toArray,.int .i64 6]) (cB Tryz.results40 _ _ b8 bC _ rfl rfl R9) rfl ?_;exact iT.mk E7 l6 O9 e1.out
   | true =>
    have tL:Hid (eE S cu cg at_ p=if p=[46,46] then 0 else if 255<p.length then 13 else 0):=by show _=_;rw[kD.out,if_neg (by decide)]
    obtain ⟨XP,OT⟩:∃Y,Y=bs p:=⟨_,rfl⟩;have V7:(XP.size:Int)=p.length:=by rw[OT,bi]
    have tX:(XP.toList == [46,46])=(p == [46,46]):=by rw[OT];exact ig.2.2.1
    have Uf:=zH OT;rw [<-OT];clear kD OT
    by_cases q2:p=[46,46]
    ·have t2:(XP.toList == [46,46])=true:=by rw[tX,q2];rfl
     have e0:eE S cu cg at_ p=0:=by rw[tL.out,if_pos q2]
     have sX:Hid (R=dg S cu cg eV (aZ S at_) l hp m):=by show _=_;rw[HR.out,FH e0 q2]
     clear tX q2 e0 HR V7;go_wp2_with fail;refine (Db B g S X0 at_ _ (h.ext E7) Ui T.eight T.roots T.bc).mono ?_;rintro e w8 ⟨rfl,Ft⟩;obtain⟨z,hz⟩:=zE (aZ S at_);rw [<-hz]at sX;rw [<-hz];clear hz;have F8:=F7.ext Ft;have C8:=C7.ext Ft;have Hh:=Uk.ext Ft;have E8:=E7.trans Ft;go_wp2_with fail;go_roundw
     case rel=>exact⟨z,l,hp,m,some X,cap-1,rfl,rfl,rfl,rfl,Hh,by simp,X_.out,Uc,by have:=uF.out;omega,Wb,sX,F8,C8,E8⟩
     case measure=>have:=HMR.out;simp[intOf,Ig]at this|-;omega
    have t2:(XP.toList == [46,46])=false:=by rw[tX];simpa using q2
    have rU:=zH q2;have Sl:Hid (eE S cu cg at_ p=if 255<p.length then 13 else 0):=by show _=_;rw[tL.out,if_neg q2]
    clear tX q2 tL
    by_cases q3:255<p.length
    ·have t3:(255:Int)<XP.size:=by omega
     have e0:eE S cu cg at_ p=13:=by rw[Sl.out,if_pos q3]
     have e1:Hid (R=(bC,13)):=by show _=_;rw[HR.out,qE (by rw[e0];decide),e0]
     clear q3 e0 HR V7;have z0:=F7.cell 0;have z1:=F7.cell 1;have z2:=F7.cell 2;have z3:=F7.cell 3;have OU:=Has.free F7 0;have OW:=Has.free F7 1;have OX:=Has.free F7 2;have OY:=Has.free F7 3;have zz:=F7.lt;obtain ⟨R9,O9⟩:=fj (bC:iz) F7;go_upto_region 16 with fail
     iterate 15 (first|go_values|go_skip|go_guarded|go_step|go_upon|go_back)
     refine bodyPost_ret (v:=.tuple #[.agg (fy bC).toArray,.int .i64 13]) (cB Tryz.results40 _ _ b8 bC _ rfl rfl R9) rfl ?_;exact iT.mk E7 l6 O9 e1.out
    have t3:¬(255:Int)<XP.size:=by omega
    have tq:Hid (eE S cu cg at_ p=0):=by show _=_;rw[Sl.out,if_neg q3]
    have nN:w7.cell? ⟨b17,11,none⟩=some (.slice A5 d.af.length c5):=D7.cell 11;have yz:=D7.lt;clear q3 Sl V7;go_wp2_with fail;rw [Uf.out];refine (oJ A5 d.af c5 p _ yw.af.af (by have:=zI.out.2;omega)).mono ?_;rintro e w8 ⟨rfl,Ft⟩;rw [<-Uf.out];obtain⟨fo,hfo⟩:=zE (aK d.af p);rw [<-hfo];have HFO:=zH hfo;have E8:=E7.trans Ft;clear hfo nN yz;go_wp2_with fail;refine (g_ B g S X0 fo _ (h.ext E8) (by have:=T.eight;omega)).mono ?_;rintro e w9' ⟨rfl,b9'⟩;obtain⟨z,hz⟩:=zE (ar S.ah fo);rw [<-hz];have Bt:Hid (z=bp S at_ p):=by show _=_;rw[hz,HFO.out,HD.out];rfl
    have E9:=E8.trans b9';clear hz;go_wp2_with fail;refine (eK B g S X0 z _ (h.ext E9) Ui T.bc).mono ?_;rintro e pO ⟨A10,c10,rfl,aa4,CC⟩;obtain⟨nd,hnd⟩:=zE (ac S.nodes z);obtain⟨is,Ih⟩:=zE (aJ S.nodes z);have Yi:is=true->nd.no=z/\z≠0:=fun k=>by
     rw [Ih]at k;obtain ⟨_,e1,e2⟩:=ak k;have:=(T.bc.2 _ e2).1;rw [hnd];exact ⟨e1,by rw[<-e1];omega⟩
    have jj:is=false->nd.no=0:=fun k=>by
     rw [Ih]at k;rw [hnd,(aU k).1];rfl
    rw [<-hnd];have OS:=zH hnd;have Ud:=zH Ih;have aa5:=zH Yi;have aa6:=zH jj;obtain ⟨Il,Qw⟩:∃W,W=pO.alloc (.cells #[nd.no,nd.dev,nd.kind,nd.mode,nd.uid,nd.gid,nd.mtime,nd.ctime,nd.ag,nd.up,bs nd.data,.slice A10 nd.af.length c10] 66):=⟨_,rfl⟩;obtain ⟨Yj,Ul⟩:∃b,b=pO.heap.size:=⟨_,rfl⟩;have Sq:Ext pO Il:=by rw[Qw];exact (Ext.refl _).alloc _
    have Yk:Has Il Yj (.cells #[nd.no,nd.dev,nd.kind,nd.mode,nd.uid,nd.gid,nd.mtime,nd.ctime,nd.ag,nd.up,bs nd.data,.slice A10 nd.af.length c10] 66):=by rw[Qw,Ul];exact Has.new _ _
    have Mr:Ext w7 Il:=((Ft.trans b9').trans CC).trans Sq;have vp:=E7.trans Mr;have jd:=F7.ext Mr;have C11:=C7.ext Mr;have Sr:=Uk.ext Mr;clear hnd Ih Yi jj F7 C7 D7 Uk yw E7 E8 E9 aa4;go_upto_region 18 with fail;rw [<-Qw,<-Ul];clear Qw Ul Ft b9' CC Sq Mr;have y0:Il.cell? ⟨Yj,0,none⟩=some (.int .i64 nd.no):=Yk.cell 0;have y2:Il.cell? ⟨Yj,2,none⟩=some (.int .i64 nd.kind):=Yk.cell 2;have pZ:Il.cell? ⟨Yj,10,none⟩=some (.string (bs nd.data)):=Yk.cell 10;have yz:=Yk.lt
    cases is with
    | false =>
     have HI:Hid (aJ S.nodes (bp S at_ p)=false):=by show _=_;rw[<-Bt.out];exact Ud.out.symm
     rw [aa6.out rfl]at y0
     cases lb with
     | true =>
      have e1:Hid (R=(⟨at_,p,0,m⟩,0)):=by
       show _=_;rw [HR.out,xB tq.out rU.out HI.out];have:=DJ.out
       cases l with
       | nil=>rfl
       | cons a l=>cases this
      clear HR y2 pZ;go_upto_region 21 with fail;rw [Uf.out];have z0:=jd.cell 0;have z1:=jd.cell 1;have z2:=jd.cell 2;have z3:=jd.cell 3;have OU:=Has.free jd 0;have OW:=Has.free jd 1;have OX:=Has.free jd 2;have OY:=Has.free jd 3;have zz:=jd.lt;obtain ⟨R9,O9⟩:=fj (⟨at_,p,0,m⟩:iz) jd
      iterate 24 (first|go_values|go_skip|go_guarded|go_step|go_upon|go_back)
      refine bodyPost_ret (v:=.tuple #[.agg (fy ⟨at_,p,0,m⟩).toArray,.int .i64 0]) (cB Tryz.results40 _ _ b8 ⟨at_,p,0,m⟩ _ rfl rfl R9) rfl ?_;exact iT.mk vp l6 O9 e1.out
     | false =>
      have e1:Hid (R=(bC,5)):=by
       show _=_;rw [HR.out,xC tq.out rU.out HI.out];rintro rfl
       cases DJ.out
      clear HR y2 pZ;have z0:=jd.cell 0;have z1:=jd.cell 1;have z2:=jd.cell 2;have z3:=jd.cell 3;have OU:=Has.free jd 0;have OW:=Has.free jd 1;have OX:=Has.free jd 2;have OY:=Has.free jd 3;have zz:=jd.lt;obtain ⟨R9,O9⟩:=fj (bC:iz) jd;go_upto_region 19 with fail
      iterate 15 (first|go_values|go_skip|go_guarded|go_step|go_upon|go_back)
      refine bodyPost_ret (v:=.tuple #[.agg (fy bC).toArray,.int .i64 5]) (cB Tryz.results40 _ _ b8 bC _ rfl rfl R9) rfl ?_;exact iT.mk vp l6 O9 e1.out
    | true =>
     have HI:Hid (aJ S.nodes (bp S at_ p)=true):=by show _=_;rw[<-Bt.out];exact Ud.out.symm
     obtain ⟨wu,hz0⟩:=aa5.out rfl;rw [wu]at y0;have t5:(z == 0)=false:=by simpa using hz0
     obtain ⟨k3,mq⟩:∃k:Bool,k=(nd.kind == 3):=⟨_,rfl⟩;obtain ⟨k1,jK⟩:∃k:Bool,k=(nd.kind != 1):=⟨_,rfl⟩;have t6:=mq.symm;have t7:=jK.symm;have Ii:=zH mq;have JH:=zH jK;obtain ⟨bv,Ya⟩:∃bv:Bool,bv=(k3&&(!lb || (m || eV))):=⟨_,rfl⟩;have zb:=zH Ya;clear mq jK Ya wu hz0;go_upto_region 22 with fail;go_cut [96] (fun v wc=>v=.bool bv/\wc=Il)
     case first =>
      have hb:Hid (bv=(k3&&(!lb || (m || eV)))):=zb
      cases k3
      ·have e:Hid (bv=false):=by show _=_;rw[hb.out];rfl
       clear zb hb;go_wp2_with fail;go_meet;exact ⟨by rw[e.out],rfl⟩
      ·cases lb
       ·have e:Hid (bv=true):=by show _=_;rw[hb.out];rfl
        clear zb hb;go_wp2_with fail;go_meet;exact ⟨by rw[e.out],rfl⟩
       ·cases m
        ·cases eV
         ·have e:Hid (bv=false):=by show _=_;rw[hb.out];rfl
          clear zb hb;go_wp2_with fail;go_meet;exact ⟨by rw[e.out],rfl⟩
         ·have e:Hid (bv=true):=by show _=_;rw[hb.out];rfl
          clear zb hb;go_wp2_with fail;go_meet;exact ⟨by rw[e.out],rfl⟩
        ·have e:Hid (bv=true):=by show _=_;rw[hb.out];rfl
         clear zb hb;go_wp2_with fail;go_meet;exact ⟨by rw[e.out],rfl⟩
     case rest =>
      obtain ⟨rfl,hwc⟩:=hcut;obtain rfl:Il=wc:=hwc.symm
      cases bv with
      | true =>
       have oT : k3=true/\(l≠[]\/m=true\/eV=true):=by
        have:=zb.out
        cases k3
        ·cases this
        ·refine ⟨rfl,?_⟩
         cases hm:m
         ·cases hf:eV
          ·left
           rintro rfl;rw [hm,hf,DJ.out]at this
           cases this
          ·exact .inr (.inr rfl)
         ·exact .inr (.inl rfl)
       have HK:Hid ((ac S.nodes (bp S at_ p)).kind=3):=by
        show _=_;have h2:=oT.1;rw [Ii.out,OS.out,Bt.out]at h2;simpa using h2
       have Ug:=zH oT.2;have Fy:Hid (nd.data=(ac S.nodes (bp S at_ p)).data):=by show _=_;rw[OS.out,Bt.out]
       have Ij:Hid (nd.data.length<=1048576):=by
        show _<=_;rw [Fy.out];exact (T.on _ (ak HI.out).2.2).2
       obtain ⟨h1,TZ⟩:∃h1:Nat,h1=hp+1:=⟨_,rfl⟩;have q4:IntKind.i64.wrap ((hp:Int)+1)=(h1:Int):=by rw[IntWalk.i64_in _ (by omega)];omega
       have V9:=zH TZ;obtain⟨dt,hdt⟩:=zE nd.data;rw [<-hdt]at pZ Fy Ij;clear oT TZ t6 t7 y0 y2 t5
       by_cases q5:8<h1
       ·have t8:(8:Int)<(h1:Int):=by omega
        have e1:Hid (R=(bC,12)):=by show _=_;rw[HR.out,xD tq.out rU.out HI.out HK.out Ug.out (by rw[<-V9.out];exact q5)]
        clear q5 HR;have z0:=jd.cell 0;have z1:=jd.cell 1;have z2:=jd.cell 2;have z3:=jd.cell 3;have OU:=Has.free jd 0;have OW:=Has.free jd 1;have OX:=Has.free jd 2;have OY:=Has.free jd 3;have zz:=jd.lt;obtain ⟨R9,O9⟩:=fj (bC:iz) jd;go_upto_region 25 with fail
        iterate 15 (first|go_values|go_skip|go_guarded|go_step|go_upon|go_back)
        refine bodyPost_ret (v:=.tuple #[.agg (fy bC).toArray,.int .i64 12]) (cB Tryz.results40 _ _ b8 bC _ rfl rfl R9) rfl ?_;exact iT.mk vp l6 O9 e1.out
       have t8:¬(8:Int)<(h1:Int):=by omega
       have H8:Hid (¬8<hp+1):=by show ¬_;rw[<-V9.out];exact q5
       clear q5
       cases dt with
       | nil =>
        have e1:Hid (R=(bC,5)):=by show _=_;rw[HR.out,u_ tq.out rU.out HI.out HK.out Ug.out H8.out Fy.out.symm]
        have u0:(bs []).toList=[]:=bk [];clear HR hdt;have z0:=jd.cell 0;have z1:=jd.cell 1;have z2:=jd.cell 2;have z3:=jd.cell 3;have OU:=Has.free jd 0;have OW:=Has.free jd 1;have OX:=Has.free jd 2;have OY:=Has.free jd 3;have zz:=jd.lt;obtain ⟨R9,O9⟩:=fj (bC:iz) jd;go_upto_region 27 with fail
        iterate 15 (first|go_values|go_skip|go_guarded|go_step|go_upon|go_back)
        refine bodyPost_ret (v:=.tuple #[.agg (fy bC).toArray,.int .i64 5]) (cB Tryz.results40 _ _ b8 bC _ rfl rfl R9) rfl ?_;exact iT.mk vp l6 O9 e1.out
       | cons ch tt =>
        have sX:Hid (R=dg S cu cg eV (if (ch::tt).head?=some 47 then 1 else at_) (bg (ch::tt)++l) (hp+1) (m || (l.isEmpty&&fg (ch::tt)))):=by
         show _=_;rw [HR.out,xE tq.out rU.out HI.out HK.out Ug.out H8.out (by rw[<-Fy.out];simp),<-Fy.out]
        obtain ⟨FI,y_⟩:∃a:Int,a=if (ch::tt).head?=some 47 then 1 else at_:=⟨_,rfl⟩
        obtain ⟨v,hv⟩:∃v:Bool,v=(ch == 47):=⟨_,rfl⟩;have hks:0<(bs (ch::tt)).size:=by rw[bi];simp
        have pX:(((bs (ch::tt))[0].toNat:Int) == 47)=v:=by rw[show (bs (ch::tt))[0]=ch from rfl,hv];exact xA (c:=ch) (d:=47)
        have Qv:Hid (v=true->FI=1):=by show _->_;intro k;rw[hv]at k;rw[y_,if_pos (by simpa using k)]
        have LR:Hid (v=false->FI=at_):=by show _->_;intro k;rw[hv]at k;rw[y_,if_neg (by simpa using k)]
        rw [<-y_]at sX;have u0:(bs (ch::tt)).toList.isEmpty=false:=by rw[bk];rfl
        clear y_ hv HR hdt;go_upto_if 109 with fail;go_cut [13] (fun x wc=>x=.int .i64 FI/\wc=Il)
        case first =>
         cases v
         ·have e2:=zH (LR.out rfl)
          clear LR Qv;go_wp2_with fail;go_meet;exact ⟨by rw[e2.out],rfl⟩
         ·have e2:=zH (Qv.out rfl)
          clear LR Qv;go_wp2_with fail;go_meet;exact ⟨by rw[e2.out],rfl⟩
        case rest =>
         obtain ⟨rfl,hwc⟩:=hcut;obtain rfl:Il=wc:=hwc.symm;obtain⟨sl,xm⟩:=zE (fg (ch::tt));obtain⟨m2,bU⟩:=zE (m || (l.isEmpty&&fg (ch::tt)));have HM:Hid (m2=(m || (lb&&sl))):=by show _=_;rw[bU,DJ.out,xm]
         have HSL:=zH xm;rw [<-bU]at sX;clear xm bU LR Qv pX u0 hks;go_upto_region 30 with fail;go_cut [12] (fun x wc=>x=.bool m2/\Ext Il wc)
         case first =>
          cases m
          ·cases lb
           ·have e2:Hid (m2=false):=by show _=_;rw[HM.out];rfl
            go_wp2_with fail;go_meet;exact ⟨by rw[e2.out],Ext.refl _⟩
           ·have e2:Hid (m2=sl):=by show _=_;rw[HM.out];rfl
            go_wp2_with fail;refine (uW (ch::tt) _ (by have:=Ij.out;omega)).mono ?_;rw [<-HSL.out,<-e2.out];rintro e Ss ⟨rfl,pA⟩;go_wp2_with fail;go_meet;exact ⟨rfl,pA⟩
          ·have e2:Hid (m2=true):=by show _=_;rw[HM.out];rfl
           go_wp2_with fail;go_meet;exact ⟨by rw[e2.out],Ext.refl _⟩
         case rest =>
          obtain ⟨rfl,pA⟩:=hcut;have N12:=Yk.ext pA;have y12:wc.cell? ⟨Yj,10,none⟩=some (.string (bs (ch::tt))):=(pA.cell yz).trans pZ;have yz2:=N12.lt;clear pZ yz;go_wp2_with fail;refine (uV (ch::tt) _ (by have:=Ij.out;omega)).mono ?_;rintro e w13 ⟨v13,rfl,Yl,mY⟩;have St:=(Sr.ext pA).ext mY;have Mk:=kM (ch::tt);obtain ⟨Yg,w14,Im,Ms,Mt⟩:=xI (some X) (cap-1) l w13 Yl St (by simp) mY.size (by have:=Ij.out;omega) (by have:=uF.out;omega);have Wf:Ext wc w14:=mY.grown Mt (fun g hv=>(World.ownsRow.lt Yl g hv).1);have Um:=zH Im;obtain ⟨A14,c14,rfl,Ym,Yn,Yo,Yp⟩:=kg.at_ Ms;have aa7:=zH Ym;have F14:=(jd.ext pA).ext Wf;have C14:=(C11.ext pA).ext Wf;have E15:=(vp.trans pA).trans Wf;have JJ:Hid ((bg (ch::tt)++l).length<=1050000*(hp+1+1)):=by
           show _<=_;have:=Ij.out;have:=uF.out;rw [List.length_append];omega
          have Uh:Hid (∀q∈bg (ch::tt)++l,q.length<=1100000):=by
           show ∀q∈_,_;intro q hq;rcases List.mem_append.1 hq with hq|hq
           ·have:=qF hq
            have:=Ij.out;omega
           ·exact Uc.out q hq
          clear Im Ms Mt Ym Yn St y12;go_wp2_with (at_builtin;refine Lib.wpList_append_run _ rfl _ _ 135 135 rfl _ _ rfl rfl _ _ Um.out ?_);have H8b:=zH (show hp+1<=8 by have:=H8.out;omega);go_roundw
          case rel=>exact⟨FI,bg (ch::tt)++l,hp+1,m2,A14,c14,by rw[List.length_append],rfl,rfl,by rw[V9.out],Yo,Yp,aa7.out,Uh,JJ.out,H8b.out,sX,F14,C14,E15⟩
          case measure =>
           have h1':=JJ.out;rw [List.length_append]at h1';have kK:=H8b.out;have h3':=V9.out;simp only[intOf,Ig];omega
      | false =>
       have Sn:Hid (¬((ac S.nodes (bp S at_ p)).kind=3/\(l≠[]\/m=true\/eV=true))):=by
        show ¬_;rintro ⟨h1,h2⟩;have h3:k3=true:=by rw[Ii.out,OS.out,Bt.out];simpa using h1
        have:=zb.out;rw [h3]at this;rcases h2 with h2|h2|h2
        ·have h4:lb=false:=by
          rw [DJ.out]
          cases l with
          | nil=>exact absurd rfl h2
          | cons a l=>rfl
         rw [h4]at this;cases this
        ·rw[h2]at this;cases lb<;>cases this
        ·rw[h2]at this;cases lb<;>cases m<;>cases this
       obtain ⟨bw,Ik⟩:∃bw:Bool,bw=(k1&&(!lb || m)):=⟨_,rfl⟩;have vh:=zH Ik;clear Ik zb Ii t6 pZ;go_upto_region 32 with fail;go_cut [133] (fun v wc=>v=.bool bw/\wc=Il)
       case first =>
        have hb:=vh
        cases k1
        ·have e:Hid (bw=false):=by show _=_;rw[hb.out];rfl
         clear vh hb;go_wp2_with fail;go_meet;exact ⟨by rw[e.out],rfl⟩
        ·cases lb
         ·have e:Hid (bw=true):=by show _=_;rw[hb.out];rfl
          clear vh hb;go_wp2_with fail;go_meet;exact ⟨by rw[e.out],rfl⟩
         ·cases m
          ·have e:Hid (bw=false):=by show _=_;rw[hb.out];rfl
           clear vh hb;go_wp2_with fail;go_meet;exact ⟨by rw[e.out],rfl⟩
          ·have e:Hid (bw=true):=by show _=_;rw[hb.out];rfl
           clear vh hb;go_wp2_with fail;go_meet;exact ⟨by rw[e.out],rfl⟩
       case rest =>
        obtain ⟨rfl,hwc⟩:=hcut;obtain rfl:Il=wc:=hwc.symm;have Ye:k1=true↔(ac S.nodes (bp S at_ p)).kind≠1:=by rw[JH.out,OS.out,Bt.out];simp
        have Yf:lb=false↔l≠[]:=by
         rw [DJ.out]
         cases l<;>simp
        have Wd:=zH Ye;have Bu:=zH Yf;clear Ye Yf t7 y2
        cases bw with
        | true =>
         have e1:Hid (R=(bC,9)):=by
          show _=_;have h1:=vh.out;have hk:k1=true:=by cases k1<;>simp at h1|-
          rw [hk]at h1;rw [HR.out,xF tq.out rU.out HI.out Sn.out (Wd.out.1 hk)]
          cases hlb:lb
          ·exact .inl (Bu.out.1 hlb)
          ·rw [hlb]at h1
           cases hm:m
           ·rw[hm]at h1;cases h1
           ·exact .inr rfl
         clear HR vh;have z0:=jd.cell 0;have z1:=jd.cell 1;have z2:=jd.cell 2;have z3:=jd.cell 3;have OU:=Has.free jd 0;have OW:=Has.free jd 1;have OX:=Has.free jd 2;have OY:=Has.free jd 3;have zz:=jd.lt;obtain ⟨R9,O9⟩:=fj (bC:iz) jd;go_upto_region 33 with fail
         iterate 15 (first|go_values|go_skip|go_guarded|go_step|go_upon|go_back)
         refine bodyPost_ret (v:=.tuple #[.agg (fy bC).toArray,.int .i64 9]) (cB Tryz.results40 _ _ b8 bC _ rfl rfl R9) rfl ?_;exact iT.mk vp l6 O9 e1.out
        | false =>
         have Kr:Hid (¬((ac S.nodes (bp S at_ p)).kind≠1/\(l≠[]\/m=true))):=by
          show ¬_;rintro ⟨h1,h2⟩;have h3:=vh.out;rw [Wd.out.2 h1]at h3;rcases h2 with h2|h2
          ·rw[Bu.out.2 h2]at h3;cases h3
          ·rw[h2]at h3;cases lb<;>cases h3
         clear vh
         cases lb with
         | true =>
          have j_:l=[]:=by
           have:=DJ.out
           cases l with
           | nil=>rfl
           | cons a l=>cases this
          have e1:Hid (R=(⟨at_,p,z,m⟩,0)):=by
           show _=_;rw [HR.out,xG tq.out rU.out HI.out Sn.out Kr.out j_,Bt.out]
          clear HR j_;have z0:=jd.cell 0;have z1:=jd.cell 1;have z2:=jd.cell 2;have z3:=jd.cell 3;have OU:=Has.free jd 0;have OW:=Has.free jd 1;have OX:=Has.free jd 2;have OY:=Has.free jd 3;have zz:=jd.lt;obtain ⟨R9,O9⟩:=fj (⟨at_,p,z,m⟩:iz) jd;go_upto_region 35 with fail;rw [Uf.out]
          iterate 30 (first|go_values|go_skip|go_guarded|go_step|go_upon|go_back)
          refine bodyPost_ret (v:=.tuple #[.agg (fy ⟨at_,p,z,m⟩).toArray,.int .i64 0]) (cB Tryz.results40 _ _ b8 ⟨at_,p,z,m⟩ _ rfl rfl R9) rfl ?_;exact iT.mk vp l6 O9 e1.out
         | false =>
          have sX:Hid (R=dg S cu cg eV z l hp m):=by
           show _=_;rw [HR.out,xH tq.out rU.out HI.out Sn.out Kr.out (Bu.out.1 rfl),Bt.out]
          clear HR;go_wp2_with fail;go_roundw
          case rel=>exact⟨z,l,hp,m,some X,cap-1,rfl,rfl,rfl,rfl,Sr,by simp,X_.out,Uc,by have:=uF.out;omega,Wb,sX,jd,C11,vp⟩
          case measure=>have:=HMR.out;simp[intOf,Ig]at this|-;omega
end Go.Proofs.YtpibnfdolojpcaaGreat
