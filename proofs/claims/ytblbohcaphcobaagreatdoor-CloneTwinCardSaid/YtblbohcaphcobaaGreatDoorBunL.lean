import Derived.Test.YtblbohcaphcobaaGreatDoorBunA
import Derived.Test.YtblbohcaphcobaaGreatDoorBunB
import Derived.Test.YtblbohcaphcobaaGreatDoorBunC
import Derived.Test.YtblbohcaphcobaaGreatDoorBunD
import Derived.Test.YtblbohcaphcobaaGreatDoorBunE
import Derived.Test.YtblbohcaphcobaaGreatDoorBunH
import Derived.Test.YtblbohcaphcobaaGreatDoorBunI
import Derived.BigQuiet
import Derived.StillTailTactics
import Derived.RangeFuncBox
import Derived.Lib.LastIndexByte
import Derived.ControlIn
import Derived.Scope
import Derived.AtR
import Derived.RangeFuncNested
import Derived.RangeFuncBound
import Derived.RangeFuncCalls
import Derived.RangeFuncLeaves
import Derived.Shelf.Abstract
import Derived.OwnWalkIn
import Derived.TacticsInMore
import Derived.LoopNIn
import Derived.LoopIn
set_option maxHeartbeats 16000000
set_option maxRecDepth 100000
namespace Go.Proofs.YtblbohcaphcobaaGreatDoor
section
def pc (cur:List UInt8):List UInt8->List (List UInt8)
 | []=>[cur]
 | c::l=>if c=47 then cur::pc [] l else pc (cur++[c]) l
def fC (p:List UInt8):Bool:=!(p == [])&&!(p == [46])
def a_ (l:List UInt8):List (List UInt8):=(pc [] l).filter fC
theorem Rt (l:List UInt8):∀cur,pc cur l≠[]:=by
 induction l with
 | nil=>intro cur h;cases h
 | cons c l ih=>intro cur;unfold pc;split<;>simp[ih]
theorem Lm (l:List UInt8):∀cur,(pc cur l).length<=l.length+1:=by
 induction l with
 | nil=>intro cur;simp[pc]
 | cons c l ih =>
  intro cur;unfold pc;split
  ·have:=ih [];simp;omega
  ·have:=ih (cur++[c]);simp;omega
def total:List (List UInt8)->Nat
 | []=>0
 | p::l=>p.length+total l
theorem Ln (l:List UInt8):∀cur,total (pc cur l)<=cur.length+l.length:=by
 induction l with
 | nil=>intro cur;simp[pc,total]
 | cons c l ih =>
  intro cur;unfold pc;split
  ·have:=ih [];simp[total]at *;omega
  ·have:=ih (cur++[c]);simp at *;omega
theorem yQ (f:List UInt8->Bool) (l:List (List UInt8)):total (l.filter f)<=total l:=by
 induction l with
 | nil=>simp
 | cons x l ih=>rw[List.filter_cons];split<;>simp[total]<;>omega
theorem Br (l:List UInt8):total (a_ l)<=l.length:=by
 have h1:=yQ fC (pc [] l);have h2:=Ln l [];unfold a_;simp at h2;omega
theorem kG (l:List UInt8):(a_ l).length<=l.length+1:=by
 have h1:=List.length_filter_le fC (pc [] l);have h2:=Lm l [];unfold a_;omega
def di (l:List UInt8):List UInt8:=(pc [] l).getLastD []
def gL (l:List UInt8):List UInt8:=(l.reverse.takeWhile (·≠47)).reverse
theorem rp {α:Type} {p:α->Bool} {l:List α}:l.takeWhile p=l↔∀x∈l,p x=true:=by
 induction l with
 | nil=>simp
 | cons a l ih =>
  rw [List.takeWhile_cons]
  by_cases h:p a=true
  ·rw[if_pos h];simp[h,ih]
  ·rw[if_neg h];simp[h]
theorem rr {α:Type} (a d:α) (l:List α) (h:l≠[]):(a::l).getLastD d=l.getLastD d:=by
 cases l with
 | nil=>exact absurd rfl h
 | cons b l=>rfl
theorem PH (l:List UInt8):∀cur,(pc cur l).getLastD []=if 47∈l then gL l else cur++l:=by
 induction l with
 | nil=>intro cur;simp[pc]
 | cons c l ih =>
  intro cur;unfold pc
  by_cases hc:c=47
  ·rw [if_pos hc,rr _ _ _ (Rt _ _),ih []]
   rw [if_pos (show 47∈c::l by rw[hc];exact List.mem_cons_self ..)];unfold gL
   by_cases hl:47∈l
   ·rw [if_pos hl,List.reverse_cons,List.takeWhile_append]
    rw [if_neg];intro h;have h2:=List.takeWhile_prefix (p:=fun x:UInt8=>decide (x≠47)) (l:=l.reverse);have h3:List.takeWhile (fun x:UInt8=>decide (x≠47)) l.reverse=l.reverse:=h2.eq_of_length h;have h4:=rp.1 h3 47 (List.mem_reverse.2 hl);simp at h4
   ·rw [if_neg hl,List.reverse_cons,List.takeWhile_append,if_pos]
    ·rw [hc]
     have:List.takeWhile (fun x:UInt8=>decide (x≠47)) [47]=[]:=by decide
     rw [this,List.append_nil,List.reverse_reverse];rfl
    ·congr 1
     rw [rp];intro x hx;have:x≠47:=by rintro rfl;exact hl (List.mem_reverse.1 hx)
     simpa using this
  ·rw [if_neg hc,ih (cur++[c])]
   by_cases hl:47∈l
   ·rw [if_pos hl,if_pos (List.mem_cons_of_mem _ hl)]
    unfold gL;rw [List.reverse_cons,List.takeWhile_append,if_neg];intro h;have h2:=List.takeWhile_prefix (p:=fun x:UInt8=>decide (x≠47)) (l:=l.reverse);have h3:List.takeWhile (fun x:UInt8=>decide (x≠47)) l.reverse=l.reverse:=h2.eq_of_length h;have h4:=rp.1 h3 47 (List.mem_reverse.2 hl);simp at h4
   ·have:¬47∈c::l:=by
     intro h;rcases List.mem_cons.1 h with h|h
     ·exact hc h.symm
     ·exact hl h
    rw [if_neg hl,if_neg this];simp
theorem Lo (l:List UInt8):di l=gL l:=by
 unfold di;rw [PH];split
 ·rfl
 ·rename_i h
  unfold gL;have:l.reverse.takeWhile (fun x:UInt8=>decide (x≠47))=l.reverse:=by
   rw [rp];intro x hx;have:x≠47:=by rintro rfl;exact h (List.mem_reverse.1 hx)
   simpa using this
  rw [this,List.reverse_reverse];rfl
def iI (l:List UInt8) (fr k:Nat):List (List UInt8):=if k<=l.length then pc ((l.drop fr).take (k-fr)) (l.drop k) else []
theorem Bt (l:List UInt8):iI l 0 0=pc [] l:=by simp[iI]
theorem Hc {l:List UInt8} {fr k:Nat} (h:fr<=k) (hk:k<l.length):(l.drop fr).take (k+1-fr)=(l.drop fr).take (k-fr)++[l[k]]:=by
 rw [show k+1-fr=(k-fr)+1 by omega,List.take_succ_eq_append_getElem (by rw[List.length_drop];omega)]
 congr 2
 rw [List.getElem_drop]
 congr 1
 omega
theorem Lp {l:List UInt8} {fr k:Nat} (h:fr<=k) (hk:k<l.length) (hc:l[k]≠47):iI l fr (k+1)=iI l fr k:=by
 unfold iI;rw [if_pos (by omega),if_pos (by omega),Hc h hk,List.drop_eq_getElem_cons hk,pc,if_neg hc]
theorem Hd {l:List UInt8} {fr k:Nat} (hk:k<l.length) (hc:l[k]=47):iI l fr k=(l.drop fr).take (k-fr)::iI l (k+1) (k+1):=by
 unfold iI;rw [if_pos (by omega),if_pos (by omega),List.drop_eq_getElem_cons hk,pc,if_pos hc];simp
theorem He {l:List UInt8} {fr:Nat}:iI l fr l.length=(l.drop fr).take (l.length-fr)::iI l (l.length+1) (l.length+1):=by
 unfold iI;rw [if_pos (Nat.le_refl _),if_neg (by omega),List.drop_length,pc]
def eU (l:List UInt8):Bool:=di l == [] || di l == [46] || di l == [46,46]
def mr (l:List UInt8):List UInt8:=(l.reverse.dropWhile (· == 47)).reverse
open Go.RowKit
theorem Lq {P:Program} {t:TypeId} (ht:P.underlying t=some .string) (s:ByteArray) (j:Int) (b:Nat) (hj:j=b) (hb:b<=s.size) (r:ByteArray) (hr:s.extract 0 b=r) (w:World) :
  (Instr.slice t (.string s) none (some (.int .i64 j)) none).run P w=.ok (.string r) w:=by
 subst hj;subst hr;rw [run_slice_string_to_if (P:=P) w t s .i64 (b:Int) ht,if_pos (by omega)];simp
theorem DA {P:Program} {t:TypeId} (ht:P.underlying t=some .string) (s:ByteArray) (i:Int) (a:Nat) (hi:i=a) (ha:a<=s.size) (r:ByteArray) (hr:s.extract a s.size=r) (w:World) :
  (Instr.slice t (.string s) (some (.int .i64 i)) none none).run P w=.ok (.string r) w:=by
 subst hi;subst hr;rw [run_slice_string_from_if (P:=P) w t s .i64 (a:Int) ht,if_pos (by omega)];simp
theorem Xg (l:List UInt8) (b:Nat):(bs l).extract 0 b=bs (l.take b):=by rw[l7];simp
theorem PI (l:List UInt8) (a:Nat):(bs l).extract a (bs l).size=bs (l.drop a):=by
 rw [l7,aU,List.take_of_length_le (by rw[List.length_drop];omega)]
theorem xq {c d:UInt8}:((c.toNat:Int) == (d.toNat:Int))=(c == d):=by
 rw [Bool.eq_iff_iff,beq_iff_eq,beq_iff_eq];exact ⟨fun h=>UInt8.toNat_inj.1 (by omega),fun h=>by rw[h]⟩
open Go.ChangeShapes Go.WideShapes Go.ChangeAt Go.RowKit
theorem jO.base {w:World} {b b':Nat} {v:Value} {l:List vR} (h:jO w b v l) (hb:b'<=b):jO w b' v l:=by
 obtain ⟨h1,h2⟩:=h;refine ⟨h1,?_⟩;rcases h2 with h2|⟨g,cap,cur,hv,hg,hr⟩
 ·exact .inl h2
 ·exact .inr ⟨g,cap,cur,hv,Nat.le_trans hb hg,hr⟩
def Lr (w:World) (l:List vR) (e:Ending) (w':World):Prop:=∃v,e=.returned v/\jO w' w.heap.size v l/\Ext w w'
theorem uA (l:List UInt8) (w:World) (hlen:l.length<=2000000):Calls Tryz.prog 96 #[bs l] w (Lr w (pc [] l)):=by
 have hsz:((bs l).size:Int)=l.length:=by rw[aU]
 obtain ⟨i0,hi,hz0,hz1,hz2⟩:=info_parts sW;go_enter Tryz.func96,Tryz.ntmps96;go_wp2_with fail;go_loopw [3,4] (fun u i wr=>∃k:Nat,k<=l.length/\i=.int .i64 k/\(∃D cur,pc [] l=D++pc cur (l.drop k)/\D.length<=k/\cur.length<=k/\jO wr w.heap.size u (D++[cur]))/\Ext w wr) (fun _ i _=>l.length-(intOf i).toNat)
 case atStart =>
  refine ⟨0,Nat.zero_le _,rfl,⟨[],[],by simp,by simp,by simp,?_⟩,(Ext.refl _).alloc _⟩;exact World.ownsRow_lit w #[.string (bs [])] 1 (Nat.le_refl _) (by decide) rfl
 case round =>
  obtain ⟨k,hk,rfl,⟨D,cur,hd,hD,ab9,hown⟩,hE⟩:=hrel
  by_cases hlt:(k:Int)<l.length
  ·have dq:k<l.length:=by omega
   have hks:k<(bs l).size:=by rw[aU];exact dq
   have hg:(bs l)[k]=l[k]:=CD l k hks dq;obtain⟨c,hc⟩:=ar (l[k]);have Vv:l.drop k=c::l.drop (k+1):=by rw[hc];exact List.drop_eq_getElem_cons dq
   rw [Vv,pc]at hd;rw [<-hc]at hg;have hx1:(bs l).extract k (k+1)=bs [c]:=by rw[OD (bs l) k hks,hg]
   have hcb:(c.toNat:Int)<256:=by have:=c.toNat_lt;omega
   have HG:=zH hg;have HC:=zH hc
   by_cases hs:c=47
   ·rw [if_pos hs]at hd
    have hs2:(((bs l)[k].toNat:Int) == 47)=true:=by rw[hg,hs];rfl
    have HD:=zH hd;clear hs hd Vv hg hc hx1;obtain⟨M,hM⟩:=ar (D++[cur]);rw [<-hM]at hown;have HM:=zH hM;have Ru:M.length<=k+1:=by rw[hM];simp;omega
    clear hM;unfold jO at hown;go_wp2_with (at_builtin;refine wpList_append_own _ rfl _ _ 140 rfl w.heap.size 9 i0 (.string ⟨#[]⟩) 1 16 Tryz.underlying140 hi hz0 hz1 hz2 rfl (by decide) _ _ _ rfl (hown.alloc _) ⟨wr.heap.size,0,none⟩ 1 1 (bG [[]]) rfl rfl (tH wr []) (kn [[]]) (by unfold maxLen;omega) (by omega) (by have:=hE.size;simp;omega) ?_);intro v' w2 gQ hgrow _;obtain ⟨mL,lj⟩:=EI hown hE gQ hgrow;clear gQ hgrow;have v_:=zH mL;clear mL;go_wp2_with fail;go_roundw
    case rel=>exact⟨k+1,by omega,by go_num,⟨M,[],by rw[HD.out,HM.out];simp,by omega,by simp,v_.out⟩,lj⟩
    case measure=>simp[intOf];omega
   ·rw [if_neg hs]at hd
    have hs2:(((bs l)[k].toNat:Int) == 47)=false:=by
     rw [hg,beq_eq_false_iff_ne];intro h;exact hs (UInt8.toNat_inj.1 (by have:(47:UInt8).toNat=47:=rfl;omega))
    have HD:=zH hd;clear hs hd Vv hg hc;unfold jO at hown;obtain⟨n,hn⟩:=ar D.length;have g_:(D++[cur]).length=n+1:=by rw[hn];simp
    rw [g_]at hown;obtain ⟨g,cap,rfl⟩:=ownsRow_succ hown;have hcl:wr.cell? ⟨g,n,none⟩=some (.string (bs cur)):=by
     rw [hown.cellAt n (by omega),kp (D++[cur]) n (by rw[g_];omega)];simp [hn]
    have J6:=hown.frozenAt n;have hst:=hown.stored n (.string (bs (cur++[c])));have NX:=(hown.lt g rfl).1;have Bu:Hid (jO (wr.setCell ⟨g,n,none⟩ (.string (bs (cur++[c])))) w.heap.size (.slice (some ⟨g,0,none⟩) (n+1) cap) (D++[cur++[c]])/\Ext w (wr.setCell ⟨g,n,none⟩ (.string (bs (cur++[c]))))):=by
     refine ⟨?_,hE.setCell NX _⟩;have h:=hst.1;have e1:(bG (D++[cur])).set n (.string (bs (cur++[c])))=bG (D++[cur++[c]]):=by
      rw [hn];simp[bG]
     rw [e1]at h;unfold jO;have e2:(D++[cur++[c]]).length=n+1:=by rw[hn];simp
     rw [e2];exact h
    have z1:(bs cur).size=cur.length:=aU _;have z2:(bs [c]).size=1:=aU _;have aca:¬9223372036854775807<cur.length+1:=by omega
    have z3:(bs (cur++[c])).size=cur.length+1:=by rw[aU];simp
    have acb:bs cur++bs [c]=bs (cur++[c]):=lA _ _;have Xh:IntKind.i64.wrap (n:Int)=n:=bV (by omega) (by omega);have Ri:IntKind.i64.wrap ((k:Int)+1)=k+1:=bV (by omega) (by omega);have hn0:(0:Int)<=(n:Int):=Int.natCast_nonneg _;have Cw:(0:Int)<=(k:Int):=Int.natCast_nonneg _;have gG:((k:Int)+1).toNat=k+1:=by omega
    have hk2:k+1<=(bs l).size:=hks;have xg:=qE (P:=Tryz.prog) Tryz.underlying9 (bs l) (k:Int) ((k:Int)+1) k (k+1) rfl (by omega) (by omega) hk2 (bs [c]) hx1;have lJ:(n:Int)<(n:Int)+1:=by omega
    have hneg:decide ((n:Int)<0)=false:=decide_eq_false (by omega);have hge:decide ((0:Int)<=(n:Int))=true:=decide_eq_true (by omega);have HN:=zH hn;clear hst hown g_ hn;go_wp2_with fail;go_still_tail 16,(by kernel_rfl);change wpList _ _ _ _ _ wr.drew;go_wp2_with fail;go_roundw
    case rel=>exact⟨k+1,by omega,by go_num,⟨D,cur++[c],HD.out,by omega,by simp;omega,Bu.out.1⟩,Bu.out.2.drew⟩
    case measure=>simp[intOf];omega
  ·obtain rfl:k=l.length:=by omega
   rw [List.drop_length,pc]at hd;rw [<-hd]at hown;have HO:=zH hown;clear hown hd;go_wp2_with fail;go_ret;exact ⟨_,rfl,HO.out,hE⟩
theorem r7 (l:List UInt8):(pc [] l).length<=l.length+1:=Lm l []
theorem gM {p:List UInt8}:((bs p).toList == ([]:List UInt8))=(p == [])/\((bs p).toList == [46])=(p == [46])/\((bs p).toList == [46,46])=(p == [46,46])/\(bs p).toList.isEmpty=(p == []):=by
 rw [bk];refine ⟨rfl,rfl,rfl,?_⟩
 cases p<;>rfl
theorem uB (l:List UInt8) (w:World) (hlen:l.length<=2000000):Calls Tryz.prog 60 #[bs l] w (Lr w (a_ l)):=by
 obtain ⟨i0,hi,hz0,hz1,hz2⟩:=info_parts sW;obtain⟨M,hM⟩:=ar (pc [] l);have Ru:=r7 l;have hP:Hid (a_ l=M.filter fC):=by show _=_;rw[hM];rfl
 rw [<-hM]at Ru;have HM:=zH hM;clear hM;go_enter Tryz.func60,Tryz.ntmps60;go_wp2_with fail;refine (uA l _ hlen).mono ?_;rintro e w1 ⟨v,rfl,hv,EL⟩;rw [<-HM.out]at hv;obtain ⟨A,cap,rfl,hle,hcm,hat,hAn⟩:=hv.at_;clear hv;go_wp2_with fail;go_loopw [3,5] (fun u i wr=>∃k:Nat,k<=M.length/\i=.int .i64 k/\jO wr w1.heap.size u ((M.take k).filter fC)/\Ext w1 wr) (fun _ i _=>M.length-(intOf i).toNat)
 case atStart =>
  refine ⟨0,Nat.zero_le _,rfl,?_,Ext.refl _⟩;exact World.ownsRow_nil _ _ _ _
 case round =>
  obtain ⟨k,hk,rfl,hown,hE⟩:=hrel
  by_cases hlt:(k:Int)<M.length
  ·have dq:k<M.length:=by omega
   obtain ⟨b,o,rfl,hb,hcl⟩:=hat.at_ hE k dq;have lk:Hid (M.take (k+1)=M.take k++[M[k]]):=List.take_succ_eq_append_getElem dq;obtain⟨p,hp⟩:=ar (M[k]);rw [<-hp]at hcl lk;obtain ⟨t0,t1,_,t3⟩:=gM (p:=p);obtain⟨X,hX⟩:=ar (bs p);rw [<-hX]at hcl t0 t1 t3;have HX:=zH hX;have NX:Hid (fC p=(!(p == [])&&!(p == [46]))):=rfl;clear hp hX
   cases h0:(p == []) with
   | true =>
    rw [h0]at t0 t3;have hn:Hid ((M.take (k+1)).filter fC=(M.take k).filter fC):=by
     show _=_;rw [lk.out,List.filter_append,List.filter_cons,if_neg (by rw[NX.out,h0];simp)];simp
    clear h0 t1;have HO:=zH hown;clear hown;go_wp2_with fail;go_roundw
    case rel=>exact⟨k+1,by omega,by go_num,by rw[hn.out];exact HO.out,hE⟩
    case measure=>simp[intOf];omega
   | false =>
    cases h1:(p == [46]) with
    | true =>
     rw [h0]at t0 t3;rw [h1]at t1;have hn:Hid ((M.take (k+1)).filter fC=(M.take k).filter fC):=by
      show _=_;rw [lk.out,List.filter_append,List.filter_cons,if_neg (by rw[NX.out,h0,h1];simp)];simp
     clear h0 h1;have HO:=zH hown;clear hown;go_wp2_with fail;go_roundw
     case rel=>exact⟨k+1,by omega,by go_num,by rw[hn.out];exact HO.out,hE⟩
     case measure=>simp[intOf];omega
    | false =>
     rw [h0]at t0 t3;rw [h1]at t1;have hn:Hid ((M.take (k+1)).filter fC=(M.take k).filter fC++[p]):=by
      show _=_;rw [lk.out,List.filter_append,List.filter_cons,if_pos (by rw[NX.out,h0,h1];rfl)];simp
     have Jm:((M.take k).filter fC).length<=k:=Nat.le_trans (List.length_filter_le _ _) (by rw[List.length_take];omega);obtain⟨Q,hQ⟩:=ar ((M.take k).filter fC);rw [<-hQ]at hown Jm hn;clear h0 h1 hQ;unfold jO at hown;have sH:∀j u,(bG [p])[j]?=some u->(wr.alloc (.cells #[.string X] 9)).cell? ((⟨wr.heap.size,0,none⟩:Addr).add j)=some u:=by rw[HX.out];exact tH wr p
     go_wp2_with (at_builtin;refine wpList_append_own _ rfl _ _ 140 rfl w1.heap.size 9 i0 (.string ⟨#[]⟩) 1 16 Tryz.underlying140 hi hz0 hz1 hz2 rfl (by decide) _ _ _ rfl (hown.alloc _) ⟨wr.heap.size,0,none⟩ 1 1 (bG [p]) rfl rfl sH (kn [p]) (by unfold maxLen;omega) (by omega) (by have:=hE.size;simp;omega) ?_);intro v' w2 gQ hgrow _;obtain ⟨mL,lj⟩:=EI hown hE gQ hgrow;clear gQ hgrow sH;have v_:=zH mL;clear mL hown;go_wp2_with fail;go_roundw
     case rel=>exact⟨k+1,by omega,by go_num,by rw[hn.out];exact v_.out,lj⟩
     case measure=>simp[intOf];omega
  ·obtain rfl:k=M.length:=by omega
   rw [List.take_length,<-hP.out]at hown;have HO:=zH hown;clear hown;go_wp2_with fail;go_ret;exact ⟨_,rfl,jO.base HO.out EL.size,EL.trans hE⟩
theorem PJ {l:List UInt8} {w:World} {A:Option Addr} (h:iy w A (pc [] l)):∃n b o,(pc [] l).length=n+1/\A=some ⟨b,o,none⟩/\w.cell? ⟨b,o+n,none⟩=some (.string (bs (di l))):=by
 obtain ⟨n,hn⟩:∃n,(pc [] l).length=n+1:=Nat.exists_eq_succ_of_ne_zero (fun e=>Rt l [] (List.eq_nil_of_length_eq_zero e));obtain ⟨b,o,hA,_,hc⟩:=h.at_ (Ext.refl _) n (by omega);refine ⟨n,b,o,hn,hA,?_⟩;rw [hc]
 congr 3
 unfold di;have e:(pc [] l).length-1=n:=by omega
 rw [List.getLastD_eq_getLast?,List.getLast?_eq_getElem?,e,List.getElem?_eq_getElem (by omega)];rfl
theorem uC (l:List UInt8) (w:World) (hlen:l.length<=2000000):Calls Tryz.prog 61 #[bs l] w (aH w (.bool (eU l))):=by
 have Ru:=r7 l;have hS:Hid (eU l=(di l == [] || di l == [46] || di l == [46,46])):=rfl;obtain ⟨t0,t1,t2,t3⟩:=gM (p:=di l);obtain⟨X,hX⟩:=ar (bs (di l));rw [<-hX]at t0 t1 t2 t3;have HX:=zH hX;clear hX;obtain⟨B0,Ts⟩:=ar (di l == []);obtain⟨B1,zT⟩:=ar (di l == [46]);obtain⟨B2,oZ⟩:=ar (di l == [46,46]);rw [<-Ts,<-zT,<-oZ]at hS;rw [<-Ts]at t0 t3;rw [<-zT]at t1;rw [<-oZ]at t2;clear Ts zT oZ;go_enter Tryz.func61,Tryz.ntmps61;go_wp2_with fail;refine (uA l _ hlen).mono ?_;rintro e w1 ⟨v,rfl,hv,EL⟩;obtain ⟨A,cap,rfl,hle,hcm,hat,hAn⟩:=hv.at_;obtain ⟨n,b,o,hn,rfl,hcl⟩:=PJ hat;rw [<-HX.out]at hcl;rw [hn]at hle Ru|-;clear hv hat hAn hn;have Xh:IntKind.i64.wrap (n:Int)=n:=bV (by omega) (by omega);have hn0:(0:Int)<=(n:Int):=Int.natCast_nonneg _;have lJ:(n:Int)<(n:Int)+1:=by omega
 cases B0<;>cases B1<;>cases B2
 all_goals
  go_wp2_with fail;go_ret;exact aH.mk (gU (by rw[hS.out];rfl)) EL
def strOf:Value->ByteArray
 | .string s=>s
 | _=>⟨#[]⟩
theorem Hf (l:List UInt8):mr (l++[47])=mr l:=by
 unfold mr;rw [List.reverse_append];simp
theorem Hg {l:List UInt8} {c:UInt8} (h:c≠47):mr (l++[c])=l++[c]:=by
 unfold mr;rw [List.reverse_append];have:(c == 47)=false:=beq_eq_false_iff_ne.2 h;simp [this]
theorem DB (l:List UInt8):l=[]\/∃a c,l=a++[c]:=by
 rcases List.eq_nil_or_concat l with h|⟨a,c,h⟩
 ·exact .inl h
 ·exact .inr ⟨a,c,by rw[h,List.concat_eq_append]⟩
def j6 (l:List UInt8):Int:=if l=[] then 5 else if l.head?≠some 47\/hasB l 0=true then 1 else if 4096<l.length then 13 else 0
theorem Bv {l:List UInt8} (h0:¬l=[]):j6 l=if l.head?≠some 47\/hasB l 0=true then 1 else if 4096<l.length then 13 else 0:=by
 unfold j6;rw[if_neg h0]
theorem Hh (l:List UInt8) (w:World) (hlen:l.length<=1000000):Calls Tryz.prog 59 #[bs l] w (aH w (.int .i64 (j6 l))):=by
 have z0:(bs l).size=l.length:=aU l;have hb:Hid ((bs l).data.toList=l):=kV l;have hs:(bs l).size<=1000000:=by omega
 cases l with
 | nil =>
  have e:(bs []).toList=[]:=bk [];go_enter Tryz.func59,Tryz.ntmps59;go_wp2_with fail;go_ret;exact aH.mk rfl (Ext.refl _)
 | cons c t =>
  have hp:=Bv (l:=c::t) (by simp);have e0:(bs (c::t)).toList.isEmpty=false:=by rw[bk];rfl
  have hks:0<(bs (c::t)).size:=by rw[aU];simp
  have hg:(bs (c::t))[0]=c:=rfl
  by_cases hc:c=47
  ·have hs2:(((bs (c::t))[0].toNat:Int) != 47)=false:=by rw[hg,hc];rfl
   cases hz:hasB (c::t) 0 with
   | true =>
    have hf:Hid (j6 (c::t)=1):=by show _=_;rw[hp,if_pos (.inr hz)]
    have HZ:=zH hz;obtain⟨X,hX⟩:=ar (bs (c::t));clear hp hg hc hz;go_enter Tryz.func59,Tryz.ntmps59;go_wp2_with fail;refine (gj _ 0 _ (by rfl) hs _).mono ?_;rintro e w1 ⟨rfl,b1⟩;rw [hb.out,HZ.out];go_wp2_with fail;go_ret;exact aH.mk (aB (by rw[hf.out])) b1
   | false =>
    have HZ:=zH hz;have hf:Hid (j6 (c::t)=if 4096<t.length+1 then 13 else 0):=by
     show _=_;rw [hp,if_neg (by rw[hz,hc];simp)];rfl
    by_cases h:4096<t.length+1
    ·rw [if_pos h]at hf
     clear hp hg hc hz;go_enter Tryz.func59,Tryz.ntmps59;go_wp2_with fail;refine (gj _ 0 _ (by rfl) hs _).mono ?_;rintro e w1 ⟨rfl,b1⟩;rw [hb.out,HZ.out];go_wp2_with fail;go_ret;exact aH.mk (aB (by rw[hf.out])) b1
    ·rw [if_neg h]at hf
     clear hp hg hc hz;go_enter Tryz.func59,Tryz.ntmps59;go_wp2_with fail;refine (gj _ 0 _ (by rfl) hs _).mono ?_;rintro e w1 ⟨rfl,b1⟩;rw [hb.out,HZ.out];go_wp2_with fail;go_ret;exact aH.mk (aB (by rw[hf.out])) b1
  ·have hs2:(((bs (c::t))[0].toNat:Int) != 47)=true:=by
    have:=(xq (c:=c) (d:=47)).trans (beq_eq_false_iff_ne.2 hc);rw [hg,bne,show ((c.toNat:Int) == 47)=false from this];rfl
   have hf:Hid (j6 (c::t)=1):=by show _=_;rw[hp,if_pos (.inl (by simpa using hc))]
   clear hp hg hc;go_enter Tryz.func59,Tryz.ntmps59;go_wp2_with fail;go_ret;exact aH.mk (aB (by rw[hf.out])) (Ext.refl _)
noncomputable def Ls (l:List UInt8):Int:=Lib.lastIndexByte (bs l) 47
theorem yR (l:List UInt8) (j:Nat) (h:j<l.length):(bs l).data[j]! = l[j]:=by
 simp [bs,h]
theorem Bw (l:List UInt8):(Ls l=-1/\47∉l)\/∃i:Nat,i<l.length/\Ls l=i/\l[i]?=some 47/\47∉l.drop (i+1):=by
 rcases Lib.lastIndexByte_spec (bs l) 47 with⟨h1,h2⟩|⟨i,hi,h1,h2,h3⟩
 ·refine .inl ⟨h1,fun hm=>?_⟩
  obtain ⟨j,hj,hx⟩:=List.mem_iff_getElem.1 hm;have:=h2 j (by rw[aU];exact hj);rw [yR l j hj,hx]at this;exact this rfl
 ·rw [aU]at hi
  refine .inr ⟨i,hi,h1,?_,fun hm=>?_⟩
  ·rw [yR l i hi]at h2
   rw [List.getElem?_eq_getElem hi,Option.some.injEq];exact UInt8.toNat_inj.1 (by have:(47:UInt8).toNat=47:=rfl;omega)
  ·obtain ⟨j,hj,hx⟩:=List.mem_iff_getElem.1 hm
   rw [List.length_drop]at hj;have:=h3 (i+1+j) (by omega) (by rw[aU];omega);rw [yR l _ (by omega)]at this;rw [List.getElem_drop]at hx;rw [hx]at this;exact this rfl
theorem wv (a b:List UInt8) (h:47∉b):gL (a++47::b)=b:=by
 unfold gL;have h1:b.reverse.takeWhile (fun x:UInt8=>decide (x≠47))=b.reverse:=by
  rw [rp];intro x hx;have:x≠47:=by rintro rfl;exact h (List.mem_reverse.1 hx)
  simpa using this
 rw [List.reverse_append,List.reverse_cons,List.append_assoc,List.takeWhile_append,h1,if_pos rfl,List.singleton_append,List.takeWhile_cons,if_neg (by decide)];simp
theorem ww (b:List UInt8) (h:47∉b):gL b=b:=by
 unfold gL;have h1:b.reverse.takeWhile (fun x:UInt8=>decide (x≠47))=b.reverse:=by
  rw [rp];intro x hx;have:x≠47:=by rintro rfl;exact h (List.mem_reverse.1 hx)
  simpa using this
 rw [h1,List.reverse_reverse]
theorem DC {l:List UInt8} {k:Nat} (hk:l[k]?=some 47):l=l.take k++47::l.drop (k+1):=by
 have h:k<l.length:=by
  rcases Nat.lt_or_ge k l.length with h|h
  ·exact h
  ·rw[List.getElem?_eq_none h]at hk;cases hk
 have h2:l[k]=47:=by rw[List.getElem?_eq_getElem h]at hk;exact Option.some.inj hk
 have h3:=List.drop_eq_getElem_cons h;rw [h2]at h3;rw [<-h3,List.take_append_drop]
theorem DD (l:List UInt8):∃k:Nat,k<=l.length/\Ls l=(k:Int)-1/\l.drop k=di l:=by
 rw [Lo];rcases Bw l with⟨h1,h2⟩|⟨i,hi,h1,h2,h3⟩
 ·exact⟨0,Nat.zero_le _,by omega,by rw[ww l h2];rfl⟩
 ·refine ⟨i+1,hi,by omega,?_⟩
  have h4:=DC h2;have h5:=wv (l.take i) (l.drop (i+1)) h3;rw [<-h4]at h5;exact h5.symm
theorem Hi (l:List UInt8) (w:World) (hlen:l.length<=2000000):Calls Tryz.prog 163 #[bs l] w (aH w (.string (bs (di l)))):=by
 obtain ⟨k,hk,hi,hd⟩:=DD l;have z0:(bs l).size=l.length:=aU l;have xg:=DA (P:=Tryz.prog) Tryz.underlying9 (bs l) (k:Int) k rfl (by omega) (bs (di l)) (by rw[PI,hd]);have hw:IntKind.i64.wrap (k:Int)=k:=bV (by omega) (by omega);obtain⟨T,hT⟩:=ar (bs (di l));rw [<-hT]at xg|-;have HI:Hid (Lib.lastIndexByte (bs l) 47=(k:Int)-1):=hi;clear hi hd hT;go_enter Tryz.func163,Tryz.ntmps163;go_wp2_with fail;refine (Tryz.strings_LastIndexByte _ 47 (by omega) _).mono ?_;rintro e w1 ⟨rfl,rfl⟩;rw [HI.out];go_wp2_with fail;go_ret;exact aH.mk rfl (Ext.refl _)
theorem uD (l:List UInt8) (w:World) (hlen:l.length<=2000000):Calls Tryz.prog 142 #[bs l] w (aH w (.bool (eU l))):=by
 have hS:Hid (eU l=(di l == [] || di l == [46] || di l == [46,46])):=rfl;obtain ⟨t0,t1,t2,t3⟩:=gM (p:=di l);obtain⟨X,hX⟩:=ar (bs (di l));rw [<-hX]at t0 t1 t2 t3;have HX:=zH hX;clear hX;obtain⟨B0,Ts⟩:=ar (di l == []);obtain⟨B1,zT⟩:=ar (di l == [46]);obtain⟨B2,oZ⟩:=ar (di l == [46,46]);rw [<-Ts,<-zT,<-oZ]at hS;rw [<-Ts]at t0 t3;rw [<-zT]at t1;rw [<-oZ]at t2;clear Ts zT oZ;go_enter Tryz.func142,Tryz.ntmps142;go_wp2_with fail;refine (Hi l _ hlen).mono ?_;rintro e w1 ⟨rfl,EL⟩;rw [<-HX.out]
 cases B0<;>cases B1<;>cases B2
 all_goals
  go_wp2_with fail;go_ret;exact aH.mk (gU (by rw[hS.out];rfl)) EL
theorem uE (l:List UInt8):(mr l).length<=l.length:=by
 unfold mr;rw [List.length_reverse];have:=(List.dropWhile_sublist (fun x:UInt8=>x == 47) (l:=l.reverse)).length_le;simpa using this
theorem Hj (l:List UInt8) (w:World) (hlen:l.length<=1000000):Calls Tryz.prog 139 #[bs l] w (aH w (.int .i64 (j6 l))):=by
 have z0:(bs l).size=l.length:=aU l;have hb:Hid ((bs l).data.toList=l):=kV l;have hs:(bs l).size<=1000000:=by omega
 cases l with
 | nil =>
  have e:(bs []).toList=[]:=bk [];go_enter Tryz.func139,Tryz.ntmps139;go_wp2_with fail;go_ret;exact aH.mk rfl (Ext.refl _)
 | cons c t =>
  have hp:=Bv (l:=c::t) (by simp);have e0:(bs (c::t)).toList.isEmpty=false:=by rw[bk];rfl
  have hks:0<(bs (c::t)).size:=by rw[aU];simp
  have hg:(bs (c::t))[0]=c:=rfl
  by_cases hc:c=47
  ·have hs2:(((bs (c::t))[0].toNat:Int) != 47)=false:=by rw[hg,hc];rfl
   cases hz:hasB (c::t) 0 with
   | true =>
    have hf:Hid (j6 (c::t)=1):=by show _=_;rw[hp,if_pos (.inr hz)]
    have HZ:=zH hz;obtain⟨X,hX⟩:=ar (bs (c::t));clear hp hg hc hz;go_enter Tryz.func139,Tryz.ntmps139;go_wp2_with fail;refine (Tryz.strings_Contains_one _ 0 _).mono ?_;rintro e w1 ⟨rfl,rfl⟩;rw [hb.out,mg,HZ.out];go_wp2_with fail;go_ret;exact aH.mk (aB (by rw[hf.out])) (Ext.refl _)
   | false =>
    have HZ:=zH hz;have hf:Hid (j6 (c::t)=if 4096<t.length+1 then 13 else 0):=by
     show _=_;rw [hp,if_neg (by rw[hz,hc];simp)];rfl
    by_cases h:4096<t.length+1
    ·rw [if_pos h]at hf
     clear hp hg hc hz;go_enter Tryz.func139,Tryz.ntmps139;go_wp2_with fail;refine (Tryz.strings_Contains_one _ 0 _).mono ?_;rintro e w1 ⟨rfl,rfl⟩;rw [hb.out,mg,HZ.out];go_wp2_with fail;go_ret;exact aH.mk (aB (by rw[hf.out])) (Ext.refl _)
    ·rw [if_neg h]at hf
     clear hp hg hc hz;go_enter Tryz.func139,Tryz.ntmps139;go_wp2_with fail;refine (Tryz.strings_Contains_one _ 0 _).mono ?_;rintro e w1 ⟨rfl,rfl⟩;rw [hb.out,mg,HZ.out];go_wp2_with fail;go_ret;exact aH.mk (aB (by rw[hf.out])) (Ext.refl _)
  ·have hs2:(((bs (c::t))[0].toNat:Int) != 47)=true:=by
    have:=(xq (c:=c) (d:=47)).trans (beq_eq_false_iff_ne.2 hc);rw [hg,bne,show ((c.toNat:Int) == 47)=false from this];rfl
   have hf:Hid (j6 (c::t)=1):=by show _=_;rw[hp,if_pos (.inl (by simpa using hc))]
   clear hp hg hc;go_enter Tryz.func139,Tryz.ntmps139;go_wp2_with fail;go_ret;exact aH.mk (aB (by rw[hf.out])) (Ext.refl _)
open Go
section
variable {F:Fence} {n:Nat} {P:Program} {Q:Exit->Act->World->Prop} {a:Act} {w:World} {b:Frame} {k:List Item} {cs:List Frame}
theorem iJ {c:Code}:step P (lone (b.atR a (.code (.scope c)::k)) cs w)=.next (lone (b.atR a (.code c::.inScope c::k)) cs w):=
 step_lone_go (by simp[stepG,stepG.exec,Frame.atR])
theorem wy {c:Code}:step P (lone (b.atR a (.inScope c::k)) cs w)=.next (lone (b.atR a k) cs w):=
 step_lone_go (by simp[stepG,stepG.exec,Frame.atR])
theorem oq {c:Code} (h:c.wpIn F n P (Exit.noGoto Q) a w):(Code.scope c).wpIn F n P Q a w:=by
 intro b k cs hro hb hr;have h0:(lone (b.atR a (.code (.scope c)::k)) cs w).fenced P F:=fenced_calm hb hr rfl;obtain ⟨e,a₁,w₁,hq,harr⟩:=h b (.inScope c::k) cs hro hb hr
 cases e with
 | normal=>exact⟨.normal,a₁,w₁,hq,.head h0 iJ (StepsIn.trans harr (.one (fenced_calm hb hr rfl) wy))⟩
 | exit id =>
  have hx:exitTo id (.inScope c::k)=exitTo id k:=by simp[exitTo]
  exact ⟨.exit id,a₁,w₁,hq,fun k' hk=>.head h0 iJ (harr.1 k' (by rw[hx];exact hk)),
   fun hr' hk=>let ⟨aaJ,h1,h2⟩:=harr.2 hr' (by rw[hx];exact hk);⟨aaJ,h1,.head h0 iJ h2⟩⟩
 | goto l=>exact hq.elim
 | ret=>exact⟨_,a₁,w₁,hq,.of_steps (.one h0 iJ) harr⟩
 | panic ch=>exact⟨_,a₁,w₁,hq,.of_steps (.one h0 iJ) harr⟩
 | outgrown=>exact⟨_,a₁,w₁,hq,.of_steps (.one h0 iJ) harr⟩
end
end
section
open Go.ChangeShapes Go.WideShapes Go.ChangeAt Go.RowKit Go.Shelf
attribute [local go_sem] Oper.semAt_some
abbrev PK (x:vR):Array Value:=#[bs x]
theorem DE (l:List UInt8) (fr k:Nat) (h:l.length<k):iI l fr k=[]:=by unfold iI;rw[if_neg (by omega)]
theorem Hk (F:Fence) (n:Nat) (hf:F.fn 162) (hro:F.round=none) (hn:1<=n) (lb Bs:Nat) (l:List UInt8) (hlen:l.length<=2000000) (J Jx:List vR->World->Prop) (Kp:World->World->Prop) (R:World->Prop)
  (hK:∀{A B:World},Kp A B->R A->R B) (hRc:∀{A:World},R A->A.cell? ⟨Bs,0,none⟩=some (.string (bs l))) (W:World)
  (hY : ∀pre x W,J pre W->pre.length<(a_ l).length->YieldAt F (n-1) Tryz.prog lb (PK x) W fun e W' =>
   (e=.returned (.bool true)/\J (pre++[x]) W'/\Kp W W')\/(e=.returned (.bool false)/\Jx (pre++[x]) W'))
  (zw:R W) (h0:J [] W) :
  CallsIn F n Tryz.prog 162 #[.func (.yield lb) #[] #[],.pointer (some ⟨Bs,0,none⟩)] W fun e W'=>(∃v,e=.returned v) /\
   ((∃ys,ys=a_ l/\J ys W')\/(∃pre,pre <+: a_ l/\Jx pre W')):=by
 have hsz:((bs l).size:Int)=l.length:=by rw[aU]
 refine callsIn_of_wp Tryz.func162 rfl hf ?_ hro;simp only[Tryz.ntmps162,List.size_toArray,List.length_cons,List.length_nil,Nat.reduceAdd,Nat.reduceSub,Array.replicate_succ,Array.replicate_zero,List.push_toArray,List.append_toArray,List.nil_append,List.cons_append];gi_wp2;refine oq ?_;gi_wp2;refine wpIn_label ?_;gi_wp2;gi_loopw [3,4] (fun f a wr=>∃fr k:Nat,fr<=k/\k<=l.length+1/\f=.int .i64 fr/\a=.int .i64 k/\∃pre,pre++(iI l fr k).filter fC=a_ l/\J pre wr/\R wr) (fun _ a _=>l.length+1-(intOf a).toNat)
 case atStart=>exact⟨0,0,Nat.le_refl _,Nat.zero_le _,rfl,rfl,[],by rw[Bt];rfl,h0,zw⟩
 case round =>
  obtain ⟨fr,k,hfk,hk,rfl,rfl,pre,jo,hJ,Rv⟩:=hrel;have hc:=hRc Rv
  by_cases hle:(k:Int)<=l.length
  ·have Cw : (0:Int)<=(k:Int):=Int.natCast_nonneg _
   obtain⟨p,hp⟩:=ar ((l.drop fr).take (k-fr))
   by_cases hlt:(k:Int)<l.length
   ·have dq : k<l.length:=by omega
    have hks:k<(bs l).size:=by rw[aU];exact dq
    have hg:(bs l)[k]=l[k]:=CD l k hks dq
    by_cases hs:l[k]=47
    ·have hs2:(((bs l)[k].toNat:Int) != 47)=false:=by rw[hg,hs];rfl
     have NJ:=Hd (fr:=fr) dq hs;rw [<-hp]at NJ;clear hg hs;have hr:iI l fr k=p::iI l (k+1) (k+1):=NJ;rw [hr,List.filter_cons]at jo;have gG:IntKind.i64.wrap ((k:Int)+1)=k+1:=bV (by omega) (by omega);have xg:=qE (P:=Tryz.prog) Tryz.underlying9 (bs l) (fr:Int) (k:Int) fr k rfl rfl hfk (by omega) (bs p) (by rw[l7,hp]);obtain ⟨t0,t1,_,t3⟩:=gM (p:=p);obtain⟨X,hX⟩:=ar (bs p);rw [<-hX]at xg t0 t1 t3;have HX:=zH hX;clear hX hp hr
     cases h0:(p == []) with
     | true =>
      rw [h0]at t0 t3;rw [if_neg (by unfold fC;rw[h0];simp)]at jo;have HP:=zH jo;clear h0 t1 jo;gi_wp2;go_roundw
      case rel=>exact⟨k+1,k+1,Nat.le_refl _,by omega,by go_num,by go_num,pre,HP.out,hJ,Rv⟩
      case measure=>simp[intOf];omega
     | false =>
      cases h1:(p == [46]) with
      | true =>
       rw [h0]at t0 t3;rw [h1]at t1;rw [if_neg (by unfold fC;rw[h0,h1];simp)]at jo;have HP:=zH jo;clear h0 h1 jo;gi_wp2;go_roundw
       case rel=>exact⟨k+1,k+1,Nat.le_refl _,by omega,by go_num,by go_num,pre,HP.out,hJ,Rv⟩
       case measure=>simp[intOf];omega
      | false =>
       rw [h0]at t0 t3;rw [h1]at t1;rw [if_pos (by unfold fC;rw[h0,h1];rfl)]at jo;have g_:pre.length<(a_ l).length:=by rw[<-jo];simp
       obtain ⟨fn,tmps,assign,body,hy,hR⟩:=hY pre p wr hJ g_
       try dsimp only[PK]at hy
       have HP:=zH jo;rw [<-HX.out]at hy;clear h0 h1 jo g_;gi_wp2;refine hR.mono ?_;rintro e W3 (⟨rfl,Jq,lF⟩|⟨rfl,tF⟩)
       ·gi_wp2
        go_roundw
        case rel=>exact⟨k+1,k+1,Nat.le_refl _,by omega,by go_num,by go_num,pre++[p],by rw[<-HP.out];simp,Jq,hK lF Rv⟩
        case measure=>simp[intOf];omega
       ·gi_wp2
        simp only[Exit.noGoto];gi_wp2;refine bodyPost_ret (results_none rfl _ _ _) rfl ?_;exact ⟨⟨_,rfl⟩,.inr ⟨_,by rw[<-HP.out];exact⟨_,by rw[List.append_assoc];rfl⟩,tF⟩⟩
    ·have hs2:(((bs l)[k].toNat:Int) != 47)=true:=by
      have:=(xq (c:=l[k]) (d:=47)).trans (beq_eq_false_iff_ne.2 hs);have K_:((bs l)[k].toNat:Int)=(l[k].toNat:Int):=congrArg (fun c:UInt8=>(c.toNat:Int)) hg;exact (congrArg (fun x:Int=>x != 47) K_).trans (by show (!((l[k].toNat:Int) == 47))=true;exact congrArg (fun b=>!b) this)
     have NJ:=Lp hfk dq hs;rw [<-NJ]at jo;have HP:=zH jo;clear hg hs NJ jo hp;gi_wp2;go_roundw
     case rel=>exact⟨fr,k+1,by omega,by omega,by go_num,by go_num,pre,HP.out,hJ,Rv⟩
     case measure=>simp[intOf];omega
   ·have NJ:iI l fr k=p::iI l (k+1) (k+1):=by
     have dq:k=l.length:=by omega
     rw [hp,dq];exact He
    have hr:iI l fr k=p::iI l (k+1) (k+1):=NJ;rw [hr,List.filter_cons]at jo;have gG:IntKind.i64.wrap ((k:Int)+1)=k+1:=bV (by omega) (by omega);have xg:=qE (P:=Tryz.prog) Tryz.underlying9 (bs l) (fr:Int) (k:Int) fr k rfl rfl hfk (by omega) (bs p) (by rw[l7,hp]);obtain ⟨t0,t1,_,t3⟩:=gM (p:=p);obtain⟨X,hX⟩:=ar (bs p);rw [<-hX]at xg t0 t1 t3;have HX:=zH hX;clear hX hp hr
    cases h0:(p == []) with
    | true =>
     rw [h0]at t0 t3;rw [if_neg (by unfold fC;rw[h0];simp)]at jo;have HP:=zH jo;clear h0 t1 jo;gi_wp2;go_roundw
     case rel=>exact⟨k+1,k+1,Nat.le_refl _,by omega,by go_num,by go_num,pre,HP.out,hJ,Rv⟩
     case measure=>simp[intOf];omega
    | false =>
     cases h1:(p == [46]) with
     | true =>
      rw [h0]at t0 t3;rw [h1]at t1;rw [if_neg (by unfold fC;rw[h0,h1];simp)]at jo;have HP:=zH jo;clear h0 h1 jo;gi_wp2;go_roundw
      case rel=>exact⟨k+1,k+1,Nat.le_refl _,by omega,by go_num,by go_num,pre,HP.out,hJ,Rv⟩
      case measure=>simp[intOf];omega
     | false =>
      rw [h0]at t0 t3;rw [h1]at t1;rw [if_pos (by unfold fC;rw[h0,h1];rfl)]at jo;have g_:pre.length<(a_ l).length:=by rw[<-jo];simp
      obtain ⟨fn,tmps,assign,body,hy,hR⟩:=hY pre p wr hJ g_
      try dsimp only[PK]at hy
      have HP:=zH jo;rw [<-HX.out]at hy;clear h0 h1 jo g_;gi_wp2;refine hR.mono ?_;rintro e W3 (⟨rfl,Jq,lF⟩|⟨rfl,tF⟩)
      ·gi_wp2
       go_roundw
       case rel=>exact⟨k+1,k+1,Nat.le_refl _,by omega,by go_num,by go_num,pre++[p],by rw[<-HP.out];simp,Jq,hK lF Rv⟩
       case measure=>simp[intOf];omega
      ·gi_wp2
       simp only[Exit.noGoto];gi_wp2;refine bodyPost_ret (results_none rfl _ _ _) rfl ?_;exact ⟨⟨_,rfl⟩,.inr ⟨_,by rw[<-HP.out];exact⟨_,by rw[List.append_assoc];rfl⟩,tF⟩⟩
  ·rw [DE l fr k (by omega)]at jo
   have HP:Hid (pre=a_ l):=by show _=_;rw[<-jo];simp
   clear jo;gi_wp2;go_end0;exact ⟨⟨_,rfl⟩,.inl ⟨_,HP.out,hJ⟩⟩
theorem Bz (F:Fence) (n:Nat) (hf:F.fn 162) (hro:F.round=none) (hn:1<=n) (Bs n₀:Nat) (l:List UInt8) (hlen:l.length<=2000000) (w:World) (zw:Bs<w.heap.size) (tE:Bs<n₀)
  (hc:w.cell? ⟨Bs,0,none⟩=some (.string (bs l))) :
  SeqStopsK F n Tryz.prog 162 #[.pointer (some ⟨Bs,0,none⟩)] PK (Below n₀) (fun ys=>ys=a_ l) (fun pre=>pre <+: a_ l) (a_ l).length w:=fun lb J Jx W hW _ _ hY h0 =>
 Hk F n hf hro hn lb Bs l hlen J Jx (Below n₀) (fun W=>W.cell? ⟨Bs,0,none⟩=some (.string (bs l))) (fun hk h=>(hk.cell (p:=⟨Bs,0,none⟩) tE).trans h) id W hY ((hW.cell (p:=⟨Bs,0,none⟩) zw).trans hc) h0
end
section
open Go.ChangeShapes Go.WideShapes Go.ChangeAt Go.RowKit Go.Shelf
attribute [local go_sem] Oper.semAt_some
theorem Lt (F:Fence) (n:Nat) (hf:F.fn 141) (hro:F.round=none) (s:ByteArray) (w:World) :
  CallsIn F n Tryz.prog 141 #[.string s] w fun e w'=>e=.returned (.func (.func 162) #[] #[.pointer (some ⟨w.heap.size,0,none⟩)])/\w'=w.alloc (.cells #[.string s] 9):=by
 refine callsIn_of_wp Tryz.func141 rfl hf ?_ hro;simp only[Tryz.ntmps141,List.size_toArray,List.length_cons,List.length_nil,Nat.reduceAdd,Nat.reduceSub,Array.replicate_succ,Array.replicate_zero,List.push_toArray,List.append_toArray,List.nil_append,List.cons_append];gi_wp2;go_ret;exact ⟨rfl,rfl⟩
end
section
open Go.ChangeShapes Go.WideShapes Go.ChangeAt Go.RowKit Go.Shelf
attribute [local go_sem] Oper.semAt_some
theorem yS (F:Fence) (n:Nat) (hro:F.round=none) (h83:F.fn 161) (h84:F.fn 162) (hn:3<=n) (Bs:Nat) (l:List UInt8) (hlen:l.length<=2000000) (w:World) (zw:Bs<w.heap.size)
  (hc:w.cell? ⟨Bs,0,none⟩=some (.string (bs l))) :
  CallsIn F n Tryz.prog 161 #[.slice none 0 0,.func (.func 162) #[] #[.pointer (some ⟨Bs,0,none⟩)]] w (Lr w (a_ l)):=by
 obtain ⟨i0,hi,hz0,hz1,hz2⟩:=info_parts sW;have hpl:=kG l;refine callsIn_of_wp_marks Tryz.func161 rfl h83 ?_ hro;simp only[Tryz.ntmps161,List.size_toArray,List.length_cons,List.length_nil,Nat.reduceAdd,Nat.reduceSub,Array.replicate_succ,Array.replicate_zero,List.push_toArray,List.append_toArray,List.nil_append,List.cons_append];gi_wp2;obtain⟨W0,bg⟩:=ar (w.alloc (.cells #[.slice none 0 0] 140));have bO:Boxed W0 w.heap.size 140 (.slice none 0 0):=by rw[bg];exact Boxed.new w _ _
 have E0:Ext w W0:=by rw[bg];exact (Ext.refl _).alloc _
 have hz:W0.heap.size=w.heap.size+1:=by rw[bg];simp
 have hc0:W0.cell? ⟨Bs,0,none⟩=some (.string (bs l)):=(E0.cell zw).trans hc;rw [<-bg];clear bg;refine wpIn_rangeFunc_ownG (w0:=W0) hro (by omega) (gf:=162) (lb:=#[.pointer (some ⟨Bs,0,none⟩)]) rfl h84 (enters_of Tryz.func162 (by kernel_rfl) rfl)
  (Bz F (n-1) h84 hro (by omega) Bs (w.heap.size) l hlen W0 (by omega) zw hc0) belowK_t (belowK_b (by omega)) (Below.refl _ _) (fun _=>rfl)
  (fun pre W=>(∃v,Boxed W w.heap.size 140 v/\W.ownsRow w.heap.size 9 1 v pre.length (bG pre)/\True)/\Below w.heap.size w W)
  (fun c pre W=>False)
  (OwnFrom.and (Own.from (holdsRow_own w.heap.size (w.heap.size) 140 9 1 (fun pre=>pre.length) bG (fun pre _=>True)) _) (ownFrom_below (Nat.le_refl _) (by omega)))
  (fun c=>by intro s X Y row h;exact h.elim)
  ⟨⟨_,bO,World.ownsRow_nil _ _ _ _,trivial⟩,E0⟩
  (fun x=>{tmps:=#[.slice none 0 0,.func (.func 162) #[] #[.pointer (some ⟨Bs,0,none⟩)],.pointer (some ⟨w.heap.size,0,none⟩),undef,.slice none 0 0,.string (bs x),.func (.func 162) #[] #[.pointer (some ⟨Bs,0,none⟩)],.string (bs x),undef,undef,undef,undef,undef],defers:=[]}) ?assign ?body ?done ?stop
 case assign =>
  intro l x W K hK;gi_wp2;exact hK
 case body =>
  rintro l' pre x W ⟨⟨v,hv,hrow,_⟩,hB⟩ aaK;have hc:=hv.cell;have hsz:=hB.size;have hf:=hv.frozen;gi_wp2_with (gi_at_builtin;refine wpListIn_append_own _ rfl _ _ 140 rfl w.heap.size 9 i0 (.string ⟨#[]⟩) 1 16 Tryz.underlying140 hi hz0 hz1 hz2 rfl (by decide) _ _ _ rfl (hrow.alloc _) ⟨W.heap.size,0,none⟩ 1 1 (bG [x]) rfl rfl (tH W x) (kn [x]) (by unfold maxLen;omega) (by omega) (by have:=hv.lt;simp;omega) ?_;intro v' w1 hown' hgrow _;obtain⟨g',cap',rfl⟩:=ownsRow_succ hown';obtain⟨ut,JL,zx,hk2,hb2⟩:=hv.appended (by decide) hrow (by have:=hv.lt;omega) (by omega) hown' hgrow;have hc1:=ut.cell;have Lb:=ut.frozen;have EB:=JL.cell);have Dt:(w1.setCell ⟨w.heap.size,0,none⟩ (.slice (some ⟨g',0,none⟩) (pre.length+1) cap')).ownsRow w.heap.size 9 1 (.slice (some ⟨g',0,none⟩) (pre.length+1) cap') (pre++[x]).length (bG (pre++[x])):=by rw[jN,List.length_append];exact zx
  exact ⟨hk2.from _,hb2,⟨_,JL,Dt,trivial⟩,hB.trans (hb2.mono (by omega))⟩
 case done =>
  rintro D ys W hD rfl ⟨⟨v,hv,hrow,_⟩,hB⟩ hK;have hc:=hv.cell;gi_wp2;refine ⟨by simp,.inl ⟨_,_,rfl,run_takeDeferred hK,?_⟩⟩;refine ⟨v,by simp[results,Tryz.results161,go_sem],v,rfl,?_,hB.trans (belowK_b (w:=w) (Nat.le_refl _) W D _ _ (by omega) hK rfl rfl)⟩;exact jO.base (ownsRow_putObj hrow _ hK rfl) (by omega)
 case stop =>
  rintro D c pre W hD hp h hK;exact h.elim
theorem DF (F:Fence) (n:Nat) (hro:F.round=none) (h38:F.fn 140) (h83:F.fn 161) (h84:F.fn 162) (hn:4<=n) (Bs:Nat) (l:List UInt8) (hlen:l.length<=2000000) (w:World) (zw:Bs<w.heap.size)
  (hc:w.cell? ⟨Bs,0,none⟩=some (.string (bs l))) :
  CallsIn F n Tryz.prog 140 #[.func (.func 162) #[] #[.pointer (some ⟨Bs,0,none⟩)]] w (Lr w (a_ l)):=by
 refine callsIn_of_wp Tryz.func140 rfl h38 ?_ hro;simp only[Tryz.ntmps140,List.size_toArray,List.length_cons,List.length_nil,Nat.reduceAdd,Nat.reduceSub,Array.replicate_succ,Array.replicate_zero,List.push_toArray,List.append_toArray,List.nil_append,List.cons_append];have h1:F.depth.isSome=true->1<=n:=fun _=>by omega
 gi_wp2_with (refine⟨h1,?_⟩;gi_at_call 161;refine (yS F (n-1) hro h83 h84 (by omega) Bs l hlen _ zw hc).mono ?_;rintro e w' ⟨v,rfl,hv,hb⟩);go_ret;exact ⟨v,rfl,hv,hb⟩
theorem uF (l:List UInt8) (w:World):Calls Tryz.prog 141 #[bs l] w fun e w'=>e=.returned (.func (.func 162) #[] #[.pointer (some ⟨w.heap.size,0,none⟩)])/\w'=w.alloc (.cells #[bs l] 9):=
 (callsIn_wide (n:=1)).1 (Lt Fence.wide 1 trivial rfl (bs l) w)
theorem r_ (Bs:Nat) (l:List UInt8) (hlen:l.length<=2000000) (w:World) (zw:Bs<w.heap.size) (hc:w.cell? ⟨Bs,0,none⟩=some (.string (bs l))) :
  Calls Tryz.prog 140 #[.func (.func 162) #[] #[.pointer (some ⟨Bs,0,none⟩)]] w (Lr w (a_ l)):=
 (callsIn_wide (n:=4)).1 (DF Fence.wide 4 rfl trivial trivial trivial (by omega) Bs l hlen w zw hc)
end
section
structure gR where
 dir:Int
 name:List UInt8
 no:Int
 eS:Bool
def bu:gR:=⟨0,[],0,false⟩
def eB (S:ac) (cu cg at_:Int) (p:List UInt8):Int:=
 if (aa S.nodes at_).kind≠1 then 9
 else if fL cu cg (aa S.nodes at_).uid (aa S.nodes at_).gid (aa S.nodes at_).mode 1=false then 6
 else if p=[46,46] then 0 else if 255<p.length then 13 else 0
def bp (S:ac) (at_:Int) (p:List UInt8):Int:=ak S.af (aO (aa S.nodes at_).ae p)
def cQ (S:ac) (cu cg:Int) (eN:Bool):Int->List (List UInt8)->Nat->Bool->gR×Int
 | at_,[],_,_=>(⟨0,[],at_,true⟩,0)
 | at_, p::l,h,m =>
  if eB S cu cg at_ p≠0 then (bu,eB S cu cg at_ p)
  else if p=[46,46] then cQ S cu cg eN (aJ S at_) l h m
  else if aQ S.nodes (bp S at_ p)=false then (if l=[] then (⟨at_,p,0,m⟩,0) else (bu,5))
  else if (aa S.nodes (bp S at_ p)).kind=3/\(l≠[]\/m=true\/eN=true) then
   (if _hh:8<h+1 then (bu,12) else if (aa S.nodes (bp S at_ p)).data=[] then (bu,5)
    else cQ S cu cg eN (if (aa S.nodes (bp S at_ p)).data.head?=some 47 then 1 else at_) (a_ (aa S.nodes (bp S at_ p)).data++l) (h+1) (m || (l.isEmpty&&eU (aa S.nodes (bp S at_ p)).data)))
  else if (aa S.nodes (bp S at_ p)).kind≠1/\(l≠[]\/m=true) then (bu,9)
  else if l=[] then (⟨at_,p,bp S at_ p,m⟩,0)
  else cQ S cu cg eN (bp S at_ p) l h m
termination_by _ l h _=>(9-h,l.length)
theorem qa (S:ac) (cu cg:Int) (eN:Bool) (at_:Int) (h:Nat) (m:Bool):cQ S cu cg eN at_ [] h m=(⟨0,[],at_,true⟩,0):=by rw[cQ]
section
variable {S:ac} {cu cg:Int} {eN:Bool} {at_:Int} {p:List UInt8} {l:List (List UInt8)} {h:Nat} {m:Bool}
theorem qb (h1:eB S cu cg at_ p≠0):cQ S cu cg eN at_ (p::l) h m=(bu,eB S cu cg at_ p):=by rw[cQ,if_pos h1]
theorem Fj (h1:eB S cu cg at_ p=0) (h2:p=[46,46]):cQ S cu cg eN at_ (p::l) h m=cQ S cu cg eN (aJ S at_) l h m:=by
 rw [cQ,if_neg (fun k=>k h1),if_pos h2]
theorem xt (h1:eB S cu cg at_ p=0) (h2:p≠[46,46]) (h3:aQ S.nodes (bp S at_ p)=false) (h4:l=[]):cQ S cu cg eN at_ (p::l) h m=(⟨at_,p,0,m⟩,0):=by
 rw [cQ,if_neg (fun k=>k h1),if_neg h2,if_pos h3,if_pos h4]
theorem xu (h1:eB S cu cg at_ p=0) (h2:p≠[46,46]) (h3:aQ S.nodes (bp S at_ p)=false) (h4:l≠[]):cQ S cu cg eN at_ (p::l) h m=(bu,5):=by
 rw [cQ,if_neg (fun k=>k h1),if_neg h2,if_pos h3,if_neg h4]
theorem xv (h1:eB S cu cg at_ p=0) (h2:p≠[46,46]) (h3:aQ S.nodes (bp S at_ p)=true) (h4:(aa S.nodes (bp S at_ p)).kind=3) (h5:l≠[]\/m=true\/eN=true) (h6:8<h+1) :
  cQ S cu cg eN at_ (p::l) h m=(bu,12):=by
 rw [cQ,if_neg (fun k=>k h1),if_neg h2,if_neg (by rw[h3];decide),if_pos ⟨h4,h5⟩,dif_pos h6]
theorem uG (h1:eB S cu cg at_ p=0) (h2:p≠[46,46]) (h3:aQ S.nodes (bp S at_ p)=true) (h4:(aa S.nodes (bp S at_ p)).kind=3) (h5:l≠[]\/m=true\/eN=true) (h6:¬8<h+1)
  (h7:(aa S.nodes (bp S at_ p)).data=[]):cQ S cu cg eN at_ (p::l) h m=(bu,5):=by
 rw [cQ,if_neg (fun k=>k h1),if_neg h2,if_neg (by rw[h3];decide),if_pos ⟨h4,h5⟩,dif_neg h6,if_pos h7]
theorem xw (h1:eB S cu cg at_ p=0) (h2:p≠[46,46]) (h3:aQ S.nodes (bp S at_ p)=true) (h4:(aa S.nodes (bp S at_ p)).kind=3) (h5:l≠[]\/m=true\/eN=true) (h6:¬8<h+1)
  (h7 : (aa S.nodes (bp S at_ p)).data≠[]):cQ S cu cg eN at_ (p::l) h m =
   cQ S cu cg eN (if (aa S.nodes (bp S at_ p)).data.head?=some 47 then 1 else at_) (a_ (aa S.nodes (bp S at_ p)).data++l) (h+1) (m || (l.isEmpty&&eU (aa S.nodes (bp S at_ p)).data)):=by
 rw [cQ,if_neg (fun k=>k h1),if_neg h2,if_neg (by rw[h3];decide),if_pos ⟨h4,h5⟩,dif_neg h6,if_neg h7]
theorem xx (h1:eB S cu cg at_ p=0) (h2:p≠[46,46]) (h3:aQ S.nodes (bp S at_ p)=true) (h4:¬((aa S.nodes (bp S at_ p)).kind=3/\(l≠[]\/m=true\/eN=true)))
  (h5:(aa S.nodes (bp S at_ p)).kind≠1) (h6:l≠[]\/m=true):cQ S cu cg eN at_ (p::l) h m=(bu,9):=by
 rw [cQ,if_neg (fun k=>k h1),if_neg h2,if_neg (by rw[h3];decide),if_neg h4,if_pos ⟨h5,h6⟩]
theorem xy (h1:eB S cu cg at_ p=0) (h2:p≠[46,46]) (h3:aQ S.nodes (bp S at_ p)=true) (h4:¬((aa S.nodes (bp S at_ p)).kind=3/\(l≠[]\/m=true\/eN=true)))
  (h5:¬((aa S.nodes (bp S at_ p)).kind≠1/\(l≠[]\/m=true))) (h6:l=[]):cQ S cu cg eN at_ (p::l) h m=(⟨at_,p,bp S at_ p,m⟩,0):=by
 rw [cQ,if_neg (fun k=>k h1),if_neg h2,if_neg (by rw[h3];decide),if_neg h4,if_neg h5,if_pos h6]
theorem xA (h1:eB S cu cg at_ p=0) (h2:p≠[46,46]) (h3:aQ S.nodes (bp S at_ p)=true) (h4:¬((aa S.nodes (bp S at_ p)).kind=3/\(l≠[]\/m=true\/eN=true)))
  (h5:¬((aa S.nodes (bp S at_ p)).kind≠1/\(l≠[]\/m=true))) (h6:l≠[]):cQ S cu cg eN at_ (p::l) h m=cQ S cu cg eN (bp S at_ p) l h m:=by
 rw [cQ,if_neg (fun k=>k h1),if_neg h2,if_neg (by rw[h3];decide),if_neg h4,if_neg h5,if_neg h6]
end
def dP (S:ac) (cu cg:Int) (p:List UInt8) (eN:Bool):gR×Int:=if j6 p=0 then cQ S cu cg eN 1 (a_ p) 0 (eU p) else (bu,j6 p)
theorem Lu {P:List (List UInt8)->Nat->Prop} (step:∀l h,(∀l' h',(h<h'/\h'<=8)\/(h'=h/\l'.length<l.length)->P l' h')->P l h):∀l h,P l h:=by
 have inner:∀n,(∀l h,9-h<n->P l h)->∀k (l:List (List UInt8)) (h:Nat),9-h<=n->l.length<=k->P l h:=by
  intro n hn k
  induction k with
  | zero =>
   intro l h h1 h2;exact step l h fun l' h' hx=>by
    rcases hx with hx|hx
    ·exact hn l' h' (by omega)
    ·omega
  | succ k ih =>
   intro l h h1 h2;exact step l h fun l' h' hx=>by
    rcases hx with hx|hx
    ·exact hn l' h' (by omega)
    ·exact ih l' h' (by omega) (by omega)
 have outer:∀n l h,9-h<n->P l h:=by
  intro n
  induction n with
  | zero=>intro l h h1;omega
  | succ n ih=>intro l h h1;exact inner n ih l.length l h (by omega) (Nat.le_refl _)
 intro l h;exact outer (9-h+1) l h (by omega)
end
section
open Go.ChangeShapes Go.WideShapes Go.ChangeAt Go.RowKit
attribute [local irreducible] wpQuiet
def dA (w:World) (b bW:Nat) (cu cg at_:Int) (A:Option Addr) (len cap:Nat) (jJ:Int) (must:Bool):Prop:=
 Has w b (.cells #[.pointer (some ⟨bW,0,none⟩),cu,cg,.int .i64 at_,.slice A len cap,.int .i64 jJ,.bool must] 230)
theorem dA.ext {w w':World} {b bW:Nat} {cu cg at_:Int} {A:Option Addr} {len cap:Nat} {jJ:Int} {must:Bool} (h:dA w b bW cu cg at_ A len cap jJ must) (hE:Ext w w'):dA w' b bW cu cg at_ A len cap jJ must:=Has.ext h hE
def stepG (S:ac) (at_:Int) (p:List UInt8):Int:=if p=[46,46] then aJ S at_ else bp S at_ p
theorem Hl {c:Nat} (B:Nat) (g:bQ) (S:ac) (b:Nat) (cu cg at_:Int) (A:Option Addr) (len cap:Nat) (jJ:Int) (must:Bool) (p:List UInt8) (w:World) (h:eD w B g S) (T:dI c S) (hc:c<=1000000)
    (ht:dA w b g.bW cu cg at_ A len cap jJ must) (hp:p.length<=2000000) :
    Calls Tryz.prog 143 #[.pointer (some ⟨b,0,none⟩),bs p] w (aH w (.tuple #[.int .i64 (if eB S cu cg at_ p=0 then stepG S at_ p else 0),.int .i64 (eB S cu cg at_ p)])):=by
  obtain ⟨A1,k1,Dl,C1⟩:=tW B g S at_ w h
  obtain⟨n,hn⟩:=ar (aa S.nodes at_)
  obtain⟨i,hi⟩:=ar (aQ S.nodes at_)
  have hE:Hid (eB S cu cg at_ p=if n.kind≠1 then 9 else if fL cu cg n.uid n.gid n.mode 1=false then 6 else if p=[46,46] then 0 else if 255<p.length then 13 else 0):=by show _=_;rw[hn];rfl
  have hiz:i=false->n.kind=0:=fun e=>by rw[hn,(aV (hi.symm.trans e)).1];rfl
  have Xi:iR n.ae/\n.ae.length<=c:=by rw[hn];exact T.aa at_
  rw [<-hn]at Dl
  rw [<-hn,<-hi]at C1
  have IY:=zH C1
  have HN:=zH hn
  have HIZ:=zH hiz
  have um:=zH Xi
  obtain⟨x,hx⟩:=ar (eB S cu cg at_ p)
  obtain⟨y,hy⟩:=ar (stepG S at_ p)
  rw [<-hx]at hE
  rw [<-hx,<-hy]
  obtain ⟨z,hz⟩:∃z,z=if x=0 then y else 0:=⟨_,rfl⟩
  rw [<-hz]
  have Xb:Hid (x≠0->z=0):=by show _->_;intro k;rw[hz,if_neg k]
  have Z8:Hid (x=0->z=y):=by show _->_;intro k;rw[hz,if_pos k]
  have HY:Hid (y=if p=[46,46] then aJ S at_ else bp S at_ p):=by show _=_;rw[hy];rfl
  have T0:=(Has.cell ht 0)
  have T1:=(Has.cell ht 1)
  have T2:=(Has.cell ht 2)
  have T3:=(Has.cell ht 3)
  have Tz:=Has.lt ht
  obtain ⟨_,_,cd,h3,_⟩:=id h
  have v0:∀u:Gr w,u.w.cell? ⟨b,0,none⟩=some (.pointer (some ⟨g.bW,0,none⟩)):=Gr.cell Tz T0
  have v3:∀u:Gr w,u.w.cell? ⟨b,3,none⟩=some (.int .i64 at_):=Gr.cell Tz T3
  have vw:∀u:Gr w,u.w.cell? ⟨g.bW,0,none⟩=some (.pointer (some ⟨g.bT,0,none⟩)):=Gr.cell h3.lt (h3.cell 0)
  clear C1 hn hi hiz Xi hx hy hz T0 T1 T2 T3 h3
  go_enter Tryz.func143,Tryz.ntmps143
  go_upto_region 1 with fail
  refine ng w 15 16 6 21 n A1 k1 _ _ (by kernel_rfl) (by kernel_rfl) rfl rfl rfl rfl (by simp) ((Ext.refl _).drew) ?_
  simp only[List.take_succ_cons,List.take_zero,List.drop_succ_cons,List.drop_zero,List.drop_nil]
  repeat (refine dv (fun K hK=>?_)
          go_simp
          first
            | (refine hK _ ?_;clear hK K)
            | (apply Exists.intro
               refine ⟨fun u=>?_,hK _ ?_⟩
               first
                 | ((with_reducible refine (IY.out _ u.h).mono ?_);rintro e w'' ⟨rfl,hx⟩;exact⟨rfl,hx⟩)
               clear hK K))
  refine bP ?_
  refine bP ⟨rfl,?_⟩
  refine dv (fun K hK=>?_)
  go_simp
  refine hK _ ?_
  clear hK K
  refine bP ?_
  intro w4 b6 E4 Rw N4
  simp only[Act.put]
  have T4:=dA.ext ht E4
  have sJ:=Dl.ext E4
  have acd:b6≠b:=by omega
  clear v0 v3 vw IY Dl
  obtain⟨j,hj⟩:=ar i
  have k2:w4.cell? ⟨b6,2,none⟩=some (.int .i64 n.kind):=N4.cell 2
  have kz:=N4.lt
  by_cases c1:n.kind=1
  case neg =>
    have t1:(n.kind == 1)=false:=by simpa using c1
    have we:(n.kind != 1)=true:=by simpa using c1
    have e1:Hid (x=9):=by show _=_;rw[hE.out,if_pos c1]
    have e2:Hid (z=0):=Xb.out (by rw[e1.out];decide)
    clear c1 hE hj
    cases i
    · go_wp2_with fail
      go_ret2
      exact aH.mk (by rw[e1.out,e2.out];rfl) E4
    · go_wp2_with fail
      go_ret2
      exact aH.mk (by rw[e1.out,e2.out];rfl) E4
  have Pm:i=true:=by
    cases i
    · have:=HIZ.out rfl;omega
    · rfl
  subst Pm
  have t1:(n.kind == 1)=true:=by simpa using c1
  have we:(n.kind != 1)=false:=by simpa using c1
  have lj:Hid (x=if fL cu cg n.uid n.gid n.mode 1=false then 6 else if p=[46,46] then 0 else if 255<p.length then 13 else 0):=by show _=_;rw[hE.out,if_neg (fun k=>k c1)]
  obtain⟨u,hu⟩:=ar (fL cu cg n.uid n.gid n.mode 1)
  have HU:=zH hu
  rw [<-hu]at lj
  clear hE hu c1 hj
  obtain ⟨n0,n1,n2,n3,n4,n5,n6,n7,n8,n9,Dk,AU⟩:=N4.dS
  have KN:Hid (∀u':Gr w4,Calls Tryz.prog 149 #[.agg #[cu,cg],.agg #[n.no,n.dev,n.kind,n.mode,n.uid,n.gid,n.mtime,n.ctime,n.ah,n.up,bs n.data,.slice A1 n.ae.length k1],.int .i64 1] u'.w (aH u'.w (.bool u))):=by
    show ∀u':Gr w4,_
    intro u'
    rw [HU.out]
    exact qU cu cg _ _ _ n.mode n.uid n.gid _ _ _ _ _ _ 1 u'.w
  go_upto_region 4 with fail
  have T1:∀u:Gr w4,u.w.cell? ⟨b,1,none⟩=some (.int .i64 cu):=Gr.cell (Has.lt T4) (Has.cell T4 1)
  have T2:∀u:Gr w4,u.w.cell? ⟨b,2,none⟩=some (.int .i64 cg):=Gr.cell (Has.lt T4) (Has.cell T4 2)
  have n0:=Gr.cell kz n0
  have n1:=Gr.cell kz n1
  have n2:=Gr.cell kz n2
  have n3:=Gr.cell kz n3
  have n4:=Gr.cell kz n4
  have n5:=Gr.cell kz n5
  have n6:=Gr.cell kz n6
  have n7:=Gr.cell kz n7
  have n8:=Gr.cell kz n8
  have n9:=Gr.cell kz n9
  have Dk:=Gr.cell kz Dk
  have AU:=Gr.cell kz AU
  clear k2
  refine eI w4 (by kernel_rfl) (by kernel_rfl) (Ext.refl _).drew ?_
  repeat (quiet_step (((with_reducible refine (KN.out _).mono ?_);rintro e w'' ⟨rfl,Lv⟩;exact⟨rfl,⟨w'',Ext.trans (Gr.h _) Lv⟩,rfl⟩)))
  refine wpQuiet_nil ?_
  rintro w5 ⟨⟨w5',NY⟩,h5⟩
  dsimp only at h5
  subst h5
  have T5:=dA.ext T4 NY
  have N5:=N4.ext NY
  have yw:=sJ.ext NY
  have E5:=E4.trans NY
  clear KN T1 T2 n0 n1 n2 n3 n4 n5 n6 n7 n8 n9 Dk AU kz T4 N4 sJ
  cases u
  · have e1:Hid (x=6):=by show _=_;rw[lj.out,if_pos rfl]
    have e2:Hid (z=0):=Xb.out (by rw[e1.out];decide)
    clear lj
    go_wp2_with fail
    go_ret2
    exact aH.mk (by rw[e1.out,e2.out];rfl) E5
  have mG:Hid (x=if p=[46,46] then 0 else if 255<p.length then 13 else 0):=by show _=_;rw[lj.out,if_neg (by decide)]
  clear lj
  obtain⟨X,hX⟩:=ar (bs p)
  have Vz:(X.size:Int)=p.length:=by rw[hX,aU]
  have tX:(X.toList == [46,46])=(p == [46,46]):=by rw[hX];exact gM.2.2.1
  rw [<-hX]
  have HX:=zH hX
  by_cases c2:p=[46,46]
  · have e1:Hid (x=0):=by show _=_;rw[mG.out,if_pos c2]
    have e2:Hid (z=aJ S at_):=by show _=_;rw[Z8.out e1.out,HY.out,if_pos c2]
    have t2:(X.toList == [46,46])=true:=by rw[tX,c2];rfl
    have KA:Hid (∀u':Gr w5,Calls Tryz.prog 164 #[.pointer (some ⟨g.bW,0,none⟩),.int .i64 at_] u'.w (aH u'.w (.int .i64 (aJ S at_)))):=by
      show ∀u':Gr w5,_
      exact fun u'=>CW B g S at_ _ ((h.ext E5).ext u'.h) T.af T.eight T.roots T.aC
    clear mG c2 tX hX
    go_upto_region 7 with fail
    have T0:∀u:Gr w5,u.w.cell? ⟨b,0,none⟩=some (.pointer (some ⟨g.bW,0,none⟩)):=Gr.cell (Has.lt T5) (Has.cell T5 0)
    have T3:∀u:Gr w5,u.w.cell? ⟨b,3,none⟩=some (.int .i64 at_):=Gr.cell (Has.lt T5) (Has.cell T5 3)
    refine eI w5 (by kernel_rfl) (by kernel_rfl) (Ext.refl _).drew ?_
    repeat (quiet_step (((with_reducible refine (KA.out _).mono ?_);rintro e w'' ⟨rfl,Lv⟩;exact⟨rfl,⟨w'',Ext.trans (Gr.h _) Lv⟩,rfl⟩)))
    refine wpQuiet_nil ?_
    rintro w6 ⟨⟨w6',b6'⟩,h6⟩
    dsimp only at h6
    subst h6
    clear T0 T3 KA
    go_wp2_with fail
    go_ret2
    exact aH.mk (by rw[e1.out,e2.out];rfl) (E5.trans b6')
  have t2:(X.toList == [46,46])=false:=by rw[tX];simpa using c2
  have HY2:Hid (y=bp S at_ p):=by show _=_;rw[HY.out,if_neg c2]
  have Rx:Hid (x=if 255<p.length then 13 else 0):=by show _=_;rw[mG.out,if_neg c2]
  clear mG c2 tX
  by_cases c3:255<p.length
  · have e1:Hid (x=13):=by show _=_;rw[Rx.out,if_pos c3]
    have e2:Hid (z=0):=Xb.out (by rw[e1.out];decide)
    have t3:(255:Int)<X.size:=by omega
    clear Rx c3 hX Vz
    go_wp2_with fail
    go_ret2
    exact aH.mk (by rw[e1.out,e2.out];rfl) E5
  have e1:Hid (x=0):=by show _=_;rw[Rx.out,if_neg c3]
  have t3:¬(255:Int)<X.size:=by omega
  obtain⟨q,hq⟩:=ar (aO n.ae p)
  have e2:Hid (z=ak S.af q):=by show _=_;rw[Z8.out e1.out,HY2.out,hq,HN.out];rfl
  have PL:=um.out
  have KF:Hid (∀u':Gr w5,Calls Tryz.prog 125 #[.slice A1 n.ae.length k1,.string X] u'.w (aH u'.w (.int .i64 q))):=by
    show ∀u':Gr w5,_
    intro u'
    rw [hq,<-k_ PL.1,HX.out]
    exact pE A1 n.ae k1 p u'.w (yw.ext u'.h).ae.ae PL.1 (by have:=PL.2;omega)
  have KO:Hid (∀u':Gr w5,Calls Tryz.prog 38 #[.pointer (some ⟨g.bW,0,none⟩),.int .i64 q] u'.w (aH u'.w (.int .i64 (ak S.af q)))):=by
    show ∀u':Gr w5,_
    exact fun u'=>gH B g S q _ ((h.ext E5).ext u'.h) T.af (by have:=T.eight;omega)
  clear Rx c3 hX Vz hq PL
  go_upto_region 10 with fail
  have T0:∀u:Gr w5,u.w.cell? ⟨b,0,none⟩=some (.pointer (some ⟨g.bW,0,none⟩)):=Gr.cell (Has.lt T5) (Has.cell T5 0)
  have AU:=Gr.cell N5.lt (N5.cell 11)
  refine eI w5 (by kernel_rfl) (by kernel_rfl) (Ext.refl _).drew ?_
  repeat (quiet_step (((first|with_reducible refine (KF.out _).mono ?_|with_reducible refine (KO.out _).mono ?_);rintro e w'' ⟨rfl,Lv⟩;exact⟨rfl,⟨w'',Ext.trans (Gr.h _) Lv⟩,rfl⟩)))
  refine wpQuiet_nil ?_
  rintro w6 ⟨⟨w6',b6'⟩,h6⟩
  dsimp only at h6
  subst h6
  clear T0 AU KF KO
  go_wp2_with fail
  go_ret2
  exact aH.mk (by rw[e1.out,e2.out];rfl) (E5.trans b6')
end
section
open Go.ChangeShapes Go.WideShapes Go.ChangeAt Go.RowKit
attribute [local irreducible] wpQuiet
def Tt (A:Option Addr) (b:Nat):Prop:=∀x,A=some x->x.block≠b
theorem iy.only {w w':World} {A:Option Addr} {l:List vR} {b:Nat} (h:iy w A l) (o:Only [b] w w') (hL:Tt A b):iy w' A l:=by
 rcases h with h|⟨b2,o',hA,hb,hc⟩
 ·exact .inl h
 ·have hn:b2∉[b]:=fun hb'=>by rw[List.mem_singleton]at hb';exact hL _ hA hb'
  have e:w'.heap[b2]?=w.heap[b2]?:=o.block b2 hb hn;have ec:∀j,w'.cell? ⟨b2,j,none⟩=w.cell? ⟨b2,j,none⟩:=fun j=>by simp[World.cell?,e]
  exact .inr ⟨b2,o',hA,by have:=o.size;omega,fun i hi=>(ec _).trans (hc i hi)⟩
theorem Hm {w w':World} {B:Nat} {o:Obj} {row:Option Nat} (h:Has w B o) (hg:w.grownBy w' row) (hr:row≠some B):Has w' B o:=
 (hg.block B h.lt (fun e=>hr e.symm)).trans h
theorem wA {P:Program} {ops:Array Oper} {o:Oper} {a:Act} {K:Act->World->Prop} {Q:Exit->Act->World->Prop} {E:Prop} (w:World) (hgd:o.guard=none) (s x:Operand) (t:TypeId)
  (ho:o.op=.call {callee:=.builtin .append,args:=#[s,x],argTypes:=#[t,t]}) (vs vx:Value) (hs:a.eval s=vs) (hx:a.eval x=vx) {R:Value->World->Prop}
  (hr:∃v' w',(Builtin.append_ #[t,t] o.type #[vs,vx]).run P w=.ok v' w'/\R v' w') (h:∀v' w',R v' w'->K (a.put o.dst v') w') :
  if Region.wanted o (yielded ops a.tmps)=true then Oper.wp P o a w K Q else E:=by
 have hw:Region.wanted o (yielded ops a.tmps)=true:=by simp[Region.wanted,hgd]
 rw [if_pos hw];obtain ⟨v',w',h1,h2⟩:=hr;unfold Oper.wp execOp;simp only[ho,resolve,invoke,builtin,Sem.run_bind,Sem.run_pure,Result.andThen_ok,List.map_toArray,List.map_cons,List.map_nil,hs,hx,h1];exact h v' w' h2
theorem xB {base:Nat} {v:Value} {P:List vR} (A:Option Addr) (cap:Nat) (L:List vR) (wr:World) (h:jO wr base v P) (hat:iy wr A L) (hA:A=none->cap=0) (hb:base<=wr.heap.size) (hl:P.length<=20000000) (hL:L.length<=20000000) :
  ∃ v' w2,(Builtin.append_ #[140,140] 140 #[v,.slice A L.length cap]).run Tryz.prog wr=.ok v' w2/\jO w2 base v' (P++L)/\wr.grownBy w2 v.ownBlock:=by
 obtain ⟨i0,hi,hz0,hz1,hz2⟩:=info_parts sW
 cases A with
 | none =>
  have jF:L=[]:=by
   rcases hat with h|⟨b',o',h,_⟩
   ·exact h
   ·cases h
  subst jF;obtain rfl:cap=0:=hA rfl;obtain ⟨A',c',rfl,hpc,_,_,_⟩:=h.at_;refine ⟨_,wr,?_,by rw[List.append_nil];exact h,World.grownBy.refl _ _⟩
  cases A'<;>simp[Builtin.append_,run_underlying Tryz.underlying140,sizeOf,typeInfo,hi,Builtin.lenOf,Builtin.firstCells,storeCells,hpc]
 | some ad =>
  have sx:∀j u,(bG L)[j]?=some u->wr.cell? (ad.add j)=some u:=by
   intro j u hu;rcases hat with h|⟨b',o',hAe,hb,h2⟩
   ·subst h;simp[bG]at hu
   ·obtain rfl:ad=⟨b',o',none⟩:=Option.some.inj hAe
    rw [Addr.add_lit];have hj:j<L.length:=by
     rcases Nat.lt_or_ge j L.length with h'|h'
     ·exact h'
     ·rw[List.getElem?_eq_none (by rw[mc];exact h')]at hu;cases hu
    exact (h2 j hj).trans ((kp L j hj).symm.trans hu)
  obtain ⟨v',w2,hr,h2,h3,_⟩:=run_append_own (P:=Tryz.prog) wr base 140 140 9 i0 (.string ⟨#[]⟩) 1 16 Tryz.underlying140 hi hz0 hz1 hz2 rfl (by decide) _ P.length _ h ad L.length cap (bG L) (by rw[mc,Nat.mul_one]) sx (kn L) (by unfold maxLen;omega) (by omega) hb;refine ⟨v',w2,hr,?_,h3⟩;unfold jO;rw [jN,List.length_append];exact h2
def uH (jJ:Nat) (d:List UInt8):Int:=if 8<jJ+1 then 12 else if d=[] then 5 else 0
def Xj (w:World) (b bW:Nat) (cu cg at_:Int) (jJ:Nat) (must:Bool) (l:List vR) (d:List UInt8) (e:Ending) (w':World):Prop:=
 Only [b] w w'/\e=.returned (.int .i64 (uH jJ d))/\(uH jJ d=0->∃A' cap',dA w' b bW cu cg (if d.head?=some 47 then 1 else at_) A' (a_ d++l).length cap' ((jJ+1:Nat):Int) (must || (l.isEmpty&&eU d))/\iy w' A' (a_ d++l)/\(A'=none->cap'=0)/\Tt A' b/\(a_ d++l).length<=cap')
theorem BA (b bW:Nat) (cu cg at_:Int) (A:Option Addr) (cap jJ:Nat) (must:Bool) (l:List vR) (d:List UInt8) (w:World) (ht:dA w b bW cu cg at_ A l.length cap jJ must) (hat:iy w A l) (hA:A=none->cap=0) (hoff:Tt A b)
  (hl:l.length<=10000000) (hd:d.length<=1048576) (hh:jJ<=8) :
  Calls Tryz.prog 144 #[.pointer (some ⟨b,0,none⟩),bs d] w (Xj w b bW cu cg at_ jJ must l d):=by
 have T5:=Has.cell ht 5;have F5:=Has.free ht 5;have Tz:=Has.lt ht;have q1:IntKind.i64.wrap ((jJ:Int)+1)=((jJ+1:Nat):Int):=by rw[IntWalk.i64_in _ (by omega)];omega
 obtain ⟨h1,Tu⟩:∃h1:Nat,h1=jJ+1:=⟨_,rfl⟩;rw [<-Tu]at q1;obtain⟨W1,b_⟩:=ar (w.setCell ⟨b,5,none⟩ (.int .i64 (h1:Int)));have O1:Only [b] w W1:=by rw[b_];exact Only.setCell _ _ _ _
 have T1:dA W1 b bW cu cg at_ A l.length cap (h1:Int) must:=by rw[b_];exact Has.setCell ht 5 (.int .i64 (h1:Int))
 have yT:iy W1 A l:=hat.only O1 hoff;have PM:Hid (uH jJ d=if 8<h1 then 12 else if d=[] then 5 else 0):=by show _=_;rw[Tu];rfl
 have ru:=zH Tu;have hh2:h1<=9:=by omega
 clear Tu hat;go_enter Tryz.func144,Tryz.ntmps144;go_upto_region 2 with fail;rw [<-b_];clear b_ T5 F5 q1;have T5:=Has.cell T1 5;have VA:=Has.lt T1;have e0:∀e,uH jJ d=e->e≠0->∀w',Only [b] w w'->Xj w b bW cu cg at_ jJ must l d (.returned (.int .i64 e)) w':=fun e he h0 w' ho=>⟨ho,by rw[he],fun k=>absurd (he.symm.trans k) h0⟩
 have HS:=zH e0;clear e0
 by_cases c1:8<h1
 ·have e1:Hid (uH jJ d=12):=by show _=_;rw[PM.out,if_pos c1]
  have t1:(8:Int)<(h1:Int):=by omega
  clear c1 PM;go_wp2_with fail;go_ret;exact HS.out _ e1.out (by decide) _ O1
 have t1:¬(8:Int)<(h1:Int):=by omega
 have PN:Hid (uH jJ d=if d=[] then 5 else 0):=by show _=_;rw[PM.out,if_neg c1]
 clear PM c1
 cases d with
 | nil =>
  have e1:Hid (uH jJ []=5):=by show _=_;rw[PN.out,if_pos rfl]
  have z0:(bs []).toList=[]:=bk [];clear PN;go_wp2_with fail;go_ret;exact HS.out _ e1.out (by decide) _ O1
 | cons c t =>
  have e1:Hid (uH jJ (c::t)=0):=by show _=_;rw[PN.out,if_neg (by simp)]
  have z0:(bs (c::t)).toList.isEmpty=false:=by rw[bk];rfl
  have hks:0<(bs (c::t)).size:=by rw[aU];simp
  have hg:(bs (c::t))[0]=c:=rfl;clear PN HS;obtain ⟨at2,yU⟩:∃a:Int,a=if (c::t).head?=some 47 then 1 else at_:=⟨_,rfl⟩
  have HA2:=zH yU;obtain ⟨v,hv⟩:∃v:Bool,v=(c == 47):=⟨_,rfl⟩;have hs2:(((bs (c::t))[0].toNat:Int) == 47)=v:=by rw[hg,hv];exact xq (c:=c) (d:=47)
  have PO:Hid (v=true->at2=1):=by show _->_;intro k;rw[hv]at k;rw[yU,if_pos (by simpa using k)]
  have KU:Hid (v=false->at2=at_):=by show _->_;intro k;rw[hv]at k;rw[yU,if_neg (by simpa using k)]
  clear hg yU hv;go_upto_if 21 with fail;clear T5 VA;go_cut [] (fun wc=>dA wc b bW cu cg at2 A l.length cap (h1:Int) must/\iy wc A l/\Only [b] w wc)
  case first =>
   cases v
   ·have e2:=zH (KU.out rfl)
    clear KU PO;go_wp2_with fail;go_meet;exact ⟨by rw[e2.out];exact T1,yT,O1⟩
   ·have e2:=zH (PO.out rfl)
    clear KU PO;have F3:=Has.free T1 3;have T3:=Has.cell T1 3;have VA:=Has.lt T1;go_wp2_with fail;go_meet;have T2:dA (W1.setCell ⟨b,3,none⟩ (.int .i64 1)) b bW cu cg at2 A l.length cap (h1:Int) must:=by rw[e2.out];exact Has.setCell T1 3 (.int .i64 1)
    exact ⟨T2,yT.only (Only.setCell _ _ _ _) hoff,O1.then (Only.setCell _ _ _ _)⟩
  case rest =>
   obtain ⟨T2,Ho,O2⟩:=hcut;obtain⟨lb,hlb⟩:=ar l.isEmpty;have t2:((l.length:Int) == 0)=lb:=by rw[hlb];cases l<;>simp<;>omega
   obtain⟨sl,xg⟩:=ar (eU (c::t));obtain⟨m2,cL⟩:=ar (must || (l.isEmpty&&eU (c::t)));have HM:Hid (m2=(must || (lb&&sl))):=by show _=_;rw[cL,hlb,xg]
   have HM2:=zH cL;have HSL:=zH xg;have T5:=Has.cell T2 4;have VA:=Has.lt T2;clear hlb xg cL KU PO T1 yT O1;go_upto_if 30 with fail;clear T5 VA;go_cut [] (fun wd=>dA wd b bW cu cg at2 A l.length cap (h1:Int) m2/\iy wd A l/\Only [b] w wd)
   case first =>
    cases lb
    ·have e2:Hid (m2=must):=by show _=_;rw[HM.out];simp
     go_wp2_with fail;go_meet;exact ⟨by rw[e2.out];exact T2,Ho,O2⟩
    ·have T6:=Has.cell T2 6
     have F6:=Has.free T2 6;have VA:=Has.lt T2;have h6:dA (wc.setCell ⟨b,6,none⟩ (.bool m2)) b bW cu cg at2 A l.length cap (h1:Int) m2:=Has.setCell T2 6 (.bool m2)
     cases must
     ·have e2:Hid (m2=sl):=by show _=_;rw[HM.out];rfl
      go_wp2_with fail;refine (uD (c::t) _ (by simp at hd|-;omega)).mono ?_;rw [<-HSL.out,<-e2.out];rintro e w4 ⟨rfl,b4⟩;have T3:=dA.ext T2 b4;have T6:=Has.cell T3 6;have F6:=Has.free T3 6;have VA:=Has.lt T3;have h6:dA (w4.setCell ⟨b,6,none⟩ (.bool m2)) b bW cu cg at2 A l.length cap (h1:Int) m2:=Has.setCell T3 6 (.bool m2);go_wp2_with fail;go_meet;exact ⟨h6,(Ho.ext b4).only (Only.setCell _ _ _ _) hoff,(O2.ext b4).then (Only.setCell _ _ _ _)⟩
     ·have e2:Hid (m2=true):=by show _=_;rw[HM.out];rfl
      rw [e2.out]at h6;go_wp2_with fail;go_meet;exact ⟨by rw[e2.out];exact h6,Ho.only (Only.setCell _ _ _ _) hoff,O2.then (Only.setCell _ _ _ _)⟩
   case rest =>
    clear T2 Ho O2;obtain ⟨T2,Ho,O2⟩:=hcut;go_upto_region 10 with fail;have T4:=Has.cell T2 4;have Tz:=Has.lt T2;have b_:Ext wc wc.drew:=(Ext.refl _).drew;have dF:Ext wc (wc.drew.alloc (.cells #[.string (bs (c::t))] 9)):=b_.alloc _;have hpl:=kG (c::t);have KS:Hid (∀w',Ext wc w'->w'.cell? ⟨b,4,none⟩=some (.slice A l.length cap)):=fun w' h=>(h.cell Tz).trans T4
    have Sr:=KS.out _ dF;have I1:=KS.out _ b_;go_region_law (first|(go_simp;go_at_call 141;refine (uF (c::t) _).mono ?_;rintro e wp ⟨rfl,rfl⟩)|(go_simp;go_at_call 140;refine (r_ _ (c::t) (by simp at hd|-;omega) _ (by simp) ((Has.new _ _).cell 0)).mono ?_;rintro e wk ⟨v3,rfl,pA,Xk⟩;have lF:=dF.trans Xk;have SV:=KS.out _ lF;have hzk:=(dA.ext T2 lF);have aaL:=Has.lt hzk)|(refine wA _ (by rfl) _ _ 140 (by rfl) _ _ (by rfl) (by rfl) (xB A cap l _ pA (Ho.ext lF) hA Xk.size (by simp at hd hpl|-;omega) (by omega)) ?_;rintro v9 w9 ⟨Xl,VB⟩;have Xm:dA w9 b bW cu cg at2 A l.length cap (h1:Int) m2:=Hm (dA.ext T2 lF) VB (eH pA (dA.ext T2 lF) (by decide));have hc9:=Has.cell Xm 4;have hf9:=Has.free Xm 4;have hz9:=Has.lt Xm;obtain⟨A9,c9,rfl,aaM,ace,aaN,aaO⟩:=jO.at_ Xl))
    all_goals
     have E9:Ext wc w9:=lF.grown VB (fun g hv=>by have:=(World.ownsRow.lt pA g hv).1;simp at this;omega);have aaP:=eH Xl Xm (by decide);have Fk:Tt A9 b:=fun x hx=>by
      intro e;refine aaP ?_;rw [hx,<-e];rfl
     have oT:dA (w9.setCell ⟨b,4,none⟩ (.slice A9 ((a_ (c::t)).length+l.length) c9)) b bW cu cg at2 A9 (a_ (c::t)++l).length c9 (h1:Int) m2:=by
      rw [List.length_append];exact Has.setCell Xm 4 (.slice A9 ((a_ (c::t)).length+l.length) c9)
     have O9:Only [b] w (w9.setCell ⟨b,4,none⟩ (.slice A9 ((a_ (c::t)).length+l.length) c9)):=(O2.ext E9).then (Only.setCell _ _ _ _);have Tv:=aaN.only (Only.setCell w9 b 4 (.slice A9 ((a_ (c::t)).length+l.length) c9)) Fk;clear T4 Sr I1 SV aaL hc9 hf9 hz9;go_wp2_with fail;go_ret;refine ⟨O9,by rw[e1.out];rfl,fun _=>⟨A9,c9,?_,Tv,aaO,Fk,aaM⟩⟩;rw [<-HA2.out,<-HM2.out,<-ru.out];exact oT
end
open Go.ChangeShapes Go.WideShapes Go.ChangeAt Go.RowKit
abbrev fj (x:gR):List Value:=[.int .i64 x.dir,.string (bs x.name),.int .i64 x.no,.bool x.eS]
theorem sa:(Tryz.prog.info? 89).map (·.size)=some 4:=by kernel_rfl
theorem Lw (x:gR):∀u∈fj x,u.oneCell'=true:=by
 intro u hu;simp only[List.mem_cons,List.not_mem_nil,or_false]at hu;rcases hu with rfl|rfl|rfl|rfl<;>rfl
theorem Has.Lx {w:World} {b:Nat} {t:TypeId} {x:gR} (y:gR) (h:Has w b (.cells (fj x).toArray t)):Has (w.setCells b 0 (fj y)) b (.cells (fj y).toArray t):=by
 have h0:=Has.setCell h 0 (.int .i64 y.dir);have h1:=Has.setCell h0 1 (.string (bs y.name));have h2:=Has.setCell h1 2 (.int .i64 y.no);have h3:=Has.setCell h2 3 (.bool y.eS);exact h3
theorem eX {w:World} {b:Nat} {t:TypeId} {x:gR} (y:gR) (h:Has w b (.cells (fj x).toArray t)) :
  Has ((((w.setCell ⟨b,0,none⟩ (.int .i64 y.dir)).setCell ⟨b,1,none⟩ (.string (bs y.name))).setCell ⟨b,2,none⟩ (.int .i64 y.no)).setCell ⟨b,3,none⟩ (.bool y.eS)) b (.cells (fj y).toArray t)/\Only [b] w ((((w.setCell ⟨b,0,none⟩ (.int .i64 y.dir)).setCell ⟨b,1,none⟩ (.string (bs y.name))).setCell ⟨b,2,none⟩ (.int .i64 y.no)).setCell ⟨b,3,none⟩ (.bool y.eS)):=
 ⟨h.Lx y,cO (fj y) 0 w⟩
theorem cq {ops:Array Oper} {rest:List Oper} {op:Oper} {a:Act} {w:World} {Q:Exit->Act->World->Prop} (hgd:op.guard=none) (x y:Operand) (ho:op.op=.store 89 x y)
  (b:Nat) (d d':gR) (hx:a.eval x=.pointer (some ⟨b,0,none⟩)) (hy:a.eval y=.agg (fj d').toArray) (hb:Has w b (.cells (fj d).toArray 89))
  (h:∀w',Has w' b (.cells (fj d').toArray 89)->Only [b] w w'->wpList Tryz.prog ops Q rest (a.put op.dst undef) w'):wpList Tryz.prog ops Q (op::rest) a w:=by
 refine wpList_store_mid hgd 89 x y ho b 0 (fj d').toArray hx hy hb.there sa (all_oneCell_toArray (cs:=fj d') (Lw d')) ?_;exact h _ (hb.Lx d') (cO (fj d') 0 w)
theorem cB {fn:Func} {p t:Tmp} (h:fn.results=#[.cell p 89,.tmp t]) (tmps:Array Value) (w:World) (g:Nat) (d:gR) (v:Value)
  (hp:tmps.getD p undef=.pointer (some ⟨g,0,none⟩)) (hv:tmps.getD t undef=v) (hg:Has w g (.cells (fj d).toArray 89)) :
  (results fn tmps).run Tryz.prog w=.ok (.tuple #[.agg (fj d).toArray,v]) w:=
 ku h tmps w g 89 _ _ v hp hv hg Tryz.underlying89 rfl sa
theorem qc {d p:List UInt8} (h:p∈a_ d):p.length<=d.length:=by
 have key:∀(L:List (List UInt8)),p∈L->p.length<=total L:=by
  intro L hp
  induction L with
  | nil=>cases hp
  | cons x L ih =>
   unfold total;rcases List.mem_cons.1 hp with rfl|hp
   ·omega
   ·have:=ih hp;omega
 have:=key _ h;have:=Br d;omega
theorem uI (bl o n m cap:Nat) (h0:n=m+1) (hc:n<=cap):∃X:Addr,(∀W,(Instr.slice 140 (.slice (some ⟨bl,o,none⟩) n cap) (some (.int .i64 1)) none none).run Tryz.prog W=.ok (.slice (some X) m (cap-1)) W)/\(0<m->X=⟨bl,o+1,none⟩)/\X.block=bl:=by
 have h4:n-1=m:=by omega
 have hu:=Tryz.underlying140;have h1:(1:Int)<=n:=by omega
 have hi:(Tryz.prog.info? 9).map (·.size)=some 1:=by kernel_rfl
 by_cases h:cap=1
 ·refine ⟨⟨bl,o,none⟩,fun W=>?_,fun h2=>by omega,rfl⟩
  subst h;go_simp;intro h;omega
 ·refine ⟨⟨bl,o+1,none⟩,fun W=>?_,fun _=>rfl,rfl⟩
  go_simp;intro h;omega
def Hq:Value->Nat
 | .slice _ n _=>n
 | _=>0
def Ly (w:World) (b:Nat):Nat:=(9-(intOf ((w.cell? ⟨b,5,none⟩).getD undef)).toNat)*20000000+Hq ((w.cell? ⟨b,4,none⟩).getD undef)
theorem qd {w:World} {b bW:Nat} {cu cg at_:Int} {A:Option Addr} {len cap h:Nat} {m:Bool} (t:dA w b bW cu cg at_ A len cap (h:Int) m):Ly w b=(9-h)*20000000+len:=by
 have h5:=Has.cell t 5;have h4:=Has.cell t 4;unfold Ly;rw [h5,h4];simp [intOf,Hq]
def gZ (w:World) (R:gR×Int):Ending->World->Prop:=aH w (.tuple #[.agg (fj R.1).toArray,.int .i64 R.2])
theorem gZ.mk {w w0 w':World} {b8:Nat} {R:gR×Int} {d:gR} {e:Int} (hE:Ext w w0) (hb:w.heap.size<=b8) (O:Only [b8] w0 w') (h:R=(d,e)):gZ w R (.returned (.tuple #[.agg (fj d).toArray,.int .i64 e])) w':=by
 subst h;exact ⟨rfl,O.after hE (fun x hx=>by rw[List.mem_singleton]at hx;omega)⟩
theorem BB {c:Nat} (B:Nat) (g:bQ) (S:ac) (cu cg:Int) (p0:List UInt8) (eN:Bool) (w:World) (h:eD w B g S) (T:dI c S) (hc:c<=1000000) (Tw:p0.length<=1000000) :
  Calls Tryz.prog 112 #[.pointer (some ⟨g.bW,0,none⟩),.agg #[cu,cg],bs p0,.bool eN] w (gZ w (dP S cu cg p0 eN)):=by
 obtain ⟨W0,bg⟩:∃W,W=(w.alloc (.cells #[cu,cg] 27)).alloc (.cells #[.int .i64 0,.string ⟨#[]⟩,.int .i64 0,.bool false] 89):=⟨_,rfl⟩;obtain ⟨b5,jP⟩:∃b,b=w.heap.size:=⟨_,rfl⟩;obtain ⟨b8,fZ⟩:∃b,b=w.heap.size+1:=⟨_,rfl⟩;have E0:Ext w W0:=by rw[bg];exact ((Ext.refl _).alloc _).alloc _
 have F0:Has W0 b8 (.cells (fj bu).toArray 89):=by rw[bg,fZ];have:=Has.new (w.alloc (.cells #[cu,cg] 27)) (.cells #[.int .i64 0,.string ⟨#[]⟩,.int .i64 0,.bool false] 89);rw[World.size_alloc]at this;exact this
 have C0:Has W0 b5 (.cells #[cu,cg] 27):=by rw[bg,jP];exact (Has.new w _).alloc _
 have lQ:w.heap.size<=b8:=by omega
 obtain⟨R,hR⟩:=ar (dP S cu cg p0 eN);rw [<-hR];have HR:=zH hR;obtain⟨q,hq⟩:=ar (j6 p0);have HQ:=zH hq;have jF:((S.af.length:Int) == 0)=false:=by have:=T.af;simpa using (show ¬(S.af.length:Int)=0 by omega)
 clear hR;go_enter Tryz.func112,Tryz.ntmps112;go_upto_region 1 with fail;rw [<-bg,<-jP];rw [show b5+1=b8 by omega];clear bg jP fZ;refine wp_scope_straight ?_;go_wp2_with fail;refine (lI B g S _ (h.ext E0) T.af).mono ?_;rintro e w1 ⟨rfl,b1⟩;go_wp2_with fail;refine (Hj p0 _ Tw).mono ?_;rw [<-hq];rintro e w2 ⟨rfl,b2⟩;have E2:=(E0.trans b1).trans b2;have F2:=(F0.ext b1).ext b2;have C2:=(C0.ext b1).ext b2;clear hq F0 C0 E0 b1 b2 jF
 by_cases sG:q=0
 case neg =>
  have t0:(q == 0)=false:=by simpa using sG
  have oG:(q != 0)=true:=by simpa using sG
  have e1:Hid (R=(bu,q)):=by show _=_;rw[HR.out,HQ.out];unfold dP;rw[if_neg (by rw[<-HQ.out];exact sG)]
  clear sG;go_wp2_with (refine cq rfl _ _ rfl b8 bu bu rfl rfl F2 ?_;intro w9 R9 O9);refine bodyPost_ret (v:=.tuple #[.agg (fj bu).toArray,.int .i64 q]) (cB Tryz.results112 _ _ b8 bu _ rfl rfl R9) rfl ?_;exact gZ.mk E2 lQ O9 e1.out
 have t0:(q == 0)=true:=by simpa using sG
 have oG:(q != 0)=false:=by simpa using sG
 have qf:Hid (R=cQ S cu cg eN 1 (a_ p0) 0 (eU p0)):=by show _=_;rw[HR.out];unfold dP;rw[if_pos (by rw[<-HQ.out];exact sG)]
 have l6:Hid (∀p∈a_ p0,p.length<=1100000):=by show ∀p∈_,_;intro p hp;have:=qc hp;omega
 have hpl:=kG p0;clear HR HQ sG;go_upto_region 6 with fail;have X0:=C2.cell 0;have X1:=C2.cell 1;have Xz:=C2.lt;have b_:Ext w2 w2.drew:=(Ext.refl _).drew;have dF:Ext w2 (w2.drew.alloc (.cells #[bs p0] 9)):=b_.alloc _;have KS:Hid (∀w',Ext w2 w'->w'.cell? ⟨b5,0,none⟩=some (.int .i64 cu)/\w'.cell? ⟨b5,1,none⟩=some (.int .i64 cg)):=fun w' h=>⟨(h.cell Xz).trans X0,(h.cell Xz).trans X1⟩
 go_region_held3 (fun w'=>w'.cell? ⟨b5,0,none⟩=some (.int .i64 cu)/\w'.cell? ⟨b5,1,none⟩=some (.int .i64 cg))
  ((first|exact KS.out _ b_|exact KS.out _ dF|exact KS.out _ lF|exact KS.out _ I2|exact KS.out _ (I2.alloc _)))
  ((first|(go_at_call 141;refine (uF p0 _).mono ?_;rintro e wp ⟨rfl,rfl⟩)|(go_at_call 140;refine (r_ _ p0 (by omega) _ (by simp) ((Has.new _ _).cell 0)).mono ?_;rintro e wk ⟨v3,rfl,pA,Xk⟩;have lF:=dF.trans Xk;obtain⟨A3,c3,rfl,DG,Tx,Lz,Ty⟩:=jO.at_ pA)|(go_at_call 142;refine (uD p0 _ (by omega)).mono ?_;rintro e w4 ⟨rfl,bs4⟩;have I2:=lF.trans bs4)))
 obtain ⟨W5,kL⟩:∃W,W=w4.alloc (.cells #[.pointer (some ⟨g.bW,0,none⟩),cu,cg,.int .i64 1,.slice A3 (a_ p0).length c3,.int .i64 0,.bool (eU p0)] 230):=⟨_,rfl⟩;obtain⟨b,hb⟩:=ar w4.heap.size;have T5:dA W5 b g.bW cu cg 1 A3 (a_ p0).length c3 0 (eU p0):=by rw[kL,hb];exact Has.new _ _
 have NQ:Ext w4 W5:=by rw[kL];exact (Ext.refl _).alloc _
 have E5:Ext w W5:=(E2.trans I2).trans NQ;have F5:=(F2.ext I2).ext NQ;have Xn:=(Lz.ext bs4).ext NQ;have Xo:Tt A3 b:=fun x hx=>by
  have:=(World.ownsRow.lt pA x.block (by rw[hx];rfl)).2;have:=bs4.size;omega
 have vQ:w.heap.size<=b:=by have:=(E2.trans I2).size;omega
 rw [<-kL,<-hb];have Cx:Hid ((a_ p0).length<=1050000):=by show _<=_;omega
 obtain⟨l0,jF⟩:=ar (a_ p0);obtain⟨m0,hm0⟩:=ar (eU p0);rw [<-jF]at T5 Xn qf l6 Cx DG;rw [<-hm0]at T5 qf;have TA:=zH DG;clear kL hb X0 X1 Xz b_ dF KS lF I2 DG Tx Lz pA Xk bs4 NQ E2 F2 C2 hpl jF hm0 t0 oG;go_wp2_with fail;refine wp_label ?_;go_wp2_with fail;go_loopw [] (fun wr=>∃(at_:Int) (l:List (List UInt8)) (h:Nat) (m:Bool) (A:Option Addr) (cap:Nat),dA wr b g.bW cu cg at_ A l.length cap (h:Int) m/\iy wr A l/\(A=none->cap=0)/\l.length<=cap/\Tt A b/\Hid (∀p∈l,p.length<=1100000)/\l.length<=1050000*(h+1)/\h<=8/\Hid (R=cQ S cu cg eN at_ l h m)/\Has wr b8 (.cells (fj bu).toArray 89)/\Ext w wr) (fun wr=>Ly wr b)
 case atStart=>exact⟨1,l0,0,m0,A3,c3,T5,Xn,Ty,TA.out,Xo,l6,by have:=Cx.out;omega,by decide,qf,F5,E5⟩
 case round =>
  obtain ⟨at_,l,hp,m,A,cap,Tr,hat,hA0,hlc,hoff,HL,I3,VC,HR,Fr,Er⟩:=hrel;have T4:=Has.cell Tr 4;have Tz:=Has.lt Tr;have hMr:=zH (qd Tr);have tN:b≠b8:=fI Tr Fr (by decide)
  cases l with
  | nil =>
   have e1:Hid (R=(⟨0,[],at_,true⟩,0)):=by show _=_;rw[HR.out,qa]
   have T3:=Has.cell Tr 3;clear HR;go_wp2_with (refine cq rfl _ _ rfl b8 bu ⟨0,[],at_,true⟩ rfl rfl Fr ?_;intro w9 R9 O9);refine bodyPost_ret (v:=.tuple #[.agg (fj ⟨0,[],at_,true⟩).toArray,.int .i64 0]) (cB Tryz.results112 _ _ b8 ⟨0,[],at_,true⟩ _ rfl rfl R9) rfl ?_;exact gZ.mk Er lQ O9 e1.out
  | cons p l =>
   obtain ⟨bl,o,rfl,zy,hcl⟩:∃bl o,A=some ⟨bl,o,none⟩/\bl<wr.heap.size/\∀k,(h:k<(p::l).length)->wr.cell? ⟨bl,o+k,none⟩=some (.string (bs (p::l)[k])):=by
    rcases hat with h0|h0
    ·cases h0
    ·exact h0
   obtain⟨n,hn⟩:=ar ((p::l).length);have lJ:n=l.length+1:=by rw[hn];rfl
   have hc0:wr.cell? ⟨bl,o,none⟩=some (.string (bs p)):=hcl 0 (by simp);obtain ⟨X,xg,hX,hXb⟩:=uI bl o n l.length cap lJ (by omega);have hne:bl≠b:=hoff _ rfl;have hpl:p.length<=1100000:=HL.out p (List.mem_cons_self ..);obtain ⟨W1,b_⟩:∃W,W=wr.setCell ⟨b,4,none⟩ (.slice (some X) l.length (cap-1)):=⟨_,rfl⟩;have O1:Only [b] wr W1:=by rw[b_];exact Only.setCell _ _ _ _
   have T1:dA W1 b g.bW cu cg at_ (some X) l.length (cap-1) (hp:Int) m:=by rw[b_];exact Has.setCell Tr 4 (.slice (some X) l.length (cap-1))
   have yT:iy W1 (some X) l:=by
    by_cases jF:l=[]
    ·exact .inl jF
    ·have hpos:0<l.length:=List.length_pos_iff.2 jF
     rw [hX hpos];refine .inr ⟨bl,o+1,rfl,by have:=O1.size;omega,fun k hk=>?_⟩;have h1:=hcl (k+1) (by simp;omega);have e:W1.heap[bl]?=wr.heap[bl]?:=O1.block bl zy (by rw[List.mem_singleton];exact hne);rw [show o+1+k=o+(k+1) by omega];have e2:W1.cell? ⟨bl,o+(k+1),none⟩=wr.cell? ⟨bl,o+(k+1),none⟩:=by simp[World.cell?,e]
     rw [e2];exact h1
   have Ry:Tt (some X) b:=fun x hx=>by cases hx;rw[hXb];exact hne
   have F1:=O1.has Fr (by rw[List.mem_singleton];exact Ne.symm tN);have E1:Ext w W1:=O1.after Er (fun x hx=>by rw[List.mem_singleton]at hx;omega);have Xp:=zH (show l.length<=cap-1 by omega);have GH:=zH (show l.length+1<=1050000*(hp+1) by omega);have TB:Hid (∀q∈l,q.length<=1100000):=by show ∀q∈l,_;intro q hq;exact HL.out q (List.mem_cons_of_mem _ hq)
   have F4:=Has.free Tr 4;have q0:(0:Int)<(n:Int):=by omega
   rw [<-hn]at T4;obtain⟨lb,hlb⟩:=ar l.isEmpty;have tl:((l.length:Int) == 0)=lb:=by rw[hlb];cases l<;>simp<;>omega
   have BC:=zH hlb;have T4b:=Has.cell T1 4;clear hat hcl hX hXb hlc I3 HL hoff hA0 hlb lJ hn;go_upto_region 11 with fail;rw [<-b_];have K1:=h.ext E1;have HW1:=zH b_;have BD:=zH Ry;clear b_ T4 T4b F4 tl xg hc0 Tz Tr Fr q0 Ry hne;have tl:((l.length:Int) == 0)=lb:=by rw[BC.out];cases l<;>simp<;>omega
   go_wp2_with fail;refine (Hl B g S b cu cg at_ (some X) l.length (cap-1) hp m p _ K1 T hc T1 (by omega)).mono ?_;rintro e w2' ⟨rfl,b2⟩;obtain⟨x,hx⟩:=ar (eB S cu cg at_ p);obtain ⟨z,hz⟩:∃z,z=if x=0 then stepG S at_ p else 0:=⟨_,rfl⟩
   rw [<-hx];rw [<-hz];have HX:=zH hx;have HZ:=zH hz;have K2:=K1.ext b2;obtain ⟨_,_,cd,h3,_⟩:=id K2;have v0:w2'.cell? ⟨g.bW,0,none⟩=some (.pointer (some ⟨g.bT,0,none⟩)):=h3.cell 0;have vz:=h3.lt;have T2:=dA.ext T1 b2;have F2:=F1.ext b2;have E2:=E1.trans b2;clear hx hz h3 T1 F1 E1 K1;go_wp2_with fail;refine (fP B g.bT g.bM S.nodes S.last z _ K2.2.1).mono ?_;rintro e w3 ⟨A4,c4,rfl,sJ,b3⟩;obtain⟨nd,hnd⟩:=ar (aa S.nodes z);obtain⟨is,NZ⟩:=ar (aQ S.nodes z);rw [<-hnd]at sJ;rw [<-hnd,<-NZ];have N_:=zH hnd;have VD:=zH NZ;obtain⟨W4,fN⟩:=ar (w3.alloc (.cells #[nd.no,nd.dev,nd.kind,nd.mode,nd.uid,nd.gid,nd.mtime,nd.ctime,nd.ah,nd.up,bs nd.data,.slice A4 nd.ae.length c4] 58));obtain ⟨b16,TC⟩:∃b,b=w3.heap.size:=⟨_,rfl⟩;have VE:Ext w3 W4:=by rw[fN];exact (Ext.refl _).alloc _
   have N4:Has W4 b16 (.cells #[nd.no,nd.dev,nd.kind,nd.mode,nd.uid,nd.gid,nd.mtime,nd.ctime,nd.ah,nd.up,bs nd.data,.slice A4 nd.ae.length c4] 58):=by rw[fN,TC];exact Has.new _ _
   have K4:=(K2.ext b3).ext VE;have T4:=dA.ext (dA.ext T2 b3) VE;have F4:=(F2.ext b3).ext VE;have E4:=(E2.trans b3).trans VE;have DH:=((yT.ext b2).ext b3).ext VE;clear hnd NZ v0 vz T2 F2 E2 K2 yT sJ;go_upto_region 13 with fail;rw [<-fN,<-TC];clear fN TC b2 b3 VE O1
   by_cases hx0:x=0
   case neg =>
    have t0:(x == 0)=false:=by simpa using hx0
    have oG:(x != 0)=true:=by simpa using hx0
    have e1:Hid (R=(bu,x)):=by show _=_;rw[HR.out,qb (by rw[<-HX.out];exact hx0),HX.out]
    clear hx0 HR;go_wp2_with (refine cq rfl _ _ rfl b8 bu bu rfl rfl F4 ?_;intro w9 R9 O9);refine bodyPost_ret (v:=.tuple #[.agg (fj bu).toArray,.int .i64 x]) (cB Tryz.results112 _ _ b8 bu _ rfl rfl R9) rfl ?_;exact gZ.mk E4 lQ O9 e1.out
   have t0:(x == 0)=true:=by simpa using hx0
   have oG:(x != 0)=false:=by simpa using hx0
   have sB:Hid (eB S cu cg at_ p=0):=by show _=_;rw[<-HX.out];exact hx0
   have S7:Hid (z=stepG S at_ p):=by show _=_;rw[HZ.out,if_pos hx0]
   obtain ⟨XP,Oc⟩:∃Y,Y=bs p:=⟨_,rfl⟩;have tX:(XP.toList == [46,46])=(p == [46,46]):=by rw[Oc];exact gM.2.2.1
   have LA:=zH Oc;rw [<-Oc];clear hx0 HZ HX Oc
   by_cases c2:p=[46,46]
   ·have t2:(XP.toList == [46,46])=true:=by rw[tX,c2];rfl
    have hz2:z=aJ S at_:=by rw[S7.out];unfold stepG;rw[if_pos c2]
    have qf:Hid (R=cQ S cu cg eN z l hp m):=by show _=_;rw[HR.out,Fj sB.out c2,hz2]
    have c3:=Has.cell T4 3;have f3:=Has.free T4 3;have cz:=Has.lt T4;clear tX c2 hz2 HR;go_wp2_with fail;have O9:Only [b] W4 (W4.setCell ⟨b,3,none⟩ (.int .i64 z)):=Only.setCell _ _ _ _;have T9:dA (W4.setCell ⟨b,3,none⟩ (.int .i64 z)) b g.bW cu cg z (some X) l.length (cap-1) (hp:Int) m:=Has.setCell T4 3 (.int .i64 z);go_roundw
    case rel=>exact⟨z,l,hp,m,some X,cap-1,T9,DH.only O9 BD.out,by simp,Xp.out,BD.out,TB,by have:=GH.out;omega,VC,qf,O9.has F4 (by rw[List.mem_singleton];exact Ne.symm tN),O9.after E4 (fun x hx=>by rw[List.mem_singleton]at hx;omega)⟩
    case measure=>rw[qd T9,hMr.out];simp
   have t2:(XP.toList == [46,46])=false:=by rw[tX];simpa using c2
   have qY:=zH c2;have BF:Hid (z=bp S at_ p):=by show _=_;rw[S7.out];unfold stepG;rw[if_neg c2]
   clear tX c2 S7;have c3:=Has.cell T4 3;have c6:=Has.cell T4 6;have cz:=Has.lt T4
   cases is with
   | false =>
    have HI:Hid (aQ S.nodes (bp S at_ p)=false):=by show _=_;rw[<-BF.out];exact VD.out.symm
    cases lb with
    | true =>
     have e1:Hid (R=(⟨at_,p,0,m⟩,0)):=by
      show _=_;rw [HR.out,xt sB.out qY.out HI.out];have:=BC.out
      cases l with
      | nil=>rfl
      | cons a l=>cases this
     clear HR;have ED:Ext W4 W4.drew:=(Ext.refl _).drew;have FD:=F4.ext ED;go_upto_region 18 with fail;rw [LA.out];go_still_tail 10,(by kernel_rfl);change wpList _ _ _ _ _ W4.drew;go_wp2_with (refine cq rfl _ _ rfl b8 bu ⟨at_,p,0,m⟩ rfl rfl FD ?_;intro w9 R9 O9);refine bodyPost_ret (v:=.tuple #[.agg (fj ⟨at_,p,0,m⟩).toArray,.int .i64 0]) (cB Tryz.results112 _ _ b8 ⟨at_,p,0,m⟩ _ rfl rfl R9) rfl ?_;exact gZ.mk (E4.trans ED) lQ O9 e1.out
    | false =>
     have e1:Hid (R=(bu,5)):=by
      show _=_;rw [HR.out,xu sB.out qY.out HI.out];rintro rfl
      cases BC.out
     clear HR;go_wp2_with (refine cq rfl _ _ rfl b8 bu bu rfl rfl F4 ?_;intro w9 R9 O9);refine bodyPost_ret (v:=.tuple #[.agg (fj bu).toArray,.int .i64 5]) (cB Tryz.results112 _ _ b8 bu _ rfl rfl R9) rfl ?_;exact gZ.mk E4 lQ O9 e1.out
   | true =>
    have HI:Hid (aQ S.nodes (bp S at_ p)=true):=by show _=_;rw[<-BF.out];exact VD.out.symm
    obtain ⟨k3,lF⟩:∃k:Bool,k=(nd.kind == 3):=⟨_,rfl⟩;obtain ⟨k1,gG⟩:∃k:Bool,k=(nd.kind != 1):=⟨_,rfl⟩;have t3:=lF.symm;have t1:=gG.symm;have Od:=zH lF;have LB:=zH gG;have y2:W4.cell? ⟨b16,2,none⟩=some (.int .i64 nd.kind):=N4.cell 2;have zD:W4.cell? ⟨b16,10,none⟩=some (.string (bs nd.data)):=N4.cell 10;have yz:=N4.lt;obtain ⟨bv,Xq⟩:∃bv:Bool,bv=(k3&&(!lb || (m || eN))):=⟨_,rfl⟩;have yV:=zH Xq;clear lF gG Xq;go_upto_region 21 with fail;go_cut [111] (fun v wc=>v=.bool bv/\wc=W4)
    case first =>
     have hb:Hid (bv=(k3&&(!lb || (m || eN)))):=yV
     cases k3
     ·have e:Hid (bv=false):=by show _=_;rw[hb.out];rfl
      clear yV hb;go_wp2_with fail;go_meet;exact ⟨by rw[e.out],rfl⟩
     ·cases lb
      ·have e:Hid (bv=true):=by show _=_;rw[hb.out];rfl
       clear yV hb;go_wp2_with fail;go_meet;exact ⟨by rw[e.out],rfl⟩
      ·cases m
       ·cases eN
        ·have e:Hid (bv=false):=by show _=_;rw[hb.out];rfl
         clear yV hb;go_wp2_with fail;go_meet;exact ⟨by rw[e.out],rfl⟩
        ·have e:Hid (bv=true):=by show _=_;rw[hb.out];rfl
         clear yV hb;go_wp2_with fail;go_meet;exact ⟨by rw[e.out],rfl⟩
       ·have e:Hid (bv=true):=by show _=_;rw[hb.out];rfl
        clear yV hb;go_wp2_with fail;go_meet;exact ⟨by rw[e.out],rfl⟩
    case rest =>
     obtain ⟨rfl,hwc⟩:=hcut;obtain rfl:W4=wc:=hwc.symm
     cases bv with
     | true =>
      have oh : k3=true/\(l≠[]\/m=true\/eN=true):=by
       have:=yV.out
       cases k3
       ·cases this
       ·refine ⟨rfl,?_⟩
        cases hm:m
        ·cases hf:eN
         ·left
          rintro rfl;rw [hm,hf,BC.out]at this
          cases this
         ·exact .inr (.inr rfl)
        ·exact .inr (.inl rfl)
      have HK:Hid ((aa S.nodes (bp S at_ p)).kind=3):=by
       show _=_;have h2:=oh.1;rw [Od.out,N_.out,BF.out]at h2;simpa using h2
      have TD:=zH oh.2;have HD:Hid (nd.data=(aa S.nodes (bp S at_ p)).data):=by show _=_;rw[N_.out,BF.out]
      have kT:nd.data.length<=1048576:=by
       rw [HD.out];exact (T.on _ (aj HI.out).2.2).2
      obtain⟨fe,PP⟩:=ar (uH hp nd.data);have PM:=zH PP;have Oe:=zH kT;clear oh PP kT t3 t1;go_wp2_with fail;refine (BA b g.bW cu cg at_ (some X) (cap-1) hp m l nd.data _ T4 DH (by simp) BD.out (by have:=GH.out;omega) Oe.out VC).mono ?_;rintro e w5 ⟨O5,rfl,Xr⟩;have aaQ:=zH Xr;have F5:=O5.has F4 (by rw[List.mem_singleton];exact Ne.symm tN);have E5:=O5.after E4 (fun x hx=>by rw[List.mem_singleton]at hx;omega);rw [<-PM.out];clear Xr c3 c6 cz y2 zD yz
      by_cases I4:fe=0
      case neg =>
       have t4:(fe == 0)=false:=by simpa using I4
       have t4b:(fe != 0)=true:=by simpa using I4
       have e1 : Hid (R=(bu,fe)):=by
        show _=_;have h1:=PM.out;unfold uH at h1
        by_cases h8:8<hp+1
        ·rw [if_pos h8]at h1
         rw [HR.out,xv sB.out qY.out HI.out HK.out TD.out h8,h1]
        ·rw [if_neg h8]at h1
         by_cases h9:nd.data=[]
         ·rw [if_pos h9]at h1
          rw [HR.out,uG sB.out qY.out HI.out HK.out TD.out h8 (by rw[<-HD.out];exact h9),h1]
         ·rw [if_neg h9]at h1
          exact absurd h1 I4
       clear I4 HR;go_wp2_with (refine cq rfl _ _ rfl b8 bu bu rfl rfl F5 ?_;intro w9 R9 O9);refine bodyPost_ret (v:=.tuple #[.agg (fj bu).toArray,.int .i64 fe]) (cB Tryz.results112 _ _ b8 bu _ rfl rfl R9) rfl ?_;exact gZ.mk E5 lQ O9 e1.out
      have t4:(fe == 0)=true:=by simpa using I4
      have t4b:(fe != 0)=false:=by simpa using I4
      have h80:¬8<hp+1/\nd.data≠[]:=by
       have h1:=PM.out;rw [I4]at h1;unfold uH at h1
       by_cases h8:8<hp+1
       ·rw[if_pos h8]at h1;cases h1
       ·rw [if_neg h8]at h1
        refine ⟨h8,fun h9=>?_⟩;rw [if_pos h9]at h1;cases h1
      obtain ⟨A9,c9,T9,Tv,hA9,Fk,Xu⟩:=aaQ.out (by rw[<-PM.out];exact I4);have qf:Hid (R=cQ S cu cg eN (if nd.data.head?=some 47 then 1 else at_) (a_ nd.data++l) (hp+1) (m || (l.isEmpty&&eU nd.data))):=by
       show _=_;rw [HR.out,xw sB.out qY.out HI.out HK.out TD.out h80.1 (by rw[<-HD.out];exact h80.2),HD.out]
      have yX:Hid ((a_ nd.data++l).length<=1050000*(hp+1+1)):=by
       show _<=_;have:=kG nd.data;have:=Oe.out;have:=GH.out;rw [List.length_append];omega
      have TE:Hid (∀q∈a_ nd.data++l,q.length<=1100000):=by
       show ∀q∈_,_;intro q hq;rcases List.mem_append.1 hq with hq|hq
       ·have:=qc hq
        have:=Oe.out;omega
       ·exact TB.out q hq
      have H8:=zH (show hp+1<=8 by omega);have HLE:=zH Xu;clear I4 h80 HR Xu;go_wp2_with fail;go_roundw
      case rel=>exact⟨_,_,hp+1,_,A9,c9,T9,Tv,hA9,HLE.out,Fk,TE,yX.out,H8.out,qf,F5,E5⟩
      case measure =>
       rw [qd T9,hMr.out];have:=yX.out;have:=H8.out;omega
     | false =>
      have Rz:Hid (¬((aa S.nodes (bp S at_ p)).kind=3/\(l≠[]\/m=true\/eN=true))):=by
       show ¬_;rintro ⟨h1,h2⟩;have h3:k3=true:=by rw[Od.out,N_.out,BF.out];simpa using h1
       have:=yV.out;rw [h3]at this;rcases h2 with h2|h2|h2
       ·have h4:lb=false:=by
         rw [BC.out]
         cases l with
         | nil=>exact absurd rfl h2
         | cons a l=>rfl
        rw [h4]at this;cases this
       ·rw[h2]at this;cases lb<;>cases this
       ·rw[h2]at this;cases lb<;>cases m<;>cases this
      obtain ⟨bw,LC⟩:∃bw:Bool,bw=(k1&&(!lb || m)):=⟨_,rfl⟩;have uJ:=zH LC;clear LC yV Od t3;go_upto_region 25 with fail;go_cut [136] (fun v wc=>v=.bool bw/\wc=W4)
      case first =>
       have hb:=uJ
       cases k1
       ·have e:Hid (bw=false):=by show _=_;rw[hb.out];rfl
        clear uJ hb;go_wp2_with fail;go_meet;exact ⟨by rw[e.out],rfl⟩
       ·cases lb
        ·have e:Hid (bw=true):=by show _=_;rw[hb.out];rfl
         clear uJ hb;go_wp2_with fail;go_meet;exact ⟨by rw[e.out],rfl⟩
        ·cases m
         ·have e:Hid (bw=false):=by show _=_;rw[hb.out];rfl
          clear uJ hb;go_wp2_with fail;go_meet;exact ⟨by rw[e.out],rfl⟩
         ·have e:Hid (bw=true):=by show _=_;rw[hb.out];rfl
          clear uJ hb;go_wp2_with fail;go_meet;exact ⟨by rw[e.out],rfl⟩
      case rest =>
       obtain ⟨rfl,hwc⟩:=hcut;obtain rfl:W4=wc:=hwc.symm;have Xv:k1=true↔(aa S.nodes (bp S at_ p)).kind≠1:=by rw[LB.out,N_.out,BF.out];simp
       have Xw:lb=false↔l≠[]:=by
        rw [BC.out]
        cases l<;>simp
       have VF:=zH Xv;have BG:=zH Xw;clear Xv Xw t1
       cases bw with
       | true =>
        have e1:Hid (R=(bu,9)):=by
         show _=_;have h1:=uJ.out;have hk:k1=true:=by cases k1<;>simp at h1|-
         rw [hk]at h1;rw [HR.out,xx sB.out qY.out HI.out Rz.out (VF.out.1 hk)]
         cases hlb:lb
         ·exact .inl (BG.out.1 hlb)
         ·rw [hlb]at h1
          cases hm:m
          ·rw[hm]at h1;cases h1
          ·exact .inr rfl
        clear HR uJ T4 DH VF BG Rz y2 zD yz c3 c6 cz N4 tl t0 oG t2 VD N_;have z0:=F4.cell 0;have z1:=F4.cell 1;have z2:=F4.cell 2;have z3:=F4.cell 3;have Og:=Has.free F4 0;have Oh:=Has.free F4 1;have Oi:=Has.free F4 2;have Oj:=Has.free F4 3;have zz:=F4.lt;obtain ⟨R9,O9⟩:=eX bu F4;go_upto_region 26 with fail
        iterate 16 (first|go_values|go_skip|go_guarded|go_step|go_upon|go_in)
        refine bodyPost_ret (v:=.tuple #[.agg (fj bu).toArray,.int .i64 9]) (cB Tryz.results112 _ _ b8 bu _ rfl rfl R9) rfl ?_;exact gZ.mk E4 lQ O9 e1.out
       | false =>
        have IV:Hid (¬((aa S.nodes (bp S at_ p)).kind≠1/\(l≠[]\/m=true))):=by
         show ¬_;rintro ⟨h1,h2⟩;have h3:=uJ.out;rw [VF.out.2 h1]at h3;rcases h2 with h2|h2
         ·rw[BG.out.2 h2]at h3;cases h3
         ·rw[h2]at h3;cases lb<;>cases h3
        clear uJ
        cases lb with
        | true =>
         have jF:l=[]:=by
          have:=BC.out
          cases l with
          | nil=>rfl
          | cons a l=>cases this
         have e1:Hid (R=(⟨at_,p,z,m⟩,0)):=by
          show _=_;rw [HR.out,xy sB.out qY.out HI.out Rz.out IV.out jF,BF.out]
         clear HR jF y2 zD yz;have ED:Ext W4 W4.drew:=(Ext.refl _).drew;have FD:=F4.ext ED;go_upto_region 28 with fail;rw [LA.out];go_still_tail 11,(by kernel_rfl);change wpList _ _ _ _ _ W4.drew;have z0:=F4.cell 0;have z1:=F4.cell 1;have z2:=F4.cell 2;have z3:=F4.cell 3;have Og:=Has.free F4 0;have Oh:=Has.free F4 1;have Oi:=Has.free F4 2;have Oj:=Has.free F4 3;have zz:=F4.lt;obtain ⟨R9,O9⟩:=eX (⟨at_,p,z,m⟩:gR) FD
         iterate 12 (first|go_values|go_skip|go_guarded|go_step|go_upon|go_back)
         refine bodyPost_ret (v:=.tuple #[.agg (fj ⟨at_,p,z,m⟩).toArray,.int .i64 0]) (cB Tryz.results112 _ _ b8 ⟨at_,p,z,m⟩ _ rfl rfl R9) rfl ?_;exact gZ.mk (E4.trans ED) lQ O9 e1.out
        | false =>
         have qf:Hid (R=cQ S cu cg eN z l hp m):=by
          show _=_;rw [HR.out,xA sB.out qY.out HI.out Rz.out IV.out (BG.out.1 rfl),BF.out]
         have f3:=Has.free T4 3;clear HR y2 zD yz c6;go_wp2_with fail;have O9:Only [b] W4 (W4.setCell ⟨b,3,none⟩ (.int .i64 z)):=Only.setCell _ _ _ _;have T9:dA (W4.setCell ⟨b,3,none⟩ (.int .i64 z)) b g.bW cu cg z (some X) l.length (cap-1) (hp:Int) m:=Has.setCell T4 3 (.int .i64 z);go_roundw
         case rel=>exact⟨z,l,hp,m,some X,cap-1,T9,DH.only O9 BD.out,by simp,Xp.out,BD.out,TB,by have:=GH.out;omega,VC,qf,O9.has F4 (by rw[List.mem_singleton];exact Ne.symm tN),O9.after E4 (fun x hx=>by rw[List.mem_singleton]at hx;omega)⟩
         case measure=>rw[qd T9,hMr.out];simp
theorem nk {c : Nat} (B:Nat) (g:cJ) (S:ac) (X0:cM) (cu cg:Int) (p0:List UInt8) (eN:Bool) (w:World) (h:gV w B g S X0) (T:dI c S) (hc:c<=1000000) (hl:S.last<=100000) (Tw:p0.length<=1000000) :
  Calls Tryz.prog 30 #[.pointer (some ⟨g.bF,0,none⟩),.agg #[cu,cg],bs p0,.bool eN] w (gZ w (dP S cu cg p0 eN)):=by
 obtain ⟨W0,bg⟩:∃W,W=(w.alloc (.cells #[cu,cg] 27)).alloc (.cells #[.int .i64 0,.string ⟨#[]⟩,.int .i64 0,.bool false] 89):=⟨_,rfl⟩;obtain ⟨b5,jP⟩:∃b,b=w.heap.size:=⟨_,rfl⟩;obtain ⟨b8,fZ⟩:∃b,b=w.heap.size+1:=⟨_,rfl⟩;have E0:Ext w W0:=by rw[bg];exact ((Ext.refl _).alloc _).alloc _
 have F0:Has W0 b8 (.cells (fj bu).toArray 89):=by rw[bg,fZ];have:=Has.new (w.alloc (.cells #[cu,cg] 27)) (.cells #[.int .i64 0,.string ⟨#[]⟩,.int .i64 0,.bool false] 89);rw[World.size_alloc]at this;exact this
 have C0:Has W0 b5 (.cells #[cu,cg] 27):=by rw[bg,jP];exact (Has.new w _).alloc _
 have lQ:w.heap.size<=b8:=by omega
 have TF:S.nodes.length<=1000000:=by have:=T.count;omega
 obtain⟨R,hR⟩:=ar (dP S cu cg p0 eN);rw [<-hR];have HR:=zH hR;obtain⟨q,hq⟩:=ar (j6 p0);have HQ:=zH hq;clear hR;go_enter Tryz.func30,Tryz.ntmps30;go_upto_region 1 with fail;rw [<-bg,<-jP];rw [show b5+1=b8 by omega];clear bg jP fZ;go_wp2_with fail;refine (Hh p0 _ Tw).mono ?_;rw [<-hq];rintro e w2 ⟨rfl,b2⟩;have E2:=E0.trans b2;have F2:=F0.ext b2;have C2:=C0.ext b2;clear hq F0 C0 E0 b2
 by_cases sG:q=0
 case neg =>
  have t0:(q == 0)=false:=by simpa using sG
  have oG:(q != 0)=true:=by simpa using sG
  have e1:Hid (R=(bu,q)):=by show _=_;rw[HR.out,HQ.out];unfold dP;rw[if_neg (by rw[<-HQ.out];exact sG)]
  clear sG;go_wp2_with (refine cq rfl _ _ rfl b8 bu bu rfl rfl F2 ?_;intro w9 R9 O9);refine bodyPost_ret (v:=.tuple #[.agg (fj bu).toArray,.int .i64 q]) (cB Tryz.results30 _ _ b8 bu _ rfl rfl R9) rfl ?_;exact gZ.mk E2 lQ O9 e1.out
 have t0:(q == 0)=true:=by simpa using sG
 have oG:(q != 0)=false:=by simpa using sG
 have qf:Hid (R=cQ S cu cg eN 1 (a_ p0) 0 (eU p0)):=by show _=_;rw[HR.out];unfold dP;rw[if_pos (by rw[<-HQ.out];exact sG)]
 have l6:Hid (∀p∈a_ p0,p.length<=1100000):=by show ∀p∈_,_;intro p hp;have:=qc hp;omega
 have Cx:Hid ((a_ p0).length<=1050000):=by show _<=_;have:=kG p0;omega
 clear HR HQ sG;go_wp2_with fail;refine (uB p0 _ (by omega)).mono ?_;rintro e w3 ⟨v3,rfl,pA,b3⟩;obtain ⟨A3,c3,rfl,DG,Tx,Lz,Ty⟩:=jO.at_ pA;go_wp2_with fail;refine (uC p0 _ (by omega)).mono ?_;rintro e w4 ⟨rfl,b4⟩;have E4:=(E2.trans b3).trans b4;have F4:=(F2.ext b3).ext b4;have C4:=(C2.ext b3).ext b4;have DH:=Lz.ext b4;obtain⟨l0,jF⟩:=ar (a_ p0);obtain⟨m0,hm0⟩:=ar (eU p0);rw [<-jF]at DH qf l6 Cx DG;rw [<-hm0]at qf;rw [<-jF,<-hm0];have TA:=zH DG;clear DG Tx Lz pA b3 b4 E2 F2 C2 jF hm0 t0 oG;go_wp2_with fail;go_loopw [11,12,13,14] (fun v11 v12 v13 Xx wr=>∃(at_:Int) (l:List (List UInt8)) (h:Nat) (m:Bool) (A:Option Addr) (cap:Nat),v11=.slice A l.length cap/\v12=.bool m/\v13=.int .i64 at_/\Xx=.int .i64 (h:Int)/\iy wr A l/\(A=none->cap=0)/\l.length<=cap/\Hid (∀p∈l,p.length<=1100000)/\l.length<=1050000*(h+1)/\h<=8/\Hid (R=cQ S cu cg eN at_ l h m)/\Has wr b8 (.cells (fj bu).toArray 89)/\Has wr b5 (.cells #[cu,cg] 27)/\Ext w wr) (fun v11 _ _ Xx _=>(9-(intOf Xx).toNat)*20000000+Hq v11)
 case atStart=>exact⟨1,l0,0,m0,A3,c3,rfl,rfl,rfl,rfl,DH,Ty,TA.out,l6,by have:=Cx.out;omega,by decide,qf,F4,C4,E4⟩
 case round =>
  obtain ⟨at_,l,hp,m,A,cap,rfl,rfl,rfl,rfl,hat,hA0,hlc,HL,I3,VC,HR,Fr,Cr,Er⟩:=hrel
  cases l with
  | nil =>
   have e1:Hid (R=(⟨0,[],at_,true⟩,0)):=by show _=_;rw[HR.out,qa]
   clear HR;go_wp2_with (refine cq rfl _ _ rfl b8 bu ⟨0,[],at_,true⟩ rfl rfl Fr ?_;intro w9 R9 O9);refine bodyPost_ret (v:=.tuple #[.agg (fj ⟨0,[],at_,true⟩).toArray,.int .i64 0]) (cB Tryz.results30 _ _ b8 ⟨0,[],at_,true⟩ _ rfl rfl R9) rfl ?_;exact gZ.mk Er lQ O9 e1.out
  | cons p l =>
   obtain ⟨bl,o,rfl,zy,hcl⟩:∃bl o,A=some ⟨bl,o,none⟩/\bl<wr.heap.size/\∀k,(h:k<(p::l).length)->wr.cell? ⟨bl,o+k,none⟩=some (.string (bs (p::l)[k])):=by
    rcases hat with h0|h0
    ·cases h0
    ·exact h0
   obtain⟨n,hn⟩:=ar ((p::l).length);have lJ:n=l.length+1:=by rw[hn];rfl
   have hc0:wr.cell? ⟨bl,o,none⟩=some (.string (bs p)):=hcl 0 (by simp);obtain ⟨X,xg,hX,hXb⟩:=uI bl o n l.length cap lJ (by omega);have hpl:p.length<=1100000:=HL.out p (List.mem_cons_self ..);have yT:iy wr (some X) l:=by
    by_cases jF:l=[]
    ·exact .inl jF
    ·have hpos:0<l.length:=List.length_pos_iff.2 jF
     rw [hX hpos];refine .inr ⟨bl,o+1,rfl,zy,fun k hk=>?_⟩;have h1:=hcl (k+1) (by simp;omega);rw [show o+1+k=o+(k+1) by omega];exact h1
   have Xp:=zH (show l.length<=cap-1 by omega);have GH:=zH (show l.length+1<=1050000*(hp+1) by omega);have TB:Hid (∀q∈l,q.length<=1100000):=by show ∀q∈l,_;intro q hq;exact HL.out q (List.mem_cons_of_mem _ hq)
   have q0:(0:Int)<(n:Int):=by omega
   obtain⟨lb,hlb⟩:=ar l.isEmpty;have tl:((n:Int) == 1)=lb:=by rw[hlb,lJ];cases l<;>simp<;>omega
   have BC:=zH hlb;rw [<-hn];have HMR:=zH (show (p::l).length=n from hn.symm);clear hat hcl hX hXb hlc I3 HL hA0 hlb lJ hn;go_upto_region 8 with fail;clear xg hc0 q0 tl;go_wp2_with fail;refine (eZ B g S X0 at_ _ (h.ext Er) TF T.aC).mono ?_;rintro e w5 ⟨A5,c5,rfl,yw,NY⟩;obtain⟨d,hd⟩:=ar (aa S.nodes at_);have Xi:iR d.ae/\d.ae.length<=c:=by rw[hd];exact T.aa at_
   have um:=zH Xi;rw [<-hd]at yw;rw [<-hd];have HD:=zH hd;obtain ⟨W6,DI⟩:∃W,W=w5.alloc (.cells #[d.no,d.dev,d.kind,d.mode,d.uid,d.gid,d.mtime,d.ctime,d.ah,d.up,bs d.data,.slice A5 d.ae.length c5] 58):=⟨_,rfl⟩;obtain ⟨b17,TG⟩:∃b,b=w5.heap.size:=⟨_,rfl⟩;have VG:Ext w5 W6:=by rw[DI];exact (Ext.refl _).alloc _
   have D6:Has W6 b17 (.cells #[d.no,d.dev,d.kind,d.mode,d.uid,d.gid,d.mtime,d.ctime,d.ah,d.up,bs d.data,.slice A5 d.ae.length c5] 58):=by rw[DI,TG];exact Has.new _ _
   have E6:=(Er.trans NY).trans VG;have F6:=(Fr.ext NY).ext VG;have C6:=(Cr.ext NY).ext VG;have Xy:=(yT.ext NY).ext VG;have sK:=yw.ext VG;have hE:Hid (eB S cu cg at_ p=if d.kind≠1 then 9 else if fL cu cg d.uid d.gid d.mode 1=false then 6 else if p=[46,46] then 0 else if 255<p.length then 13 else 0):=by show _=_;rw[hd];rfl
   have k2:W6.cell? ⟨b17,2,none⟩=some (.int .i64 d.kind):=D6.cell 2;have kz:=D6.lt;clear hd Xi Fr Cr Er yT yw;go_upto_region 9 with fail;rw [<-DI,<-TG];clear DI TG NY VG
   by_cases q1:d.kind=1
   case neg =>
    have t1:(d.kind == 1)=false:=by simpa using q1
    have we:(d.kind != 1)=true:=by simpa using q1
    have e0:eB S cu cg at_ p=9:=by rw[hE.out,if_pos q1]
    have e1:Hid (R=(bu,9)):=by show _=_;rw[HR.out,qb (by rw[e0];decide),e0]
    clear q1 e0 HR;have z0:=F6.cell 0;have z1:=F6.cell 1;have z2:=F6.cell 2;have z3:=F6.cell 3;have Og:=Has.free F6 0;have Oh:=Has.free F6 1;have Oi:=Has.free F6 2;have Oj:=Has.free F6 3;have zz:=F6.lt;obtain ⟨R9,O9⟩:=eX (bu:gR) F6;go_upto_region 10 with fail
    iterate 15 (first|go_values|go_skip|go_guarded|go_step|go_upon|go_back)
    refine bodyPost_ret (v:=.tuple #[.agg (fj bu).toArray,.int .i64 9]) (cB Tryz.results30 _ _ b8 bu _ rfl rfl R9) rfl ?_;exact gZ.mk E6 lQ O9 e1.out
   have t1:(d.kind == 1)=true:=by simpa using q1
   have we:(d.kind != 1)=false:=by simpa using q1
   obtain⟨u,hu⟩:=ar (fL cu cg d.uid d.gid d.mode 1);have lj:Hid (eB S cu cg at_ p=if u=false then 6 else if p=[46,46] then 0 else if 255<p.length then 13 else 0):=by show _=_;rw[hE.out,if_neg (fun k=>k q1),hu]
   have HU:=zH hu;clear q1 hE hu;obtain ⟨n0,n1,n2,n3,n4,n5,n6,n7,n8,n9,Dk,AU⟩:=D6.dS;have x0:W6.cell? ⟨b5,0,none⟩=some (.int .i64 cu):=C6.cell 0;have x1:W6.cell? ⟨b5,1,none⟩=some (.int .i64 cg):=C6.cell 1;have xz:=C6.lt;go_wp2_with fail;refine (xe cu cg _ _ _ d.mode d.uid d.gid _ _ _ _ _ _ 1 _).mono ?_;rw [<-HU.out];rintro e w7 ⟨rfl,b7⟩;have E7:=E6.trans b7;have F7:=F6.ext b7;have C7:=C6.ext b7;have D7:=D6.ext b7;have TH:=Xy.ext b7;have tK:=sK.ext b7;clear n0 n1 n2 n3 n4 n5 n6 n7 n8 n9 Dk AU x0 x1 xz k2 kz E6 F6 C6 D6 Xy sK b7
   cases u with
   | false =>
    have e0:eB S cu cg at_ p=6:=by rw[lj.out,if_pos rfl]
    have e1:Hid (R=(bu,6)):=by show _=_;rw[HR.out,qb (by rw[e0];decide),e0]
    clear e0 HR;have z0:=F7.cell 0;have z1:=F7.cell 1;have z2:=F7.cell 2;have z3:=F7.cell 3;have Og:=Has.free F7 0;have Oh:=Has.free F7 1;have Oi:=Has.free F7 2;have Oj:=Has.free F7 3;have zz:=F7.lt;obtain ⟨R9,O9⟩:=eX (bu:gR) F7;go_upto_region 12 with fail
    iterate 15 (first|go_values|go_skip|go_guarded|go_step|go_upon|go_back)
    refine bodyPost_ret (v:=.tuple #[.agg (fj bu).toArray,.int .i64 6]) (cB Tryz.results30 _ _ b8 bu _ rfl rfl R9) rfl ?_;exact gZ.mk E7 lQ O9 e1.out
   | true =>
    have mG:Hid (eB S cu cg at_ p=if p=[46,46] then 0 else if 255<p.length then 13 else 0):=by show _=_;rw[lj.out,if_neg (by decide)]
    obtain ⟨XP,Oc⟩:∃Y,Y=bs p:=⟨_,rfl⟩;have Vz:(XP.size:Int)=p.length:=by rw[Oc,aU]
    have tX:(XP.toList == [46,46])=(p == [46,46]):=by rw[Oc];exact gM.2.2.1
    have LA:=zH Oc;rw [<-Oc];clear lj Oc
    by_cases q2:p=[46,46]
    ·have t2:(XP.toList == [46,46])=true:=by rw[tX,q2];rfl
     have e0:eB S cu cg at_ p=0:=by rw[mG.out,if_pos q2]
     have qf:Hid (R=cQ S cu cg eN (aJ S at_) l hp m):=by show _=_;rw[HR.out,Fj e0 q2]
     clear tX q2 e0 HR Vz;go_wp2_with fail;refine (tY B g S X0 at_ _ (h.ext E7) TF T.eight T.roots T.aC).mono ?_;rintro e w8 ⟨rfl,Fa⟩;obtain⟨z,hz⟩:=ar (aJ S at_);rw [<-hz]at qf;rw [<-hz];clear hz;have F8:=F7.ext Fa;have C8:=C7.ext Fa;have Tc:=TH.ext Fa;have E8:=E7.trans Fa;go_wp2_with fail;go_roundw
     case rel=>exact⟨z,l,hp,m,some X,cap-1,rfl,rfl,rfl,rfl,Tc,by simp,Xp.out,TB,by have:=GH.out;omega,VC,qf,F8,C8,E8⟩
     case measure=>have:=HMR.out;simp[intOf,Hq]at this|-;omega
    have t2:(XP.toList == [46,46])=false:=by rw[tX];simpa using q2
    have qY:=zH q2;have Rx:Hid (eB S cu cg at_ p=if 255<p.length then 13 else 0):=by show _=_;rw[mG.out,if_neg q2]
    clear tX q2 mG
    by_cases q3:255<p.length
    ·have t3:(255:Int)<XP.size:=by omega
     have e0:eB S cu cg at_ p=13:=by rw[Rx.out,if_pos q3]
     have e1:Hid (R=(bu,13)):=by show _=_;rw[HR.out,qb (by rw[e0];decide),e0]
     clear q3 e0 HR Vz;have z0:=F7.cell 0;have z1:=F7.cell 1;have z2:=F7.cell 2;have z3:=F7.cell 3;have Og:=Has.free F7 0;have Oh:=Has.free F7 1;have Oi:=Has.free F7 2;have Oj:=Has.free F7 3;have zz:=F7.lt;obtain ⟨R9,O9⟩:=eX (bu:gR) F7;go_upto_region 16 with fail
     iterate 15 (first|go_values|go_skip|go_guarded|go_step|go_upon|go_back)
     refine bodyPost_ret (v:=.tuple #[.agg (fj bu).toArray,.int .i64 13]) (cB Tryz.results30 _ _ b8 bu _ rfl rfl R9) rfl ?_;exact gZ.mk E7 lQ O9 e1.out
    have t3:¬(255:Int)<XP.size:=by omega
    have sB:Hid (eB S cu cg at_ p=0):=by show _=_;rw[Rx.out,if_neg q3]
    have Gx:w7.cell? ⟨b17,11,none⟩=some (.slice A5 d.ae.length c5):=D7.cell 11;have yz:=D7.lt;clear q3 Rx Vz;go_wp2_with fail;rw [LA.out];refine (lK A5 d.ae c5 p _ tK.ae.ae (by have:=um.out.2;omega)).mono ?_;rintro e w8 ⟨rfl,Fa⟩;rw [<-LA.out];obtain⟨fo,hfo⟩:=ar (aO d.ae p);rw [<-hfo];have HFO:=zH hfo;have E8:=E7.trans Fa;clear hfo Gx yz;go_wp2_with fail;refine (iD B g S X0 fo _ (h.ext E8) (by have:=T.eight;omega)).mono ?_;rintro e w9' ⟨rfl,b9'⟩;obtain⟨z,hz⟩:=ar (ak S.af fo);rw [<-hz];have BF:Hid (z=bp S at_ p):=by show _=_;rw[hz,HFO.out,HD.out];rfl
    have E9:=E8.trans b9';clear hz;go_wp2_with fail;refine (eZ B g S X0 z _ (h.ext E9) TF T.aC).mono ?_;rintro e DJ ⟨A10,TI,rfl,aaR,iU⟩;obtain⟨nd,hnd⟩:=ar (aa S.nodes z);obtain⟨is,NZ⟩:=ar (aQ S.nodes z);have XA:is=true->nd.no=z/\z≠0:=fun k=>by
     rw [NZ]at k;obtain ⟨_,e1,e2⟩:=aj k;have:=(T.aC.2 _ e2).1;rw [hnd];exact ⟨e1,by rw[<-e1];omega⟩
    have iV:is=false->nd.no=0:=fun k=>by
     rw [NZ]at k;rw [hnd,(aV k).1];rfl
    rw [<-hnd];have N_:=zH hnd;have VD:=zH NZ;have aaS:=zH XA;have aaT:=zH iV;obtain ⟨Hr,PQ⟩:∃W,W=DJ.alloc (.cells #[nd.no,nd.dev,nd.kind,nd.mode,nd.uid,nd.gid,nd.mtime,nd.ctime,nd.ah,nd.up,bs nd.data,.slice A10 nd.ae.length TI] 58):=⟨_,rfl⟩;obtain ⟨XC,TJ⟩:∃b,b=DJ.heap.size:=⟨_,rfl⟩;have RB:Ext DJ Hr:=by rw[PQ];exact (Ext.refl _).alloc _
    have XD:Has Hr XC (.cells #[nd.no,nd.dev,nd.kind,nd.mode,nd.uid,nd.gid,nd.mtime,nd.ctime,nd.ah,nd.up,bs nd.data,.slice A10 nd.ae.length TI] 58):=by rw[PQ,TJ];exact Has.new _ _
    have LF:Ext w7 Hr:=((Fa.trans b9').trans iU).trans RB;have tc:=E7.trans LF;have iK:=F7.ext LF;have C11:=C7.ext LF;have RD:=TH.ext LF;clear hnd NZ XA iV F7 C7 D7 TH tK E7 E8 E9 aaR;go_upto_region 18 with fail;rw [<-PQ,<-TJ];clear PQ TJ Fa b9' iU RB LF;have y0:Hr.cell? ⟨XC,0,none⟩=some (.int .i64 nd.no):=XD.cell 0;have y2:Hr.cell? ⟨XC,2,none⟩=some (.int .i64 nd.kind):=XD.cell 2;have zD:Hr.cell? ⟨XC,10,none⟩=some (.string (bs nd.data)):=XD.cell 10;have yz:=XD.lt
    cases is with
    | false =>
     have HI:Hid (aQ S.nodes (bp S at_ p)=false):=by show _=_;rw[<-BF.out];exact VD.out.symm
     rw [aaT.out rfl]at y0
     cases lb with
     | true =>
      have e1:Hid (R=(⟨at_,p,0,m⟩,0)):=by
       show _=_;rw [HR.out,xt sB.out qY.out HI.out];have:=BC.out
       cases l with
       | nil=>rfl
       | cons a l=>cases this
      clear HR y2 zD;go_upto_region 21 with fail;rw [LA.out];have z0:=iK.cell 0;have z1:=iK.cell 1;have z2:=iK.cell 2;have z3:=iK.cell 3;have Og:=Has.free iK 0;have Oh:=Has.free iK 1;have Oi:=Has.free iK 2;have Oj:=Has.free iK 3;have zz:=iK.lt;obtain ⟨R9,O9⟩:=eX (⟨at_,p,0,m⟩:gR) iK
      iterate 24 (first|go_values|go_skip|go_guarded|go_step|go_upon|go_back)
      refine bodyPost_ret (v:=.tuple #[.agg (fj ⟨at_,p,0,m⟩).toArray,.int .i64 0]) (cB Tryz.results30 _ _ b8 ⟨at_,p,0,m⟩ _ rfl rfl R9) rfl ?_;exact gZ.mk tc lQ O9 e1.out
     | false =>
      have e1:Hid (R=(bu,5)):=by
       show _=_;rw [HR.out,xu sB.out qY.out HI.out];rintro rfl
       cases BC.out
      clear HR y2 zD;have z0:=iK.cell 0;have z1:=iK.cell 1;have z2:=iK.cell 2;have z3:=iK.cell 3;have Og:=Has.free iK 0;have Oh:=Has.free iK 1;have Oi:=Has.free iK 2;have Oj:=Has.free iK 3;have zz:=iK.lt;obtain ⟨R9,O9⟩:=eX (bu:gR) iK;go_upto_region 19 with fail
      iterate 15 (first|go_values|go_skip|go_guarded|go_step|go_upon|go_back)
      refine bodyPost_ret (v:=.tuple #[.agg (fj bu).toArray,.int .i64 5]) (cB Tryz.results30 _ _ b8 bu _ rfl rfl R9) rfl ?_;exact gZ.mk tc lQ O9 e1.out
    | true =>
     have HI:Hid (aQ S.nodes (bp S at_ p)=true):=by show _=_;rw[<-BF.out];exact VD.out.symm
     obtain ⟨hnz,hz0⟩:=aaS.out rfl;rw [hnz]at y0;have t5:(z == 0)=false:=by simpa using hz0
     obtain ⟨k3,lF⟩:∃k:Bool,k=(nd.kind == 3):=⟨_,rfl⟩;obtain ⟨k1,gG⟩:∃k:Bool,k=(nd.kind != 1):=⟨_,rfl⟩;have t6:=lF.symm;have t7:=gG.symm;have Od:=zH lF;have LB:=zH gG;obtain ⟨bv,Xq⟩:∃bv:Bool,bv=(k3&&(!lb || (m || eN))):=⟨_,rfl⟩;have yV:=zH Xq;clear lF gG Xq hnz hz0;go_upto_region 22 with fail;go_cut [96] (fun v wc=>v=.bool bv/\wc=Hr)
     case first =>
      have hb:Hid (bv=(k3&&(!lb || (m || eN)))):=yV
      cases k3
      ·have e:Hid (bv=false):=by show _=_;rw[hb.out];rfl
       clear yV hb;go_wp2_with fail;go_meet;exact ⟨by rw[e.out],rfl⟩
      ·cases lb
       ·have e:Hid (bv=true):=by show _=_;rw[hb.out];rfl
        clear yV hb;go_wp2_with fail;go_meet;exact ⟨by rw[e.out],rfl⟩
       ·cases m
        ·cases eN
         ·have e:Hid (bv=false):=by show _=_;rw[hb.out];rfl
          clear yV hb;go_wp2_with fail;go_meet;exact ⟨by rw[e.out],rfl⟩
         ·have e:Hid (bv=true):=by show _=_;rw[hb.out];rfl
          clear yV hb;go_wp2_with fail;go_meet;exact ⟨by rw[e.out],rfl⟩
        ·have e:Hid (bv=true):=by show _=_;rw[hb.out];rfl
         clear yV hb;go_wp2_with fail;go_meet;exact ⟨by rw[e.out],rfl⟩
     case rest =>
      obtain ⟨rfl,hwc⟩:=hcut;obtain rfl:Hr=wc:=hwc.symm
      cases bv with
      | true =>
       have oh : k3=true/\(l≠[]\/m=true\/eN=true):=by
        have:=yV.out
        cases k3
        ·cases this
        ·refine ⟨rfl,?_⟩
         cases hm:m
         ·cases hf:eN
          ·left
           rintro rfl;rw [hm,hf,BC.out]at this
           cases this
          ·exact .inr (.inr rfl)
         ·exact .inr (.inl rfl)
       have HK:Hid ((aa S.nodes (bp S at_ p)).kind=3):=by
        show _=_;have h2:=oh.1;rw [Od.out,N_.out,BF.out]at h2;simpa using h2
       have TD:=zH oh.2;have TK:Hid (nd.data=(aa S.nodes (bp S at_ p)).data):=by show _=_;rw[N_.out,BF.out]
       have Oe:Hid (nd.data.length<=1048576):=by
        show _<=_;rw [TK.out];exact (T.on _ (aj HI.out).2.2).2
       obtain ⟨h1,Tu⟩:∃h1:Nat,h1=hp+1:=⟨_,rfl⟩;have q4:IntKind.i64.wrap ((hp:Int)+1)=(h1:Int):=by rw[IntWalk.i64_in _ (by omega)];omega
       have ru:=zH Tu;obtain⟨dt,hdt⟩:=ar nd.data;rw [<-hdt]at zD TK Oe;clear oh Tu t6 t7 y0 y2 t5
       by_cases q5:8<h1
       ·have t8:(8:Int)<(h1:Int):=by omega
        have e1:Hid (R=(bu,12)):=by show _=_;rw[HR.out,xv sB.out qY.out HI.out HK.out TD.out (by rw[<-ru.out];exact q5)]
        clear q5 HR;have z0:=iK.cell 0;have z1:=iK.cell 1;have z2:=iK.cell 2;have z3:=iK.cell 3;have Og:=Has.free iK 0;have Oh:=Has.free iK 1;have Oi:=Has.free iK 2;have Oj:=Has.free iK 3;have zz:=iK.lt;obtain ⟨R9,O9⟩:=eX (bu:gR) iK;go_upto_region 25 with fail
        iterate 15 (first|go_values|go_skip|go_guarded|go_step|go_upon|go_back)
        refine bodyPost_ret (v:=.tuple #[.agg (fj bu).toArray,.int .i64 12]) (cB Tryz.results30 _ _ b8 bu _ rfl rfl R9) rfl ?_;exact gZ.mk tc lQ O9 e1.out
       have t8:¬(8:Int)<(h1:Int):=by omega
       have H8:Hid (¬8<hp+1):=by show ¬_;rw[<-ru.out];exact q5
       clear q5
       cases dt with
       | nil =>
        have e1:Hid (R=(bu,5)):=by show _=_;rw[HR.out,uG sB.out qY.out HI.out HK.out TD.out H8.out TK.out.symm]
        have u0:(bs []).toList=[]:=bk [];clear HR hdt;have z0:=iK.cell 0;have z1:=iK.cell 1;have z2:=iK.cell 2;have z3:=iK.cell 3;have Og:=Has.free iK 0;have Oh:=Has.free iK 1;have Oi:=Has.free iK 2;have Oj:=Has.free iK 3;have zz:=iK.lt;obtain ⟨R9,O9⟩:=eX (bu:gR) iK;go_upto_region 27 with fail
        iterate 15 (first|go_values|go_skip|go_guarded|go_step|go_upon|go_back)
        refine bodyPost_ret (v:=.tuple #[.agg (fj bu).toArray,.int .i64 5]) (cB Tryz.results30 _ _ b8 bu _ rfl rfl R9) rfl ?_;exact gZ.mk tc lQ O9 e1.out
       | cons ch tt =>
        have qf:Hid (R=cQ S cu cg eN (if (ch::tt).head?=some 47 then 1 else at_) (a_ (ch::tt)++l) (hp+1) (m || (l.isEmpty&&eU (ch::tt)))):=by
         show _=_;rw [HR.out,xw sB.out qY.out HI.out HK.out TD.out H8.out (by rw[<-TK.out];simp),<-TK.out]
        obtain ⟨at2,yU⟩:∃a:Int,a=if (ch::tt).head?=some 47 then 1 else at_:=⟨_,rfl⟩
        obtain ⟨v,hv⟩:∃v:Bool,v=(ch == 47):=⟨_,rfl⟩;have hks:0<(bs (ch::tt)).size:=by rw[aU];simp
        have hs2:(((bs (ch::tt))[0].toNat:Int) == 47)=v:=by rw[show (bs (ch::tt))[0]=ch from rfl,hv];exact xq (c:=ch) (d:=47)
        have PO:Hid (v=true->at2=1):=by show _->_;intro k;rw[hv]at k;rw[yU,if_pos (by simpa using k)]
        have KU:Hid (v=false->at2=at_):=by show _->_;intro k;rw[hv]at k;rw[yU,if_neg (by simpa using k)]
        rw [<-yU]at qf;have u0:(bs (ch::tt)).toList.isEmpty=false:=by rw[bk];rfl
        clear yU hv HR hdt;go_upto_if 109 with fail;go_cut [13] (fun x wc=>x=.int .i64 at2/\wc=Hr)
        case first =>
         cases v
         ·have e2:=zH (KU.out rfl)
          clear KU PO;go_wp2_with fail;go_meet;exact ⟨by rw[e2.out],rfl⟩
         ·have e2:=zH (PO.out rfl)
          clear KU PO;go_wp2_with fail;go_meet;exact ⟨by rw[e2.out],rfl⟩
        case rest =>
         obtain ⟨rfl,hwc⟩:=hcut;obtain rfl:Hr=wc:=hwc.symm;obtain⟨sl,xg⟩:=ar (eU (ch::tt));obtain⟨m2,cL⟩:=ar (m || (l.isEmpty&&eU (ch::tt)));have HM:Hid (m2=(m || (lb&&sl))):=by show _=_;rw[cL,BC.out,xg]
         have HSL:=zH xg;rw [<-cL]at qf;clear xg cL KU PO hs2 u0 hks;go_upto_region 30 with fail;go_cut [12] (fun x wc=>x=.bool m2/\Ext Hr wc)
         case first =>
          cases m
          ·cases lb
           ·have e2:Hid (m2=false):=by show _=_;rw[HM.out];rfl
            go_wp2_with fail;go_meet;exact ⟨by rw[e2.out],Ext.refl _⟩
           ·have e2:Hid (m2=sl):=by show _=_;rw[HM.out];rfl
            go_wp2_with fail;refine (uC (ch::tt) _ (by have:=Oe.out;omega)).mono ?_;rw [<-HSL.out,<-e2.out];rintro e I5 ⟨rfl,RE⟩;go_wp2_with fail;go_meet;exact ⟨rfl,RE⟩
          ·have e2:Hid (m2=true):=by show _=_;rw[HM.out];rfl
           go_wp2_with fail;go_meet;exact ⟨by rw[e2.out],Ext.refl _⟩
         case rest =>
          obtain ⟨rfl,RE⟩:=hcut;have N12:=XD.ext RE;have y12:wc.cell? ⟨XC,10,none⟩=some (.string (bs (ch::tt))):=(RE.cell yz).trans zD;have Z7:=N12.lt;clear zD yz;go_wp2_with fail;refine (uB (ch::tt) _ (by have:=Oe.out;omega)).mono ?_;rintro e VH ⟨v13,rfl,XE,yJ⟩;have RF:=(RD.ext RE).ext yJ;have aaK:=kG (ch::tt);obtain ⟨Xx,w14,Hs,LG,LH⟩:=xB (some X) (cap-1) l VH XE RF (by simp) yJ.size (by have:=Oe.out;omega) (by have:=GH.out;omega);have Fl:Ext wc w14:=yJ.grown LH (fun g hv=>(World.ownsRow.lt XE g hv).1);have TL:=zH Hs;obtain ⟨A14,c14,rfl,XF,XG,XH,XI⟩:=jO.at_ LG;have aaU:=zH XF;have F14:=(iK.ext RE).ext Fl;have C14:=(C11.ext RE).ext Fl;have E15:=(tc.trans RE).trans Fl;have yX:Hid ((a_ (ch::tt)++l).length<=1050000*(hp+1+1)):=by
           show _<=_;have:=Oe.out;have:=GH.out;rw [List.length_append];omega
          have TE:Hid (∀q∈a_ (ch::tt)++l,q.length<=1100000):=by
           show ∀q∈_,_;intro q hq;rcases List.mem_append.1 hq with hq|hq
           ·have:=qc hq
            have:=Oe.out;omega
           ·exact TB.out q hq
          clear Hs LG LH XF XG RF y12;go_wp2_with (at_builtin;refine Lib.wpList_append_run _ rfl _ _ 140 140 rfl _ _ rfl rfl _ _ TL.out ?_);have H8b:=zH (show hp+1<=8 by have:=H8.out;omega);go_roundw
          case rel=>exact⟨at2,a_ (ch::tt)++l,hp+1,m2,A14,c14,by rw[List.length_append],rfl,rfl,by rw[ru.out],XH,XI,aaU.out,TE,yX.out,H8b.out,qf,F14,C14,E15⟩
          case measure =>
           have h1':=yX.out;rw [List.length_append]at h1';have nP:=H8b.out;have h3':=ru.out;simp only[intOf,Hq];omega
      | false =>
       have Rz:Hid (¬((aa S.nodes (bp S at_ p)).kind=3/\(l≠[]\/m=true\/eN=true))):=by
        show ¬_;rintro ⟨h1,h2⟩;have h3:k3=true:=by rw[Od.out,N_.out,BF.out];simpa using h1
        have:=yV.out;rw [h3]at this;rcases h2 with h2|h2|h2
        ·have h4:lb=false:=by
          rw [BC.out]
          cases l with
          | nil=>exact absurd rfl h2
          | cons a l=>rfl
         rw [h4]at this;cases this
        ·rw[h2]at this;cases lb<;>cases this
        ·rw[h2]at this;cases lb<;>cases m<;>cases this
       obtain ⟨bw,LC⟩:∃bw:Bool,bw=(k1&&(!lb || m)):=⟨_,rfl⟩;have uJ:=zH LC;clear LC yV Od t6 zD;go_upto_region 32 with fail;go_cut [133] (fun v wc=>v=.bool bw/\wc=Hr)
       case first =>
        have hb:=uJ
        cases k1
        ·have e:Hid (bw=false):=by show _=_;rw[hb.out];rfl
         clear uJ hb;go_wp2_with fail;go_meet;exact ⟨by rw[e.out],rfl⟩
        ·cases lb
         ·have e:Hid (bw=true):=by show _=_;rw[hb.out];rfl
          clear uJ hb;go_wp2_with fail;go_meet;exact ⟨by rw[e.out],rfl⟩
         ·cases m
          ·have e:Hid (bw=false):=by show _=_;rw[hb.out];rfl
           clear uJ hb;go_wp2_with fail;go_meet;exact ⟨by rw[e.out],rfl⟩
          ·have e:Hid (bw=true):=by show _=_;rw[hb.out];rfl
           clear uJ hb;go_wp2_with fail;go_meet;exact ⟨by rw[e.out],rfl⟩
       case rest =>
        obtain ⟨rfl,hwc⟩:=hcut;obtain rfl:Hr=wc:=hwc.symm;have Xv:k1=true↔(aa S.nodes (bp S at_ p)).kind≠1:=by rw[LB.out,N_.out,BF.out];simp
        have Xw:lb=false↔l≠[]:=by
         rw [BC.out]
         cases l<;>simp
        have VF:=zH Xv;have BG:=zH Xw;clear Xv Xw t7 y2
        cases bw with
        | true =>
         have e1:Hid (R=(bu,9)):=by
          show _=_;have h1:=uJ.out;have hk:k1=true:=by cases k1<;>simp at h1|-
          rw [hk]at h1;rw [HR.out,xx sB.out qY.out HI.out Rz.out (VF.out.1 hk)]
          cases hlb:lb
          ·exact .inl (BG.out.1 hlb)
          ·rw [hlb]at h1
           cases hm:m
           ·rw[hm]at h1;cases h1
           ·exact .inr rfl
         clear HR uJ;have z0:=iK.cell 0;have z1:=iK.cell 1;have z2:=iK.cell 2;have z3:=iK.cell 3;have Og:=Has.free iK 0;have Oh:=Has.free iK 1;have Oi:=Has.free iK 2;have Oj:=Has.free iK 3;have zz:=iK.lt;obtain ⟨R9,O9⟩:=eX (bu:gR) iK;go_upto_region 33 with fail
         iterate 15 (first|go_values|go_skip|go_guarded|go_step|go_upon|go_back)
         refine bodyPost_ret (v:=.tuple #[.agg (fj bu).toArray,.int .i64 9]) (cB Tryz.results30 _ _ b8 bu _ rfl rfl R9) rfl ?_;exact gZ.mk tc lQ O9 e1.out
        | false =>
         have IV:Hid (¬((aa S.nodes (bp S at_ p)).kind≠1/\(l≠[]\/m=true))):=by
          show ¬_;rintro ⟨h1,h2⟩;have h3:=uJ.out;rw [VF.out.2 h1]at h3;rcases h2 with h2|h2
          ·rw[BG.out.2 h2]at h3;cases h3
          ·rw[h2]at h3;cases lb<;>cases h3
         clear uJ
         cases lb with
         | true =>
          have jF:l=[]:=by
           have:=BC.out
           cases l with
           | nil=>rfl
           | cons a l=>cases this
          have e1:Hid (R=(⟨at_,p,z,m⟩,0)):=by
           show _=_;rw [HR.out,xy sB.out qY.out HI.out Rz.out IV.out jF,BF.out]
          clear HR jF;have z0:=iK.cell 0;have z1:=iK.cell 1;have z2:=iK.cell 2;have z3:=iK.cell 3;have Og:=Has.free iK 0;have Oh:=Has.free iK 1;have Oi:=Has.free iK 2;have Oj:=Has.free iK 3;have zz:=iK.lt;obtain ⟨R9,O9⟩:=eX (⟨at_,p,z,m⟩:gR) iK;go_upto_region 35 with fail;rw [LA.out]
          iterate 30 (first|go_values|go_skip|go_guarded|go_step|go_upon|go_back)
          refine bodyPost_ret (v:=.tuple #[.agg (fj ⟨at_,p,z,m⟩).toArray,.int .i64 0]) (cB Tryz.results30 _ _ b8 ⟨at_,p,z,m⟩ _ rfl rfl R9) rfl ?_;exact gZ.mk tc lQ O9 e1.out
         | false =>
          have qf:Hid (R=cQ S cu cg eN z l hp m):=by
           show _=_;rw [HR.out,xA sB.out qY.out HI.out Rz.out IV.out (BG.out.1 rfl),BF.out]
          clear HR;go_wp2_with fail;go_roundw
          case rel=>exact⟨z,l,hp,m,some X,cap-1,rfl,rfl,rfl,rfl,RD,by simp,Xp.out,TB,by have:=GH.out;omega,VC,qf,iK,C11,tc⟩
          case measure=>have:=HMR.out;simp[intOf,Hq]at this|-;omega
end Go.Proofs.YtblbohcaphcobaaGreatDoor
