import Derived.Test.YtpibnfdolojpcaaGreatBunA
import Derived.Test.YtpibnfdolojpcaaGreatBunB
import Derived.Test.YtpibnfdolojpcaaGreatBunC
import Derived.Test.YtpibnfdolojpcaaGreatBunD
import Derived.Test.YtpibnfdolojpcaaGreatBunE
import Derived.Test.YtpibnfdolojpcaaGreatBunH
import Derived.Test.YtpibnfdolojpcaaGreatBunI
import Derived.BigQuiet
import Derived.StillTailTactics
import Derived.RangeFuncBox
import Derived.Lib.LastIndexByte
import Derived.ControlIn
import Derived.Scope
import Derived.AtR
import Derived.RangeFuncNested
import Derived.RangeFuncBound
import Derived.RangeFuncCalls
import Derived.RangeFuncLeaves
import Derived.Shelf.Abstract
import Derived.OwnWalkIn
import Derived.TacticsInMore
import Derived.LoopNIn
import Derived.LoopIn
set_option maxHeartbeats 16000000
set_option maxRecDepth 100000
namespace Go.Proofs.YtpibnfdolojpcaaGreat
open Go.Proofs.Tryz
variable {w w':World} {l:List UInt8} {b fr k c:Nat} {t:TypeId} {P:Program} {A:Option Addr}
section
def pc (cur:List UInt8):List UInt8->List (List UInt8)
 | []=>[cur]
 | c::l=>if c=47 then cur::pc [] l else pc (cur++[c]) l
def fJ (p:List UInt8):Bool:=!(p == [])&&!(p == [46])
def bX (l:List UInt8):List (List UInt8):=(pc [] l).filter fJ
theorem ZE (l:List UInt8):∀cur,pc cur l≠[]:=by
 induction l with
 | nil=>intro cur h;cases h
 | cons c l ih=>intro cur;unfold pc;split<;>simp[ih]
theorem TV (l:List UInt8):∀cur,(pc cur l).length<=l.length+1:=by
 induction l with
 | nil=>intro cur;simp[pc]
 | cons c l ih =>
  intro cur;unfold pc;split
  ·have:=ih [];simp;omega
  ·have:=ih (cur++[c]);simp;omega
def total:List (List UInt8)->Nat
 | []=>0
 | p::l=>p.length+total l
theorem TW (l:List UInt8):∀cur,total (pc cur l)<=cur.length+l.length:=by
 induction l with
 | nil=>intro cur;simp[pc,total]
 | cons c l ih =>
  intro cur;unfold pc;split
  ·have:=ih [];simp[total]at *;omega
  ·have:=ih (cur++[c]);simp at *;omega
theorem Fj (f:List UInt8->Bool) (l:List (List UInt8)):total (l.filter f)<=total l:=by
 induction l with
 | nil=>simp
 | cons x l ih=>rw[jH];split<;>simp[total]<;>omega
theorem Hq (l:List UInt8):total (bX l)<=l.length:=by
 have h1:=Fj fJ (pc [] l);have h2:=TW l [];unfold bX;simp at h2;omega
theorem ng (l:List UInt8):(bX l).length<=l.length+1:=by
 have h1:=sX fJ (pc [] l);have h2:=TV l [];unfold bX;omega
def dU (l:List UInt8):List UInt8:=(pc [] l).getLastD []
def jC (l:List UInt8):List UInt8:=(l.reverse.takeWhile (·≠47)).reverse
theorem xi {α:Type} {p:α->Bool} {l:List α}:l.takeWhile p=l↔∀x∈l,p x=true:=by
 induction l with
 | nil=>simp
 | cons a l ih =>
  rw[Mi]
  by_cases h:p a=true
  ·rw[af h];simp[h,ih]
  ·rw[ac h];simp[h]
theorem xj {α:Type} (a d:α) (l:List α) (h:l≠[]):(a::l).getLastD d=l.getLastD d:=by
 cases l with
 | nil=>exact absurd rfl h
 | cons b l=>rfl
theorem XL (l:List UInt8):∀cur,(pc cur l).getLastD []=if 47∈l then jC l else cur++l:=by
 induction l with
 | nil=>intro cur;simp[pc]
 | cons c l ih =>
  intro cur;unfold pc
  by_cases hc:c=47
  ·rw [af hc,xj _ _ _ (ZE _ _),ih []]
   rw[af (show 47∈c::l by rw[hc];exact bY ..)];unfold jC
   by_cases hl:47∈l
   ·rw [af hl,p_,Eg]
    rw[ac];intro h;have h2:=List.takeWhile_prefix (p:=fun x:UInt8=>decide (x≠47)) (l:=l.reverse);have h3:List.takeWhile (fun x:UInt8=>decide (x≠47)) l.reverse=l.reverse:=h2.eq_of_length h;have h4:=xi.1 h3 47 (wm.2 hl);simp at h4
   ·rw [ac hl,p_,Eg,af]
    ·rw [hc]
     have:List.takeWhile (fun x:UInt8=>decide (x≠47)) [47]=[]:=by decide
     rw[this,iR,Jy];rfl
    ·congr 1
     rw[xi];intro x hx;have:x≠47:=by rintro rfl;exact hl (wm.1 hx)
     simpa using this
  ·rw [ac hc,ih (cur++[c])]
   by_cases hl:47∈l
   ·rw [af hl,af (cf _ hl)]
    unfold jC;rw[p_,Eg,ac];intro h;have h2:=List.takeWhile_prefix (p:=fun x:UInt8=>decide (x≠47)) (l:=l.reverse);have h3:List.takeWhile (fun x:UInt8=>decide (x≠47)) l.reverse=l.reverse:=h2.eq_of_length h;have h4:=xi.1 h3 47 (wm.2 hl);simp at h4
   ·have:¬47∈c::l:=by
     intro h;rcases aR.1 h with h|h
     ·exact hc h.symm
     ·exact hl h
    rw[ac hl,ac this];simp
theorem TX (l:List UInt8):dU l=jC l:=by
 unfold dU;rw[XL];split
 ·rfl
 ·rename_i h
  unfold jC;have:l.reverse.takeWhile (fun x:UInt8=>decide (x≠47))=l.reverse:=by
   rw[xi];intro x hx;have:x≠47:=by rintro rfl;exact h (wm.1 hx)
   simpa using this
  rw[this,Jy];rfl
def kJ (l:List UInt8) (fr k:Nat):List (List UInt8):=if k<=l.length then pc ((l.drop fr).take (k-fr)) (l.drop k) else []
theorem Hr (l:List UInt8):kJ l 0 0=pc [] l:=by simp[kJ]
theorem PE (h:fr<=k) (hk:k<l.length):(l.drop fr).take (k+1-fr)=(l.drop fr).take (k-fr)++[l[k]]:=by
 rw[show k+1-fr=(k-fr)+1 by omega,mC (by rw[oh];omega)]
 congr 2
 rw[RG]
 congr 1
 omega
theorem TY (h:fr<=k) (hk:k<l.length) (hc:l[k]≠47):kJ l fr (k+1)=kJ l fr k:=by
 unfold kJ;rw[af (by omega),af (by omega),PE h hk,jg hk,pc,ac hc]
theorem PF (hk:k<l.length) (hc:l[k]=47):kJ l fr k=(l.drop fr).take (k-fr)::kJ l (k+1) (k+1):=by
 unfold kJ;rw[af (by omega),af (by omega),jg hk,pc,af hc];simp
theorem PG:kJ l fr l.length=(l.drop fr).take (l.length-fr)::kJ l (l.length+1) (l.length+1):=by
 unfold kJ;rw[af (aE _),ac (by omega),uo,pc]
def gM (l:List UInt8):Bool:=dU l == [] || dU l == [46] || dU l == [46,46]
def rV (l:List UInt8):List UInt8:=(l.reverse.dropWhile (· == 47)).reverse
open Go.RowKit
theorem TZ (ht:P.underlying t=some .string) (s:ByteArray) (j:Int) (b:Nat) (hj:j=b) (hb:b<=s.size) (r:ByteArray) (hr:s.extract 0 b=r) (w:World) :
  (Instr.slice t (.string s) none (some (.int .i64 j)) none).run P w=.ok (.string r) w:=by
 subst hj;subst hr;rw[run_slice_string_to_if (P:=P) w t s .i64 (b:Int) ht,af (by omega)];simp
theorem K_ (ht:P.underlying t=some .string) (s:ByteArray) (i:Int) (a:Nat) (hi:i=a) (ha:a<=s.size) (r:ByteArray) (hr:s.extract a s.size=r) (w:World) :
  (Instr.slice t (.string s) (some (.int .i64 i)) none none).run P w=.ok (.string r) w:=by
 subst hi;subst hr;rw[run_slice_string_from_if (P:=P) w t s .i64 (a:Int) ht,af (by omega)];simp
theorem acA (l:List UInt8) (b:Nat):(bs l).extract 0 b=bs (l.take b):=by rw[qb];simp
theorem XM (l:List UInt8) (a:Nat):(bs l).extract a (bs l).size=bs (l.drop a):=by
 rw[qb,bo,lw (by rw[oh];omega)]
theorem Dk {c d:UInt8}:((c.toNat:Int) == (d.toNat:Int))=(c == d):=by
 rw[zu,il,il];exact⟨fun h=>DZ.1 (by omega),fun h=>by rw[h]⟩
open Go.ChangeShapes Go.WideShapes Go.ChangeAt Go.RowKit
theorem lJ.base {b':Nat} {v:Value} {l:List BO} (h:lJ w b v l) (hb:b'<=b):lJ w b' v l:=by
 obtain⟨h1,h2⟩:=h;refine⟨h1,?_⟩;rcases h2 with h2|⟨g,cap,cur,hv,hg,hr⟩
 ·exact .inl h2
 ·exact .inr ⟨g,cap,cur,hv,nk hb hg,hr⟩
def T7 (w:World) (l:List BO) (e:Ending) (w':World):Prop:=∃v,e=.returned v/\lJ w' w.heap.size v l/\Ext w w'
theorem AY (l:List UInt8) (w:World) (hlen:l.length<=2000000):Calls prog 132 #[bs l] w (T7 w (pc [] l)):=by
 have hsz:((bs l).size:Int)=l.length:=by rw[bo]
 obtain⟨i0,hi,hz0,hz1,hz2⟩:=jj uB;go_in;go_wp2_with fail;go_loopw [3,4] (fun u i wr=>∃k:Nat,k<=l.length/\i=.int .i64 k/\(∃D cur,pc [] l=D++pc cur (l.drop k)/\D.length<=k/\cur.length<=k/\lJ wr w.heap.size u (D++[cur]))/\Ext w wr) (fun _ i _=>l.length-(intOf i).toNat)
 case atStart =>
  refine⟨0,bC _,rfl,⟨[],[],by simp,by simp,by simp,?_⟩,(Ext.refl _).alloc _⟩;exact World.ownsRow_lit w #[.string (bs [])] 1 (aE _) (by decide) rfl
 case round =>
  obtain⟨k,hk,rfl,⟨D,cur,hd,hD,afR,hown⟩,hE⟩:=hrel
  by_cases hlt:(k:Int)<l.length
  ·have dN:k<l.length:=by omega
   have hks:k<(bs l).size:=by rw[bo];exact dN
   have hg:(bs l)[k]=l[k]:=JK l k hks dN;obtain⟨c,hc⟩:=ai (l[k]);have hdk:l.drop k=c::l.drop (k+1):=by rw[hc];exact jg dN
   rw[hdk,pc]at hd;rw[<-hc]at hg;have ue:(bs l).extract k (k+1)=bs [c]:=by rw[WI (bs l) k hks,hg]
   have hcb:(c.toNat:Int)<256:=by have:=c.toNat_lt;omega
   have HG:=zH hg;have HC:=zH hc
   by_cases hs:c=47
   ·rw [af hs]at hd
    have qN:(((bs l)[k].toNat:Int) == 47)=true:=by rw[hg,hs];rfl
    have HD:=zH hd;clear hs hd hdk hg hc ue;obtain⟨M,hM⟩:=ai (D++[cur]);rw[<-hM]at hown;have HM:=zH hM;have ZF:M.length<=k+1:=by rw[hM];simp;omega
    clear hM;unfold lJ at hown;go_wp2_with (at_builtin;refine rh _ rfl _ _ 135 rfl w.heap.size 9 i0 (.string ⟨#[]⟩) 1 16 underlying135 hi hz0 hz1 hz2 rfl (by decide) _ _ _ rfl (hown.alloc _) ⟨wr.heap.size,0,none⟩ 1 1 (cD [[]]) rfl rfl (uC wr []) (k7 [[]]) (by unfold maxLen;omega) (by omega) (by have:=hE.size;simp;omega) ?_);intro v' w2 gP hgrow _;obtain⟨pj,j0⟩:=Ey hown hE gP hgrow;clear gP hgrow;have Sz:=zH pj;clear pj;go_wp2_with fail;go_roundw
    case rel=>exact⟨k+1,by omega,by go_num,⟨M,[],by rw[HD.o,HM.o];simp,by omega,by simp,Sz.o⟩,j0⟩
    case measure=>simp[intOf];omega
   ·rw [ac hs]at hd
    have qN:(((bs l)[k].toNat:Int) == 47)=false:=by
     rw[hg,ji];intro h;exact hs (DZ.1 (by have:(47:UInt8).toNat=47:=rfl;omega))
    have HD:=zH hd;clear hs hd hdk hg hc;unfold lJ at hown;obtain⟨n,hn⟩:=ai D.length;have jZ:(D++[cur]).length=n+1:=by rw[hn];simp
    rw [jZ]at hown;obtain⟨g,cap,rfl⟩:=zG hown;have hcl:wr.cell? (g,n)=some (.string (bs cur)):=by
     rw[hown.cellAt n (by omega),mQ (D++[cur]) n (by rw[jZ];omega)];simp[hn]
    have FM:=hown.frozenAt n;have hst:=hown.stored n (.string (bs (cur++[c])));have hgl:=(hown.lt g rfl).1;have Ch:Hid (lJ (wr.setCell (g,n) (.string (bs (cur++[c])))) w.heap.size (.slice (some g) (n+1) cap) (D++[cur++[c]])/\Ext w (wr.setCell (g,n) (.string (bs (cur++[c]))))):=by
     refine ⟨?_,hE.setCell hgl _⟩;have h:=hst.1;have e1:(cD (D++[cur])).set n (.string (bs (cur++[c])))=cD (D++[cur++[c]]):=by
      rw[hn];simp[cD]
     rw[e1]at h;unfold lJ;have e2:(D++[cur++[c]]).length=n+1:=by rw[hn];simp
     rw[e2];exact h
    have z1:(bs cur).size=cur.length:=bo _;have z2:(bs [c]).size=1:=bo _;have afS:¬9223372036854775807<cur.length+1:=by omega
    have z3:(bs (cur++[c])).size=cur.length+1:=by rw[bo];simp
    have afT:bs cur++bs [c]=bs (cur++[c]):=mW _ _;have hw1:IntKind.i64.wrap (n:Int)=n:=aU (by omega) (by omega);have Zk:IntKind.i64.wrap ((k:Int)+1)=k+1:=aU (by omega) (by omega);have hn0:(0:Int)<=(n:Int):=cO _;have hk0:(0:Int)<=(k:Int):=cO _;have mq:((k:Int)+1).toNat=k+1:=by omega
    have hk2:k+1<=(bs l).size:=hks;have CU:=wv (P:=prog) underlying9 (bs l) (k:Int) ((k:Int)+1) k (k+1) rfl (by omega) (by omega) hk2 (bs [c]) ue;have nE:(n:Int)<(n:Int)+1:=by omega
    have hneg:decide ((n:Int)<0)=false:=cG (by omega);have hge:decide ((0:Int)<=(n:Int))=true:=cj (by omega);have HN:=zH hn;clear hst hown jZ hn;go_wp2_with fail;go_still_tail 16,(by kernel_rfl);change wpList _ _ _ _ _ wr.drew;go_wp2_with fail;go_roundw
    case rel=>exact⟨k+1,by omega,by go_num,⟨D,cur++[c],HD.o,by omega,by simp;omega,Ch.o.1⟩,Ch.o.2.drew⟩
    case measure=>simp[intOf];omega
  ·obtain rfl:k=l.length:=by omega
   rw[uo,pc]at hd;rw[<-hd]at hown;have HO:=zH hown;clear hown hd;go_wp2;go_ret;exact⟨_,rfl,HO.o,hE⟩
theorem xW (l:List UInt8):(pc [] l).length<=l.length+1:=TV l []
theorem jD {p:List UInt8}:((bs p).toList == ([]:List UInt8))=(p == [])/\((bs p).toList == [46])=(p == [46])/\((bs p).toList == [46,46])=(p == [46,46])/\(bs p).toList.isEmpty=(p == []):=by
 rw[bA];refine⟨rfl,rfl,rfl,?_⟩
 cases p<;>rfl
theorem AZ (l:List UInt8) (w:World) (hlen:l.length<=2000000):Calls prog 81 #[bs l] w (T7 w (bX l)):=by
 obtain⟨i0,hi,hz0,hz1,hz2⟩:=jj uB;obtain⟨M,hM⟩:=ai (pc [] l);have ZF:=xW l;have hP:Hid (bX l=M.filter fJ):=by show _=_;rw[hM];rfl
 rw[<-hM]at ZF;have HM:=zH hM;clear hM;go_in;go_wp2_with fail;refine (AY l _ hlen).mono ?_;rintro e w1 ⟨v,rfl,hv,Et⟩;rw[<-HM.o]at hv;obtain⟨A,cap,rfl,hle,hcm,hat,hAn⟩:=hv.at_;clear hv;go_wp2_with fail;go_loopw [3,5] (fun u i wr=>∃k:Nat,k<=M.length/\i=.int .i64 k/\lJ wr w1.heap.size u ((M.take k).filter fJ)/\Ext w1 wr) (fun _ i _=>M.length-(intOf i).toNat)
 case atStart =>
  refine⟨0,bC _,rfl,?_,Ext.refl _⟩;exact oG _ _ _ _
 case round =>
  obtain⟨k,hk,rfl,hown,hE⟩:=hrel
  by_cases hlt:(k:Int)<M.length
  ·have dN:k<M.length:=by omega
   obtain⟨b,o,rfl,hb,hcl⟩:=hat.at_ hE k dN;have q7:Hid (M.take (k+1)=M.take k++[M[k]]):=mC dN;obtain⟨p,hp⟩:=ai (M[k]);rw[<-hp]at hcl q7;obtain⟨t0,t1,_,t3⟩:=jD (p:=p);obtain⟨X,hX⟩:=ai (bs p);rw[<-hX]at hcl t0 t1 t3;have HX:=zH hX;have hgl:Hid (fJ p=(!(p == [])&&!(p == [46]))):=rfl;clear hp hX
   cases h0:(p == []) with
   | true =>
    rw [h0]at t0 t3;have hn:Hid ((M.take (k+1)).filter fJ=(M.take k).filter fJ):=by
     show _=_;rw[q7.o,zf,jH,ac (by rw[hgl.o,h0];simp)];simp
    clear h0 t1;have HO:=zH hown;clear hown;go_wp2_with fail;go_roundw
    case rel=>exact⟨k+1,by omega,by go_num,by rw[hn.o];exact HO.o,hE⟩
    case measure=>simp[intOf];omega
   | false =>
    cases h1:(p == [46]) with
    | true =>
     rw [h0]at t0 t3;rw[h1]at t1;have hn:Hid ((M.take (k+1)).filter fJ=(M.take k).filter fJ):=by
      show _=_;rw[q7.o,zf,jH,ac (by rw[hgl.o,h0,h1];simp)];simp
     clear h0 h1;have HO:=zH hown;clear hown;go_wp2_with fail;go_roundw
     case rel=>exact⟨k+1,by omega,by go_num,by rw[hn.o];exact HO.o,hE⟩
     case measure=>simp[intOf];omega
    | false =>
     rw [h0]at t0 t3;rw[h1]at t1;have hn:Hid ((M.take (k+1)).filter fJ=(M.take k).filter fJ++[p]):=by
      show _=_;rw[q7.o,zf,jH,af (by rw[hgl.o,h0,h1];rfl)];simp
     have BU:((M.take k).filter fJ).length<=k:=nk (sX _ _) (by rw[iG];omega);obtain⟨Q,hQ⟩:=ai ((M.take k).filter fJ);rw[<-hQ]at hown BU hn;clear h0 h1 hQ;unfold lJ at hown;have wW:∀j u,(cD [p])[j]?=some u->(wr.alloc (.cells #[.string X] 9)).cell? ((⟨wr.heap.size,0,none⟩:Addr).add j)=some u:=by rw[HX.o];exact uC wr p
     go_wp2_with (at_builtin;refine rh _ rfl _ _ 135 rfl w1.heap.size 9 i0 (.string ⟨#[]⟩) 1 16 underlying135 hi hz0 hz1 hz2 rfl (by decide) _ _ _ rfl (hown.alloc _) ⟨wr.heap.size,0,none⟩ 1 1 (cD [p]) rfl rfl wW (k7 [p]) (by unfold maxLen;omega) (by omega) (by have:=hE.size;simp;omega) ?_);intro v' w2 gP hgrow _;obtain⟨pj,j0⟩:=Ey hown hE gP hgrow;clear gP hgrow wW;have Sz:=zH pj;clear pj hown;go_wp2_with fail;go_roundw
     case rel=>exact⟨k+1,by omega,by go_num,by rw[hn.o];exact Sz.o,j0⟩
     case measure=>simp[intOf];omega
  ·obtain rfl:k=M.length:=by omega
   rw[od,<-hP.o]at hown;have HO:=zH hown;clear hown;go_wp2;go_ret;exact⟨_,rfl,lJ.base HO.o Et.size,Et.trans hE⟩
theorem XN (h:kB w A (pc [] l)):∃n b o,(pc [] l).length=n+1/\A=some ⟨b,o,none⟩/\w.cell? ⟨b,o+n,none⟩=some (.string (bs (dU l))):=by
 obtain⟨n,hn⟩:∃n,(pc [] l).length=n+1:=Nat.exists_eq_succ_of_ne_zero (fun e=>ZE l [] (qD e));obtain⟨b,o,hA,_,hc⟩:=h.at_ (Ext.refl _) n (by omega);refine⟨n,b,o,hn,hA,?_⟩;rw[hc]
 congr 3
 unfold dU;have e:(pc [] l).length-1=n:=by omega
 rw[List.getLastD_eq_getLast?,List.getLast?_eq_getElem?,e,iq (by omega)];rfl
theorem A_ (l:List UInt8) (w:World) (hlen:l.length<=2000000):Calls prog 82 #[bs l] w (aO w (.bool (gM l))):=by
 have ZF:=xW l;have hS:Hid (gM l=(dU l == [] || dU l == [46] || dU l == [46,46])):=rfl;obtain⟨t0,t1,t2,t3⟩:=jD (p:=dU l);obtain⟨X,hX⟩:=ai (bs (dU l));rw[<-hX]at t0 t1 t2 t3;have HX:=zH hX;clear hX;obtain⟨B0,Pe⟩:=ai (dU l == []);obtain⟨B1,zL⟩:=ai (dU l == [46]);obtain⟨B2,Kz⟩:=ai (dU l == [46,46]);rw[<-Pe,<-zL,<-Kz]at hS;rw[<-Pe]at t0 t3;rw[<-zL]at t1;rw[<-Kz]at t2;clear Pe zL Kz;go_in;go_wp2_with fail;refine (AY l _ hlen).mono ?_;rintro e w1 ⟨v,rfl,hv,Et⟩;obtain⟨A,cap,rfl,hle,hcm,hat,hAn⟩:=hv.at_;obtain⟨n,b,o,hn,rfl,hcl⟩:=XN hat;rw[<-HX.o]at hcl;rw[hn]at hle ZF|-;clear hv hat hAn hn;have hw1:IntKind.i64.wrap (n:Int)=n:=aU (by omega) (by omega);have hn0:(0:Int)<=(n:Int):=cO _;have nE:(n:Int)<(n:Int)+1:=by omega
 cases B0<;>cases B1<;>cases B2
 all_goals
  go_wp2;go_ret;exact aO.mk (eo (by rw[hS.o];rfl)) Et
def strOf:Value->ByteArray
 | .string s=>s
 | _=>⟨#[]⟩
theorem PH (l:List UInt8):rV (l++[47])=rV l:=by
 unfold rV;rw[wi];simp
theorem PI {c:UInt8} (h:c≠47):rV (l++[c])=l++[c]:=by
 unfold rV;rw[wi];have:(c == 47)=false:=ji.2 h;simp[this]
theorem La (l:List UInt8):l=[]\/∃a c,l=a++[c]:=by
 rcases List.eq_nil_or_concat l with h|⟨a,c,h⟩
 ·exact .inl h
 ·exact .inr ⟨a,c,by rw[h,List.concat_eq_append]⟩
def mH (l:List UInt8):Int:=if l=[] then 5 else if l.head?≠some 47\/hasB l 0=true then 1 else if 4096<l.length then 13 else 0
theorem Hs (h0:¬l=[]):mH l=if l.head?≠some 47\/hasB l 0=true then 1 else if 4096<l.length then 13 else 0:=by
 unfold mH;rw[ac h0]
theorem PJ (l:List UInt8) (w:World) (hlen:l.length<=1000000):Calls prog 80 #[bs l] w (aO w (.int .i64 (mH l))):=by
 have z0:(bs l).size=l.length:=bo l;have hb:Hid ((bs l).data.toList=l):=qa l;have hs:(bs l).size<=1000000:=by omega
 cases l with
 | nil =>
  have e:(bs []).toList=[]:=bA [];go_in;go_wp2;go_ret;exact aO.mk rfl (Ext.refl _)
 | cons c t =>
  have hp:=Hs (l:=c::t) (by simp);have e0:(bs (c::t)).toList.isEmpty=false:=by rw[bA];rfl
  have hks:0<(bs (c::t)).size:=by rw[bo];simp
  have hg:(bs (c::t))[0]=c:=rfl
  by_cases hc:c=47
  ·have qN:(((bs (c::t))[0].toNat:Int) != 47)=false:=by rw[hg,hc];rfl
   cases hz:hasB (c::t) 0 with
   | true =>
    have hf:Hid (mH (c::t)=1):=by show _=_;rw[hp,af (.inr hz)]
    have HZ:=zH hz;obtain⟨X,hX⟩:=ai (bs (c::t));clear hp hg hc hz;go_in;go_wp2_with fail;refine (jw _ 0 _ (by rfl) hs _).mono ?_;rintro e w1 ⟨rfl,b1⟩;rw[hb.o,HZ.o];go_wp2;go_ret;exact aO.mk (aS (by rw[hf.o])) b1
   | false =>
    have HZ:=zH hz;have hf:Hid (mH (c::t)=if 4096<t.length+1 then 13 else 0):=by
     show _=_;rw[hp,ac (by rw[hz,hc];simp)];rfl
    by_cases h:4096<t.length+1
    ·rw [af h]at hf
     clear hp hg hc hz;go_in;go_wp2_with fail;refine (jw _ 0 _ (by rfl) hs _).mono ?_;rintro e w1 ⟨rfl,b1⟩;rw[hb.o,HZ.o];go_wp2;go_ret;exact aO.mk (aS (by rw[hf.o])) b1
    ·rw [ac h]at hf
     clear hp hg hc hz;go_in;go_wp2_with fail;refine (jw _ 0 _ (by rfl) hs _).mono ?_;rintro e w1 ⟨rfl,b1⟩;rw[hb.o,HZ.o];go_wp2;go_ret;exact aO.mk (aS (by rw[hf.o])) b1
  ·have qN:(((bs (c::t))[0].toNat:Int) != 47)=true:=by
    have:=(Dk (c:=c) (d:=47)).trans (ji.2 hc);rw[hg,bne,show ((c.toNat:Int) == 47)=false from this];rfl
   have hf:Hid (mH (c::t)=1):=by show _=_;rw[hp,af (.inl (by simpa using hc))]
   clear hp hg hc;go_in;go_wp2;go_ret;exact aO.mk (aS (by rw[hf.o])) (Ext.refl _)
noncomputable def T_ (l:List UInt8):Int:=Lib.lastIndexByte (bs l) 47
theorem Fk (l:List UInt8) (j:Nat) (h:j<l.length):(bs l).data[j]! = l[j]:=by
 simp[bs,h]
theorem Ht (l:List UInt8):(T_ l=-1/\47∉l)\/∃i:Nat,i<l.length/\T_ l=i/\l[i]?=some 47/\47∉l.drop (i+1):=by
 rcases Lib.lastIndexByte_spec (bs l) 47 with⟨h1,h2⟩|⟨i,hi,h1,h2,h3⟩
 ·refine .inl ⟨h1,fun hm=>?_⟩
  obtain⟨j,hj,hx⟩:=List.mem_iff_getElem.1 hm;have:=h2 j (by rw[bo];exact hj);rw[Fk l j hj,hx]at this;exact this rfl
 ·rw [bo]at hi
  refine .inr ⟨i,hi,h1,?_,fun hm=>?_⟩
  ·rw [Fk l i hi]at h2
   rw[iq hi,Option.some.injEq];exact DZ.1 (by have:(47:UInt8).toNat=47:=rfl;omega)
  ·obtain ⟨j,hj,hx⟩:=List.mem_iff_getElem.1 hm
   rw[oh]at hj;have:=h3 (i+1+j) (by omega) (by rw[bo];omega);rw[Fk l _ (by omega)]at this;rw[RG]at hx;rw[hx]at this;exact this rfl
theorem Ci (a b:List UInt8) (h:47∉b):jC (a++47::b)=b:=by
 unfold jC;have h1:b.reverse.takeWhile (fun x:UInt8=>decide (x≠47))=b.reverse:=by
  rw[xi];intro x hx;have:x≠47:=by rintro rfl;exact h (wm.1 hx)
  simpa using this
 rw[wi,p_,l6,Eg,h1,af rfl,List.singleton_append,Mi,ac (by decide)];simp
theorem Cj (b:List UInt8) (h:47∉b):jC b=b:=by
 unfold jC;have h1:b.reverse.takeWhile (fun x:UInt8=>decide (x≠47))=b.reverse:=by
  rw[xi];intro x hx;have:x≠47:=by rintro rfl;exact h (wm.1 hx)
  simpa using this
 rw[h1,Jy]
theorem Lb (hk:l[k]?=some 47):l=l.take k++47::l.drop (k+1):=by
 have h:k<l.length:=by
  rcases lq k l.length with h|h
  ·exact h
  ·rw[ze h]at hk;cases hk
 have h2:l[k]=47:=by rw[iq h]at hk;exact nt hk
 have h3:=jg h;rw[h2]at h3;rw[<-h3,qE]
theorem Lc (l:List UInt8):∃k:Nat,k<=l.length/\T_ l=(k:Int)-1/\l.drop k=dU l:=by
 rw[TX];rcases Ht l with⟨h1,h2⟩|⟨i,hi,h1,h2,h3⟩
 ·exact⟨0,bC _,by omega,by rw[Cj l h2];rfl⟩
 ·refine ⟨i+1,hi,by omega,?_⟩
  have h4:=Lb h2;have h5:=Ci (l.take i) (l.drop (i+1)) h3;rw[<-h4]at h5;exact h5.symm
theorem PK (l:List UInt8) (w:World) (hlen:l.length<=2000000):Calls prog 207 #[bs l] w (aO w (.string (bs (dU l)))):=by
 obtain⟨k,hk,hi,hd⟩:=Lc l;have z0:(bs l).size=l.length:=bo l;have CU:=K_ (P:=prog) underlying9 (bs l) (k:Int) k rfl (by omega) (bs (dU l)) (by rw[XM,hd]);have hw:IntKind.i64.wrap (k:Int)=k:=aU (by omega) (by omega);obtain⟨T,hT⟩:=ai (bs (dU l));rw[<-hT]at CU|-;have HI:Hid (Lib.lastIndexByte (bs l) 47=(k:Int)-1):=hi;clear hi hd hT;go_in;go_wp2_with fail;refine (strings_LastIndexByte _ 47 (by omega) _).mono ?_;rintro e w1 ⟨rfl,rfl⟩;rw[HI.o];go_wp2;go_ret;exact aO.mk rfl (Ext.refl _)
theorem Bb (l:List UInt8) (w:World) (hlen:l.length<=2000000):Calls prog 188 #[bs l] w (aO w (.bool (gM l))):=by
 have hS:Hid (gM l=(dU l == [] || dU l == [46] || dU l == [46,46])):=rfl;obtain⟨t0,t1,t2,t3⟩:=jD (p:=dU l);obtain⟨X,hX⟩:=ai (bs (dU l));rw[<-hX]at t0 t1 t2 t3;have HX:=zH hX;clear hX;obtain⟨B0,Pe⟩:=ai (dU l == []);obtain⟨B1,zL⟩:=ai (dU l == [46]);obtain⟨B2,Kz⟩:=ai (dU l == [46,46]);rw[<-Pe,<-zL,<-Kz]at hS;rw[<-Pe]at t0 t3;rw[<-zL]at t1;rw[<-Kz]at t2;clear Pe zL Kz;go_in;go_wp2_with fail;refine (PK l _ hlen).mono ?_;rintro e w1 ⟨rfl,Et⟩;rw[<-HX.o]
 cases B0<;>cases B1<;>cases B2
 all_goals
  go_wp2;go_ret;exact aO.mk (eo (by rw[hS.o];rfl)) Et
theorem Hu (l:List UInt8):(rV l).length<=l.length:=by
 unfold rV;rw[kV];have:=(List.dropWhile_sublist (fun x:UInt8=>x == 47) (l:=l.reverse)).length_le;simpa using this
theorem PL (l:List UInt8) (w:World) (hlen:l.length<=1000000):Calls prog 185 #[bs l] w (aO w (.int .i64 (mH l))):=by
 have z0:(bs l).size=l.length:=bo l;have hb:Hid ((bs l).data.toList=l):=qa l;have hs:(bs l).size<=1000000:=by omega
 cases l with
 | nil =>
  have e:(bs []).toList=[]:=bA [];go_in;go_wp2;go_ret;exact aO.mk rfl (Ext.refl _)
 | cons c t =>
  have hp:=Hs (l:=c::t) (by simp);have e0:(bs (c::t)).toList.isEmpty=false:=by rw[bA];rfl
  have hks:0<(bs (c::t)).size:=by rw[bo];simp
  have hg:(bs (c::t))[0]=c:=rfl
  by_cases hc:c=47
  ·have qN:(((bs (c::t))[0].toNat:Int) != 47)=false:=by rw[hg,hc];rfl
   cases hz:hasB (c::t) 0 with
   | true =>
    have hf:Hid (mH (c::t)=1):=by show _=_;rw[hp,af (.inr hz)]
    have HZ:=zH hz;obtain⟨X,hX⟩:=ai (bs (c::t));clear hp hg hc hz;go_in;go_wp2_with fail;refine (strings_Contains_one _ 0 _).mono ?_;rintro e w1 ⟨rfl,rfl⟩;rw[hb.o,ql,HZ.o];go_wp2;go_ret;exact aO.mk (aS (by rw[hf.o])) (Ext.refl _)
   | false =>
    have HZ:=zH hz;have hf:Hid (mH (c::t)=if 4096<t.length+1 then 13 else 0):=by
     show _=_;rw[hp,ac (by rw[hz,hc];simp)];rfl
    by_cases h:4096<t.length+1
    ·rw [af h]at hf
     clear hp hg hc hz;go_in;go_wp2_with fail;refine (strings_Contains_one _ 0 _).mono ?_;rintro e w1 ⟨rfl,rfl⟩;rw[hb.o,ql,HZ.o];go_wp2;go_ret;exact aO.mk (aS (by rw[hf.o])) (Ext.refl _)
    ·rw [ac h]at hf
     clear hp hg hc hz;go_in;go_wp2_with fail;refine (strings_Contains_one _ 0 _).mono ?_;rintro e w1 ⟨rfl,rfl⟩;rw[hb.o,ql,HZ.o];go_wp2;go_ret;exact aO.mk (aS (by rw[hf.o])) (Ext.refl _)
  ·have qN:(((bs (c::t))[0].toNat:Int) != 47)=true:=by
    have:=(Dk (c:=c) (d:=47)).trans (ji.2 hc);rw[hg,bne,show ((c.toNat:Int) == 47)=false from this];rfl
   have hf:Hid (mH (c::t)=1):=by show _=_;rw[hp,af (.inl (by simpa using hc))]
   clear hp hg hc;go_in;go_wp2;go_ret;exact aO.mk (aS (by rw[hf.o])) (Ext.refl _)
open Go
section
variable {F:Fence} {n:Nat} {P:Program} {Q:Exit->Act->World->Prop} {a:Act} {w:World} {b:Frame} {k:List Item} {cs:List Frame}
theorem kK {c:Code}:step P (lone (b.atR a (.code (.scope c)::k)) cs w)=.next (lone (b.atR a (.code c::.inScope c::k)) cs w):=
 step_lone_go (by simp[stepG,stepG.exec,Frame.atR])
theorem Ck {c:Code}:step P (lone (b.atR a (.inScope c::k)) cs w)=.next (lone (b.atR a k) cs w):=
 step_lone_go (by simp[stepG,stepG.exec,Frame.atR])
theorem mI {c:Code} (h:c.wpIn F n P (Exit.noGoto Q) a w):(Code.scope c).wpIn F n P Q a w:=by
 intro b k cs hro hb hr;have h0:(lone (b.atR a (.code (.scope c)::k)) cs w).fenced P F:=fenced_calm hb hr rfl;obtain⟨e,a₁,w₁,hq,harr⟩:=h b (.inScope c::k) cs hro hb hr
 cases e with
 | normal=>exact⟨.normal,a₁,w₁,hq,.head h0 kK (StepsIn.trans harr (.one (fenced_calm hb hr rfl) Ck))⟩
 | exit id =>
  have hx:exitTo id (.inScope c::k)=exitTo id k:=by simp[exitTo]
  exact ⟨.exit id,a₁,w₁,hq,fun k' hk=>.head h0 kK (harr.1 k' (by rw[hx];exact hk)),
   fun hr' hk=>let ⟨aeu,h1,h2⟩:=harr.2 hr' (by rw[hx];exact hk);⟨aeu,h1,.head h0 kK h2⟩⟩
 | goto l=>exact hq.elim
 | ret=>exact⟨_,a₁,w₁,hq,.of_steps (.one h0 kK) harr⟩
 | panic ch=>exact⟨_,a₁,w₁,hq,.of_steps (.one h0 kK) harr⟩
 | outgrown=>exact⟨_,a₁,w₁,hq,.of_steps (.one h0 kK) harr⟩
end
end
section
open Go.ChangeShapes Go.WideShapes Go.ChangeAt Go.RowKit Go.Shelf
attribute [local go_sem] ol
abbrev XO (x:BO):Array Value:=#[bs x]
theorem Ld (l:List UInt8) (fr k:Nat) (h:l.length<k):kJ l fr k=[]:=by unfold kJ;rw[ac (by omega)]
theorem PM (F:Fence) (n:Nat) (hf:F.fn 206) (hro:F.round=none) (hn:1<=n) (lb Bs:Nat) (l:List UInt8) (hlen:l.length<=2000000) (J Jx:List BO->World->Prop) (Kp:World->World->Prop) (R:World->Prop)
  (hK:∀{A B:World},Kp A B->R A->R B) (hRc:∀{A:World},R A->A.cell? (Bs,0)=some (.string (bs l))) (W:World)
  (hY : ∀pre x W,J pre W->pre.length<(bX l).length->YieldAt F (n-1) prog lb (XO x) W fun e W' =>
   (e=.returned (.bool true)/\J (pre++[x]) W'/\Kp W W')\/(e=.returned (.bool false)/\Jx (pre++[x]) W'))
  (Mv:R W) (h0:J [] W) :
  CallsIn F n prog 206 #[.func (.yield lb) #[] #[],((),Bs)] W fun e W'=>(∃v,e=.returned v) /\
   ((∃ys,ys=bX l/\J ys W')\/(∃pre,pre <+: bX l/\Jx pre W')):=by
 have hsz:((bs l).size:Int)=l.length:=by rw[bo]
 refine uq func206 rfl hf ?_ hro;simp only[ntmps206,lA,bk,gj,Nat.reduceAdd,Nat.reduceSub,o_,pd,pg,ph,jG,oo];gi_wp2;refine mI ?_;gi_wp2;refine wpIn_label ?_;gi_wp2;gi_loopw [3,4] (fun f a wr=>∃fr k:Nat,fr<=k/\k<=l.length+1/\f=.int .i64 fr/\a=.int .i64 k/\∃pre,pre++(kJ l fr k).filter fJ=bX l/\J pre wr/\R wr) (fun _ a _=>l.length+1-(intOf a).toNat)
 case atStart=>exact⟨0,0,aE _,bC _,rfl,rfl,[],by rw[Hr];rfl,h0,Mv⟩
 case round =>
  obtain⟨fr,k,hfk,hk,rfl,rfl,pre,jT,hJ,ZG⟩:=hrel;have hc:=hRc ZG
  by_cases hle:(k:Int)<=l.length
  ·have hk0 : (0:Int)<=(k:Int):=cO _
   obtain⟨p,hp⟩:=ai ((l.drop fr).take (k-fr))
   by_cases hlt:(k:Int)<l.length
   ·have dN : k<l.length:=by omega
    have hks:k<(bs l).size:=by rw[bo];exact dN
    have hg:(bs l)[k]=l[k]:=JK l k hks dN
    by_cases hs:l[k]=47
    ·have qN:(((bs l)[k].toNat:Int) != 47)=false:=by rw[hg,hs];rfl
     have V9:=PF (fr:=fr) dN hs;rw[<-hp]at V9;clear hg hs;have hr:kJ l fr k=p::kJ l (k+1) (k+1):=V9;rw[hr,jH]at jT;have mq:IntKind.i64.wrap ((k:Int)+1)=k+1:=aU (by omega) (by omega);have CU:=wv (P:=prog) underlying9 (bs l) (fr:Int) (k:Int) fr k rfl rfl hfk (by omega) (bs p) (by rw[qb,hp]);obtain⟨t0,t1,_,t3⟩:=jD (p:=p);obtain⟨X,hX⟩:=ai (bs p);rw[<-hX]at CU t0 t1 t3;have HX:=zH hX;clear hX hp hr
     cases h0:(p == []) with
     | true =>
      rw[h0]at t0 t3;rw[ac (by unfold fJ;rw[h0];simp)]at jT;have HP:=zH jT;clear h0 t1 jT;gi_wp2;go_roundw
      case rel=>exact⟨k+1,k+1,aE _,by omega,by go_num,by go_num,pre,HP.o,hJ,ZG⟩
      case measure=>simp[intOf];omega
     | false =>
      cases h1:(p == [46]) with
      | true =>
       rw[h0]at t0 t3;rw[h1]at t1;rw[ac (by unfold fJ;rw[h0,h1];simp)]at jT;have HP:=zH jT;clear h0 h1 jT;gi_wp2;go_roundw
       case rel=>exact⟨k+1,k+1,aE _,by omega,by go_num,by go_num,pre,HP.o,hJ,ZG⟩
       case measure=>simp[intOf];omega
      | false =>
       rw[h0]at t0 t3;rw[h1]at t1;rw[af (by unfold fJ;rw[h0,h1];rfl)]at jT;have jZ:pre.length<(bX l).length:=by rw[<-jT];simp
       obtain⟨fn,tmps,assign,body,hy,hR⟩:=hY pre p wr hJ jZ
       try dsimp only[XO]at hy
       have HP:=zH jT;rw[<-HX.o]at hy;clear h0 h1 jT jZ;gi_wp2;refine hR.mono ?_;rintro e W3 (⟨rfl,Jd,qg⟩|⟨rfl,zO⟩)
       ·gi_wp2
        go_roundw
        case rel=>exact⟨k+1,k+1,aE _,by omega,by go_num,by go_num,pre++[p],by rw[<-HP.o];simp,Jd,hK qg ZG⟩
        case measure=>simp[intOf];omega
       ·gi_wp2
        simp only[Exit.noGoto];gi_wp2;refine aT (FZ rfl _ _ _) rfl ?_;exact⟨⟨_,rfl⟩,.inr ⟨_,by rw[<-HP.o];exact⟨_,by rw[l6];rfl⟩,zO⟩⟩
    ·have qN:(((bs l)[k].toNat:Int) != 47)=true:=by
      have:=(Dk (c:=l[k]) (d:=47)).trans (ji.2 hs);have Pu:((bs l)[k].toNat:Int)=(l[k].toNat:Int):=nu (fun c:UInt8=>(c.toNat:Int)) hg;exact (nu (fun x:Int=>x != 47) Pu).trans (by show (!((l[k].toNat:Int) == 47))=true;exact nu (fun b=>!b) this)
     have V9:=TY hfk dN hs;rw[<-V9]at jT;have HP:=zH jT;clear hg hs V9 jT hp;gi_wp2;go_roundw
     case rel=>exact⟨fr,k+1,by omega,by omega,by go_num,by go_num,pre,HP.o,hJ,ZG⟩
     case measure=>simp[intOf];omega
   ·have V9:kJ l fr k=p::kJ l (k+1) (k+1):=by
     have dN:k=l.length:=by omega
     rw[hp,dN];exact PG
    have hr:kJ l fr k=p::kJ l (k+1) (k+1):=V9;rw[hr,jH]at jT;have mq:IntKind.i64.wrap ((k:Int)+1)=k+1:=aU (by omega) (by omega);have CU:=wv (P:=prog) underlying9 (bs l) (fr:Int) (k:Int) fr k rfl rfl hfk (by omega) (bs p) (by rw[qb,hp]);obtain⟨t0,t1,_,t3⟩:=jD (p:=p);obtain⟨X,hX⟩:=ai (bs p);rw[<-hX]at CU t0 t1 t3;have HX:=zH hX;clear hX hp hr
    cases h0:(p == []) with
    | true =>
     rw[h0]at t0 t3;rw[ac (by unfold fJ;rw[h0];simp)]at jT;have HP:=zH jT;clear h0 t1 jT;gi_wp2;go_roundw
     case rel=>exact⟨k+1,k+1,aE _,by omega,by go_num,by go_num,pre,HP.o,hJ,ZG⟩
     case measure=>simp[intOf];omega
    | false =>
     cases h1:(p == [46]) with
     | true =>
      rw[h0]at t0 t3;rw[h1]at t1;rw[ac (by unfold fJ;rw[h0,h1];simp)]at jT;have HP:=zH jT;clear h0 h1 jT;gi_wp2;go_roundw
      case rel=>exact⟨k+1,k+1,aE _,by omega,by go_num,by go_num,pre,HP.o,hJ,ZG⟩
      case measure=>simp[intOf];omega
     | false =>
      rw[h0]at t0 t3;rw[h1]at t1;rw[af (by unfold fJ;rw[h0,h1];rfl)]at jT;have jZ:pre.length<(bX l).length:=by rw[<-jT];simp
      obtain⟨fn,tmps,assign,body,hy,hR⟩:=hY pre p wr hJ jZ
      try dsimp only[XO]at hy
      have HP:=zH jT;rw[<-HX.o]at hy;clear h0 h1 jT jZ;gi_wp2;refine hR.mono ?_;rintro e W3 (⟨rfl,Jd,qg⟩|⟨rfl,zO⟩)
      ·gi_wp2
       go_roundw
       case rel=>exact⟨k+1,k+1,aE _,by omega,by go_num,by go_num,pre++[p],by rw[<-HP.o];simp,Jd,hK qg ZG⟩
       case measure=>simp[intOf];omega
      ·gi_wp2
       simp only[Exit.noGoto];gi_wp2;refine aT (FZ rfl _ _ _) rfl ?_;exact⟨⟨_,rfl⟩,.inr ⟨_,by rw[<-HP.o];exact⟨_,by rw[l6];rfl⟩,zO⟩⟩
  ·rw [Ld l fr k (by omega)]at jT
   have HP:Hid (pre=bX l):=by show _=_;rw[<-jT];simp
   clear jT;gi_wp2;go_end0;exact⟨⟨_,rfl⟩,.inl ⟨_,HP.o,hJ⟩⟩
theorem Hv (F:Fence) (n:Nat) (hf:F.fn 206) (hro:F.round=none) (hn:1<=n) (Bs n₀:Nat) (l:List UInt8) (hlen:l.length<=2000000) (w:World) (Mv:Bs<w.heap.size) (Mu:Bs<n₀)
  (hc:w.cell? (Bs,0)=some (.string (bs l))) :
  SeqStopsK F n prog 206 #[((),Bs)] XO (Below n₀) (fun ys=>ys=bX l) (fun pre=>pre <+: bX l) (bX l).length w:=fun lb J Jx W hW _ _ hY h0 =>
 PM F n hf hro hn lb Bs l hlen J Jx (Below n₀) (fun W=>W.cell? (Bs,0)=some (.string (bs l))) (fun hk h=>(hk.cell (p:=⟨Bs,0,none⟩) Mu).trans h) id W hY ((hW.cell (p:=⟨Bs,0,none⟩) Mv).trans hc) h0
end
section
open Go.ChangeShapes Go.WideShapes Go.ChangeAt Go.RowKit Go.Shelf
attribute [local go_sem] ol
theorem Ua (F:Fence) (n:Nat) (hf:F.fn 187) (hro:F.round=none) (s:ByteArray) (w:World) :
  CallsIn F n prog 187 #[.string s] w fun e w'=>e=.returned (.func (.func 206) #[] #[((),w.heap.size)])/\w'=w.alloc (.cells #[.string s] 9):=by
 refine uq func187 rfl hf ?_ hro;simp only[ntmps187,lA,bk,gj,Nat.reduceAdd,Nat.reduceSub,o_,pd,pg,ph,jG,oo];gi_wp2;go_ret;exact⟨rfl,rfl⟩
end
section
open Go.ChangeShapes Go.WideShapes Go.ChangeAt Go.RowKit Go.Shelf
attribute [local go_sem] ol
theorem Fl (F:Fence) (n:Nat) (hro:F.round=none) (h83:F.fn 205) (h84:F.fn 206) (hn:3<=n) (Bs:Nat) (l:List UInt8) (hlen:l.length<=2000000) (w:World) (Mv:Bs<w.heap.size)
  (hc:w.cell? (Bs,0)=some (.string (bs l))) :
  CallsIn F n prog 205 #[.slice none 0 0,.func (.func 206) #[] #[((),Bs)]] w (T7 w (bX l)):=by
 obtain⟨i0,hi,hz0,hz1,hz2⟩:=jj uB;have hpl:=ng l;refine Ee func205 rfl h83 ?_ hro;simp only[ntmps205,lA,bk,gj,Nat.reduceAdd,Nat.reduceSub,o_,pd,pg,ph,jG,oo];gi_wp2;obtain⟨W0,aJ⟩:=ai (w.alloc (.cells #[.slice none 0 0] 135));have bO:Boxed W0 w.heap.size 135 (.slice none 0 0):=by rw[aJ];exact Boxed.new w _ _
 have E0:Ext w W0:=by rw[aJ];exact (Ext.refl _).alloc _
 have hz:W0.heap.size=w.heap.size+1:=by rw[aJ];simp
 have hc0:W0.cell? (Bs,0)=some (.string (bs l)):=(E0.cell Mv).trans hc;rw[<-aJ];clear aJ;refine wpIn_rangeFunc_ownG (w0:=W0) hro (by omega) (gf:=206) (lb:=#[((),Bs)]) rfl h84 (enters_of func206 (by kernel_rfl) rfl)
  (Hv F (n-1) h84 hro (by omega) Bs (w.heap.size) l hlen W0 (by omega) Mv hc0) belowK_t (belowK_b (by omega)) (DP _ _) (fun _=>rfl)
  (fun pre W=>(∃v,Boxed W w.heap.size 135 v/\W.ownsRow w.heap.size 9 1 v pre.length (cD pre)/\True)/\Below w.heap.size w W)
  (fun c pre W=>False)
  (OwnFrom.and (Own.from (holdsRow_own w.heap.size (w.heap.size) 135 9 1 (fun pre=>pre.length) cD (fun pre _=>True)) _) (ownFrom_below (aE _) (by omega)))
  (fun c=>by intro s X Y row h;exact h.elim)
  ⟨⟨_,bO,oG _ _ _ _,trivial⟩,E0⟩
  (fun x=>{tmps:=#[.slice none 0 0,.func (.func 206) #[] #[((),Bs)],.pointer (some ⟨w.heap.size,0,none⟩),undef,.slice none 0 0,.string (bs x),.func (.func 206) #[] #[((),Bs)],.string (bs x),undef,undef,undef,undef,undef],defers:=[]}) ?assign ?body ?done ?stop
 case assign =>
  intro l x W K hK;gi_wp2;exact hK
 case body =>
  rintro l' pre x W ⟨⟨v,hv,hrow,_⟩,hB⟩ EK;have hc:=hv.cell;have hsz:=hB.size;have hf:=hv.frozen;gi_wp2_with (gi_at_builtin;refine wpListIn_append_own _ rfl _ _ 135 rfl w.heap.size 9 i0 (.string ⟨#[]⟩) 1 16 underlying135 hi hz0 hz1 hz2 rfl (by decide) _ _ _ rfl (hrow.alloc _) ⟨W.heap.size,0,none⟩ 1 1 (cD [x]) rfl rfl (uC W x) (k7 [x]) (by unfold maxLen;omega) (by omega) (by have:=hv.lt;simp;omega) ?_;intro v' w1 hown' hgrow _;obtain⟨g',cap',rfl⟩:=zG hown';obtain⟨He,Sr,Ra,hk2,hb2⟩:=hv.appended (by decide) hrow (by have:=hv.lt;omega) (by omega) hown' hgrow;have hc1:=He.cell;have Rk:=He.frozen;have yD:=Sr.cell);have TK:(w1.setCell (w.heap.size,0) (.slice (some g') (pre.length+1) cap')).ownsRow w.heap.size 9 1 (.slice (some g') (pre.length+1) cap') (pre++[x]).length (cD (pre++[x])):=by rw[mo,aZ];exact Ra
  exact⟨hk2.from _,hb2,⟨_,Sr,TK,trivial⟩,hB.trans (hb2.mono (by omega))⟩
 case done =>
  rintro D ys W hD rfl ⟨⟨v,hv,hrow,_⟩,hB⟩ hK;have hc:=hv.cell;gi_wp2;refine⟨by simp,.inl ⟨_,_,rfl,wl hK,?_⟩⟩;refine⟨v,by simp[results,results205,go_sem],v,rfl,?_,hB.trans (belowK_b (w:=w) (aE _) W D _ _ (by omega) hK rfl rfl)⟩;exact lJ.base (ownsRow_putObj hrow _ hK rfl) (by omega)
 case stop =>
  rintro D c pre W hD hp h hK;exact h.elim
theorem Le (F:Fence) (n:Nat) (hro:F.round=none) (h38:F.fn 186) (h83:F.fn 205) (h84:F.fn 206) (hn:4<=n) (Bs:Nat) (l:List UInt8) (hlen:l.length<=2000000) (w:World) (Mv:Bs<w.heap.size)
  (hc:w.cell? (Bs,0)=some (.string (bs l))) :
  CallsIn F n prog 186 #[.func (.func 206) #[] #[((),Bs)]] w (T7 w (bX l)):=by
 refine uq func186 rfl h38 ?_ hro;simp only[ntmps186,lA,bk,gj,Nat.reduceAdd,Nat.reduceSub,o_,pd,pg,ph,jG,oo];have h1:F.depth.isSome=true->1<=n:=fun _=>by omega
 gi_wp2_with (refine⟨h1,?_⟩;gi_at_call 205;refine (Fl F (n-1) hro h83 h84 (by omega) Bs l hlen _ Mv hc).mono ?_;rintro e w' ⟨v,rfl,hv,hb⟩);go_ret;exact⟨v,rfl,hv,hb⟩
theorem Bc (l:List UInt8) (w:World):Calls prog 187 #[bs l] w fun e w'=>e=.returned (.func (.func 206) #[] #[((),w.heap.size)])/\w'=w.alloc (.cells #[bs l] 9):=
 (km (n:=1)).1 (Ua Fence.wide 1 trivial rfl (bs l) w)
theorem xX (Bs:Nat) (l:List UInt8) (hlen:l.length<=2000000) (w:World) (Mv:Bs<w.heap.size) (hc:w.cell? (Bs,0)=some (.string (bs l))) :
  Calls prog 186 #[.func (.func 206) #[] #[((),Bs)]] w (T7 w (bX l)):=
 (km (n:=4)).1 (Le Fence.wide 4 rfl trivial trivial trivial (by omega) Bs l hlen w Mv hc)
end
section
structure jU where
 dir:Int
 name:List UInt8
 no:Int
 iE:Bool
def cF:jU:=⟨0,[],0,false⟩
def fO (S:ag) (cu cg at_:Int) (p:List UInt8):Int:=
 if (aa S.nodes at_).kind≠1 then 9
 else if fh cu cg (aa S.nodes at_).uid (aa S.nodes at_).gid (aa S.nodes at_).mode 1=false then 6
 else if p=[46,46] then 0 else if 255<p.length then 13 else 0
def cv (S:ag) (at_:Int) (p:List UInt8):Int:=aw S.ae (aY (aa S.nodes at_).ah p)
def dY (S:ag) (cu cg:Int) (gh:Bool):Int->List (List UInt8)->Nat->Bool->jU×Int
 | at_,[],_,_=>(⟨0,[],at_,true⟩,0)
 | at_, p::l,h,m =>
  if fO S cu cg at_ p≠0 then (cF,fO S cu cg at_ p)
  else if p=[46,46] then dY S cu cg gh (aC S at_) l h m
  else if aW S.nodes (cv S at_ p)=false then (if l=[] then (⟨at_,p,0,m⟩,0) else (cF,5))
  else if (aa S.nodes (cv S at_ p)).kind=3/\(l≠[]\/m=true\/gh=true) then
   (if _hh:8<h+1 then (cF,12) else if (aa S.nodes (cv S at_ p)).data=[] then (cF,5)
    else dY S cu cg gh (if (aa S.nodes (cv S at_ p)).data.head?=some 47 then 1 else at_) (bX (aa S.nodes (cv S at_ p)).data++l) (h+1) (m || (l.isEmpty&&gM (aa S.nodes (cv S at_ p)).data)))
  else if (aa S.nodes (cv S at_ p)).kind≠1/\(l≠[]\/m=true) then (cF,9)
  else if l=[] then (⟨at_,p,cv S at_ p,m⟩,0)
  else dY S cu cg gh (cv S at_ p) l h m
termination_by _ l h _=>(9-h,l.length)
theorem vq (S:ag) (cu cg:Int) (gh:Bool) (at_:Int) (h:Nat) (m:Bool):dY S cu cg gh at_ [] h m=(⟨0,[],at_,true⟩,0):=by rw[dY]
section
variable {S:ag} {cu cg:Int} {gh:Bool} {at_:Int} {p:List UInt8} {l:List (List UInt8)} {h:Nat} {m:Bool}
theorem vr (h1:fO S cu cg at_ p≠0):dY S cu cg gh at_ (p::l) h m=(cF,fO S cu cg at_ p):=by rw[dY,af h1]
theorem Nb (h1:fO S cu cg at_ p=0) (h2:p=[46,46]):dY S cu cg gh at_ (p::l) h m=dY S cu cg gh (aC S at_) l h m:=by
 rw[dY,ac (fun k=>k h1),af h2]
theorem Dl (h1:fO S cu cg at_ p=0) (h2:p≠[46,46]) (h3:aW S.nodes (cv S at_ p)=false) (h4:l=[]):dY S cu cg gh at_ (p::l) h m=(⟨at_,p,0,m⟩,0):=by
 rw[dY,ac (fun k=>k h1),ac h2,af h3,af h4]
theorem Dm (h1:fO S cu cg at_ p=0) (h2:p≠[46,46]) (h3:aW S.nodes (cv S at_ p)=false) (h4:l≠[]):dY S cu cg gh at_ (p::l) h m=(cF,5):=by
 rw[dY,ac (fun k=>k h1),ac h2,af h3,ac h4]
theorem Dn (h1:fO S cu cg at_ p=0) (h2:p≠[46,46]) (h3:aW S.nodes (cv S at_ p)=true) (h4:(aa S.nodes (cv S at_ p)).kind=3) (h5:l≠[]\/m=true\/gh=true) (h6:8<h+1) :
  dY S cu cg gh at_ (p::l) h m=(cF,12):=by
 rw[dY,ac (fun k=>k h1),ac h2,ac (by rw[h3];decide),af ⟨h4,h5⟩,yY h6]
theorem Bd (h1:fO S cu cg at_ p=0) (h2:p≠[46,46]) (h3:aW S.nodes (cv S at_ p)=true) (h4:(aa S.nodes (cv S at_ p)).kind=3) (h5:l≠[]\/m=true\/gh=true) (h6:¬8<h+1)
  (h7:(aa S.nodes (cv S at_ p)).data=[]):dY S cu cg gh at_ (p::l) h m=(cF,5):=by
 rw[dY,ac (fun k=>k h1),ac h2,ac (by rw[h3];decide),af ⟨h4,h5⟩,dif_neg h6,af h7]
theorem Do (h1:fO S cu cg at_ p=0) (h2:p≠[46,46]) (h3:aW S.nodes (cv S at_ p)=true) (h4:(aa S.nodes (cv S at_ p)).kind=3) (h5:l≠[]\/m=true\/gh=true) (h6:¬8<h+1)
  (h7 : (aa S.nodes (cv S at_ p)).data≠[]):dY S cu cg gh at_ (p::l) h m =
   dY S cu cg gh (if (aa S.nodes (cv S at_ p)).data.head?=some 47 then 1 else at_) (bX (aa S.nodes (cv S at_ p)).data++l) (h+1) (m || (l.isEmpty&&gM (aa S.nodes (cv S at_ p)).data)):=by
 rw[dY,ac (fun k=>k h1),ac h2,ac (by rw[h3];decide),af ⟨h4,h5⟩,dif_neg h6,ac h7]
theorem Dp (h1:fO S cu cg at_ p=0) (h2:p≠[46,46]) (h3:aW S.nodes (cv S at_ p)=true) (h4:¬((aa S.nodes (cv S at_ p)).kind=3/\(l≠[]\/m=true\/gh=true)))
  (h5:(aa S.nodes (cv S at_ p)).kind≠1) (h6:l≠[]\/m=true):dY S cu cg gh at_ (p::l) h m=(cF,9):=by
 rw[dY,ac (fun k=>k h1),ac h2,ac (by rw[h3];decide),ac h4,af ⟨h5,h6⟩]
theorem Dq (h1:fO S cu cg at_ p=0) (h2:p≠[46,46]) (h3:aW S.nodes (cv S at_ p)=true) (h4:¬((aa S.nodes (cv S at_ p)).kind=3/\(l≠[]\/m=true\/gh=true)))
  (h5:¬((aa S.nodes (cv S at_ p)).kind≠1/\(l≠[]\/m=true))) (h6:l=[]):dY S cu cg gh at_ (p::l) h m=(⟨at_,p,cv S at_ p,m⟩,0):=by
 rw[dY,ac (fun k=>k h1),ac h2,ac (by rw[h3];decide),ac h4,ac h5,af h6]
theorem Dr (h1:fO S cu cg at_ p=0) (h2:p≠[46,46]) (h3:aW S.nodes (cv S at_ p)=true) (h4:¬((aa S.nodes (cv S at_ p)).kind=3/\(l≠[]\/m=true\/gh=true)))
  (h5:¬((aa S.nodes (cv S at_ p)).kind≠1/\(l≠[]\/m=true))) (h6:l≠[]):dY S cu cg gh at_ (p::l) h m=dY S cu cg gh (cv S at_ p) l h m:=by
 rw[dY,ac (fun k=>k h1),ac h2,ac (by rw[h3];decide),ac h4,ac h5,ac h6]
end
def fq (S:ag) (cu cg:Int) (p:List UInt8) (gh:Bool):jU×Int:=if mH p=0 then dY S cu cg gh 1 (bX p) 0 (gM p) else (cF,mH p)
theorem Ub {P:List (List UInt8)->Nat->Prop} (step:∀l h,(∀l' h',(h<h'/\h'<=8)\/(h'=h/\l'.length<l.length)->P l' h')->P l h):∀l h,P l h:=by
 have inner:∀n,(∀l h,9-h<n->P l h)->∀k (l:List (List UInt8)) (h:Nat),9-h<=n->l.length<=k->P l h:=by
  intro n hn k
  induction k with
  | zero =>
   intro l h h1 h2;exact step l h fun l' h' hx=>by
    rcases hx with hx|hx
    ·exact hn l' h' (by omega)
    ·omega
  | succ k ih =>
   intro l h h1 h2;exact step l h fun l' h' hx=>by
    rcases hx with hx|hx
    ·exact hn l' h' (by omega)
    ·exact ih l' h' (by omega) (by omega)
 have outer:∀n l h,9-h<n->P l h:=by
  intro n
  induction n with
  | zero=>intro l h h1;omega
  | succ n ih=>intro l h h1;exact inner n ih l.length l h (by omega) (aE _)
 intro l h;exact outer (9-h+1) l h (by omega)
end
section
open Go.ChangeShapes Go.WideShapes Go.ChangeAt Go.RowKit
attribute [local irreducible] wpQuiet
def eI (w:World) (b bW:Nat) (cu cg at_:Int) (A:Option Addr) (len cap:Nat) (mc:Int) (must:Bool):Prop:=
 Has w b (.cells #[((),bW),cu,cg,at_,.slice A len cap,mc,.bool must] 255)
theorem eI.ext {w w':World} {b bW:Nat} {cu cg at_:Int} {A:Option Addr} {len cap:Nat} {mc:Int} {must:Bool} (h:eI w b bW cu cg at_ A len cap mc must) (hE:Ext w w'):eI w' b bW cu cg at_ A len cap mc must:=Has.ext h hE
def stepG (S:ag) (at_:Int) (p:List UInt8):Int:=if p=[46,46] then aC S at_ else cv S at_ p
theorem PN (B:Nat) (g:dL) (S:ag) (b:Nat) (cu cg at_:Int) (A:Option Addr) (len cap:Nat) (mc:Int) (must:Bool) (p:List UInt8) (w:World) (h:eL w B g S) (T:eB c S) (hc:c<=1000000)
  (ht:eI w b g.bW cu cg at_ A len cap mc must) (hp:p.length<=2000000) :
  Calls prog 189 #[((),b),bs p] w (aO w (.tuple #[.int .i64 (if fO S cu cg at_ p=0 then stepG S at_ p else 0),.int .i64 (fO S cu cg at_ p)])):=by
 obtain⟨A1,k1,tS,C1⟩:=nI B g S at_ w h;obtain⟨n,hn⟩:=ai (aa S.nodes at_);obtain⟨i,hi⟩:=ai (aW S.nodes at_);have hE:Hid (fO S cu cg at_ p=if n.kind≠1 then 9 else if fh cu cg n.uid n.gid n.mode 1=false then 6 else if p=[46,46] then 0 else if 255<p.length then 13 else 0):=by show _=_;rw[hn];rfl
 have hiz:i=false->n.kind=0:=fun e=>by rw[hn,(aP (hi.symm.trans e)).1];rfl
 have hRR:jQ n.ah/\n.ah.length<=c:=by rw[hn];exact T.aa at_
 rw[<-hn]at tS;rw[<-hn,<-hi]at C1;have Ce:=zH C1;have HN:=zH hn;have HIZ:=zH hiz;have FQ:=zH hRR;obtain⟨x,hx⟩:=ai (fO S cu cg at_ p);obtain⟨y,hy⟩:=ai (stepG S at_ p);rw[<-hx]at hE;rw[<-hx,<-hy];obtain⟨z,hz⟩:∃z,z=if x=0 then y else 0:=⟨_,rfl⟩
 rw[<-hz];have HZ0:Hid (x≠0->z=0):=by show _->_;intro k;rw[hz,ac k]
 have HZ1:Hid (x=0->z=y):=by show _->_;intro k;rw[hz,af k]
 have HY:Hid (y=if p=[46,46] then aC S at_ else cv S at_ p):=by show _=_;rw[hy];rfl
 have T0:=(Has.cell ht 0);have T1:=(Has.cell ht 1);have T2:=(Has.cell ht 2);have T3:=(Has.cell ht 3);have Tz:=Has.lt ht;obtain⟨_,_,cd,h3,_⟩:=id h;have v0:∀u:Gr w,u.w.cell? (b,0)=some (.pointer (some ⟨g.bW,0,none⟩)):=Gr.cell Tz T0;have v3:∀u:Gr w,u.w.cell? (b,3)=some (.int .i64 at_):=Gr.cell Tz T3;have vw:∀u:Gr w,u.w.cell? (g.bW,0)=some (.pointer (some ⟨g.bT,0,none⟩)):=Gr.cell h3.lt (h3.cell 0);clear C1 hn hi hiz hRR hx hy hz T0 T1 T2 T3 h3;go_in;go_upto_region 1 with fail;refine rS w 15 16 6 21 n A1 k1 _ _ (by kernel_rfl) (by kernel_rfl) rfl rfl rfl rfl (by simp) ((Ext.refl _).drew) ?_;simp only[qG,oH,qH,jN,p9]
 repeat (
     refine cH (fun K hK=>?_);go_simp
     first
      | (refine hK _ ?_;clear hK K)
      | (
        apply Exists.intro;refine⟨fun u=>?_,hK _ ?_⟩
        first
         | ((with_reducible refine (Ce.o _ u.h).mono ?_);rintro e w'' ⟨rfl,hx⟩;exact⟨rfl,hx⟩)
        clear hK K))
 refine bc ?_;refine bc ⟨rfl,?_⟩;refine cH (fun K hK=>?_);go_simp;refine hK _ ?_;clear hK K;refine bc ?_;intro w4 b6 E4 GL N4;simp only[Act.put];have T4:=eI.ext ht E4;have tO:=tS.ext E4;have aao:b6≠b:=by omega
 clear v0 v3 vw Ce tS;obtain⟨j,hj⟩:=ai i;have k2:=aA N4 2 rfl;have kz:=N4.lt
 by_cases c1:n.kind=1
 case neg =>
  have t1:(n.kind == 1)=false:=by simpa using c1
  have qo:(n.kind != 1)=true:=by simpa using c1
  have e1:Hid (x=9):=by show _=_;rw[hE.o,af c1]
  have e2:Hid (z=0):=HZ0.o (by rw[e1.o];decide);clear c1 hE hj
  cases i
  ·go_wp2
   go_ret2;exact aO.mk (by rw[e1.o,e2.o];rfl) E4
  ·go_wp2
   go_ret2;exact aO.mk (by rw[e1.o,e2.o];rfl) E4
 have Xc:i=true:=by
  cases i
  ·have:=HIZ.o rfl;omega
  ·rfl
 subst Xc;have t1:(n.kind == 1)=true:=by simpa using c1
 have qo:(n.kind != 1)=false:=by simpa using c1
 have j0:Hid (x=if fh cu cg n.uid n.gid n.mode 1=false then 6 else if p=[46,46] then 0 else if 255<p.length then 13 else 0):=by show _=_;rw[hE.o,ac (fun k=>k c1)]
 obtain⟨u,hu⟩:=ai (fh cu cg n.uid n.gid n.mode 1);have HU:=zH hu;rw[<-hu]at j0;clear hE hu c1 hj;obtain⟨n0,n1,n2,n3,n4,n5,n6,n7,n8,n9,OZ,Kq⟩:=N4.da;have KN:Hid (∀u':Gr w4,Calls prog 51 #[.agg #[cu,cg],.agg (n,A1,k1),.int .i64 1] u'.w (aO u'.w (.bool u))):=by
  show ∀u':Gr w4,_;intro u';rw[HU.o];exact pJ cu cg _ _ _ n.mode n.uid n.gid _ _ _ _ _ _ 1 u'.w
 go_upto_region 4 with fail;have T1:∀u:Gr w4,u.w.cell? (b,1)=some (.int .i64 cu):=Gr.cell (Has.lt T4) (Has.cell T4 1);have T2:∀u:Gr w4,u.w.cell? (b,2)=some (.int .i64 cg):=Gr.cell (Has.lt T4) (Has.cell T4 2);have n0:=Gr.cell kz n0;have n1:=Gr.cell kz n1;have n2:=Gr.cell kz n2;have n3:=Gr.cell kz n3;have n4:=Gr.cell kz n4;have n5:=Gr.cell kz n5;have n6:=Gr.cell kz n6;have n7:=Gr.cell kz n7;have n8:=Gr.cell kz n8;have n9:=Gr.cell kz n9;have OZ:=Gr.cell kz OZ;have Kq:=Gr.cell kz Kq;clear k2;refine Rd w4 ?_
 repeat (quiet_step (((with_reducible refine (KN.o _).mono ?_);rintro e w'' ⟨rfl,mv⟩;exact⟨rfl,⟨w'',Ext.trans (Gr.h _) mv⟩,rfl⟩)))
 refine lH (NX fun w5 ra=>?_);have T5:=eI.ext T4 ra;have N5:=N4.ext ra;have EN:=tO.ext ra;have E5:=E4.trans ra;clear KN T1 T2 n0 n1 n2 n3 n4 n5 n6 n7 n8 n9 OZ Kq kz T4 N4 tO
 cases u
 ·have e1:Hid (x=6):=by show _=_;rw[j0.o,af rfl]
  have e2:Hid (z=0):=HZ0.o (by rw[e1.o];decide);clear j0;go_wp2;go_ret2;exact aO.mk (by rw[e1.o,e2.o];rfl) E5
 have yK:Hid (x=if p=[46,46] then 0 else if 255<p.length then 13 else 0):=by show _=_;rw[j0.o,ac (by decide)]
 clear j0;obtain⟨X,hX⟩:=ai (bs p);have hlX:(X.size:Int)=p.length:=by rw[hX,bo]
 have tX:(X.toList == [46,46])=(p == [46,46]):=by rw[hX];exact jD.2.2.1
 rw[<-hX];have HX:=zH hX
 by_cases c2:p=[46,46]
 ·have e1:Hid (x=0):=by show _=_;rw[yK.o,af c2]
  have e2:Hid (z=aC S at_):=by show _=_;rw[HZ1.o e1.o,HY.o,af c2]
  have t2:(X.toList == [46,46])=true:=by rw[tX,c2];rfl
  have KA:Hid (∀u':Gr w5,Calls prog 142 #[((),g.bW),at_] u'.w (aO u'.w (.int .i64 (aC S at_)))):=by
   show ∀u':Gr w5,_;exact fun u'=>nJ B g S at_ _ ((h.ext E5).ext u'.h) T.ae T.eight T.roots T.bL
  clear yK c2 tX hX;go_upto_region 7 with fail;have T0:∀u:Gr w5,u.w.cell? (b,0)=some (.pointer (some ⟨g.bW,0,none⟩)):=Gr.cell (Has.lt T5) (Has.cell T5 0);have T3:∀u:Gr w5,u.w.cell? (b,3)=some (.int .i64 at_):=Gr.cell (Has.lt T5) (Has.cell T5 3);refine Rd w5 ?_
  repeat (quiet_step (((with_reducible refine (KA.o _).mono ?_);rintro e w'' ⟨rfl,mv⟩;exact⟨rfl,⟨w'',Ext.trans (Gr.h _) mv⟩,rfl⟩)))
  refine lH (NX fun w6 b6'=>?_);clear T0 T3 KA;go_wp2;go_ret2;exact aO.mk (by rw[e1.o,e2.o];rfl) (E5.trans b6')
 have t2:(X.toList == [46,46])=false:=by rw[tX];simpa using c2
 have HY2:Hid (y=cv S at_ p):=by show _=_;rw[HY.o,ac c2]
 have MK:Hid (x=if 255<p.length then 13 else 0):=by show _=_;rw[yK.o,ac c2]
 clear yK c2 tX
 by_cases c3:255<p.length
 ·have e1:Hid (x=13):=by show _=_;rw[MK.o,af c3]
  have e2:Hid (z=0):=HZ0.o (by rw[e1.o];decide);have t3:(255:Int)<X.size:=by omega
  clear MK c3 hX hlX;go_wp2;go_ret2;exact aO.mk (by rw[e1.o,e2.o];rfl) E5
 have e1:Hid (x=0):=by show _=_;rw[MK.o,ac c3]
 have t3:¬(255:Int)<X.size:=by omega
 obtain⟨q,hq⟩:=ai (aY n.ah p);have e2:Hid (z=aw S.ae q):=by show _=_;rw[HZ1.o e1.o,HY2.o,hq,HN.o];rfl
 have XQ:=FQ.o;have KF:Hid (∀u':Gr w5,Calls prog 100 #[.slice A1 n.ah.length k1,.string X] u'.w (aO u'.w (.int .i64 q))):=by
  show ∀u':Gr w5,_;intro u';rw[hq,<-l_ XQ.1,HX.o];exact rA A1 n.ah k1 p u'.w (EN.ext u'.h).ah.ah XQ.1 (by have:=XQ.2;omega)
 have KO:Hid (∀u':Gr w5,Calls prog 101 #[((),g.bW),q] u'.w (aO u'.w (.int .i64 (aw S.ae q)))):=by
  show ∀u':Gr w5,_;exact fun u'=>iZ B g S q _ ((h.ext E5).ext u'.h) T.ae (by have:=T.eight;omega)
 clear MK c3 hX hlX hq XQ;go_upto_region 10 with fail;have T0:∀u:Gr w5,u.w.cell? (b,0)=some (.pointer (some ⟨g.bW,0,none⟩)):=Gr.cell (Has.lt T5) (Has.cell T5 0);have Kq:=Gr.cell N5.lt (N5.cell 11);refine Rd w5 ?_
 repeat (quiet_step (((first|with_reducible refine (KF.o _).mono ?_|with_reducible refine (KO.o _).mono ?_);rintro e w'' ⟨rfl,mv⟩;exact⟨rfl,⟨w'',Ext.trans (Gr.h _) mv⟩,rfl⟩)))
 refine lH (NX fun w6 b6'=>?_);clear T0 Kq KF KO;go_wp2;go_ret2;exact aO.mk (by rw[e1.o,e2.o];rfl) (E5.trans b6')
end
section
open Go.ChangeShapes Go.WideShapes Go.ChangeAt Go.RowKit
attribute [local irreducible] wpQuiet
def Off (A:Option Addr) (b:Nat):Prop:=∀x,A=some x->x.block≠b
theorem kB.only {l:List BO} (h:kB w A l) (o:Only [b] w w') (hL:Off A b):kB w' A l:=by
 rcases h with h|⟨b2,o',hA,hb,hc⟩
 ·exact .inl h
 ·have hn:b2∉[b]:=fun hb'=>by rw[ax]at hb';exact hL _ hA hb'
  have e:w'.heap[b2]?=w.heap[b2]?:=o.block b2 hb hn;have ec:∀j,w'.cell? ⟨b2,j,none⟩=w.cell? ⟨b2,j,none⟩:=fun j=>by simp[World.cell?,e]
  exact .inr ⟨b2,o',hA,by have:=o.size;omega,fun i hi=>(ec _).trans (hc i hi)⟩
theorem PO {B:Nat} {o:Obj} {row:Option Nat} (h:Has w B o) (hg:w.grownBy w' row) (hr:row≠some B):Has w' B o:=
 (hg.block B h.lt (fun e=>hr e.symm)).trans h
theorem Cl {ops:Array Oper} {o:Oper} {a:Act} {K:Act->World->Prop} {Q:Exit->Act->World->Prop} {E:Prop} (w:World) (hgd:o.guard=none) (s x:Operand) (t:TypeId)
  (ho:o.op=.call {callee:=.builtin .append,args:=#[s,x],argTypes:=#[t,t]}) (vs vx:Value) (hs:a.eval s=vs) (hx:a.eval x=vx) {R:Value->World->Prop}
  (hr:∃v' w',(Builtin.append_ #[t,t] o.type #[vs,vx]).run P w=.ok v' w'/\R v' w') (h:∀v' w',R v' w'->K (a.put o.dst v') w') :
  if Region.wanted o (yielded ops a.tmps)=true then Oper.wp P o a w K Q else E:=by
 have hw:Region.wanted o (yielded ops a.tmps)=true:=by simp[Region.wanted,hgd]
 rw[af hw];obtain⟨v',w',h1,h2⟩:=hr;unfold Oper.wp execOp;simp only[ho,resolve,invoke,builtin,nr,o7,rn,RH,dM,Ml,hs,hx,h1];exact h v' w' h2
theorem Ds {base:Nat} {v:Value} {P:List BO} (A:Option Addr) (cap:Nat) (L:List BO) (wr:World) (h:lJ wr base v P) (hat:kB wr A L) (hA:A=none->cap=0) (hb:base<=wr.heap.size) (hl:P.length<=20000000) (hL:L.length<=20000000) :
  ∃ v' w2,(Builtin.append_ #[135,135] 135 #[v,.slice A L.length cap]).run prog wr=.ok v' w2/\lJ w2 base v' (P++L)/\wr.grownBy w2 v.ownBlock:=by
 obtain⟨i0,hi,hz0,hz1,hz2⟩:=jj uB
 cases A with
 | none =>
  have l8:L=[]:=by
   rcases hat with h|⟨b',o',h,_⟩
   ·exact h
   ·cases h
  subst l8;obtain rfl:cap=0:=hA rfl;obtain⟨A',c',rfl,hpc,_,_,_⟩:=h.at_;refine⟨_,wr,?_,by rw[iR];exact h,World.grownBy.refl _ _⟩
  cases A'<;>simp[Builtin.append_,mD underlying135,sizeOf,typeInfo,hi,Builtin.lenOf,Builtin.firstCells,storeCells,hpc]
 | some ad =>
  have ww:∀j u,(cD L)[j]?=some u->wr.cell? (ad.add j)=some u:=by
   intro j u hu;rcases hat with h|⟨b',o',hAe,hb,h2⟩
   ·subst h;simp[cD]at hu
   ·obtain rfl:ad=⟨b',o',none⟩:=nt hAe
    rw [kU];have hj:j<L.length:=by
     rcases lq j L.length with h'|h'
     ·exact h'
     ·rw[ze (by rw[qj];exact h')]at hu;cases hu
    exact (h2 j hj).trans ((mQ L j hj).symm.trans hu)
  obtain⟨v',w2,hr,h2,h3,_⟩:=run_append_own (P:=prog) wr base 135 135 9 i0 (.string ⟨#[]⟩) 1 16 underlying135 hi hz0 hz1 hz2 rfl (by decide) _ P.length _ h ad L.length cap (cD L) (by rw[qj,Nat.mul_one]) ww (k7 L) (by unfold maxLen;omega) (by omega) hb;refine⟨v',w2,hr,?_,h3⟩;unfold lJ;rw[mo,aZ];exact h2
def Be (mc:Nat) (d:List UInt8):Int:=if 8<mc+1 then 12 else if d=[] then 5 else 0
def acB (w:World) (b bW:Nat) (cu cg at_:Int) (mc:Nat) (must:Bool) (l:List BO) (d:List UInt8) (e:Ending) (w':World):Prop:=
 Only [b] w w'/\e=.returned (.int .i64 (Be mc d))/\(Be mc d=0->∃A' cap',eI w' b bW cu cg (if d.head?=some 47 then 1 else at_) A' (bX d++l).length cap' ((mc+1:Nat):Int) (must || (l.isEmpty&&gM d))/\kB w' A' (bX d++l)/\(A'=none->cap'=0)/\Off A' b/\(bX d++l).length<=cap')
theorem Hw (b bW:Nat) (cu cg at_:Int) (A:Option Addr) (cap mc:Nat) (must:Bool) (l:List BO) (d:List UInt8) (w:World) (ht:eI w b bW cu cg at_ A l.length cap mc must) (hat:kB w A l) (hA:A=none->cap=0) (hoff:Off A b)
  (hl:l.length<=10000000) (hd:d.length<=1048576) (hh:mc<=8) :
  Calls prog 190 #[((),b),bs d] w (acB w b bW cu cg at_ mc must l d):=by
 have T5:=Has.cell ht 5;have F5:=Has.free ht 5;have Tz:=Has.lt ht;have q1:IntKind.i64.wrap ((mc:Int)+1)=((mc+1:Nat):Int):=by rw[cB _ (by omega)];omega
 obtain⟨h1,hh1⟩:∃h1:Nat,h1=mc+1:=⟨_,rfl⟩;rw[<-hh1]at q1;obtain⟨W1,cA⟩:=ai (w.setCell (b,5) (.int .i64 (h1:Int)));have O1:Only [b] w W1:=by rw[cA];exact Only.setCell _ _ _ _
 have T1:eI W1 b bW cu cg at_ A l.length cap (h1:Int) must:=by rw[cA];exact Has.setCell ht 5 (.int .i64 (h1:Int))
 have Fm:kB W1 A l:=hat.only O1 hoff;have XR:Hid (Be mc d=if 8<h1 then 12 else if d=[] then 5 else 0):=by show _=_;rw[hh1];rfl
 have HH1:=zH hh1;have hh2:h1<=9:=by omega
 clear hh1 hat;go_in;go_upto_region 2 with fail;rw[<-cA];clear cA T5 F5 q1;have T5:=Has.cell T1 5;have Tz1:=Has.lt T1;have e0:∀e,Be mc d=e->e≠0->∀w',Only [b] w w'->acB w b bW cu cg at_ mc must l d (.returned (.int .i64 e)) w':=fun e he h0 w' ho=>⟨ho,by rw[he],fun k=>absurd (he.symm.trans k) h0⟩
 have HS:=zH e0;clear e0
 by_cases c1:8<h1
 ·have e1:Hid (Be mc d=12):=by show _=_;rw[XR.o,af c1]
  have t1:(8:Int)<(h1:Int):=by omega
  clear c1 XR;go_wp2;go_ret;exact HS.o _ e1.o (by decide) _ O1
 have t1:¬(8:Int)<(h1:Int):=by omega
 have XS:Hid (Be mc d=if d=[] then 5 else 0):=by show _=_;rw[XR.o,ac c1]
 clear XR c1
 cases d with
 | nil =>
  have e1:Hid (Be mc []=5):=by show _=_;rw[XS.o,af rfl]
  have z0:(bs []).toList=[]:=bA [];clear XS;go_wp2;go_ret;exact HS.o _ e1.o (by decide) _ O1
 | cons c t =>
  have e1:Hid (Be mc (c::t)=0):=by show _=_;rw[XS.o,ac (by simp)]
  have z0:(bs (c::t)).toList.isEmpty=false:=by rw[bA];rfl
  have hks:0<(bs (c::t)).size:=by rw[bo];simp
  have hg:(bs (c::t))[0]=c:=rfl;clear XS HS;obtain⟨Nc,Fo⟩:∃a:Int,a=if (c::t).head?=some 47 then 1 else at_:=⟨_,rfl⟩
  have HA2:=zH Fo;obtain⟨v,hv⟩:∃v:Bool,v=(c == 47):=⟨_,rfl⟩;have qN:(((bs (c::t))[0].toNat:Int) == 47)=v:=by rw[hg,hv];exact Dk (c:=c) (d:=47)
  have XT:Hid (v=true->Nc=1):=by show _->_;intro k;rw[hv]at k;rw[Fo,af (by simpa using k)]
  have TD:Hid (v=false->Nc=at_):=by show _->_;intro k;rw[hv]at k;rw[Fo,ac (by simpa using k)]
  clear hg Fo hv;go_upto_if 21 with fail;clear T5 Tz1;go_cut [] (fun wc=>eI wc b bW cu cg Nc A l.length cap (h1:Int) must/\kB wc A l/\Only [b] w wc)
  case first =>
   cases v
   ·have e2:=zH (TD.o rfl)
    clear TD XT;go_wp2_with fail;go_meet;exact⟨by rw[e2.o];exact T1,Fm,O1⟩
   ·have e2:=zH (XT.o rfl)
    clear TD XT;have F3:=Has.free T1 3;have T3:=Has.cell T1 3;have Tz1:=Has.lt T1;go_wp2_with fail;go_meet;have T2:eI (W1.setCell (b,3) (.int .i64 1)) b bW cu cg Nc A l.length cap (h1:Int) must:=by rw[e2.o];exact Has.setCell T1 3 (.int .i64 1)
    exact⟨T2,Fm.only (Only.setCell _ _ _ _) hoff,O1.then (Only.setCell _ _ _ _)⟩
  case rest =>
   obtain⟨T2,PP,O2⟩:=hcut;obtain⟨lb,hlb⟩:=ai l.isEmpty;have t2:((l.length:Int) == 0)=lb:=by rw[hlb];cases l<;>simp<;>omega
   obtain⟨sl,CU⟩:=ai (gM (c::t));obtain⟨m2,cq⟩:=ai (must || (l.isEmpty&&gM (c::t)));have HM:Hid (m2=(must || (lb&&sl))):=by show _=_;rw[cq,hlb,CU]
   have HM2:=zH cq;have HSL:=zH CU;have T5:=Has.cell T2 4;have Tz1:=Has.lt T2;clear hlb CU cq TD XT T1 Fm O1;go_upto_if 30 with fail;clear T5 Tz1;go_cut [] (fun wd=>eI wd b bW cu cg Nc A l.length cap (h1:Int) m2/\kB wd A l/\Only [b] w wd)
   case first =>
    cases lb
    ·have e2:Hid (m2=must):=by show _=_;rw[HM.o];simp
     go_wp2_with fail;go_meet;exact⟨by rw[e2.o];exact T2,PP,O2⟩
    ·have T6:=Has.cell T2 6
     have F6:=Has.free T2 6;have Tz1:=Has.lt T2;have h6:eI (wc.setCell (b,6) (.bool m2)) b bW cu cg Nc A l.length cap (h1:Int) m2:=Has.setCell T2 6 (.bool m2)
     cases must
     ·have e2:Hid (m2=sl):=by show _=_;rw[HM.o];rfl
      go_wp2_with fail;refine (Bb (c::t) _ (by simp at hd|-;omega)).mono ?_;rw[<-HSL.o,<-e2.o];rintro e w4 ⟨rfl,b4⟩;have T3:=eI.ext T2 b4;have T6:=Has.cell T3 6;have F6:=Has.free T3 6;have Tz1:=Has.lt T3;have h6:eI (w4.setCell (b,6) (.bool m2)) b bW cu cg Nc A l.length cap (h1:Int) m2:=Has.setCell T3 6 (.bool m2);go_wp2_with fail;go_meet;exact⟨h6,(PP.ext b4).only (Only.setCell _ _ _ _) hoff,(O2.ext b4).then (Only.setCell _ _ _ _)⟩
     ·have e2:Hid (m2=true):=by show _=_;rw[HM.o];rfl
      rw[e2.o]at h6;go_wp2_with fail;go_meet;exact⟨by rw[e2.o];exact h6,PP.only (Only.setCell _ _ _ _) hoff,O2.then (Only.setCell _ _ _ _)⟩
   case rest =>
    clear T2 PP O2;obtain⟨T2,PP,O2⟩:=hcut;go_upto_region 10 with fail;have T4:=Has.cell T2 4;have Tz:=Has.lt T2;have cA:Ext wc wc.drew:=(Ext.refl _).drew;have dp:Ext wc (wc.drew.alloc (.cells #[.string (bs (c::t))] 9)):=cA.alloc _;have hpl:=ng (c::t);have KS:Hid (∀w',Ext wc w'->w'.cell? (b,4)=some (.slice A l.length cap)):=fun w' h=>(h.cell Tz).trans T4
    have V6:=KS.o _ dp;have M0:=KS.o _ cA;go_region_law (first|(go_simp;go_at_call 187;refine (Bc (c::t) _).mono ?_;rintro e wp ⟨rfl,rfl⟩)|(go_simp;go_at_call 186;refine (xX _ (c::t) (by simp at hd|-;omega) _ (by simp) ((Has.new _ _).cell 0)).mono ?_;rintro e wk ⟨v3,rfl,mE,bk3⟩;have qg:=dp.trans bk3;have hck:=KS.o _ qg;have hzk:=(eI.ext T2 qg);have aev:=Has.lt hzk)|(refine Cl _ (by rfl) _ _ 135 (by rfl) _ _ (by rfl) (by rfl) (Ds A cap l _ mE (PP.ext qg) hA bk3.size (by simp at hd hpl|-;omega) (by omega)) ?_;rintro v9 w9 ⟨Rl,Rm⟩;have hT9:eI w9 b bW cu cg Nc A l.length cap (h1:Int) m2:=PO (eI.ext T2 qg) Rm (k_ mE (eI.ext T2 qg) (by decide));have hc9:=Has.cell hT9 4;have hf9:=Has.free hT9 4;have hz9:=Has.lt hT9;obtain⟨A9,c9,rfl,aew,afU,aex,aey⟩:=lJ.at_ Rl))
    all_goals
     have E9:Ext wc w9:=qg.grown Rm (fun g hv=>by have:=(ry mE g hv).1;simp at this;omega);have aez:=k_ Rl hT9 (by decide);have Nd:Off A9 b:=fun x hx=>by
      intro e;refine aez ?_;rw[hx,<-e];rfl
     have oK:eI (w9.setCell (b,4) (.slice A9 ((bX (c::t)).length+l.length) c9)) b bW cu cg Nc A9 (bX (c::t)++l).length c9 (h1:Int) m2:=by
      rw[aZ];exact Has.setCell hT9 4 (.slice A9 ((bX (c::t)).length+l.length) c9)
     have O9:Only [b] w (w9.setCell (b,4) (.slice A9 ((bX (c::t)).length+l.length) c9)):=(O2.ext E9).then (Only.setCell _ _ _ _);have aaU:=aex.only (Only.setCell w9 b 4 (.slice A9 ((bX (c::t)).length+l.length) c9)) Nd;clear T4 V6 M0 hck aev hc9 hf9 hz9;go_wp2;go_ret;refine⟨O9,by rw[e1.o];rfl,fun _=>⟨A9,c9,?_,aaU,aey,Nd,aew⟩⟩;rw[<-HA2.o,<-HM2.o,<-HH1.o];exact oK
end
open Go.ChangeShapes Go.WideShapes Go.ChangeAt Go.RowKit
abbrev gX (x:jU):List Value:=[.int .i64 x.dir,.string (bs x.name),.int .i64 x.no,.bool x.iE]
theorem xY:(prog.info? 82).map (·.size)=some 4:=by kernel_rfl
theorem Uc (x:jU):∀u∈gX x,u.oneCell'=true:=by
 intro u hu;simp only[aR,bg,bh]at hu;rcases hu with rfl|rfl|rfl|rfl<;>rfl
theorem Has.Ud {x:jU} (y:jU) (h:Has w b (.cells (gX x).toArray t)):Has (w.setCells b 0 (gX y)) b (.cells (gX y).toArray t):=by
 have h0:=Has.setCell h 0 (.int .i64 y.dir);have h1:=Has.setCell h0 1 (.string (bs y.name));have h2:=Has.setCell h1 2 (.int .i64 y.no);have h3:=Has.setCell h2 3 (.bool y.iE);exact h3
theorem gO {x:jU} (y:jU) (h:Has w b (.cells (gX x).toArray t)) :
  Has ((((w.setCell (b,0) (.int .i64 y.dir)).setCell (b,1) (.string (bs y.name))).setCell (b,2) (.int .i64 y.no)).setCell (b,3) (.bool y.iE)) b (.cells (gX y).toArray t)/\Only [b] w ((((w.setCell (b,0) (.int .i64 y.dir)).setCell (b,1) (.string (bs y.name))).setCell (b,2) (.int .i64 y.no)).setCell (b,3) (.bool y.iE)):=
 ⟨h.Ud y,cr (gX y) 0 w⟩
theorem cX {ops:Array Oper} {rest:List Oper} {op:Oper} {a:Act} {Q:Exit->Act->World->Prop} (hgd:op.guard=none) (x y:Operand) (ho:op.op=.store 82 x y)
  (b:Nat) (d d':jU) (hx:a.eval x=.pointer (some ⟨b,0,none⟩)) (hy:a.eval y=.agg (gX d').toArray) (hb:Has w b (.cells (gX d).toArray 82))
  (h:∀w',Has w' b (.cells (gX d').toArray 82)->Only [b] w w'->wpList prog ops Q rest (a.put op.dst undef) w'):wpList prog ops Q (op::rest) a w:=by
 refine zw hgd 82 x y ho b 0 (gX d').toArray hx hy hb.there xY (rv (cs:=gX d') (Uc d')) ?_;exact h _ (hb.Ud d') (cr (gX d') 0 w)
theorem dk {fn:Func} {p t:Tmp} (h:fn.results=#[.cell p 82,.tmp t]) (tmps:Array Value) (w:World) (g:Nat) (d:jU) (v:Value)
  (hp:tmps.getD p undef=.pointer (some ⟨g,0,none⟩)) (hv:tmps.getD t undef=v) (hg:Has w g (.cells (gX d).toArray 82)) :
  (results fn tmps).run prog w=.ok (.tuple #[.agg (gX d).toArray,v]) w:=
 mR h tmps w g 82 _ _ v hp hv hg underlying82 rfl xY
theorem vu {d p:List UInt8} (h:p∈bX d):p.length<=d.length:=by
 have key:∀(L:List (List UInt8)),p∈L->p.length<=total L:=by
  intro L hp
  induction L with
  | nil=>cases hp
  | cons x L ih =>
   unfold total;rcases aR.1 hp with rfl|hp
   ·omega
   ·have:=ih hp;omega
 have:=key _ h;have:=Hq d;omega
theorem Bf (bl o n m cap:Nat) (h0:n=m+1) (hc:n<=cap):∃X:Addr,(∀W,(Instr.slice 135 (.slice (some ⟨bl,o,none⟩) n cap) (some (.int .i64 1)) none none).run prog W=.ok (.slice (some X) m (cap-1)) W)/\(0<m->X=⟨bl,o+1,none⟩)/\X.block=bl:=by
 have h4:n-1=m:=by omega
 have hu:=underlying135;have h1:(1:Int)<=n:=by omega
 have hi:(prog.info? 9).map (·.size)=some 1:=by kernel_rfl
 by_cases h:cap=1
 ·refine ⟨⟨bl,o,none⟩,fun W=>?_,fun h2=>by omega,rfl⟩
  subst h;go_simp;intro h;omega
 ·refine ⟨⟨bl,o+1,none⟩,fun W=>?_,fun _=>rfl,rfl⟩
  go_simp;intro h;omega
def PQ:Value->Nat
 | .slice _ n _=>n
 | _=>0
def Ue (w:World) (b:Nat):Nat:=(9-(intOf ((w.cell? (b,5)).getD undef)).toNat)*20000000+PQ ((w.cell? (b,4)).getD undef)
theorem vv {bW:Nat} {cu cg at_:Int} {len cap h:Nat} {m:Bool} (t:eI w b bW cu cg at_ A len cap (h:Int) m):Ue w b=(9-h)*20000000+len:=by
 have h5:=Has.cell t 5;have h4:=Has.cell t 4;unfold Ue;rw[h5,h4];simp[intOf,PQ]
def ku (w:World) (R:jU×Int):Ending->World->Prop:=aO w (.tuple #[.agg (gX R.1).toArray,R.2])
theorem ku.mk {w0:World} {b8:Nat} {R:jU×Int} {d:jU} {e:Int} (hE:Ext w w0) (hb:w.heap.size<=b8) (O:Only [b8] w0 w') (h:R=(d,e)):ku w R (.returned (.tuple #[.agg (gX d).toArray,e])) w':=by
 subst h;exact⟨rfl,O.after hE (fun x hx=>by rw[ax]at hx;omega)⟩
theorem Hx (B:Nat) (g:dL) (S:ag) (cu cg:Int) (p0:List UInt8) (gh:Bool) (w:World) (h:eL w B g S) (T:eB c S) (hc:c<=1000000) (hp0:p0.length<=1000000) :
  Calls prog 155 #[((),g.bW),.agg #[cu,cg],bs p0,.bool gh] w (ku w (fq S cu cg p0 gh)):=by
 obtain⟨W0,aJ⟩:=ai ((w.alloc (.cells #[cu,cg] 27)).alloc (.cells #[(),.string ⟨#[]⟩,(),.bool false] 82));obtain⟨b5,fu⟩:=ai w.heap.size;obtain⟨b8,gH⟩:=ai (w.heap.size+1);have E0:Ext w W0:=by rw[aJ];exact ((Ext.refl _).alloc _).alloc _
 have F0:Has W0 b8 (.cells (gX cF).toArray 82):=by rw[aJ,gH];have:=Has.new (w.alloc (.cells #[cu,cg] 27)) (.cells #[(),.string ⟨#[]⟩,(),.bool false] 82);rw[bi]at this;exact this
 have C0:Has W0 b5 (.cells #[cu,cg] 27):=by rw[aJ,fu];exact (Has.new w _).alloc _
 have pN:w.heap.size<=b8:=by omega
 obtain⟨R,hR⟩:=ai (fq S cu cg p0 gh);rw[<-hR];have HR:=zH hR;obtain⟨q,hq⟩:=ai (mH p0);have HQ:=zH hq;have l8:((S.ae.length:Int) == 0)=false:=by have:=T.ae;simpa using (show ¬(S.ae.length:Int)=0 by omega)
 clear hR;go_in;go_upto_region 1 with fail;rw[<-aJ,<-fu];rw[show b5+1=b8 by omega];clear aJ fu gH;refine wp_scope_straight ?_;go_wp2_with fail;refine (mY B g S _ (h.ext E0) T.ae).mono ?_;rintro e w1 ⟨rfl,b1⟩;go_wp2_with fail;refine (PL p0 _ hp0).mono ?_;rw[<-hq];rintro e w2 ⟨rfl,b2⟩;have E2:=(E0.trans b1).trans b2;have F2:=(F0.ext b1).ext b2;have C2:=(C0.ext b1).ext b2;clear hq F0 C0 E0 b1 b2 l8
 by_cases yq:q=0
 case neg =>
  have t0:(q == 0)=false:=by simpa using yq
  have nK:(q != 0)=true:=by simpa using yq
  have e1:Hid (R=(cF,q)):=by show _=_;rw[HR.o,HQ.o];unfold fq;rw[ac (by rw[<-HQ.o];exact yq)]
  clear yq;go_wp2_with (refine cX rfl _ _ rfl b8 cF cF rfl rfl F2 ?_;intro w9 R9 O9);refine aT (v:=.tuple #[.agg (gX cF).toArray,q]) (dk results155 _ _ b8 cF _ rfl rfl R9) rfl ?_;exact ku.mk E2 pN O9 e1.o
 have t0:(q == 0)=true:=by simpa using yq
 have nK:(q != 0)=false:=by simpa using yq
 have xZ:Hid (R=dY S cu cg gh 1 (bX p0) 0 (gM p0)):=by show _=_;rw[HR.o];unfold fq;rw[af (by rw[<-HQ.o];exact yq)]
 have Uf:Hid (∀p∈bX p0,p.length<=1100000):=by show ∀p∈_,_;intro p hp;have:=vu hp;omega
 have hpl:=ng p0;clear HR HQ yq;go_upto_region 6 with fail;have X0:=C2.cell 0;have X1:=C2.cell 1;have Xz:=C2.lt;have cA:Ext w2 w2.drew:=(Ext.refl _).drew;have dp:Ext w2 (w2.drew.alloc (.cells #[bs p0] 9)):=cA.alloc _;have KS:Hid (∀w',Ext w2 w'->w'.cell? (b5,0)=some (.int .i64 cu)/\w'.cell? (b5,1)=some (.int .i64 cg)):=fun w' h=>⟨(h.cell Xz).trans X0,(h.cell Xz).trans X1⟩
 go_region_held3 (fun w'=>w'.cell? (b5,0)=some (.int .i64 cu)/\w'.cell? (b5,1)=some (.int .i64 cg))
  ((first|exact KS.o _ cA|exact KS.o _ dp|exact KS.o _ qg|exact KS.o _ Wk|exact KS.o _ (Wk.alloc _)))
  ((first|(go_at_call 187;refine (Bc p0 _).mono ?_;rintro e wp ⟨rfl,rfl⟩)|(go_at_call 186;refine (xX _ p0 (by omega) _ (by simp) ((Has.new _ _).cell 0)).mono ?_;rintro e wk ⟨v3,rfl,mE,bk3⟩;have qg:=dp.trans bk3;obtain⟨A3,c3,rfl,Lf,aaV,Ug,aaW⟩:=lJ.at_ mE)|(go_at_call 188;refine (Bb p0 _ (by omega)).mono ?_;rintro e w4 ⟨rfl,bs4⟩;have Wk:=qg.trans bs4)))
 obtain⟨W5,kT⟩:=ai (w4.alloc (.cells #[((),g.bW),cu,cg,.int .i64 1,.slice A3 (bX p0).length c3,(),.bool (gM p0)] 255));obtain⟨b,hb⟩:=ai w4.heap.size;have T5:eI W5 b g.bW cu cg 1 A3 (bX p0).length c3 0 (gM p0):=by rw[kT,hb];exact Has.new _ _
 have We:Ext w4 W5:=by rw[kT];exact (Ext.refl _).alloc _
 have E5:Ext w W5:=(E2.trans Wk).trans We;have F5:=(F2.ext Wk).ext We;have acC:=(Ug.ext bs4).ext We;have acD:Off A3 b:=fun x hx=>by
  have:=(ry mE x.block (by rw[hx];rfl)).2;have:=bs4.size;omega
 have qY:w.heap.size<=b:=by have:=(E2.trans Wk).size;omega
 rw[<-kT,<-hb];have Fp:Hid ((bX p0).length<=1050000):=by show _<=_;omega
 obtain⟨l0,l8⟩:=ai (bX p0);obtain⟨m0,hm0⟩:=ai (gM p0);rw[<-l8]at T5 acC xZ Uf Fp Lf;rw[<-hm0]at T5 xZ;have aaX:=zH Lf;clear kT hb X0 X1 Xz cA dp KS qg Wk Lf aaV Ug mE bk3 bs4 We E2 F2 C2 hpl l8 hm0 t0 nK;go_wp2_with fail;refine wp_label ?_;go_wp2_with fail;go_loopw [] (fun wr=>∃(at_:Int) (l:List (List UInt8)) (h:Nat) (m:Bool) (A:Option Addr) (cap:Nat),eI wr b g.bW cu cg at_ A l.length cap (h:Int) m/\kB wr A l/\(A=none->cap=0)/\l.length<=cap/\Off A b/\Hid (∀p∈l,p.length<=1100000)/\l.length<=1050000*(h+1)/\h<=8/\Hid (R=dY S cu cg gh at_ l h m)/\Has wr b8 (.cells (gX cF).toArray 82)/\Ext w wr) (fun wr=>Ue wr b)
 case atStart=>exact⟨1,l0,0,m0,A3,c3,T5,acC,aaW,aaX.o,acD,Uf,by have:=Fp.o;omega,by decide,xZ,F5,E5⟩
 case round =>
  obtain⟨at_,l,hp,m,A,cap,Tr,hat,hA0,hlc,hoff,HL,M8,hh8,HR,Fr,Er⟩:=hrel;have T4:=Has.cell Tr 4;have Tz:=Has.lt Tr;have hMr:=zH (vv Tr);have tJ:b≠b8:=iL Tr Fr (by decide)
  cases l with
  | nil =>
   have e1:Hid (R=(⟨0,[],at_,true⟩,0)):=by show _=_;rw[HR.o,vq]
   have T3:=Has.cell Tr 3;clear HR;go_wp2_with (refine cX rfl _ _ rfl b8 cF ⟨0,[],at_,true⟩ rfl rfl Fr ?_;intro w9 R9 O9);refine aT (v:=.tuple #[.agg (gX ⟨0,[],at_,true⟩).toArray,()]) (dk results155 _ _ b8 ⟨0,[],at_,true⟩ _ rfl rfl R9) rfl ?_;exact ku.mk Er pN O9 e1.o
  | cons p l =>
   obtain ⟨bl,o,rfl,oV,hcl⟩:∃bl o,A=some ⟨bl,o,none⟩/\bl<wr.heap.size/\∀k,(h:k<(p::l).length)->wr.cell? ⟨bl,o+k,none⟩=some (.string (bs (p::l)[k])):=by
    rcases hat with h0|h0
    ·cases h0
    ·exact h0
   obtain⟨n,hn⟩:=ai ((p::l).length);have nE:n=l.length+1:=by rw[hn];rfl
   have hc0:wr.cell? (bl,o)=some (.string (bs p)):=hcl 0 (by simp);obtain⟨X,CU,hX,hXb⟩:=Bf bl o n l.length cap nE (by omega);have hne:bl≠b:=hoff _ rfl;have hpl:p.length<=1100000:=HL.o p (bY ..);obtain⟨W1,cA⟩:=ai (wr.setCell (b,4) (.slice (some X) l.length (cap-1)));have O1:Only [b] wr W1:=by rw[cA];exact Only.setCell _ _ _ _
   have T1:eI W1 b g.bW cu cg at_ (some X) l.length (cap-1) (hp:Int) m:=by rw[cA];exact Has.setCell Tr 4 (.slice (some X) l.length (cap-1))
   have Fm:kB W1 (some X) l:=by
    by_cases l8:l=[]
    ·exact .inl l8
    ·have hpos:0<l.length:=Jz.2 l8
     rw[hX hpos];refine .inr ⟨bl,o+1,rfl,by have:=O1.size;omega,fun k hk=>?_⟩;have h1:=hcl (k+1) (by simp;omega);have e:W1.heap[bl]?=wr.heap[bl]?:=O1.block bl oV (by rw[ax];exact hne);rw[show o+1+k=o+(k+1) by omega];have e2:W1.cell? ⟨bl,o+(k+1),none⟩=wr.cell? ⟨bl,o+(k+1),none⟩:=by simp[World.cell?,e]
     rw[e2];exact h1
   have ZH:Off (some X) b:=fun x hx=>by cases hx;rw[hXb];exact hne
   have F1:=O1.has Fr (by rw[ax];exact dA tJ);have E1:Ext w W1:=O1.after Er (fun x hx=>by rw[ax]at hx;omega);have HLC:=zH (show l.length<=cap-1 by omega);have yt:=zH (show l.length+1<=1050000*(hp+1) by omega);have HLP:Hid (∀q∈l,q.length<=1100000):=by show ∀q∈l,_;intro q hq;exact HL.o q (cf _ hq)
   have F4:=Has.free Tr 4;have q0:(0:Int)<(n:Int):=by omega
   rw[<-hn]at T4;obtain⟨lb,hlb⟩:=ai l.isEmpty;have tl:((l.length:Int) == 0)=lb:=by rw[hlb];cases l<;>simp<;>omega
   have Lg:=zH hlb;have T4b:=Has.cell T1 4;clear hat hcl hX hXb hlc M8 HL hoff hA0 hlb nE hn;go_upto_region 11 with fail;rw[<-cA];have K1:=h.ext E1;have HW1:=zH cA;have Hy:=zH ZH;clear cA T4 T4b F4 tl CU hc0 Tz Tr Fr q0 ZH hne;have tl:((l.length:Int) == 0)=lb:=by rw[Lg.o];cases l<;>simp<;>omega
   go_wp2_with fail;refine (PN B g S b cu cg at_ (some X) l.length (cap-1) hp m p _ K1 T hc T1 (by omega)).mono ?_;rintro e w2' ⟨rfl,b2⟩;obtain⟨x,hx⟩:=ai (fO S cu cg at_ p);obtain⟨z,hz⟩:∃z,z=if x=0 then stepG S at_ p else 0:=⟨_,rfl⟩
   rw[<-hx];rw[<-hz];have HX:=zH hx;have HZ:=zH hz;have K2:=K1.ext b2;obtain⟨_,_,cd,h3,_⟩:=id K2;have v0:=aA h3 0 rfl;have vz:=h3.lt;have T2:=eI.ext T1 b2;have F2:=F1.ext b2;have E2:=E1.trans b2;clear hx hz h3 T1 F1 E1 K1;go_wp2_with fail;refine (fW B g.bT g.bM S.nodes S.last z _ K2.2.1).mono ?_;rintro e w3 ⟨A4,c4,rfl,tO,b3⟩;obtain⟨nd,hnd⟩:=ai (aa S.nodes z);obtain⟨is,Wl⟩:=ai (aW S.nodes z);rw[<-hnd]at tO;rw[<-hnd,<-Wl];have Wm:=zH hnd;have HIS:=zH Wl;obtain⟨W4,gb⟩:=ai (w3.alloc (.cells (nd,A4,c4) 66));obtain⟨b16,aaY⟩:=ai w3.heap.size;have yM:Ext w3 W4:=by rw[gb];exact (Ext.refl _).alloc _
   have N4:Has W4 b16 (.cells (nd,A4,c4) 66):=by rw[gb,aaY];exact Has.new _ _
   have K4:=(K2.ext b3).ext yM;have T4:=eI.ext (eI.ext T2 b3) yM;have F4:=(F2.ext b3).ext yM;have E4:=(E2.trans b3).trans yM;have Lh:=((Fm.ext b2).ext b3).ext yM;clear hnd Wl v0 vz T2 F2 E2 K2 Fm tO;go_upto_region 13 with fail;rw[<-gb,<-aaY];clear gb aaY b2 b3 yM O1
   by_cases aX:x=0
   case neg =>
    have t0:(x == 0)=false:=by simpa using aX
    have nK:(x != 0)=true:=by simpa using aX
    have e1:Hid (R=(cF,x)):=by show _=_;rw[HR.o,vr (by rw[<-HX.o];exact aX),HX.o]
    clear aX HR;go_wp2_with (refine cX rfl _ _ rfl b8 cF cF rfl rfl F4 ?_;intro w9 R9 O9);refine aT (v:=.tuple #[.agg (gX cF).toArray,x]) (dk results155 _ _ b8 cF _ rfl rfl R9) rfl ?_;exact ku.mk E4 pN O9 e1.o
   have t0:(x == 0)=true:=by simpa using aX
   have nK:(x != 0)=false:=by simpa using aX
   have yl:Hid (fO S cu cg at_ p=0):=by show _=_;rw[<-HX.o];exact aX
   have HZ2:Hid (z=stepG S at_ p):=by show _=_;rw[HZ.o,af aX]
   obtain⟨XP,Wn⟩:=ai (bs p);have tX:(XP.toList == [46,46])=(p == [46,46]):=by rw[Wn];exact jD.2.2.1
   have HXP:=zH Wn;rw[<-Wn];clear aX HZ HX Wn
   by_cases c2:p=[46,46]
   ·have t2:(XP.toList == [46,46])=true:=by rw[tX,c2];rfl
    have hz2:z=aC S at_:=by rw[HZ2.o];unfold stepG;rw[af c2]
    have xZ:Hid (R=dY S cu cg gh z l hp m):=by show _=_;rw[HR.o,Nb yl.o c2,hz2]
    have c3:=Has.cell T4 3;have f3:=Has.free T4 3;have cz:=Has.lt T4;clear tX c2 hz2 HR;go_wp2_with fail;have O9:Only [b] W4 (W4.setCell (b,3) (.int .i64 z)):=Only.setCell _ _ _ _;have T9:eI (W4.setCell (b,3) (.int .i64 z)) b g.bW cu cg z (some X) l.length (cap-1) (hp:Int) m:=Has.setCell T4 3 (.int .i64 z);go_roundw
    case rel=>exact⟨z,l,hp,m,some X,cap-1,T9,Lh.only O9 Hy.o,by simp,HLC.o,Hy.o,HLP,by have:=yt.o;omega,hh8,xZ,O9.has F4 (by rw[ax];exact dA tJ),O9.after E4 (fun x hx=>by rw[ax]at hx;omega)⟩
    case measure=>rw[vv T9,hMr.o];simp
   have t2:(XP.toList == [46,46])=false:=by rw[tX];simpa using c2
   have qw:=zH c2;have Hz:Hid (z=cv S at_ p):=by show _=_;rw[HZ2.o];unfold stepG;rw[ac c2]
   clear tX c2 HZ2;have c3:=Has.cell T4 3;have c6:=Has.cell T4 6;have cz:=Has.lt T4
   cases is with
   | false =>
    have HI:Hid (aW S.nodes (cv S at_ p)=false):=by show _=_;rw[<-Hz.o];exact HIS.o.symm
    cases lb with
    | true =>
     have e1:Hid (R=(⟨at_,p,0,m⟩,0)):=by
      show _=_;rw[HR.o,Dl yl.o qw.o HI.o];have:=Lg.o
      cases l with
      | nil=>rfl
      | cons a l=>cases this
     clear HR;have ED:Ext W4 W4.drew:=(Ext.refl _).drew;have FD:=F4.ext ED;go_upto_region 18 with fail;rw[HXP.o];go_still_tail 10,(by kernel_rfl);change wpList _ _ _ _ _ W4.drew;go_wp2_with (refine cX rfl _ _ rfl b8 cF ⟨at_,p,0,m⟩ rfl rfl FD ?_;intro w9 R9 O9);refine aT (v:=.tuple #[.agg (gX ⟨at_,p,0,m⟩).toArray,()]) (dk results155 _ _ b8 ⟨at_,p,0,m⟩ _ rfl rfl R9) rfl ?_;exact ku.mk (E4.trans ED) pN O9 e1.o
    | false =>
     have e1:Hid (R=(cF,5)):=by
      show _=_;rw[HR.o,Dm yl.o qw.o HI.o];rintro rfl
      cases Lg.o
     clear HR;go_wp2_with (refine cX rfl _ _ rfl b8 cF cF rfl rfl F4 ?_;intro w9 R9 O9);refine aT (v:=.tuple #[.agg (gX cF).toArray,.int .i64 5]) (dk results155 _ _ b8 cF _ rfl rfl R9) rfl ?_;exact ku.mk E4 pN O9 e1.o
   | true =>
    have HI:Hid (aW S.nodes (cv S at_ p)=true):=by show _=_;rw[<-Hz.o];exact HIS.o.symm
    obtain⟨k3,qg⟩:∃k:Bool,k=(nd.kind == 3):=⟨_,rfl⟩;obtain⟨k1,mq⟩:∃k:Bool,k=(nd.kind != 1):=⟨_,rfl⟩;have t3:=qg.symm;have t1:=mq.symm;have PR:=zH qg;have Rn:=zH mq;have y2:=aA N4 2 rfl;have pY:=aA N4 10 rfl;have yz:=N4.lt;obtain⟨bv,hbv⟩:∃bv:Bool,bv=(k3&&(!lb || (m || gh))):=⟨_,rfl⟩;have Fq:=zH hbv;clear qg mq hbv;go_upto_region 21 with fail;go_cut [111] (fun v wc=>v=.bool bv/\wc=W4)
    case first =>
     have hb:Hid (bv=(k3&&(!lb || (m || gh)))):=Fq
     cases k3
     ·have e:Hid (bv=false):=by show _=_;rw[hb.o];rfl
      clear Fq hb;go_wp2_with fail;go_meet;exact⟨by rw[e.o],rfl⟩
     ·cases lb
      ·have e:Hid (bv=true):=by show _=_;rw[hb.o];rfl
       clear Fq hb;go_wp2_with fail;go_meet;exact⟨by rw[e.o],rfl⟩
      ·cases m
       ·cases gh
        ·have e:Hid (bv=false):=by show _=_;rw[hb.o];rfl
         clear Fq hb;go_wp2_with fail;go_meet;exact⟨by rw[e.o],rfl⟩
        ·have e:Hid (bv=true):=by show _=_;rw[hb.o];rfl
         clear Fq hb;go_wp2_with fail;go_meet;exact⟨by rw[e.o],rfl⟩
       ·have e:Hid (bv=true):=by show _=_;rw[hb.o];rfl
        clear Fq hb;go_wp2_with fail;go_meet;exact⟨by rw[e.o],rfl⟩
    case rest =>
     obtain⟨rfl,hwc⟩:=hcut;obtain rfl:W4=wc:=hwc.symm
     cases bv with
     | true =>
      have qZ : k3=true/\(l≠[]\/m=true\/gh=true):=by
       have:=Fq.o
       cases k3
       ·cases this
       ·refine ⟨rfl,?_⟩
        cases hm:m
        ·cases hf:gh
         ·left
          rintro rfl;rw[hm,hf,Lg.o]at this
          cases this
         ·exact .inr (.inr rfl)
        ·exact .inr (.inl rfl)
      have HK:Hid ((aa S.nodes (cv S at_ p)).kind=3):=by
       show _=_;have h2:=qZ.1;rw[PR.o,Wm.o,Hz.o]at h2;simpa using h2
      have HOR:=zH qZ.2;have HD:Hid (nd.data=(aa S.nodes (cv S at_ p)).data):=by show _=_;rw[Wm.o,Hz.o]
      have mP:nd.data.length<=1048576:=by
       rw[HD.o];exact (T.on _ (ap HI.o).2.2).2
      obtain⟨fe,Wo⟩:=ai (Be hp nd.data);have XR:=zH Wo;have J7:=zH mP;clear qZ Wo mP t3 t1;go_wp2_with fail;refine (Hw b g.bW cu cg at_ (some X) (cap-1) hp m l nd.data _ T4 Lh (by simp) Hy.o (by have:=yt.o;omega) J7.o hh8).mono ?_;rintro e w5 ⟨O5,rfl,acE⟩;have aeA:=zH acE;have F5:=O5.has F4 (by rw[ax];exact dA tJ);have E5:=O5.after E4 (fun x hx=>by rw[ax]at hx;omega);rw[<-XR.o];clear acE c3 c6 cz y2 pY yz
      by_cases Ro:fe=0
      case neg =>
       have t4:(fe == 0)=false:=by simpa using Ro
       have t4b:(fe != 0)=true:=by simpa using Ro
       have e1 : Hid (R=(cF,fe)):=by
        show _=_;have h1:=XR.o;unfold Be at h1
        by_cases h8:8<hp+1
        ·rw [af h8]at h1
         rw[HR.o,Dn yl.o qw.o HI.o HK.o HOR.o h8,h1]
        ·rw [ac h8]at h1
         by_cases h9:nd.data=[]
         ·rw [af h9]at h1
          rw[HR.o,Bd yl.o qw.o HI.o HK.o HOR.o h8 (by rw[<-HD.o];exact h9),h1]
         ·rw [ac h9]at h1
          exact absurd h1 Ro
       clear Ro HR;go_wp2_with (refine cX rfl _ _ rfl b8 cF cF rfl rfl F5 ?_;intro w9 R9 O9);refine aT (v:=.tuple #[.agg (gX cF).toArray,fe]) (dk results155 _ _ b8 cF _ rfl rfl R9) rfl ?_;exact ku.mk E5 pN O9 e1.o
      have t4:(fe == 0)=true:=by simpa using Ro
      have t4b:(fe != 0)=false:=by simpa using Ro
      have h80:¬8<hp+1/\nd.data≠[]:=by
       have h1:=XR.o;rw[Ro]at h1;unfold Be at h1
       by_cases h8:8<hp+1
       ·rw[af h8]at h1;cases h1
       ·rw [ac h8]at h1
        refine⟨h8,fun h9=>?_⟩;rw[af h9]at h1;cases h1
      obtain ⟨A9,c9,T9,aaU,hA9,Nd,acF⟩:=aeA.o (by rw[<-XR.o];exact Ro);have xZ:Hid (R=dY S cu cg gh (if nd.data.head?=some 47 then 1 else at_) (bX nd.data++l) (hp+1) (m || (l.isEmpty&&gM nd.data))):=by
       show _=_;rw[HR.o,Do yl.o qw.o HI.o HK.o HOR.o h80.1 (by rw[<-HD.o];exact h80.2),HD.o]
      have Rp:Hid ((bX nd.data++l).length<=1050000*(hp+1+1)):=by
       show _<=_;have:=ng nd.data;have:=J7.o;have:=yt.o;rw[aZ];omega
      have aaZ:Hid (∀q∈bX nd.data++l,q.length<=1100000):=by
       show ∀q∈_,_;intro q hq;rcases dn.1 hq with hq|hq
       ·have:=vu hq
        have:=J7.o;omega
       ·exact HLP.o q hq
      have H8:=zH (show hp+1<=8 by omega);have HLE:=zH acF;clear Ro h80 HR acF;go_wp2_with fail;go_roundw
      case rel=>exact⟨_,_,hp+1,_,A9,c9,T9,aaU,hA9,HLE.o,Nd,aaZ,Rp.o,H8.o,xZ,F5,E5⟩
      case measure =>
       rw[vv T9,hMr.o];have:=Rp.o;have:=H8.o;omega
     | false =>
      have ZI:Hid (¬((aa S.nodes (cv S at_ p)).kind=3/\(l≠[]\/m=true\/gh=true))):=by
       show ¬_;rintro ⟨h1,h2⟩;have h3:k3=true:=by rw[PR.o,Wm.o,Hz.o];simpa using h1
       have:=Fq.o;rw[h3]at this;rcases h2 with h2|h2|h2
       ·have h4:lb=false:=by
         rw[Lg.o]
         cases l with
         | nil=>exact absurd rfl h2
         | cons a l=>rfl
        rw[h4]at this;cases this
       ·rw[h2]at this;cases lb<;>cases this
       ·rw[h2]at this;cases lb<;>cases m<;>cases this
      obtain⟨bw,PT⟩:∃bw:Bool,bw=(k1&&(!lb || m)):=⟨_,rfl⟩;have Cm:=zH PT;clear PT Fq PR t3;go_upto_region 25 with fail;go_cut [136] (fun v wc=>v=.bool bw/\wc=W4)
      case first =>
       have hb:=Cm
       cases k1
       ·have e:Hid (bw=false):=by show _=_;rw[hb.o];rfl
        clear Cm hb;go_wp2_with fail;go_meet;exact⟨by rw[e.o],rfl⟩
       ·cases lb
        ·have e:Hid (bw=true):=by show _=_;rw[hb.o];rfl
         clear Cm hb;go_wp2_with fail;go_meet;exact⟨by rw[e.o],rfl⟩
        ·cases m
         ·have e:Hid (bw=false):=by show _=_;rw[hb.o];rfl
          clear Cm hb;go_wp2_with fail;go_meet;exact⟨by rw[e.o],rfl⟩
         ·have e:Hid (bw=true):=by show _=_;rw[hb.o];rfl
          clear Cm hb;go_wp2_with fail;go_meet;exact⟨by rw[e.o],rfl⟩
      case rest =>
       obtain⟨rfl,hwc⟩:=hcut;obtain rfl:W4=wc:=hwc.symm;have hK1:k1=true↔(aa S.nodes (cv S at_ p)).kind≠1:=by rw[Rn.o,Wm.o,Hz.o];simp
       have hLB:lb=false↔l≠[]:=by
        rw[Lg.o]
        cases l<;>simp
       have HKK:=zH hK1;have H7:=zH hLB;clear hK1 hLB t1
       cases bw with
       | true =>
        have e1:Hid (R=(cF,9)):=by
         show _=_;have h1:=Cm.o;have hk:k1=true:=by cases k1<;>simp at h1|-
         rw[hk]at h1;rw[HR.o,Dp yl.o qw.o HI.o ZI.o (HKK.o.1 hk)]
         cases hlb:lb
         ·exact .inl (H7.o.1 hlb)
         ·rw [hlb]at h1
          cases hm:m
          ·rw[hm]at h1;cases h1
          ·exact .inr rfl
        clear HR Cm T4 Lh HKK H7 ZI y2 pY yz c3 c6 cz N4 tl t0 nK t2 HIS Wm;have z0:=F4.cell 0;have z1:=F4.cell 1;have z2:=F4.cell 2;have z3:=F4.cell 3;have Wp:=Has.free F4 0;have Wq:=Has.free F4 1;have Wr:=Has.free F4 2;have Ws:=Has.free F4 3;have zz:=F4.lt;obtain⟨R9,O9⟩:=gO cF F4;go_upto_region 26 with fail
        iterate 16 (first|go_values|go_skip|go_guarded|go_step|go_upon|go_in)
        refine aT (v:=.tuple #[.agg (gX cF).toArray,.int .i64 9]) (dk results155 _ _ b8 cF _ rfl rfl R9) rfl ?_;exact ku.mk E4 pN O9 e1.o
       | false =>
        have ME:Hid (¬((aa S.nodes (cv S at_ p)).kind≠1/\(l≠[]\/m=true))):=by
         show ¬_;rintro ⟨h1,h2⟩;have h3:=Cm.o;rw[HKK.o.2 h1]at h3;rcases h2 with h2|h2
         ·rw[H7.o.2 h2]at h3;cases h3
         ·rw[h2]at h3;cases lb<;>cases h3
        clear Cm
        cases lb with
        | true =>
         have l8:l=[]:=by
          have:=Lg.o
          cases l with
          | nil=>rfl
          | cons a l=>cases this
         have e1:Hid (R=(⟨at_,p,z,m⟩,0)):=by
          show _=_;rw[HR.o,Dq yl.o qw.o HI.o ZI.o ME.o l8,Hz.o]
         clear HR l8 y2 pY yz;have ED:Ext W4 W4.drew:=(Ext.refl _).drew;have FD:=F4.ext ED;go_upto_region 28 with fail;rw[HXP.o];go_still_tail 11,(by kernel_rfl);change wpList _ _ _ _ _ W4.drew;have z0:=F4.cell 0;have z1:=F4.cell 1;have z2:=F4.cell 2;have z3:=F4.cell 3;have Wp:=Has.free F4 0;have Wq:=Has.free F4 1;have Wr:=Has.free F4 2;have Ws:=Has.free F4 3;have zz:=F4.lt;obtain⟨R9,O9⟩:=gO (⟨at_,p,z,m⟩:jU) FD
         iterate 12 (first|go_values|go_skip|go_guarded|go_step|go_upon|go_back)
         refine aT (v:=.tuple #[.agg (gX ⟨at_,p,z,m⟩).toArray,()]) (dk results155 _ _ b8 ⟨at_,p,z,m⟩ _ rfl rfl R9) rfl ?_;exact ku.mk (E4.trans ED) pN O9 e1.o
        | false =>
         have xZ:Hid (R=dY S cu cg gh z l hp m):=by
          show _=_;rw[HR.o,Dr yl.o qw.o HI.o ZI.o ME.o (H7.o.1 rfl),Hz.o]
         have f3:=Has.free T4 3;clear HR y2 pY yz c6;go_wp2_with fail;have O9:Only [b] W4 (W4.setCell (b,3) (.int .i64 z)):=Only.setCell _ _ _ _;have T9:eI (W4.setCell (b,3) (.int .i64 z)) b g.bW cu cg z (some X) l.length (cap-1) (hp:Int) m:=Has.setCell T4 3 (.int .i64 z);go_roundw
         case rel=>exact⟨z,l,hp,m,some X,cap-1,T9,Lh.only O9 Hy.o,by simp,HLC.o,Hy.o,HLP,by have:=yt.o;omega,hh8,xZ,O9.has F4 (by rw[ax];exact dA tJ),O9.after E4 (fun x hx=>by rw[ax]at hx;omega)⟩
         case measure=>rw[vv T9,hMr.o];simp
theorem x_ (B:Nat) (g:cI) (S:ag) (X0:cY) (cu cg:Int) (p0:List UInt8) (gh:Bool) (w:World) (h:gv w B g S X0) (T:eB c S) (hc:c<=1000000) (hl:S.last<=100000) (hp0:p0.length<=1000000) :
  Calls prog 40 #[((),g.bF),.agg #[cu,cg],bs p0,.bool gh] w (ku w (fq S cu cg p0 gh)):=by
 obtain⟨W0,aJ⟩:=ai ((w.alloc (.cells #[cu,cg] 27)).alloc (.cells #[(),.string ⟨#[]⟩,(),.bool false] 82));obtain⟨b5,fu⟩:=ai w.heap.size;obtain⟨b8,gH⟩:=ai (w.heap.size+1);have E0:Ext w W0:=by rw[aJ];exact ((Ext.refl _).alloc _).alloc _
 have F0:Has W0 b8 (.cells (gX cF).toArray 82):=by rw[aJ,gH];have:=Has.new (w.alloc (.cells #[cu,cg] 27)) (.cells #[(),.string ⟨#[]⟩,(),.bool false] 82);rw[bi]at this;exact this
 have C0:Has W0 b5 (.cells #[cu,cg] 27):=by rw[aJ,fu];exact (Has.new w _).alloc _
 have pN:w.heap.size<=b8:=by omega
 have aa0:S.nodes.length<=1000000:=by have:=T.count;omega
 obtain⟨R,hR⟩:=ai (fq S cu cg p0 gh);rw[<-hR];have HR:=zH hR;obtain⟨q,hq⟩:=ai (mH p0);have HQ:=zH hq;clear hR;go_in;go_upto_region 1 with fail;rw[<-aJ,<-fu];rw[show b5+1=b8 by omega];clear aJ fu gH;go_wp2_with fail;refine (PJ p0 _ hp0).mono ?_;rw[<-hq];rintro e w2 ⟨rfl,b2⟩;have E2:=E0.trans b2;have F2:=F0.ext b2;have C2:=C0.ext b2;clear hq F0 C0 E0 b2
 by_cases yq:q=0
 case neg =>
  have t0:(q == 0)=false:=by simpa using yq
  have nK:(q != 0)=true:=by simpa using yq
  have e1:Hid (R=(cF,q)):=by show _=_;rw[HR.o,HQ.o];unfold fq;rw[ac (by rw[<-HQ.o];exact yq)]
  clear yq;go_wp2_with (refine cX rfl _ _ rfl b8 cF cF rfl rfl F2 ?_;intro w9 R9 O9);refine aT (v:=.tuple #[.agg (gX cF).toArray,q]) (dk results40 _ _ b8 cF _ rfl rfl R9) rfl ?_;exact ku.mk E2 pN O9 e1.o
 have t0:(q == 0)=true:=by simpa using yq
 have nK:(q != 0)=false:=by simpa using yq
 have xZ:Hid (R=dY S cu cg gh 1 (bX p0) 0 (gM p0)):=by show _=_;rw[HR.o];unfold fq;rw[af (by rw[<-HQ.o];exact yq)]
 have Uf:Hid (∀p∈bX p0,p.length<=1100000):=by show ∀p∈_,_;intro p hp;have:=vu hp;omega
 have Fp:Hid ((bX p0).length<=1050000):=by show _<=_;have:=ng p0;omega
 clear HR HQ yq;go_wp2_with fail;refine (AZ p0 _ (by omega)).mono ?_;rintro e w3 ⟨v3,rfl,mE,b3⟩;obtain⟨A3,c3,rfl,Lf,aaV,Ug,aaW⟩:=lJ.at_ mE;go_wp2_with fail;refine (A_ p0 _ (by omega)).mono ?_;rintro e w4 ⟨rfl,b4⟩;have E4:=(E2.trans b3).trans b4;have F4:=(F2.ext b3).ext b4;have C4:=(C2.ext b3).ext b4;have Lh:=Ug.ext b4;obtain⟨l0,l8⟩:=ai (bX p0);obtain⟨m0,hm0⟩:=ai (gM p0);rw[<-l8]at Lh xZ Uf Fp Lf;rw[<-hm0]at xZ;rw[<-l8,<-hm0];have aaX:=zH Lf;clear Lf aaV Ug mE b3 b4 E2 F2 C2 l8 hm0 t0 nK;go_wp2_with fail;go_loopw [11,12,13,14] (fun v11 v12 v13 v14 wr=>∃(at_:Int) (l:List (List UInt8)) (h:Nat) (m:Bool) (A:Option Addr) (cap:Nat),v11=.slice A l.length cap/\v12=.bool m/\v13=.int .i64 at_/\v14=.int .i64 (h:Int)/\kB wr A l/\(A=none->cap=0)/\l.length<=cap/\Hid (∀p∈l,p.length<=1100000)/\l.length<=1050000*(h+1)/\h<=8/\Hid (R=dY S cu cg gh at_ l h m)/\Has wr b8 (.cells (gX cF).toArray 82)/\Has wr b5 (.cells #[cu,cg] 27)/\Ext w wr) (fun v11 _ _ v14 _=>(9-(intOf v14).toNat)*20000000+PQ v11)
 case atStart=>exact⟨1,l0,0,m0,A3,c3,rfl,rfl,rfl,rfl,Lh,aaW,aaX.o,Uf,by have:=Fp.o;omega,by decide,xZ,F4,C4,E4⟩
 case round =>
  obtain⟨at_,l,hp,m,A,cap,rfl,rfl,rfl,rfl,hat,hA0,hlc,HL,M8,hh8,HR,Fr,Cr,Er⟩:=hrel
  cases l with
  | nil =>
   have e1:Hid (R=(⟨0,[],at_,true⟩,0)):=by show _=_;rw[HR.o,vq]
   clear HR;go_wp2_with (refine cX rfl _ _ rfl b8 cF ⟨0,[],at_,true⟩ rfl rfl Fr ?_;intro w9 R9 O9);refine aT (v:=.tuple #[.agg (gX ⟨0,[],at_,true⟩).toArray,()]) (dk results40 _ _ b8 ⟨0,[],at_,true⟩ _ rfl rfl R9) rfl ?_;exact ku.mk Er pN O9 e1.o
  | cons p l =>
   obtain ⟨bl,o,rfl,oV,hcl⟩:∃bl o,A=some ⟨bl,o,none⟩/\bl<wr.heap.size/\∀k,(h:k<(p::l).length)->wr.cell? ⟨bl,o+k,none⟩=some (.string (bs (p::l)[k])):=by
    rcases hat with h0|h0
    ·cases h0
    ·exact h0
   obtain⟨n,hn⟩:=ai ((p::l).length);have nE:n=l.length+1:=by rw[hn];rfl
   have hc0:wr.cell? (bl,o)=some (.string (bs p)):=hcl 0 (by simp);obtain⟨X,CU,hX,hXb⟩:=Bf bl o n l.length cap nE (by omega);have hpl:p.length<=1100000:=HL.o p (bY ..);have Fm:kB wr (some X) l:=by
    by_cases l8:l=[]
    ·exact .inl l8
    ·have hpos:0<l.length:=Jz.2 l8
     rw[hX hpos];refine .inr ⟨bl,o+1,rfl,oV,fun k hk=>?_⟩;have h1:=hcl (k+1) (by simp;omega);rw[show o+1+k=o+(k+1) by omega];exact h1
   have HLC:=zH (show l.length<=cap-1 by omega);have yt:=zH (show l.length+1<=1050000*(hp+1) by omega);have HLP:Hid (∀q∈l,q.length<=1100000):=by show ∀q∈l,_;intro q hq;exact HL.o q (cf _ hq)
   have q0:(0:Int)<(n:Int):=by omega
   obtain⟨lb,hlb⟩:=ai l.isEmpty;have tl:((n:Int) == 1)=lb:=by rw[hlb,nE];cases l<;>simp<;>omega
   have Lg:=zH hlb;rw[<-hn];have HMR:=zH (show (p::l).length=n from hn.symm);clear hat hcl hX hXb hlc M8 HL hA0 hlb nE hn;go_upto_region 8 with fail;clear CU hc0 q0 tl;go_wp2_with fail;refine (eE B g S X0 at_ _ (h.ext Er) aa0 T.bL).mono ?_;rintro e w5 ⟨A5,c5,rfl,EN,ra⟩;obtain⟨d,hd⟩:=ai (aa S.nodes at_);have hRR:jQ d.ah/\d.ah.length<=c:=by rw[hd];exact T.aa at_
   have FQ:=zH hRR;rw[<-hd]at EN;rw[<-hd];have HD:=zH hd;obtain⟨W6,tM⟩:=ai (w5.alloc (.cells (d,A5,c5) 66));obtain⟨b17,aa1⟩:=ai w5.heap.size;have E56:Ext w5 W6:=by rw[tM];exact (Ext.refl _).alloc _
   have D6:Has W6 b17 (.cells (d,A5,c5) 66):=by rw[tM,aa1];exact Has.new _ _
   have E6:=(Er.trans ra).trans E56;have F6:=(Fr.ext ra).ext E56;have C6:=(Cr.ext ra).ext E56;have SJ:=(Fm.ext ra).ext E56;have uj:=EN.ext E56;have hE:Hid (fO S cu cg at_ p=if d.kind≠1 then 9 else if fh cu cg d.uid d.gid d.mode 1=false then 6 else if p=[46,46] then 0 else if 255<p.length then 13 else 0):=by show _=_;rw[hd];rfl
   have k2:=aA D6 2 rfl;have kz:=D6.lt;clear hd hRR Fr Cr Er Fm EN;go_upto_region 9 with fail;rw[<-tM,<-aa1];clear tM aa1 ra E56
   by_cases q1:d.kind=1
   case neg =>
    have t1:(d.kind == 1)=false:=by simpa using q1
    have qo:(d.kind != 1)=true:=by simpa using q1
    have e0:fO S cu cg at_ p=9:=by rw[hE.o,af q1]
    have e1:Hid (R=(cF,9)):=by show _=_;rw[HR.o,vr (by rw[e0];decide),e0]
    clear q1 e0 HR;have z0:=F6.cell 0;have z1:=F6.cell 1;have z2:=F6.cell 2;have z3:=F6.cell 3;have Wp:=Has.free F6 0;have Wq:=Has.free F6 1;have Wr:=Has.free F6 2;have Ws:=Has.free F6 3;have zz:=F6.lt;obtain⟨R9,O9⟩:=gO (cF:jU) F6;go_upto_region 10 with fail
    iterate 15 (first|go_values|go_skip|go_guarded|go_step|go_upon|go_back)
    refine aT (v:=.tuple #[.agg (gX cF).toArray,.int .i64 9]) (dk results40 _ _ b8 cF _ rfl rfl R9) rfl ?_;exact ku.mk E6 pN O9 e1.o
   have t1:(d.kind == 1)=true:=by simpa using q1
   have qo:(d.kind != 1)=false:=by simpa using q1
   obtain⟨u,hu⟩:=ai (fh cu cg d.uid d.gid d.mode 1);have j0:Hid (fO S cu cg at_ p=if u=false then 6 else if p=[46,46] then 0 else if 255<p.length then 13 else 0):=by show _=_;rw[hE.o,ac (fun k=>k q1),hu]
   have HU:=zH hu;clear q1 hE hu;obtain⟨n0,n1,n2,n3,n4,n5,n6,n7,n8,n9,OZ,Kq⟩:=D6.da;have x0:=aA C6 0 rfl;have x1:=aA C6 1 rfl;have xz:=C6.lt;go_wp2_with fail;refine (pK cu cg _ _ _ d.mode d.uid d.gid _ _ _ _ _ _ 1 _).mono ?_;rw[<-HU.o];rintro e w7 ⟨rfl,b7⟩;have E7:=E6.trans b7;have F7:=F6.ext b7;have C7:=C6.ext b7;have D7:=D6.ext b7;have aa2:=SJ.ext b7;have wF:=uj.ext b7;clear n0 n1 n2 n3 n4 n5 n6 n7 n8 n9 OZ Kq x0 x1 xz k2 kz E6 F6 C6 D6 SJ uj b7
   cases u with
   | false =>
    have e0:fO S cu cg at_ p=6:=by rw[j0.o,af rfl]
    have e1:Hid (R=(cF,6)):=by show _=_;rw[HR.o,vr (by rw[e0];decide),e0]
    clear e0 HR;have z0:=F7.cell 0;have z1:=F7.cell 1;have z2:=F7.cell 2;have z3:=F7.cell 3;have Wp:=Has.free F7 0;have Wq:=Has.free F7 1;have Wr:=Has.free F7 2;have Ws:=Has.free F7 3;have zz:=F7.lt;obtain⟨R9,O9⟩:=gO (cF:jU) F7;go_upto_region 12 with fail
    iterate 15 (first|go_values|go_skip|go_guarded|go_step|go_upon|go_back)
    refine aT (v:=.tuple #[.agg (gX cF).toArray,.int .i64 6]) (dk results40 _ _ b8 cF _ rfl rfl R9) rfl ?_;exact ku.mk E7 pN O9 e1.o
   | true =>
    have yK:Hid (fO S cu cg at_ p=if p=[46,46] then 0 else if 255<p.length then 13 else 0):=by show _=_;rw[j0.o,ac (by decide)]
    obtain⟨XP,Wn⟩:=ai (bs p);have hlX:(XP.size:Int)=p.length:=by rw[Wn,bo]
    have tX:(XP.toList == [46,46])=(p == [46,46]):=by rw[Wn];exact jD.2.2.1
    have HXP:=zH Wn;rw[<-Wn];clear j0 Wn
    by_cases q2:p=[46,46]
    ·have t2:(XP.toList == [46,46])=true:=by rw[tX,q2];rfl
     have e0:fO S cu cg at_ p=0:=by rw[yK.o,af q2]
     have xZ:Hid (R=dY S cu cg gh (aC S at_) l hp m):=by show _=_;rw[HR.o,Nb e0 q2]
     clear tX q2 e0 HR hlX;go_wp2_with fail;refine (qp B g S X0 at_ _ (h.ext E7) aa0 T.eight T.roots T.bL).mono ?_;rintro e w8 ⟨rfl,MR⟩;obtain⟨z,hz⟩:=ai (aC S at_);rw[<-hz]at xZ;rw[<-hz];clear hz;have F8:=F7.ext MR;have C8:=C7.ext MR;have Ff:=aa2.ext MR;have E8:=E7.trans MR;go_wp2_with fail;go_roundw
     case rel=>exact⟨z,l,hp,m,some X,cap-1,rfl,rfl,rfl,rfl,Ff,by simp,HLC.o,HLP,by have:=yt.o;omega,hh8,xZ,F8,C8,E8⟩
     case measure=>have:=HMR.o;simp[intOf,PQ]at this|-;omega
    have t2:(XP.toList == [46,46])=false:=by rw[tX];simpa using q2
    have qw:=zH q2;have MK:Hid (fO S cu cg at_ p=if 255<p.length then 13 else 0):=by show _=_;rw[yK.o,ac q2]
    clear tX q2 yK
    by_cases q3:255<p.length
    ·have t3:(255:Int)<XP.size:=by omega
     have e0:fO S cu cg at_ p=13:=by rw[MK.o,af q3]
     have e1:Hid (R=(cF,13)):=by show _=_;rw[HR.o,vr (by rw[e0];decide),e0]
     clear q3 e0 HR hlX;have z0:=F7.cell 0;have z1:=F7.cell 1;have z2:=F7.cell 2;have z3:=F7.cell 3;have Wp:=Has.free F7 0;have Wq:=Has.free F7 1;have Wr:=Has.free F7 2;have Ws:=Has.free F7 3;have zz:=F7.lt;obtain⟨R9,O9⟩:=gO (cF:jU) F7;go_upto_region 16 with fail
     iterate 15 (first|go_values|go_skip|go_guarded|go_step|go_upon|go_back)
     refine aT (v:=.tuple #[.agg (gX cF).toArray,.int .i64 13]) (dk results40 _ _ b8 cF _ rfl rfl R9) rfl ?_;exact ku.mk E7 pN O9 e1.o
    have t3:¬(255:Int)<XP.size:=by omega
    have yl:Hid (fO S cu cg at_ p=0):=by show _=_;rw[MK.o,ac q3]
    have nL:=aA D7 11 rfl;have yz:=D7.lt;clear q3 MK hlX;go_wp2_with fail;rw[HXP.o];refine (pD A5 d.ah c5 p _ wF.ah.ah (by have:=FQ.o.2;omega)).mono ?_;rintro e w8 ⟨rfl,MR⟩;rw[<-HXP.o];obtain⟨fo,hfo⟩:=ai (aY d.ah p);rw[<-hfo];have HFO:=zH hfo;have E8:=E7.trans MR;clear hfo nL yz;go_wp2_with fail;refine (iy B g S X0 fo _ (h.ext E8) (by have:=T.eight;omega)).mono ?_;rintro e w9' ⟨rfl,b9'⟩;obtain⟨z,hz⟩:=ai (aw S.ae fo);rw[<-hz];have Hz:Hid (z=cv S at_ p):=by show _=_;rw[hz,HFO.o,HD.o];rfl
    have E9:=E8.trans b9';clear hz;go_wp2_with fail;refine (eE B g S X0 z _ (h.ext E9) aa0 T.bL).mono ?_;rintro e tg ⟨A10,c10,rfl,aeB,CN⟩;obtain⟨nd,hnd⟩:=ai (aa S.nodes z);obtain⟨is,Wl⟩:=ai (aW S.nodes z);have aax:is=true->nd.no=z/\z≠0:=fun k=>by
     rw[Wl]at k;obtain⟨_,e1,e2⟩:=ap k;have:=(T.bL.2 _ e2).1;rw[hnd];exact⟨e1,by rw[<-e1];omega⟩
    have kR:is=false->nd.no=0:=fun k=>by
     rw[Wl]at k;rw[hnd,(aP k).1];rfl
    rw[<-hnd];have Wm:=zH hnd;have HIS:=zH Wl;have aeC:=zH aax;have aeD:=zH kR;obtain⟨Wt,XU⟩:=ai (tg.alloc (.cells (nd,A10,c10) 66));obtain⟨b18,aa3⟩:=ai tg.heap.size;have ZJ:Ext tg Wt:=by rw[XU];exact (Ext.refl _).alloc _
    have N11:Has Wt b18 (.cells (nd,A10,c10) 66):=by rw[XU,aa3];exact Has.new _ _
    have Uh:Ext w7 Wt:=((MR.trans b9').trans CN).trans ZJ;have Dt:=E7.trans Uh;have kL:=F7.ext Uh;have C11:=C7.ext Uh;have ZK:=aa2.ext Uh;clear hnd Wl aax kR F7 C7 D7 aa2 wF E7 E8 E9 aeB;go_upto_region 18 with fail;rw[<-XU,<-aa3];clear XU aa3 MR b9' CN ZJ Uh;have y0:=aA N11 0 rfl;have y2:=aA N11 2 rfl;have pY:=aA N11 10 rfl;have yz:=N11.lt
    cases is with
    | false =>
     have HI:Hid (aW S.nodes (cv S at_ p)=false):=by show _=_;rw[<-Hz.o];exact HIS.o.symm
     rw[aeD.o rfl]at y0
     cases lb with
     | true =>
      have e1:Hid (R=(⟨at_,p,0,m⟩,0)):=by
       show _=_;rw[HR.o,Dl yl.o qw.o HI.o];have:=Lg.o
       cases l with
       | nil=>rfl
       | cons a l=>cases this
      clear HR y2 pY;go_upto_region 21 with fail;rw[HXP.o];have z0:=kL.cell 0;have z1:=kL.cell 1;have z2:=kL.cell 2;have z3:=kL.cell 3;have Wp:=Has.free kL 0;have Wq:=Has.free kL 1;have Wr:=Has.free kL 2;have Ws:=Has.free kL 3;have zz:=kL.lt;obtain⟨R9,O9⟩:=gO (⟨at_,p,0,m⟩:jU) kL
      iterate 24 (first|go_values|go_skip|go_guarded|go_step|go_upon|go_back)
      refine aT (v:=.tuple #[.agg (gX ⟨at_,p,0,m⟩).toArray,()]) (dk results40 _ _ b8 ⟨at_,p,0,m⟩ _ rfl rfl R9) rfl ?_;exact ku.mk Dt pN O9 e1.o
     | false =>
      have e1:Hid (R=(cF,5)):=by
       show _=_;rw[HR.o,Dm yl.o qw.o HI.o];rintro rfl
       cases Lg.o
      clear HR y2 pY;have z0:=kL.cell 0;have z1:=kL.cell 1;have z2:=kL.cell 2;have z3:=kL.cell 3;have Wp:=Has.free kL 0;have Wq:=Has.free kL 1;have Wr:=Has.free kL 2;have Ws:=Has.free kL 3;have zz:=kL.lt;obtain⟨R9,O9⟩:=gO (cF:jU) kL;go_upto_region 19 with fail
      iterate 15 (first|go_values|go_skip|go_guarded|go_step|go_upon|go_back)
      refine aT (v:=.tuple #[.agg (gX cF).toArray,.int .i64 5]) (dk results40 _ _ b8 cF _ rfl rfl R9) rfl ?_;exact ku.mk Dt pN O9 e1.o
    | true =>
     have HI:Hid (aW S.nodes (cv S at_ p)=true):=by show _=_;rw[<-Hz.o];exact HIS.o.symm
     obtain⟨xT,hz0⟩:=aeC.o rfl;rw[xT]at y0;have t5:(z == 0)=false:=by simpa using hz0
     obtain⟨k3,qg⟩:∃k:Bool,k=(nd.kind == 3):=⟨_,rfl⟩;obtain⟨k1,mq⟩:∃k:Bool,k=(nd.kind != 1):=⟨_,rfl⟩;have t6:=qg.symm;have t7:=mq.symm;have PR:=zH qg;have Rn:=zH mq;obtain⟨bv,hbv⟩:∃bv:Bool,bv=(k3&&(!lb || (m || gh))):=⟨_,rfl⟩;have Fq:=zH hbv;clear qg mq hbv xT hz0;go_upto_region 22 with fail;go_cut [96] (fun v wc=>v=.bool bv/\wc=Wt)
     case first =>
      have hb:Hid (bv=(k3&&(!lb || (m || gh)))):=Fq
      cases k3
      ·have e:Hid (bv=false):=by show _=_;rw[hb.o];rfl
       clear Fq hb;go_wp2_with fail;go_meet;exact⟨by rw[e.o],rfl⟩
      ·cases lb
       ·have e:Hid (bv=true):=by show _=_;rw[hb.o];rfl
        clear Fq hb;go_wp2_with fail;go_meet;exact⟨by rw[e.o],rfl⟩
       ·cases m
        ·cases gh
         ·have e:Hid (bv=false):=by show _=_;rw[hb.o];rfl
          clear Fq hb;go_wp2_with fail;go_meet;exact⟨by rw[e.o],rfl⟩
         ·have e:Hid (bv=true):=by show _=_;rw[hb.o];rfl
          clear Fq hb;go_wp2_with fail;go_meet;exact⟨by rw[e.o],rfl⟩
        ·have e:Hid (bv=true):=by show _=_;rw[hb.o];rfl
         clear Fq hb;go_wp2_with fail;go_meet;exact⟨by rw[e.o],rfl⟩
     case rest =>
      obtain⟨rfl,hwc⟩:=hcut;obtain rfl:Wt=wc:=hwc.symm
      cases bv with
      | true =>
       have qZ : k3=true/\(l≠[]\/m=true\/gh=true):=by
        have:=Fq.o
        cases k3
        ·cases this
        ·refine ⟨rfl,?_⟩
         cases hm:m
         ·cases hf:gh
          ·left
           rintro rfl;rw[hm,hf,Lg.o]at this
           cases this
          ·exact .inr (.inr rfl)
         ·exact .inr (.inl rfl)
       have HK:Hid ((aa S.nodes (cv S at_ p)).kind=3):=by
        show _=_;have h2:=qZ.1;rw[PR.o,Wm.o,Hz.o]at h2;simpa using h2
       have HOR:=zH qZ.2;have MW:Hid (nd.data=(aa S.nodes (cv S at_ p)).data):=by show _=_;rw[Wm.o,Hz.o]
       have J7:Hid (nd.data.length<=1048576):=by
        show _<=_;rw[MW.o];exact (T.on _ (ap HI.o).2.2).2
       obtain⟨h1,hh1⟩:∃h1:Nat,h1=hp+1:=⟨_,rfl⟩;have q4:IntKind.i64.wrap ((hp:Int)+1)=(h1:Int):=by rw[cB _ (by omega)];omega
       have HH1:=zH hh1;obtain⟨dt,hdt⟩:=ai nd.data;rw[<-hdt]at pY MW J7;clear qZ hh1 t6 t7 y0 y2 t5
       by_cases q5:8<h1
       ·have t8:(8:Int)<(h1:Int):=by omega
        have e1:Hid (R=(cF,12)):=by show _=_;rw[HR.o,Dn yl.o qw.o HI.o HK.o HOR.o (by rw[<-HH1.o];exact q5)]
        clear q5 HR;have z0:=kL.cell 0;have z1:=kL.cell 1;have z2:=kL.cell 2;have z3:=kL.cell 3;have Wp:=Has.free kL 0;have Wq:=Has.free kL 1;have Wr:=Has.free kL 2;have Ws:=Has.free kL 3;have zz:=kL.lt;obtain⟨R9,O9⟩:=gO (cF:jU) kL;go_upto_region 25 with fail
        iterate 15 (first|go_values|go_skip|go_guarded|go_step|go_upon|go_back)
        refine aT (v:=.tuple #[.agg (gX cF).toArray,.int .i64 12]) (dk results40 _ _ b8 cF _ rfl rfl R9) rfl ?_;exact ku.mk Dt pN O9 e1.o
       have t8:¬(8:Int)<(h1:Int):=by omega
       have H8:Hid (¬8<hp+1):=by show ¬_;rw[<-HH1.o];exact q5
       clear q5
       cases dt with
       | nil =>
        have e1:Hid (R=(cF,5)):=by show _=_;rw[HR.o,Bd yl.o qw.o HI.o HK.o HOR.o H8.o MW.o.symm]
        have u0:(bs []).toList=[]:=bA [];clear HR hdt;have z0:=kL.cell 0;have z1:=kL.cell 1;have z2:=kL.cell 2;have z3:=kL.cell 3;have Wp:=Has.free kL 0;have Wq:=Has.free kL 1;have Wr:=Has.free kL 2;have Ws:=Has.free kL 3;have zz:=kL.lt;obtain⟨R9,O9⟩:=gO (cF:jU) kL;go_upto_region 27 with fail
        iterate 15 (first|go_values|go_skip|go_guarded|go_step|go_upon|go_back)
        refine aT (v:=.tuple #[.agg (gX cF).toArray,.int .i64 5]) (dk results40 _ _ b8 cF _ rfl rfl R9) rfl ?_;exact ku.mk Dt pN O9 e1.o
       | cons ch tt =>
        have xZ:Hid (R=dY S cu cg gh (if (ch::tt).head?=some 47 then 1 else at_) (bX (ch::tt)++l) (hp+1) (m || (l.isEmpty&&gM (ch::tt)))):=by
         show _=_;rw[HR.o,Do yl.o qw.o HI.o HK.o HOR.o H8.o (by rw[<-MW.o];simp),<-MW.o]
        obtain⟨Nc,Fo⟩:∃a:Int,a=if (ch::tt).head?=some 47 then 1 else at_:=⟨_,rfl⟩
        obtain⟨v,hv⟩:∃v:Bool,v=(ch == 47):=⟨_,rfl⟩;have hks:0<(bs (ch::tt)).size:=by rw[bo];simp
        have qN:(((bs (ch::tt))[0].toNat:Int) == 47)=v:=by rw[show (bs (ch::tt))[0]=ch from rfl,hv];exact Dk (c:=ch) (d:=47)
        have XT:Hid (v=true->Nc=1):=by show _->_;intro k;rw[hv]at k;rw[Fo,af (by simpa using k)]
        have TD:Hid (v=false->Nc=at_):=by show _->_;intro k;rw[hv]at k;rw[Fo,ac (by simpa using k)]
        rw[<-Fo]at xZ;have u0:(bs (ch::tt)).toList.isEmpty=false:=by rw[bA];rfl
        clear Fo hv HR hdt;go_upto_if 109 with fail;go_cut [13] (fun x wc=>x=.int .i64 Nc/\wc=Wt)
        case first =>
         cases v
         ·have e2:=zH (TD.o rfl)
          clear TD XT;go_wp2_with fail;go_meet;exact⟨by rw[e2.o],rfl⟩
         ·have e2:=zH (XT.o rfl)
          clear TD XT;go_wp2_with fail;go_meet;exact⟨by rw[e2.o],rfl⟩
        case rest =>
         obtain⟨rfl,hwc⟩:=hcut;obtain rfl:Wt=wc:=hwc.symm;obtain⟨sl,CU⟩:=ai (gM (ch::tt));obtain⟨m2,cq⟩:=ai (m || (l.isEmpty&&gM (ch::tt)));have HM:Hid (m2=(m || (lb&&sl))):=by show _=_;rw[cq,Lg.o,CU]
         have HSL:=zH CU;rw[<-cq]at xZ;clear CU cq TD XT qN u0 hks;go_upto_region 30 with fail;go_cut [12] (fun x wc=>x=.bool m2/\Ext Wt wc)
         case first =>
          cases m
          ·cases lb
           ·have e2:Hid (m2=false):=by show _=_;rw[HM.o];rfl
            go_wp2_with fail;go_meet;exact⟨by rw[e2.o],Ext.refl _⟩
           ·have e2:Hid (m2=sl):=by show _=_;rw[HM.o];rfl
            go_wp2_with fail;refine (A_ (ch::tt) _ (by have:=J7.o;omega)).mono ?_;rw[<-HSL.o,<-e2.o];rintro e w12 ⟨rfl,ZL⟩;go_wp2_with fail;go_meet;exact⟨rfl,ZL⟩
          ·have e2:Hid (m2=true):=by show _=_;rw[HM.o];rfl
           go_wp2_with fail;go_meet;exact⟨by rw[e2.o],Ext.refl _⟩
         case rest =>
          obtain ⟨rfl,ZL⟩:=hcut;have N12:=N11.ext ZL;have y12:wc.cell? (b18,10)=some (.string (bs (ch::tt))):=(ZL.cell yz).trans pY;have yz2:=N12.lt;clear pY yz;go_wp2_with fail;refine (AZ (ch::tt) _ (by have:=J7.o;omega)).mono ?_;rintro e w13 ⟨v13,rfl,acG,mG⟩;have ZM:=(ZK.ext ZL).ext mG;have EK:=ng (ch::tt);obtain⟨v14,w14,PU,Ui,Uj⟩:=Ds (some X) (cap-1) l w13 acG ZM (by simp) mG.size (by have:=J7.o;omega) (by have:=yt.o;omega);have Wu:Ext wc w14:=mG.grown Uj (fun g hv=>(ry acG g hv).1);have aa4:=zH PU;obtain⟨A14,c14,rfl,acH,acI,acJ,acK⟩:=lJ.at_ Ui;have aeE:=zH acH;have F14:=(kL.ext ZL).ext Wu;have C14:=(C11.ext ZL).ext Wu;have E15:=(Dt.trans ZL).trans Wu;have Rp:Hid ((bX (ch::tt)++l).length<=1050000*(hp+1+1)):=by
           show _<=_;have:=J7.o;have:=yt.o;rw[aZ];omega
          have aaZ:Hid (∀q∈bX (ch::tt)++l,q.length<=1100000):=by
           show ∀q∈_,_;intro q hq;rcases dn.1 hq with hq|hq
           ·have:=vu hq
            have:=J7.o;omega
           ·exact HLP.o q hq
          clear PU Ui Uj acH acI ZM y12;go_wp2_with (at_builtin;refine nj _ rfl _ _ 135 135 rfl _ _ rfl rfl _ _ aa4.o ?_);have H8b:=zH (show hp+1<=8 by have:=H8.o;omega);go_roundw
          case rel=>exact⟨Nc,bX (ch::tt)++l,hp+1,m2,A14,c14,by rw[aZ],rfl,rfl,by rw[HH1.o],acJ,acK,aeE.o,aaZ,Rp.o,H8b.o,xZ,F14,C14,E15⟩
          case measure =>
           have h1':=Rp.o;rw[aZ]at h1';have mS:=H8b.o;have h3':=HH1.o;simp only[intOf,PQ];omega
      | false =>
       have ZI:Hid (¬((aa S.nodes (cv S at_ p)).kind=3/\(l≠[]\/m=true\/gh=true))):=by
        show ¬_;rintro ⟨h1,h2⟩;have h3:k3=true:=by rw[PR.o,Wm.o,Hz.o];simpa using h1
        have:=Fq.o;rw[h3]at this;rcases h2 with h2|h2|h2
        ·have h4:lb=false:=by
          rw[Lg.o]
          cases l with
          | nil=>exact absurd rfl h2
          | cons a l=>rfl
         rw[h4]at this;cases this
        ·rw[h2]at this;cases lb<;>cases this
        ·rw[h2]at this;cases lb<;>cases m<;>cases this
       obtain⟨bw,PT⟩:∃bw:Bool,bw=(k1&&(!lb || m)):=⟨_,rfl⟩;have Cm:=zH PT;clear PT Fq PR t6 pY;go_upto_region 32 with fail;go_cut [133] (fun v wc=>v=.bool bw/\wc=Wt)
       case first =>
        have hb:=Cm
        cases k1
        ·have e:Hid (bw=false):=by show _=_;rw[hb.o];rfl
         clear Cm hb;go_wp2_with fail;go_meet;exact⟨by rw[e.o],rfl⟩
        ·cases lb
         ·have e:Hid (bw=true):=by show _=_;rw[hb.o];rfl
          clear Cm hb;go_wp2_with fail;go_meet;exact⟨by rw[e.o],rfl⟩
         ·cases m
          ·have e:Hid (bw=false):=by show _=_;rw[hb.o];rfl
           clear Cm hb;go_wp2_with fail;go_meet;exact⟨by rw[e.o],rfl⟩
          ·have e:Hid (bw=true):=by show _=_;rw[hb.o];rfl
           clear Cm hb;go_wp2_with fail;go_meet;exact⟨by rw[e.o],rfl⟩
       case rest =>
        obtain⟨rfl,hwc⟩:=hcut;obtain rfl:Wt=wc:=hwc.symm;have hK1:k1=true↔(aa S.nodes (cv S at_ p)).kind≠1:=by rw[Rn.o,Wm.o,Hz.o];simp
        have hLB:lb=false↔l≠[]:=by
         rw[Lg.o]
         cases l<;>simp
        have HKK:=zH hK1;have H7:=zH hLB;clear hK1 hLB t7 y2
        cases bw with
        | true =>
         have e1:Hid (R=(cF,9)):=by
          show _=_;have h1:=Cm.o;have hk:k1=true:=by cases k1<;>simp at h1|-
          rw[hk]at h1;rw[HR.o,Dp yl.o qw.o HI.o ZI.o (HKK.o.1 hk)]
          cases hlb:lb
          ·exact .inl (H7.o.1 hlb)
          ·rw [hlb]at h1
           cases hm:m
           ·rw[hm]at h1;cases h1
           ·exact .inr rfl
         clear HR Cm;have z0:=kL.cell 0;have z1:=kL.cell 1;have z2:=kL.cell 2;have z3:=kL.cell 3;have Wp:=Has.free kL 0;have Wq:=Has.free kL 1;have Wr:=Has.free kL 2;have Ws:=Has.free kL 3;have zz:=kL.lt;obtain⟨R9,O9⟩:=gO (cF:jU) kL;go_upto_region 33 with fail
         iterate 15 (first|go_values|go_skip|go_guarded|go_step|go_upon|go_back)
         refine aT (v:=.tuple #[.agg (gX cF).toArray,.int .i64 9]) (dk results40 _ _ b8 cF _ rfl rfl R9) rfl ?_;exact ku.mk Dt pN O9 e1.o
        | false =>
         have ME:Hid (¬((aa S.nodes (cv S at_ p)).kind≠1/\(l≠[]\/m=true))):=by
          show ¬_;rintro ⟨h1,h2⟩;have h3:=Cm.o;rw[HKK.o.2 h1]at h3;rcases h2 with h2|h2
          ·rw[H7.o.2 h2]at h3;cases h3
          ·rw[h2]at h3;cases lb<;>cases h3
         clear Cm
         cases lb with
         | true =>
          have l8:l=[]:=by
           have:=Lg.o
           cases l with
           | nil=>rfl
           | cons a l=>cases this
          have e1:Hid (R=(⟨at_,p,z,m⟩,0)):=by
           show _=_;rw[HR.o,Dq yl.o qw.o HI.o ZI.o ME.o l8,Hz.o]
          clear HR l8;have z0:=kL.cell 0;have z1:=kL.cell 1;have z2:=kL.cell 2;have z3:=kL.cell 3;have Wp:=Has.free kL 0;have Wq:=Has.free kL 1;have Wr:=Has.free kL 2;have Ws:=Has.free kL 3;have zz:=kL.lt;obtain⟨R9,O9⟩:=gO (⟨at_,p,z,m⟩:jU) kL;go_upto_region 35 with fail;rw[HXP.o]
          iterate 30 (first|go_values|go_skip|go_guarded|go_step|go_upon|go_back)
          refine aT (v:=.tuple #[.agg (gX ⟨at_,p,z,m⟩).toArray,()]) (dk results40 _ _ b8 ⟨at_,p,z,m⟩ _ rfl rfl R9) rfl ?_;exact ku.mk Dt pN O9 e1.o
         | false =>
          have xZ:Hid (R=dY S cu cg gh z l hp m):=by
           show _=_;rw[HR.o,Dr yl.o qw.o HI.o ZI.o ME.o (H7.o.1 rfl),Hz.o]
          clear HR;go_wp2_with fail;go_roundw
          case rel=>exact⟨z,l,hp,m,some X,cap-1,rfl,rfl,rfl,rfl,ZK,by simp,HLC.o,HLP,by have:=yt.o;omega,hh8,xZ,kL,C11,Dt⟩
          case measure=>have:=HMR.o;simp[intOf,PQ]at this|-;omega
end Go.Proofs.YtpibnfdolojpcaaGreat
